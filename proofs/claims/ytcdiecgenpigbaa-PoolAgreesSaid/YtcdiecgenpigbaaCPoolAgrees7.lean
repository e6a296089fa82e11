/- PoolAgrees, part 7: what the row is built on. -/
import Derived.Test.YtcdiecgenpigbaaCPoolAgrees6
namespace Go.Proofs.Ytcdiecgenpigbaa.PA
open Go.RowKit Go.Proofs.YtcdiecgenpigbaaW.PrintWords Go.Proofs.YtcdiecgenpigbaaW.PrintLast Go.Proofs.YtcdiecgenpigbaaW.PrintMore
attribute [local go_sem] ZQ ZS ZZ ZY ZL ZM ZT ZU
set_option linter.unusedVariables false
set_option linter.unusedSimpArgs false
attribute [local go_sem high] eqA25
mutual
def Zg.j0 : Nat → Int → Int → Bool → Int → Int → Int → Int → Int → Int → Int → Int → Int → Int → Int → Int → Int → Int → Int → Int → Int → Int → Int → Int → Option (Bool)
 | 0,_,_,_,_,_,_,_,_,_,_,_,_,_,_,_,_,_,_,_,_,_,_,_ => none
 | k + 1,x2,x14,x111,x191000,x191001,x191002,x191003,x191004,x191005,x191006,x192000,x192001,x192002,x192003,x192004,x192005,x192006,x201000,x201001,x201002,x201003,x201004,x201005 => if x111 = true then (some false) else (if x14 = 0 then ((Zy.f k x192000 x192001 x192002 x192003 x192004 x192005 x192006 x191000 x191001 x191002 x191003 x191004 x191005 x191006 x2).bind fun bt227 => ((Xa.f x201000 x201001 x201002 x201003 x201004 x201005 x191000 x191001 x191002 x191003 x191004 x191005 x191006).bind fun bt235 => ((Xa.f x201000 x201001 x201002 x201003 x201004 x201005 x192000 x192001 x192002 x192003 x192004 x192005 x192006).bind fun bt237 => (if (!(bt227.1 == x201000) || (!(bt227.2.1 == x201001) || (!(bt227.2.2.1 == x201002) || (!(bt227.2.2.2.1 == x201003) || (!(bt227.2.2.2.2.1 == x201004) || (!(bt227.2.2.2.2.2.1 == x201005))))))) = true then (Zg.j1 k true x201000 x201001 x201002 x201003 x201004 x201005) else (if bt227.2.2.2.2.2.2 = 0 then (if bt235.1 = true then (if bt237.1 = true then (if bt235.2 = 0 then (Zg.j1 k (bt237.2 != 0) x201000 x201001 x201002 x201003 x201004 x201005) else (Zg.j1 k true x201000 x201001 x201002 x201003 x201004 x201005)) else (Zg.j1 k true x201000 x201001 x201002 x201003 x201004 x201005)) else (Zg.j1 k true x201000 x201001 x201002 x201003 x201004 x201005)) else (Zg.j1 k true x201000 x201001 x201002 x201003 x201004 x201005)))))) else ((Z7.f k).bind fun t226 => (some t226)))
def Zg.j1 : Nat → Bool → Int → Int → Int → Int → Int → Int → Option (Bool)
 | 0,_,_,_,_,_,_,_ => none
 | k + 1,x156,x201000,x201001,x201002,x201003,x201004,x201005 => if x156 = true then (some false) else ((ZR.f x201000 x201001 x201002 x201003 x201004 x201005 0).bind fun bt239 => (Zg.l0 k bt239.1 bt239.2.1 bt239.2.2 0 0 x201000 x201001 x201002 x201003 x201004 x201005))
def Zg.l0 : Nat → List (List Int) → Int → Int → Int → Int → Int → Int → Int → Int → Int → Int → Option (Bool)
 | 0,_,_,_,_,_,_,_,_,_,_,_ => none
 | k + 1,x19,x20,x21,x28,x29,x201000,x201001,x201002,x201003,x201004,x201005 => if x29 < (x19.length : Int) then (Zg.l1 k x19 x20 x21 x28 x29 0 x201000 x201001 x201002 x201003 x201004 x201005) else (if x21 = 0 then (if (x19.length : Int) = x201000 then (if x28 = x20 then ((Z7.f k).bind fun t244 => (some t244)) else (some false)) else (some false)) else (some false))
def Zg.l1 : Nat → List (List Int) → Int → Int → Int → Int → Int → Int → Int → Int → Int → Int → Int → Option (Bool)
 | 0,_,_,_,_,_,_,_,_,_,_,_,_ => none
 | k + 1,x19,x20,x21,x28,x29,x30,x201000,x201001,x201002,x201003,x201004,x201005 => if 0 ≤ x29 then (if x29 < (x19.length : Int) then (if x30 < ((rd_L4 x19 x29).length : Int) then (if 0 ≤ x30 then (if (rd (rd_L4 x19 x29) x30) < x28 then (some false) else (if x201004 = 0 then (none) else (if (Int.tmod (rd (rd_L4 x19 x29) x30) x201004) = 0 then (Zg.l1 k x19 x20 x21 (wrap64 ((rd (rd_L4 x19 x29) x30) + x201002)) x29 (wrap64 (x30 + 1)) x201000 x201001 x201002 x201003 x201004 x201005) else (some false)))) else (none)) else (Zg.l0 k x19 x20 x21 x28 (wrap64 (x29 + 1)) x201000 x201001 x201002 x201003 x201004 x201005)) else (none)) else (none)
end
def Zg.f (k : Nat) (a0_0 : Int) (a0_1 : Int) (a0_2 : Int) (a0_3 : Int) (a0_4 : Int) (a0_5 : Int) (a0_6 : Int) (a1_0 : Int) (a1_1 : Int) (a1_2 : Int) (a1_3 : Int) (a1_4 : Int) (a1_5 : Int) (a1_6 : Int) (a2 : Int) (a3_0 : Int) (a3_1 : Int) (a3_2 : Int) (a3_3 : Int) (a3_4 : Int) (a3_5 : Int) (a4 : Int) : Option (Bool) := (Zy.f k a0_0 a0_1 a0_2 a0_3 a0_4 a0_5 a0_6 a1_0 a1_1 a1_2 a1_3 a1_4 a1_5 a1_6 a2).bind fun bt193 => ((Zl.f k a0_0 a0_1 a0_2 a0_3 a0_4 a0_5 a0_6 a1_0 a1_1 a1_2 a1_3 a1_4 a1_5 a1_6 a2).bind fun bt201 => ((Xa.f a3_0 a3_1 a3_2 a3_3 a3_4 a3_5 a0_0 a0_1 a0_2 a0_3 a0_4 a0_5 a0_6).bind fun bt209 => ((Z4.f k a3_0 a3_1 a3_2 a3_3 a3_4 a3_5 a0_0 a0_1 a0_2 a0_3 a0_4 a0_5 a0_6).bind fun bt211 => ((ZR.f a3_0 a3_1 a3_2 a3_3 a3_4 a3_5 a4).bind fun bt213 => ((ZA.f k a3_0 a3_1 a3_2 a3_3 a3_4 a3_5 a4).bind fun bt218 => ((ZC.f a0_0 a0_1 a0_2 a0_3 a0_4 a0_5 a0_6).bind fun t223 => ((Zs.f k a0_0 a0_1 a0_2 a0_3 a0_4 a0_5 a0_6).bind fun t224 => (if (t223 != t224) = true then (Zg.j0 k a2 bt201.2.2.2.2.2.2 true a0_0 a0_1 a0_2 a0_3 a0_4 a0_5 a0_6 a1_0 a1_1 a1_2 a1_3 a1_4 a1_5 a1_6 bt193.1 bt193.2.1 bt193.2.2.1 bt193.2.2.2.1 bt193.2.2.2.2.1 bt193.2.2.2.2.2.1) else (if (!(bt193.1 == bt201.1) || (!(bt193.2.1 == bt201.2.1) || (!(bt193.2.2.1 == bt201.2.2.1) || (!(bt193.2.2.2.1 == bt201.2.2.2.1) || (!(bt193.2.2.2.2.1 == bt201.2.2.2.2.1) || (!(bt193.2.2.2.2.2.1 == bt201.2.2.2.2.2.1))))))) = true then (Zg.j0 k a2 bt201.2.2.2.2.2.2 true a0_0 a0_1 a0_2 a0_3 a0_4 a0_5 a0_6 a1_0 a1_1 a1_2 a1_3 a1_4 a1_5 a1_6 bt193.1 bt193.2.1 bt193.2.2.1 bt193.2.2.2.1 bt193.2.2.2.2.1 bt193.2.2.2.2.2.1) else (if bt193.2.2.2.2.2.2 = bt201.2.2.2.2.2.2 then (if (bt209.1 != bt211.1) = true then (Zg.j0 k a2 bt201.2.2.2.2.2.2 true a0_0 a0_1 a0_2 a0_3 a0_4 a0_5 a0_6 a1_0 a1_1 a1_2 a1_3 a1_4 a1_5 a1_6 bt193.1 bt193.2.1 bt193.2.2.1 bt193.2.2.2.1 bt193.2.2.2.2.1 bt193.2.2.2.2.2.1) else (if bt209.2 = bt211.2 then ((Zr.f k bt213.1 bt218.1).bind fun t225 => (if t225 = true then (if bt213.2.1 = bt218.2.1 then (Zg.j0 k a2 bt201.2.2.2.2.2.2 (bt213.2.2 != bt218.2.2) a0_0 a0_1 a0_2 a0_3 a0_4 a0_5 a0_6 a1_0 a1_1 a1_2 a1_3 a1_4 a1_5 a1_6 bt193.1 bt193.2.1 bt193.2.2.1 bt193.2.2.2.1 bt193.2.2.2.2.1 bt193.2.2.2.2.2.1) else (Zg.j0 k a2 bt201.2.2.2.2.2.2 true a0_0 a0_1 a0_2 a0_3 a0_4 a0_5 a0_6 a1_0 a1_1 a1_2 a1_3 a1_4 a1_5 a1_6 bt193.1 bt193.2.1 bt193.2.2.1 bt193.2.2.2.1 bt193.2.2.2.2.1 bt193.2.2.2.2.2.1)) else (Zg.j0 k a2 bt201.2.2.2.2.2.2 true a0_0 a0_1 a0_2 a0_3 a0_4 a0_5 a0_6 a1_0 a1_1 a1_2 a1_3 a1_4 a1_5 a1_6 bt193.1 bt193.2.1 bt193.2.2.1 bt193.2.2.2.1 bt193.2.2.2.2.1 bt193.2.2.2.2.2.1))) else (Zg.j0 k a2 bt201.2.2.2.2.2.2 true a0_0 a0_1 a0_2 a0_3 a0_4 a0_5 a0_6 a1_0 a1_1 a1_2 a1_3 a1_4 a1_5 a1_6 bt193.1 bt193.2.1 bt193.2.2.1 bt193.2.2.2.1 bt193.2.2.2.2.1 bt193.2.2.2.2.2.1))) else (Zg.j0 k a2 bt201.2.2.2.2.2.2 true a0_0 a0_1 a0_2 a0_3 a0_4 a0_5 a0_6 a1_0 a1_1 a1_2 a1_3 a1_4 a1_5 a1_6 bt193.1 bt193.2.1 bt193.2.2.1 bt193.2.2.2.1 bt193.2.2.2.2.1 bt193.2.2.2.2.2.1)))))))))))
theorem Zg.Xf : ∀ k,(∀ y0 y1 y2 y3 y4 y5 y6 y7 y8 y9 y10 y11 y12 y13 y14 y15 y16 y17 y18 y19 y20 y21 y22,LeO (Zg.j0 k y0 y1 y2 y3 y4 y5 y6 y7 y8 y9 y10 y11 y12 y13 y14 y15 y16 y17 y18 y19 y20 y21 y22) (Zg.j0 (k + 1) y0 y1 y2 y3 y4 y5 y6 y7 y8 y9 y10 y11 y12 y13 y14 y15 y16 y17 y18 y19 y20 y21 y22)) ∧ (∀ y0 y1 y2 y3 y4 y5 y6,LeO (Zg.j1 k y0 y1 y2 y3 y4 y5 y6) (Zg.j1 (k + 1) y0 y1 y2 y3 y4 y5 y6)) ∧ (∀ y0 y1 y2 y3 y4 y5 y6 y7 y8 y9 y10,LeO (Zg.l0 k y0 y1 y2 y3 y4 y5 y6 y7 y8 y9 y10) (Zg.l0 (k + 1) y0 y1 y2 y3 y4 y5 y6 y7 y8 y9 y10)) ∧ (∀ y0 y1 y2 y3 y4 y5 y6 y7 y8 y9 y10 y11,LeO (Zg.l1 k y0 y1 y2 y3 y4 y5 y6 y7 y8 y9 y10 y11) (Zg.l1 (k + 1) y0 y1 y2 y3 y4 y5 y6 y7 y8 y9 y10 y11))
 | 0 => ⟨fun _ _ _ _ _ _ _ _ _ _ _ _ _ _ _ _ _ _ _ _ _ _ _ r h => by simp [Zg.j0] at h,fun _ _ _ _ _ _ _ r h => by simp [Zg.j1] at h,fun _ _ _ _ _ _ _ _ _ _ _ r h => by simp [Zg.l0] at h,fun _ _ _ _ _ _ _ _ _ _ _ _ r h => by simp [Zg.l1] at h⟩
 | k + 1 => by
  obtain ⟨ih0,ih1,ih2,ih3⟩ := Zg.Xf k; refine ⟨?_,?_,?_,?_⟩
  · intro y0 y1 y2 y3 y4 y5 y6 y7 y8 y9 y10 y11 y12 y13 y14 y15 y16 y17 y18 y19 y20 y21 y22
    unfold Zg.j0
    repeat' first
    | (with_reducible exact ih0 _ _ _ _ _ _ _ _ _ _ _ _ _ _ _ _ _ _ _ _ _ _ _)
    | (with_reducible exact ih1 _ _ _ _ _ _ _)
    | (with_reducible exact ih2 _ _ _ _ _ _ _ _ _ _ _)
    | (with_reducible exact ih3 _ _ _ _ _ _ _ _ _ _ _ _)
    | (with_reducible exact Z7.mono _)
    | (with_reducible exact Zr.mono _ _ _)
    | (with_reducible exact Zl.mono _ _ _ _ _ _ _ _ _ _ _ _ _ _ _ _)
    | (with_reducible exact Z4.mono _ _ _ _ _ _ _ _ _ _ _ _ _ _)
    | (with_reducible exact ZA.mono _ _ _ _ _ _ _ _)
    | (with_reducible exact Zs.mono _ _ _ _ _ _ _ _)
    | (with_reducible exact Zy.mono _ _ _ _ _ _ _ _ _ _ _ _ _ _ _ _)
    | (with_reducible exact LeO.refl _)
    | (with_reducible exact LeO.none _)
    | (with_reducible refine LeO.ite ?_ ?_)
    | (with_reducible refine LeO.bind ?_ (fun _ => ?_))
    | exact ih0 _ _ _ _ _ _ _ _ _ _ _ _ _ _ _ _ _ _ _ _ _ _ _
    | exact ih1 _ _ _ _ _ _ _
    | exact ih2 _ _ _ _ _ _ _ _ _ _ _
    | exact ih3 _ _ _ _ _ _ _ _ _ _ _ _
    | exact Z7.mono _
    | exact Zr.mono _ _ _
    | exact Zl.mono _ _ _ _ _ _ _ _ _ _ _ _ _ _ _ _
    | exact Z4.mono _ _ _ _ _ _ _ _ _ _ _ _ _ _
    | exact ZA.mono _ _ _ _ _ _ _ _
    | exact Zs.mono _ _ _ _ _ _ _ _
    | exact Zy.mono _ _ _ _ _ _ _ _ _ _ _ _ _ _ _ _
    | exact LeO.none _
    | refine LeO.ite ?_ ?_
    | refine LeO.bind ?_ (fun _ => ?_)
  · intro y0 y1 y2 y3 y4 y5 y6
    unfold Zg.j1
    repeat' first
    | (with_reducible exact ih0 _ _ _ _ _ _ _ _ _ _ _ _ _ _ _ _ _ _ _ _ _ _ _)
    | (with_reducible exact ih1 _ _ _ _ _ _ _)
    | (with_reducible exact ih2 _ _ _ _ _ _ _ _ _ _ _)
    | (with_reducible exact ih3 _ _ _ _ _ _ _ _ _ _ _ _)
    | (with_reducible exact Z7.mono _)
    | (with_reducible exact Zr.mono _ _ _)
    | (with_reducible exact Zl.mono _ _ _ _ _ _ _ _ _ _ _ _ _ _ _ _)
    | (with_reducible exact Z4.mono _ _ _ _ _ _ _ _ _ _ _ _ _ _)
    | (with_reducible exact ZA.mono _ _ _ _ _ _ _ _)
    | (with_reducible exact Zs.mono _ _ _ _ _ _ _ _)
    | (with_reducible exact Zy.mono _ _ _ _ _ _ _ _ _ _ _ _ _ _ _ _)
    | (with_reducible exact LeO.refl _)
    | (with_reducible exact LeO.none _)
    | (with_reducible refine LeO.ite ?_ ?_)
    | (with_reducible refine LeO.bind ?_ (fun _ => ?_))
    | exact ih0 _ _ _ _ _ _ _ _ _ _ _ _ _ _ _ _ _ _ _ _ _ _ _
    | exact ih1 _ _ _ _ _ _ _
    | exact ih2 _ _ _ _ _ _ _ _ _ _ _
    | exact ih3 _ _ _ _ _ _ _ _ _ _ _ _
    | exact Z7.mono _
    | exact Zr.mono _ _ _
    | exact Zl.mono _ _ _ _ _ _ _ _ _ _ _ _ _ _ _ _
    | exact Z4.mono _ _ _ _ _ _ _ _ _ _ _ _ _ _
    | exact ZA.mono _ _ _ _ _ _ _ _
    | exact Zs.mono _ _ _ _ _ _ _ _
    | exact Zy.mono _ _ _ _ _ _ _ _ _ _ _ _ _ _ _ _
    | exact LeO.none _
    | refine LeO.ite ?_ ?_
    | refine LeO.bind ?_ (fun _ => ?_)
  · intro y0 y1 y2 y3 y4 y5 y6 y7 y8 y9 y10
    unfold Zg.l0
    repeat' first
    | (with_reducible exact ih0 _ _ _ _ _ _ _ _ _ _ _ _ _ _ _ _ _ _ _ _ _ _ _)
    | (with_reducible exact ih1 _ _ _ _ _ _ _)
    | (with_reducible exact ih2 _ _ _ _ _ _ _ _ _ _ _)
    | (with_reducible exact ih3 _ _ _ _ _ _ _ _ _ _ _ _)
    | (with_reducible exact Z7.mono _)
    | (with_reducible exact Zr.mono _ _ _)
    | (with_reducible exact Zl.mono _ _ _ _ _ _ _ _ _ _ _ _ _ _ _ _)
    | (with_reducible exact Z4.mono _ _ _ _ _ _ _ _ _ _ _ _ _ _)
    | (with_reducible exact ZA.mono _ _ _ _ _ _ _ _)
    | (with_reducible exact Zs.mono _ _ _ _ _ _ _ _)
    | (with_reducible exact Zy.mono _ _ _ _ _ _ _ _ _ _ _ _ _ _ _ _)
    | (with_reducible exact LeO.refl _)
    | (with_reducible exact LeO.none _)
    | (with_reducible refine LeO.ite ?_ ?_)
    | (with_reducible refine LeO.bind ?_ (fun _ => ?_))
    | exact ih0 _ _ _ _ _ _ _ _ _ _ _ _ _ _ _ _ _ _ _ _ _ _ _
    | exact ih1 _ _ _ _ _ _ _
    | exact ih2 _ _ _ _ _ _ _ _ _ _ _
    | exact ih3 _ _ _ _ _ _ _ _ _ _ _ _
    | exact Z7.mono _
    | exact Zr.mono _ _ _
    | exact Zl.mono _ _ _ _ _ _ _ _ _ _ _ _ _ _ _ _
    | exact Z4.mono _ _ _ _ _ _ _ _ _ _ _ _ _ _
    | exact ZA.mono _ _ _ _ _ _ _ _
    | exact Zs.mono _ _ _ _ _ _ _ _
    | exact Zy.mono _ _ _ _ _ _ _ _ _ _ _ _ _ _ _ _
    | exact LeO.none _
    | refine LeO.ite ?_ ?_
    | refine LeO.bind ?_ (fun _ => ?_)
  · intro y0 y1 y2 y3 y4 y5 y6 y7 y8 y9 y10 y11
    unfold Zg.l1
    repeat' first
    | (with_reducible exact ih0 _ _ _ _ _ _ _ _ _ _ _ _ _ _ _ _ _ _ _ _ _ _ _)
    | (with_reducible exact ih1 _ _ _ _ _ _ _)
    | (with_reducible exact ih2 _ _ _ _ _ _ _ _ _ _ _)
    | (with_reducible exact ih3 _ _ _ _ _ _ _ _ _ _ _ _)
    | (with_reducible exact Z7.mono _)
    | (with_reducible exact Zr.mono _ _ _)
    | (with_reducible exact Zl.mono _ _ _ _ _ _ _ _ _ _ _ _ _ _ _ _)
    | (with_reducible exact Z4.mono _ _ _ _ _ _ _ _ _ _ _ _ _ _)
    | (with_reducible exact ZA.mono _ _ _ _ _ _ _ _)
    | (with_reducible exact Zs.mono _ _ _ _ _ _ _ _)
    | (with_reducible exact Zy.mono _ _ _ _ _ _ _ _ _ _ _ _ _ _ _ _)
    | (with_reducible exact LeO.refl _)
    | (with_reducible exact LeO.none _)
    | (with_reducible refine LeO.ite ?_ ?_)
    | (with_reducible refine LeO.bind ?_ (fun _ => ?_))
    | exact ih0 _ _ _ _ _ _ _ _ _ _ _ _ _ _ _ _ _ _ _ _ _ _ _
    | exact ih1 _ _ _ _ _ _ _
    | exact ih2 _ _ _ _ _ _ _ _ _ _ _
    | exact ih3 _ _ _ _ _ _ _ _ _ _ _ _
    | exact Z7.mono _
    | exact Zr.mono _ _ _
    | exact Zl.mono _ _ _ _ _ _ _ _ _ _ _ _ _ _ _ _
    | exact Z4.mono _ _ _ _ _ _ _ _ _ _ _ _ _ _
    | exact ZA.mono _ _ _ _ _ _ _ _
    | exact Zs.mono _ _ _ _ _ _ _ _
    | exact Zy.mono _ _ _ _ _ _ _ _ _ _ _ _ _ _ _ _
    | exact LeO.none _
    | refine LeO.ite ?_ ?_
    | refine LeO.bind ?_ (fun _ => ?_)
theorem Zg.mono : ∀ a0 a1 a2 a3 a4 a5 a6 a7 a8 a9 a10 a11 a12 a13 a14 a15 a16 a17 a18 a19 a20 a21 k,LeO (Zg.f k a0 a1 a2 a3 a4 a5 a6 a7 a8 a9 a10 a11 a12 a13 a14 a15 a16 a17 a18 a19 a20 a21) (Zg.f (k + 1) a0 a1 a2 a3 a4 a5 a6 a7 a8 a9 a10 a11 a12 a13 a14 a15 a16 a17 a18 a19 a20 a21) := by
 intro a0 a1 a2 a3 a4 a5 a6 a7 a8 a9 a10 a11 a12 a13 a14 a15 a16 a17 a18 a19 a20 a21 k; obtain ⟨ih0,ih1,ih2,ih3⟩ := Zg.Xf k; unfold Zg.f
 repeat' first
  | (with_reducible exact ih0 _ _ _ _ _ _ _ _ _ _ _ _ _ _ _ _ _ _ _ _ _ _ _)
  | (with_reducible exact ih1 _ _ _ _ _ _ _)
  | (with_reducible exact ih2 _ _ _ _ _ _ _ _ _ _ _)
  | (with_reducible exact ih3 _ _ _ _ _ _ _ _ _ _ _ _)
  | (with_reducible exact Z7.mono _)
  | (with_reducible exact Zr.mono _ _ _)
  | (with_reducible exact Zl.mono _ _ _ _ _ _ _ _ _ _ _ _ _ _ _ _)
  | (with_reducible exact Z4.mono _ _ _ _ _ _ _ _ _ _ _ _ _ _)
  | (with_reducible exact ZA.mono _ _ _ _ _ _ _ _)
  | (with_reducible exact Zs.mono _ _ _ _ _ _ _ _)
  | (with_reducible exact Zy.mono _ _ _ _ _ _ _ _ _ _ _ _ _ _ _ _)
  | (with_reducible exact LeO.refl _)
  | (with_reducible exact LeO.none _)
  | (with_reducible refine LeO.ite ?_ ?_)
  | (with_reducible refine LeO.bind ?_ (fun _ => ?_))
  | exact ih0 _ _ _ _ _ _ _ _ _ _ _ _ _ _ _ _ _ _ _ _ _ _ _
  | exact ih1 _ _ _ _ _ _ _
  | exact ih2 _ _ _ _ _ _ _ _ _ _ _
  | exact ih3 _ _ _ _ _ _ _ _ _ _ _ _
  | exact Z7.mono _
  | exact Zr.mono _ _ _
  | exact Zl.mono _ _ _ _ _ _ _ _ _ _ _ _ _ _ _ _
  | exact Z4.mono _ _ _ _ _ _ _ _ _ _ _ _ _ _
  | exact ZA.mono _ _ _ _ _ _ _ _
  | exact Zs.mono _ _ _ _ _ _ _ _
  | exact Zy.mono _ _ _ _ _ _ _ _ _ _ _ _ _ _ _ _
  | exact LeO.none _
  | refine LeO.ite ?_ ?_
  | refine LeO.bind ?_ (fun _ => ?_)
def Zg.T7 : Bool × List (List Nat × List Nat) := (true,[([],[]),([0],[0]),([],[]),([2,1],[2]),([1,3],[1,3]),([4,3],[4]),([5],[5]),([5],[5]),([6,7,5],[5,6,7]),([5,8],[5,8]),([9,5],[9]),([10],[10]),([10],[10]),([11,12,10],[10,11,12]),([10,13],[10,13]),([14,10],[14]),([15],[15]),([15],[15]),([16,17,15],[15,16,17]),([15,18],[15,18]),([19,15],[19]),([20],[20]),([20],[20]),([21,22,20],[20,21,22]),([20,23],[20,23]),([24,20],[24]),([25],[25]),([25],[25]),([26,27,25,25],[25,26,27]),([28,25],[25,28]),([25,29],[25,29]),([30,28],[30]),([31],[31]),([31],[31]),([32,33,31],[31,32,33]),([31,34],[31,34]),([35,31],[35]),([36],[36]),([36],[36]),([37,38,36],[36,37,38]),([36,39],[36,39])])
def Zg.B7 : List Nat := [0,1,0,7,15,31,63,63,255,511,1023,2047,2047,8191,16383,32767,65535,65535,262143,524287,1048575,2097151,2097151,8388607,16777215,33554431,67108863,67108863,268435455,536870911,1073741823,2147483647,4294967295,4294967295,17179869183,34359738367,68719476735,137438953471,137438953471,549755813887,1099511627775]
theorem Zg.tab7 : rtab .any (opsOf Try.f3 7) = Zg.T7 := by kernel_rfl
theorem Zg.bits7 : waitsOk Zg.T7.2 Zg.B7 = true := by kernel_rfl
def Zg.T24 : Bool × List (List Nat × List Nat) := (true,[([],[]),([],[]),([0,1],[0,1]),([2],[2]),([],[]),([3,4],[3,4]),([5],[5]),([],[]),([6,7],[6,7]),([8],[8]),([9],[9]),([9],[9]),([10,11,9],[9,10,11]),([12,9],[9,12]),([9],[9]),([13,14,9],[9,13,14]),([15,9],[9,15]),([9],[9]),([17,9],[9,17]),([16,18,9],[9,16,18]),([19,9],[9,19]),([9,20],[9,20])])
def Zg.B24 : List Nat := [0,0,3,7,0,31,63,0,255,511,1023,1023,4095,8191,1023,32767,65535,1023,132095,524287,1048575,2097151]
theorem Zg.tab24 : rtab .any (opsOf Try.f3 24) = Zg.T24 := by kernel_rfl
theorem Zg.bits24 : waitsOk Zg.T24.2 Zg.B24 = true := by kernel_rfl
def Zg.T26 : Bool × List (List Nat × List Nat) := (true,[([],[]),([],[]),([0,1],[0,1]),([2],[2]),([],[]),([3,4],[3,4]),([5],[5]),([],[]),([7],[7]),([6,8],[6,8]),([9,0,1,2,3,4,5,6,7,8,9],[9])])
def Zg.B26 : List Nat := [0,0,3,7,0,31,63,0,128,511,1023]
theorem Zg.tab26 : rtab .any (opsOf Try.f3 26) = Zg.T26 := by kernel_rfl
theorem Zg.bits26 : waitsOk Zg.T26.2 Zg.B26 = true := by kernel_rfl
abbrev Yl : Array Bool := #[U,U,U,U,U,U,U,U,U,U,U,U,U,U,U,U,U,U,U,U,U,U,U,U,U,U,U,U,U,U,U,U,U,U,U,U,U,U,U,U,U]
abbrev Ym : Array Bool := #[Y,U,U,U,U,U,U,U,U,U,U,U,U,U,U,U,U,U,U,U,U,U,U,U,U,U,U,U,U,U,U,U,U,U,U,U,U,U,U,U,U]
abbrev Yn : Array Bool := #[Y,U,Y,U,U,U,U,U,U,U,U,U,U,U,U,U,U,U,U,U,U,U,U,U,U,U,U,U,U,U,U,U,U,U,U,U,U,U,U,U,U]
abbrev Yo : Array Bool := #[Y,Y,Y,U,U,U,U,U,U,U,U,U,U,U,U,U,U,U,U,U,U,U,U,U,U,U,U,U,U,U,U,U,U,U,U,U,U,U,U,U,U]
abbrev Yp : Array Bool := #[Y,Y,Y,Y,U,U,U,U,U,U,U,U,U,U,U,U,U,U,U,U,U,U,U,U,U,U,U,U,U,U,U,U,U,U,U,U,U,U,U,U,U]
abbrev Yq : Array Bool := #[Y,Y,Y,Y,Y,U,U,U,U,U,U,U,U,U,U,U,U,U,U,U,U,U,U,U,U,U,U,U,U,U,U,U,U,U,U,U,U,U,U,U,U]
abbrev Yr : Array Bool := #[Y,Y,Y,Y,Y,Y,U,U,U,U,U,U,U,U,U,U,U,U,U,U,U,U,U,U,U,U,U,U,U,U,U,U,U,U,U,U,U,U,U,U,U]
abbrev Ys : Array Bool := #[Y,Y,Y,Y,Y,Y,Y,U,U,U,U,U,U,U,U,U,U,U,U,U,U,U,U,U,U,U,U,U,U,U,U,U,U,U,U,U,U,U,U,U,U]
abbrev Yt : Array Bool := #[Y,Y,Y,Y,Y,Y,Y,Y,U,U,U,U,U,U,U,U,U,U,U,U,U,U,U,U,U,U,U,U,U,U,U,U,U,U,U,U,U,U,U,U,U]
abbrev Yu : Array Bool := #[Y,Y,Y,Y,Y,Y,Y,Y,Y,U,U,U,U,U,U,U,U,U,U,U,U,U,U,U,U,U,U,U,U,U,U,U,U,U,U,U,U,U,U,U,U]
abbrev Yv : Array Bool := #[Y,Y,Y,Y,Y,Y,Y,Y,Y,Y,U,U,U,U,U,U,U,U,U,U,U,U,U,U,U,U,U,U,U,U,U,U,U,U,U,U,U,U,U,U,U]
abbrev Yw : Array Bool := #[Y,Y,Y,Y,Y,Y,Y,Y,Y,Y,Y,U,U,U,U,U,U,U,U,U,U,U,U,U,U,U,U,U,U,U,U,U,U,U,U,U,U,U,U,U,U]
abbrev Yx : Array Bool := #[Y,Y,Y,Y,Y,Y,Y,Y,Y,Y,Y,Y,U,U,U,U,U,U,U,U,U,U,U,U,U,U,U,U,U,U,U,U,U,U,U,U,U,U,U,U,U]
abbrev Yy : Array Bool := #[Y,Y,Y,Y,Y,Y,Y,Y,Y,Y,Y,Y,Y,U,U,U,U,U,U,U,U,U,U,U,U,U,U,U,U,U,U,U,U,U,U,U,U,U,U,U,U]
abbrev Yz : Array Bool := #[Y,Y,Y,Y,Y,Y,Y,Y,Y,Y,Y,Y,Y,Y,U,U,U,U,U,U,U,U,U,U,U,U,U,U,U,U,U,U,U,U,U,U,U,U,U,U,U]
abbrev Y0 : Array Bool := #[Y,Y,Y,Y,Y,Y,Y,Y,Y,Y,Y,Y,Y,Y,Y,U,U,U,U,U,U,U,U,U,U,U,U,U,U,U,U,U,U,U,U,U,U,U,U,U,U]
abbrev Y1 : Array Bool := #[Y,Y,Y,Y,Y,Y,Y,Y,Y,Y,Y,Y,Y,Y,Y,Y,U,U,U,U,U,U,U,U,U,U,U,U,U,U,U,U,U,U,U,U,U,U,U,U,U]
abbrev Y2 : Array Bool := #[Y,Y,Y,Y,Y,Y,Y,Y,Y,Y,Y,Y,Y,Y,Y,Y,Y,U,U,U,U,U,U,U,U,U,U,U,U,U,U,U,U,U,U,U,U,U,U,U,U]
abbrev Y3 : Array Bool := #[Y,Y,Y,Y,Y,Y,Y,Y,Y,Y,Y,Y,Y,Y,Y,Y,Y,Y,U,U,U,U,U,U,U,U,U,U,U,U,U,U,U,U,U,U,U,U,U,U,U]
abbrev Y4 : Array Bool := #[Y,Y,Y,Y,Y,Y,Y,Y,Y,Y,Y,Y,Y,Y,Y,Y,Y,Y,Y,U,U,U,U,U,U,U,U,U,U,U,U,U,U,U,U,U,U,U,U,U,U]
abbrev Y5 : Array Bool := #[Y,Y,Y,Y,Y,Y,Y,Y,Y,Y,Y,Y,Y,Y,Y,Y,Y,Y,Y,Y,U,U,U,U,U,U,U,U,U,U,U,U,U,U,U,U,U,U,U,U,U]
abbrev Y6 : Array Bool := #[Y,Y,Y,Y,Y,Y,Y,Y,Y,Y,Y,Y,Y,Y,Y,Y,Y,Y,Y,Y,Y,U,U,U,U,U,U,U,U,U,U,U,U,U,U,U,U,U,U,U,U]
abbrev Y7 : Array Bool := #[Y,Y,Y,Y,Y,Y,Y,Y,Y,Y,Y,Y,Y,Y,Y,Y,Y,Y,Y,Y,Y,Y,U,U,U,U,U,U,U,U,U,U,U,U,U,U,U,U,U,U,U]
abbrev Y8 : Array Bool := #[Y,Y,Y,Y,Y,Y,Y,Y,Y,Y,Y,Y,Y,Y,Y,Y,Y,Y,Y,Y,Y,Y,Y,U,U,U,U,U,U,U,U,U,U,U,U,U,U,U,U,U,U]
abbrev Y9 : Array Bool := #[Y,Y,Y,Y,Y,Y,Y,Y,Y,Y,Y,Y,Y,Y,Y,Y,Y,Y,Y,Y,Y,Y,Y,Y,U,U,U,U,U,U,U,U,U,U,U,U,U,U,U,U,U]
abbrev YA : Array Bool := #[Y,Y,Y,Y,Y,Y,Y,Y,Y,Y,Y,Y,Y,Y,Y,Y,Y,Y,Y,Y,Y,Y,Y,Y,Y,U,U,U,U,U,U,U,U,U,U,U,U,U,U,U,U]
abbrev YB : Array Bool := #[Y,Y,Y,Y,Y,Y,Y,Y,Y,Y,Y,Y,Y,Y,Y,Y,Y,Y,Y,Y,Y,Y,Y,Y,Y,Y,U,U,U,U,U,U,U,U,U,U,U,U,U,U,U]
abbrev YC : Array Bool := #[Y,Y,Y,Y,Y,Y,Y,Y,Y,Y,Y,Y,Y,Y,Y,Y,Y,Y,Y,Y,Y,Y,Y,Y,Y,Y,Y,U,U,U,U,U,U,U,U,U,U,U,U,U,U]
abbrev YD : Array Bool := #[Y,Y,Y,Y,Y,Y,Y,Y,Y,Y,Y,Y,Y,Y,Y,Y,Y,Y,Y,Y,Y,Y,Y,Y,Y,Y,Y,Y,U,U,U,U,U,U,U,U,U,U,U,U,U]
abbrev YE : Array Bool := #[Y,Y,Y,Y,Y,Y,Y,Y,Y,Y,Y,Y,Y,Y,Y,Y,Y,Y,Y,Y,Y,Y,Y,Y,Y,Y,Y,Y,Y,U,U,U,U,U,U,U,U,U,U,U,U]
abbrev YF : Array Bool := #[Y,Y,Y,Y,Y,Y,Y,Y,Y,Y,Y,Y,Y,Y,Y,Y,Y,Y,Y,Y,Y,Y,Y,Y,Y,Y,Y,Y,Y,Y,U,U,U,U,U,U,U,U,U,U,U]
abbrev YG : Array Bool := #[Y,Y,Y,Y,Y,Y,Y,Y,Y,Y,Y,Y,Y,Y,Y,Y,Y,Y,Y,Y,Y,Y,Y,Y,Y,Y,Y,Y,Y,Y,Y,U,U,U,U,U,U,U,U,U,U]
abbrev YH : Array Bool := #[Y,Y,Y,Y,Y,Y,Y,Y,Y,Y,Y,Y,Y,Y,Y,Y,Y,Y,Y,Y,Y,Y,Y,Y,Y,Y,Y,Y,Y,Y,Y,Y,U,U,U,U,U,U,U,U,U]
abbrev YI : Array Bool := #[Y,Y,Y,Y,Y,Y,Y,Y,Y,Y,Y,Y,Y,Y,Y,Y,Y,Y,Y,Y,Y,Y,Y,Y,Y,Y,Y,Y,Y,Y,Y,Y,Y,U,U,U,U,U,U,U,U]
abbrev YJ : Array Bool := #[Y,Y,Y,Y,Y,Y,Y,Y,Y,Y,Y,Y,Y,Y,Y,Y,Y,Y,Y,Y,Y,Y,Y,Y,Y,Y,Y,Y,Y,Y,Y,Y,Y,Y,U,U,U,U,U,U,U]
abbrev YK : Array Bool := #[Y,Y,Y,Y,Y,Y,Y,Y,Y,Y,Y,Y,Y,Y,Y,Y,Y,Y,Y,Y,Y,Y,Y,Y,Y,Y,Y,Y,Y,Y,Y,Y,Y,Y,Y,U,U,U,U,U,U]
abbrev YL : Array Bool := #[Y,Y,Y,Y,Y,Y,Y,Y,Y,Y,Y,Y,Y,Y,Y,Y,Y,Y,Y,Y,Y,Y,Y,Y,Y,Y,Y,Y,Y,Y,Y,Y,Y,Y,Y,Y,U,U,U,U,U]
abbrev YM : Array Bool := #[Y,Y,Y,Y,Y,Y,Y,Y,Y,Y,Y,Y,Y,Y,Y,Y,Y,Y,Y,Y,Y,Y,Y,Y,Y,Y,Y,Y,Y,Y,Y,Y,Y,Y,Y,Y,Y,U,U,U,U]
abbrev YN : Array Bool := #[Y,Y,Y,Y,Y,Y,Y,Y,Y,Y,Y,Y,Y,Y,Y,Y,Y,Y,Y,Y,Y,Y,Y,Y,Y,Y,Y,Y,Y,Y,Y,Y,Y,Y,Y,Y,Y,Y,U,U,U]
abbrev YO : Array Bool := #[Y,Y,Y,Y,Y,Y,Y,Y,Y,Y,Y,Y,Y,Y,Y,Y,Y,Y,Y,Y,Y,Y,Y,Y,Y,Y,Y,Y,Y,Y,Y,Y,Y,Y,Y,Y,Y,Y,Y,U,U]
abbrev YP : Array Bool := #[Y,Y,Y,Y,Y,Y,Y,Y,Y,Y,Y,Y,Y,Y,Y,Y,Y,Y,Y,Y,Y,Y,Y,Y,Y,Y,Y,Y,Y,Y,Y,Y,Y,Y,Y,Y,Y,Y,Y,Y,U]
abbrev YQ : Array Bool := #[Y,Y,Y,Y,Y,Y,Y,Y,Y,Y,Y,Y,Y,Y,Y,Y,Y,Y,Y,Y,Y,Y,Y,Y,Y,Y,Y,Y,Y,Y,Y,Y,Y,Y,Y,Y,Y,Y,Y,Y,Y]
set_option maxHeartbeats 8000000 in
set_option maxRecDepth 100000 in
noncomputable def Zg.cutA (k : Nat) (a0_0 : Int) (a0_1 : Int) (a0_2 : Int) (a0_3 : Int) (a0_4 : Int) (a0_5 : Int) (a0_6 : Int) (a1_0 : Int) (a1_1 : Int) (a1_2 : Int) (a1_3 : Int) (a1_4 : Int) (a1_5 : Int) (a1_6 : Int) (a2 : Int) (a3_0 : Int) (a3_1 : Int) (a3_2 : Int) (a3_3 : Int) (a3_4 : Int) (a3_5 : Int) (a4 : Int) (r : Bool) (w : World) :
 Σ' R : Prop,R → (Zg.f k a0_0 a0_1 a0_2 a0_3 a0_4 a0_5 a0_6 a1_0 a1_1 a1_2 a1_3 a1_4 a1_5 a1_6 a2 a3_0 a3_1 a3_2 a3_3 a3_4 a3_5 a4 = some r) → (Calls Try.prog 3 #[.agg #[.int .i64 a0_0,.int .i64 a0_1,.int .i64 a0_2,.int .i64 a0_3,.int .i64 a0_4,.int .i64 a0_5,.int .i64 a0_6],.agg #[.int .i64 a1_0,.int .i64 a1_1,.int .i64 a1_2,.int .i64 a1_3,.int .i64 a1_4,.int .i64 a1_5,.int .i64 a1_6],.int .i64 a2,.agg #[.int .i64 a3_0,.int .i64 a3_1,.int .i64 a3_2,.int .i64 a3_3,.int .i64 a3_4,.int .i64 a3_5],.int .i64 a4] w fun e w' => e = .returned (.bool r) ∧ Below w.heap.size w w') := by
 apply PSigma.mk
 case snd =>
  intro hR h; have hu23 := Try.underlying23; have hu25 := Try.underlying25; have HB := Zh.mk (Below.refl w.heap.size w); have H : ((Zy.f k a0_0 a0_1 a0_2 a0_3 a0_4 a0_5 a0_6 a1_0 a1_1 a1_2 a1_3 a1_4 a1_5 a1_6 a2).bind fun bt193 => ((Zl.f k a0_0 a0_1 a0_2 a0_3 a0_4 a0_5 a0_6 a1_0 a1_1 a1_2 a1_3 a1_4 a1_5 a1_6 a2).bind fun bt201 => ((Xa.f a3_0 a3_1 a3_2 a3_3 a3_4 a3_5 a0_0 a0_1 a0_2 a0_3 a0_4 a0_5 a0_6).bind fun bt209 => ((Z4.f k a3_0 a3_1 a3_2 a3_3 a3_4 a3_5 a0_0 a0_1 a0_2 a0_3 a0_4 a0_5 a0_6).bind fun bt211 => ((ZR.f a3_0 a3_1 a3_2 a3_3 a3_4 a3_5 a4).bind fun bt213 => ((ZA.f k a3_0 a3_1 a3_2 a3_3 a3_4 a3_5 a4).bind fun bt218 => ((ZC.f a0_0 a0_1 a0_2 a0_3 a0_4 a0_5 a0_6).bind fun t223 => ((Zs.f k a0_0 a0_1 a0_2 a0_3 a0_4 a0_5 a0_6).bind fun t224 => (if (t223 != t224) = true then (Zg.j0 k a2 bt201.2.2.2.2.2.2 true a0_0 a0_1 a0_2 a0_3 a0_4 a0_5 a0_6 a1_0 a1_1 a1_2 a1_3 a1_4 a1_5 a1_6 bt193.1 bt193.2.1 bt193.2.2.1 bt193.2.2.2.1 bt193.2.2.2.2.1 bt193.2.2.2.2.2.1) else (if (!(bt193.1 == bt201.1) || (!(bt193.2.1 == bt201.2.1) || (!(bt193.2.2.1 == bt201.2.2.1) || (!(bt193.2.2.2.1 == bt201.2.2.2.1) || (!(bt193.2.2.2.2.1 == bt201.2.2.2.2.1) || (!(bt193.2.2.2.2.2.1 == bt201.2.2.2.2.2.1))))))) = true then (Zg.j0 k a2 bt201.2.2.2.2.2.2 true a0_0 a0_1 a0_2 a0_3 a0_4 a0_5 a0_6 a1_0 a1_1 a1_2 a1_3 a1_4 a1_5 a1_6 bt193.1 bt193.2.1 bt193.2.2.1 bt193.2.2.2.1 bt193.2.2.2.2.1 bt193.2.2.2.2.2.1) else (if bt193.2.2.2.2.2.2 = bt201.2.2.2.2.2.2 then (if (bt209.1 != bt211.1) = true then (Zg.j0 k a2 bt201.2.2.2.2.2.2 true a0_0 a0_1 a0_2 a0_3 a0_4 a0_5 a0_6 a1_0 a1_1 a1_2 a1_3 a1_4 a1_5 a1_6 bt193.1 bt193.2.1 bt193.2.2.1 bt193.2.2.2.1 bt193.2.2.2.2.1 bt193.2.2.2.2.2.1) else (if bt209.2 = bt211.2 then ((Zr.f k bt213.1 bt218.1).bind fun t225 => (if t225 = true then (if bt213.2.1 = bt218.2.1 then (Zg.j0 k a2 bt201.2.2.2.2.2.2 (bt213.2.2 != bt218.2.2) a0_0 a0_1 a0_2 a0_3 a0_4 a0_5 a0_6 a1_0 a1_1 a1_2 a1_3 a1_4 a1_5 a1_6 bt193.1 bt193.2.1 bt193.2.2.1 bt193.2.2.2.1 bt193.2.2.2.2.1 bt193.2.2.2.2.2.1) else (Zg.j0 k a2 bt201.2.2.2.2.2.2 true a0_0 a0_1 a0_2 a0_3 a0_4 a0_5 a0_6 a1_0 a1_1 a1_2 a1_3 a1_4 a1_5 a1_6 bt193.1 bt193.2.1 bt193.2.2.1 bt193.2.2.2.1 bt193.2.2.2.2.1 bt193.2.2.2.2.2.1)) else (Zg.j0 k a2 bt201.2.2.2.2.2.2 true a0_0 a0_1 a0_2 a0_3 a0_4 a0_5 a0_6 a1_0 a1_1 a1_2 a1_3 a1_4 a1_5 a1_6 bt193.1 bt193.2.1 bt193.2.2.1 bt193.2.2.2.1 bt193.2.2.2.2.1 bt193.2.2.2.2.2.1))) else (Zg.j0 k a2 bt201.2.2.2.2.2.2 true a0_0 a0_1 a0_2 a0_3 a0_4 a0_5 a0_6 a1_0 a1_1 a1_2 a1_3 a1_4 a1_5 a1_6 bt193.1 bt193.2.1 bt193.2.2.1 bt193.2.2.2.1 bt193.2.2.2.2.1 bt193.2.2.2.2.2.1))) else (Zg.j0 k a2 bt201.2.2.2.2.2.2 true a0_0 a0_1 a0_2 a0_3 a0_4 a0_5 a0_6 a1_0 a1_1 a1_2 a1_3 a1_4 a1_5 a1_6 bt193.1 bt193.2.1 bt193.2.2.1 bt193.2.2.2.1 bt193.2.2.2.2.1 bt193.2.2.2.2.2.1)))))))))))) = some r := h; clear h; replace H := Option.bind_eq_some_iff.mp H; obtain ⟨⟨t193,t194,t195,t196,t197,t198,t199⟩,A60,H⟩ := H; replace H : ((Zl.f k a0_0 a0_1 a0_2 a0_3 a0_4 a0_5 a0_6 a1_0 a1_1 a1_2 a1_3 a1_4 a1_5 a1_6 a2).bind fun bt201 => ((Xa.f a3_0 a3_1 a3_2 a3_3 a3_4 a3_5 a0_0 a0_1 a0_2 a0_3 a0_4 a0_5 a0_6).bind fun bt209 => ((Z4.f k a3_0 a3_1 a3_2 a3_3 a3_4 a3_5 a0_0 a0_1 a0_2 a0_3 a0_4 a0_5 a0_6).bind fun bt211 => ((ZR.f a3_0 a3_1 a3_2 a3_3 a3_4 a3_5 a4).bind fun bt213 => ((ZA.f k a3_0 a3_1 a3_2 a3_3 a3_4 a3_5 a4).bind fun bt218 => ((ZC.f a0_0 a0_1 a0_2 a0_3 a0_4 a0_5 a0_6).bind fun t223 => ((Zs.f k a0_0 a0_1 a0_2 a0_3 a0_4 a0_5 a0_6).bind fun t224 => (if (t223 != t224) = true then (Zg.j0 k a2 bt201.2.2.2.2.2.2 true a0_0 a0_1 a0_2 a0_3 a0_4 a0_5 a0_6 a1_0 a1_1 a1_2 a1_3 a1_4 a1_5 a1_6 t193 t194 t195 t196 t197 t198) else (if (!(t193 == bt201.1) || (!(t194 == bt201.2.1) || (!(t195 == bt201.2.2.1) || (!(t196 == bt201.2.2.2.1) || (!(t197 == bt201.2.2.2.2.1) || (!(t198 == bt201.2.2.2.2.2.1))))))) = true then (Zg.j0 k a2 bt201.2.2.2.2.2.2 true a0_0 a0_1 a0_2 a0_3 a0_4 a0_5 a0_6 a1_0 a1_1 a1_2 a1_3 a1_4 a1_5 a1_6 t193 t194 t195 t196 t197 t198) else (if t199 = bt201.2.2.2.2.2.2 then (if (bt209.1 != bt211.1) = true then (Zg.j0 k a2 bt201.2.2.2.2.2.2 true a0_0 a0_1 a0_2 a0_3 a0_4 a0_5 a0_6 a1_0 a1_1 a1_2 a1_3 a1_4 a1_5 a1_6 t193 t194 t195 t196 t197 t198) else (if bt209.2 = bt211.2 then ((Zr.f k bt213.1 bt218.1).bind fun t225 => (if t225 = true then (if bt213.2.1 = bt218.2.1 then (Zg.j0 k a2 bt201.2.2.2.2.2.2 (bt213.2.2 != bt218.2.2) a0_0 a0_1 a0_2 a0_3 a0_4 a0_5 a0_6 a1_0 a1_1 a1_2 a1_3 a1_4 a1_5 a1_6 t193 t194 t195 t196 t197 t198) else (Zg.j0 k a2 bt201.2.2.2.2.2.2 true a0_0 a0_1 a0_2 a0_3 a0_4 a0_5 a0_6 a1_0 a1_1 a1_2 a1_3 a1_4 a1_5 a1_6 t193 t194 t195 t196 t197 t198)) else (Zg.j0 k a2 bt201.2.2.2.2.2.2 true a0_0 a0_1 a0_2 a0_3 a0_4 a0_5 a0_6 a1_0 a1_1 a1_2 a1_3 a1_4 a1_5 a1_6 t193 t194 t195 t196 t197 t198))) else (Zg.j0 k a2 bt201.2.2.2.2.2.2 true a0_0 a0_1 a0_2 a0_3 a0_4 a0_5 a0_6 a1_0 a1_1 a1_2 a1_3 a1_4 a1_5 a1_6 t193 t194 t195 t196 t197 t198))) else (Zg.j0 k a2 bt201.2.2.2.2.2.2 true a0_0 a0_1 a0_2 a0_3 a0_4 a0_5 a0_6 a1_0 a1_1 a1_2 a1_3 a1_4 a1_5 a1_6 t193 t194 t195 t196 t197 t198))))))))))) = some r := H; have A6 := Zh.mk A60; clear A60; replace H := Option.bind_eq_some_iff.mp H; obtain ⟨⟨t201,t202,t203,t204,t205,t206,t207⟩,A70,H⟩ := H; replace H : ((Xa.f a3_0 a3_1 a3_2 a3_3 a3_4 a3_5 a0_0 a0_1 a0_2 a0_3 a0_4 a0_5 a0_6).bind fun bt209 => ((Z4.f k a3_0 a3_1 a3_2 a3_3 a3_4 a3_5 a0_0 a0_1 a0_2 a0_3 a0_4 a0_5 a0_6).bind fun bt211 => ((ZR.f a3_0 a3_1 a3_2 a3_3 a3_4 a3_5 a4).bind fun bt213 => ((ZA.f k a3_0 a3_1 a3_2 a3_3 a3_4 a3_5 a4).bind fun bt218 => ((ZC.f a0_0 a0_1 a0_2 a0_3 a0_4 a0_5 a0_6).bind fun t223 => ((Zs.f k a0_0 a0_1 a0_2 a0_3 a0_4 a0_5 a0_6).bind fun t224 => (if (t223 != t224) = true then (Zg.j0 k a2 t207 true a0_0 a0_1 a0_2 a0_3 a0_4 a0_5 a0_6 a1_0 a1_1 a1_2 a1_3 a1_4 a1_5 a1_6 t193 t194 t195 t196 t197 t198) else (if (!(t193 == t201) || (!(t194 == t202) || (!(t195 == t203) || (!(t196 == t204) || (!(t197 == t205) || (!(t198 == t206))))))) = true then (Zg.j0 k a2 t207 true a0_0 a0_1 a0_2 a0_3 a0_4 a0_5 a0_6 a1_0 a1_1 a1_2 a1_3 a1_4 a1_5 a1_6 t193 t194 t195 t196 t197 t198) else (if t199 = t207 then (if (bt209.1 != bt211.1) = true then (Zg.j0 k a2 t207 true a0_0 a0_1 a0_2 a0_3 a0_4 a0_5 a0_6 a1_0 a1_1 a1_2 a1_3 a1_4 a1_5 a1_6 t193 t194 t195 t196 t197 t198) else (if bt209.2 = bt211.2 then ((Zr.f k bt213.1 bt218.1).bind fun t225 => (if t225 = true then (if bt213.2.1 = bt218.2.1 then (Zg.j0 k a2 t207 (bt213.2.2 != bt218.2.2) a0_0 a0_1 a0_2 a0_3 a0_4 a0_5 a0_6 a1_0 a1_1 a1_2 a1_3 a1_4 a1_5 a1_6 t193 t194 t195 t196 t197 t198) else (Zg.j0 k a2 t207 true a0_0 a0_1 a0_2 a0_3 a0_4 a0_5 a0_6 a1_0 a1_1 a1_2 a1_3 a1_4 a1_5 a1_6 t193 t194 t195 t196 t197 t198)) else (Zg.j0 k a2 t207 true a0_0 a0_1 a0_2 a0_3 a0_4 a0_5 a0_6 a1_0 a1_1 a1_2 a1_3 a1_4 a1_5 a1_6 t193 t194 t195 t196 t197 t198))) else (Zg.j0 k a2 t207 true a0_0 a0_1 a0_2 a0_3 a0_4 a0_5 a0_6 a1_0 a1_1 a1_2 a1_3 a1_4 a1_5 a1_6 t193 t194 t195 t196 t197 t198))) else (Zg.j0 k a2 t207 true a0_0 a0_1 a0_2 a0_3 a0_4 a0_5 a0_6 a1_0 a1_1 a1_2 a1_3 a1_4 a1_5 a1_6 t193 t194 t195 t196 t197 t198)))))))))) = some r := H; have A7 := Zh.mk A70; clear A70; replace H := Option.bind_eq_some_iff.mp H; obtain ⟨⟨t209,t210⟩,A80,H⟩ := H; replace H : ((Z4.f k a3_0 a3_1 a3_2 a3_3 a3_4 a3_5 a0_0 a0_1 a0_2 a0_3 a0_4 a0_5 a0_6).bind fun bt211 => ((ZR.f a3_0 a3_1 a3_2 a3_3 a3_4 a3_5 a4).bind fun bt213 => ((ZA.f k a3_0 a3_1 a3_2 a3_3 a3_4 a3_5 a4).bind fun bt218 => ((ZC.f a0_0 a0_1 a0_2 a0_3 a0_4 a0_5 a0_6).bind fun t223 => ((Zs.f k a0_0 a0_1 a0_2 a0_3 a0_4 a0_5 a0_6).bind fun t224 => (if (t223 != t224) = true then (Zg.j0 k a2 t207 true a0_0 a0_1 a0_2 a0_3 a0_4 a0_5 a0_6 a1_0 a1_1 a1_2 a1_3 a1_4 a1_5 a1_6 t193 t194 t195 t196 t197 t198) else (if (!(t193 == t201) || (!(t194 == t202) || (!(t195 == t203) || (!(t196 == t204) || (!(t197 == t205) || (!(t198 == t206))))))) = true then (Zg.j0 k a2 t207 true a0_0 a0_1 a0_2 a0_3 a0_4 a0_5 a0_6 a1_0 a1_1 a1_2 a1_3 a1_4 a1_5 a1_6 t193 t194 t195 t196 t197 t198) else (if t199 = t207 then (if (t209 != bt211.1) = true then (Zg.j0 k a2 t207 true a0_0 a0_1 a0_2 a0_3 a0_4 a0_5 a0_6 a1_0 a1_1 a1_2 a1_3 a1_4 a1_5 a1_6 t193 t194 t195 t196 t197 t198) else (if t210 = bt211.2 then ((Zr.f k bt213.1 bt218.1).bind fun t225 => (if t225 = true then (if bt213.2.1 = bt218.2.1 then (Zg.j0 k a2 t207 (bt213.2.2 != bt218.2.2) a0_0 a0_1 a0_2 a0_3 a0_4 a0_5 a0_6 a1_0 a1_1 a1_2 a1_3 a1_4 a1_5 a1_6 t193 t194 t195 t196 t197 t198) else (Zg.j0 k a2 t207 true a0_0 a0_1 a0_2 a0_3 a0_4 a0_5 a0_6 a1_0 a1_1 a1_2 a1_3 a1_4 a1_5 a1_6 t193 t194 t195 t196 t197 t198)) else (Zg.j0 k a2 t207 true a0_0 a0_1 a0_2 a0_3 a0_4 a0_5 a0_6 a1_0 a1_1 a1_2 a1_3 a1_4 a1_5 a1_6 t193 t194 t195 t196 t197 t198))) else (Zg.j0 k a2 t207 true a0_0 a0_1 a0_2 a0_3 a0_4 a0_5 a0_6 a1_0 a1_1 a1_2 a1_3 a1_4 a1_5 a1_6 t193 t194 t195 t196 t197 t198))) else (Zg.j0 k a2 t207 true a0_0 a0_1 a0_2 a0_3 a0_4 a0_5 a0_6 a1_0 a1_1 a1_2 a1_3 a1_4 a1_5 a1_6 t193 t194 t195 t196 t197 t198))))))))) = some r := H; have A8 := Zh.mk A80; clear A80; replace H := Option.bind_eq_some_iff.mp H; obtain ⟨⟨t211,t212⟩,A90,H⟩ := H; replace H : ((ZR.f a3_0 a3_1 a3_2 a3_3 a3_4 a3_5 a4).bind fun bt213 => ((ZA.f k a3_0 a3_1 a3_2 a3_3 a3_4 a3_5 a4).bind fun bt218 => ((ZC.f a0_0 a0_1 a0_2 a0_3 a0_4 a0_5 a0_6).bind fun t223 => ((Zs.f k a0_0 a0_1 a0_2 a0_3 a0_4 a0_5 a0_6).bind fun t224 => (if (t223 != t224) = true then (Zg.j0 k a2 t207 true a0_0 a0_1 a0_2 a0_3 a0_4 a0_5 a0_6 a1_0 a1_1 a1_2 a1_3 a1_4 a1_5 a1_6 t193 t194 t195 t196 t197 t198) else (if (!(t193 == t201) || (!(t194 == t202) || (!(t195 == t203) || (!(t196 == t204) || (!(t197 == t205) || (!(t198 == t206))))))) = true then (Zg.j0 k a2 t207 true a0_0 a0_1 a0_2 a0_3 a0_4 a0_5 a0_6 a1_0 a1_1 a1_2 a1_3 a1_4 a1_5 a1_6 t193 t194 t195 t196 t197 t198) else (if t199 = t207 then (if (t209 != t211) = true then (Zg.j0 k a2 t207 true a0_0 a0_1 a0_2 a0_3 a0_4 a0_5 a0_6 a1_0 a1_1 a1_2 a1_3 a1_4 a1_5 a1_6 t193 t194 t195 t196 t197 t198) else (if t210 = t212 then ((Zr.f k bt213.1 bt218.1).bind fun t225 => (if t225 = true then (if bt213.2.1 = bt218.2.1 then (Zg.j0 k a2 t207 (bt213.2.2 != bt218.2.2) a0_0 a0_1 a0_2 a0_3 a0_4 a0_5 a0_6 a1_0 a1_1 a1_2 a1_3 a1_4 a1_5 a1_6 t193 t194 t195 t196 t197 t198) else (Zg.j0 k a2 t207 true a0_0 a0_1 a0_2 a0_3 a0_4 a0_5 a0_6 a1_0 a1_1 a1_2 a1_3 a1_4 a1_5 a1_6 t193 t194 t195 t196 t197 t198)) else (Zg.j0 k a2 t207 true a0_0 a0_1 a0_2 a0_3 a0_4 a0_5 a0_6 a1_0 a1_1 a1_2 a1_3 a1_4 a1_5 a1_6 t193 t194 t195 t196 t197 t198))) else (Zg.j0 k a2 t207 true a0_0 a0_1 a0_2 a0_3 a0_4 a0_5 a0_6 a1_0 a1_1 a1_2 a1_3 a1_4 a1_5 a1_6 t193 t194 t195 t196 t197 t198))) else (Zg.j0 k a2 t207 true a0_0 a0_1 a0_2 a0_3 a0_4 a0_5 a0_6 a1_0 a1_1 a1_2 a1_3 a1_4 a1_5 a1_6 t193 t194 t195 t196 t197 t198)))))))) = some r := H; have A9 := Zh.mk A90; clear A90; replace H := Option.bind_eq_some_iff.mp H; obtain ⟨⟨t213,t216,t217⟩,A100,H⟩ := H; replace H : ((ZA.f k a3_0 a3_1 a3_2 a3_3 a3_4 a3_5 a4).bind fun bt218 => ((ZC.f a0_0 a0_1 a0_2 a0_3 a0_4 a0_5 a0_6).bind fun t223 => ((Zs.f k a0_0 a0_1 a0_2 a0_3 a0_4 a0_5 a0_6).bind fun t224 => (if (t223 != t224) = true then (Zg.j0 k a2 t207 true a0_0 a0_1 a0_2 a0_3 a0_4 a0_5 a0_6 a1_0 a1_1 a1_2 a1_3 a1_4 a1_5 a1_6 t193 t194 t195 t196 t197 t198) else (if (!(t193 == t201) || (!(t194 == t202) || (!(t195 == t203) || (!(t196 == t204) || (!(t197 == t205) || (!(t198 == t206))))))) = true then (Zg.j0 k a2 t207 true a0_0 a0_1 a0_2 a0_3 a0_4 a0_5 a0_6 a1_0 a1_1 a1_2 a1_3 a1_4 a1_5 a1_6 t193 t194 t195 t196 t197 t198) else (if t199 = t207 then (if (t209 != t211) = true then (Zg.j0 k a2 t207 true a0_0 a0_1 a0_2 a0_3 a0_4 a0_5 a0_6 a1_0 a1_1 a1_2 a1_3 a1_4 a1_5 a1_6 t193 t194 t195 t196 t197 t198) else (if t210 = t212 then ((Zr.f k t213 bt218.1).bind fun t225 => (if t225 = true then (if t216 = bt218.2.1 then (Zg.j0 k a2 t207 (t217 != bt218.2.2) a0_0 a0_1 a0_2 a0_3 a0_4 a0_5 a0_6 a1_0 a1_1 a1_2 a1_3 a1_4 a1_5 a1_6 t193 t194 t195 t196 t197 t198) else (Zg.j0 k a2 t207 true a0_0 a0_1 a0_2 a0_3 a0_4 a0_5 a0_6 a1_0 a1_1 a1_2 a1_3 a1_4 a1_5 a1_6 t193 t194 t195 t196 t197 t198)) else (Zg.j0 k a2 t207 true a0_0 a0_1 a0_2 a0_3 a0_4 a0_5 a0_6 a1_0 a1_1 a1_2 a1_3 a1_4 a1_5 a1_6 t193 t194 t195 t196 t197 t198))) else (Zg.j0 k a2 t207 true a0_0 a0_1 a0_2 a0_3 a0_4 a0_5 a0_6 a1_0 a1_1 a1_2 a1_3 a1_4 a1_5 a1_6 t193 t194 t195 t196 t197 t198))) else (Zg.j0 k a2 t207 true a0_0 a0_1 a0_2 a0_3 a0_4 a0_5 a0_6 a1_0 a1_1 a1_2 a1_3 a1_4 a1_5 a1_6 t193 t194 t195 t196 t197 t198))))))) = some r := H; have A10 := Zh.mk A100; clear A100; replace H := Option.bind_eq_some_iff.mp H; obtain ⟨⟨t218,t221,t222⟩,A110,H⟩ := H; replace H : ((ZC.f a0_0 a0_1 a0_2 a0_3 a0_4 a0_5 a0_6).bind fun t223 => ((Zs.f k a0_0 a0_1 a0_2 a0_3 a0_4 a0_5 a0_6).bind fun t224 => (if (t223 != t224) = true then (Zg.j0 k a2 t207 true a0_0 a0_1 a0_2 a0_3 a0_4 a0_5 a0_6 a1_0 a1_1 a1_2 a1_3 a1_4 a1_5 a1_6 t193 t194 t195 t196 t197 t198) else (if (!(t193 == t201) || (!(t194 == t202) || (!(t195 == t203) || (!(t196 == t204) || (!(t197 == t205) || (!(t198 == t206))))))) = true then (Zg.j0 k a2 t207 true a0_0 a0_1 a0_2 a0_3 a0_4 a0_5 a0_6 a1_0 a1_1 a1_2 a1_3 a1_4 a1_5 a1_6 t193 t194 t195 t196 t197 t198) else (if t199 = t207 then (if (t209 != t211) = true then (Zg.j0 k a2 t207 true a0_0 a0_1 a0_2 a0_3 a0_4 a0_5 a0_6 a1_0 a1_1 a1_2 a1_3 a1_4 a1_5 a1_6 t193 t194 t195 t196 t197 t198) else (if t210 = t212 then ((Zr.f k t213 t218).bind fun t225 => (if t225 = true then (if t216 = t221 then (Zg.j0 k a2 t207 (t217 != t222) a0_0 a0_1 a0_2 a0_3 a0_4 a0_5 a0_6 a1_0 a1_1 a1_2 a1_3 a1_4 a1_5 a1_6 t193 t194 t195 t196 t197 t198) else (Zg.j0 k a2 t207 true a0_0 a0_1 a0_2 a0_3 a0_4 a0_5 a0_6 a1_0 a1_1 a1_2 a1_3 a1_4 a1_5 a1_6 t193 t194 t195 t196 t197 t198)) else (Zg.j0 k a2 t207 true a0_0 a0_1 a0_2 a0_3 a0_4 a0_5 a0_6 a1_0 a1_1 a1_2 a1_3 a1_4 a1_5 a1_6 t193 t194 t195 t196 t197 t198))) else (Zg.j0 k a2 t207 true a0_0 a0_1 a0_2 a0_3 a0_4 a0_5 a0_6 a1_0 a1_1 a1_2 a1_3 a1_4 a1_5 a1_6 t193 t194 t195 t196 t197 t198))) else (Zg.j0 k a2 t207 true a0_0 a0_1 a0_2 a0_3 a0_4 a0_5 a0_6 a1_0 a1_1 a1_2 a1_3 a1_4 a1_5 a1_6 t193 t194 t195 t196 t197 t198)))))) = some r := H; have A11 := Zh.mk A110; clear A110; have HC12 := Zh.mk H; clear H
  go_enter Try.func3,Try.ntmps3
  go_upto_region 7 with (first | ((with_reducible refine ZD (N := 5) rfl ?_); (try (refine Xp (by rfl) ?_; dsimp only)); refine Z9 ?hg (N := 5) ?hd (cs := #[.int .i64 a0_0,.int .i64 a0_1,.int .i64 a0_2,.int .i64 a0_3,.int .i64 a0_4,.int .i64 a0_5,.int .i64 a0_6]) (t := 23) ?hr ?_; (case hd => rfl); (case hg => rfl); (case hr => first | (go_simp; done) | (go_simp; rfl)); intro gb190 hg w13 hbox hb; have n0_ := Zh.mk (Zv (by repeat (first | (with_reducible first | exact HB.out | apply Zk | apply Zi | apply Zj) | exact HB.out)) hb); have n1_ := Zh.mk (hbox); have n2_ := Zh.mk ((by rw [hg]; exact (Zt (by repeat (first | (with_reducible first | exact HB.out | apply Zk | apply Zi | apply Zj) | exact HB.out))) : w.heap.size ≤ gb190)); have n3_ := Zh.mk ((by rw [hg]; exact (Zt (by repeat (first | (with_reducible first | exact HB.out | apply Zk | apply Zi | apply Zj) | exact HB.out))) : w.heap.size ≤ gb190)); clear HB; have HB := n0_; have BK190 := n1_; have GW190 := n2_; have GE190 := n3_; clear n0_ n1_ n2_ n3_; clear hb hbox hg) | ((with_reducible refine ZD (N := 6) rfl ?_); (try (refine Xp (by rfl) ?_; dsimp only)); refine Z9 ?hg (N := 6) ?hd (cs := #[.int .i64 a1_0,.int .i64 a1_1,.int .i64 a1_2,.int .i64 a1_3,.int .i64 a1_4,.int .i64 a1_5,.int .i64 a1_6]) (t := 23) ?hr ?_; (case hd => rfl); (case hg => rfl); (case hr => first | (go_simp; done) | (go_simp; rfl)); intro gb191 hg w14 hbox hb; have n0_ := Zh.mk (Zn (g := gb190) (o := .cells #[.int .i64 a0_0,.int .i64 a0_1,.int .i64 a0_2,.int .i64 a0_3,.int .i64 a0_4,.int .i64 a0_5,.int .i64 a0_6] 23 (0,0)) (by (with_reducible repeat (first | refine Zc ?_ _ | refine Ze ?_ | refine Zd ?_ _)); exact BK190.out) hb); have n1_ := Zh.mk (Zv (by repeat (first | (with_reducible first | exact HB.out | apply Zk | apply Zi | apply Zj | refine Zf ?_ GE190.out) | exact HB.out)) hb); have n2_ := Zh.mk (hbox); have n3_ := Zh.mk ((by rw [hg]; exact (Zt (by repeat (first | (with_reducible first | exact HB.out | apply Zk | apply Zi | apply Zj | refine Zf ?_ GE190.out) | exact HB.out))) : w.heap.size ≤ gb191)); have n4_ := Zh.mk ((by rw [hg]; exact (Zt (by repeat (first | (with_reducible first | exact HB.out | apply Zk | apply Zi | apply Zj | refine Zf ?_ GE190.out) | exact HB.out))) : w.heap.size ≤ gb191)); have n5_ := Zh.mk ((by rw [hg]; exact Nat.ne_of_lt (ZB (g := gb190) (o := .cells #[.int .i64 a0_0,.int .i64 a0_1,.int .i64 a0_2,.int .i64 a0_3,.int .i64 a0_4,.int .i64 a0_5,.int .i64 a0_6] 23 (0,0)) (by (with_reducible repeat (first | refine Zc ?_ _ | refine Ze ?_ | refine Zd ?_ _)); exact BK190.out)) : gb190 ≠ gb191)); have n6_ := Zh.mk ((by rw [hg]; exact Nat.ne_of_gt (ZB (g := gb190) (o := .cells #[.int .i64 a0_0,.int .i64 a0_1,.int .i64 a0_2,.int .i64 a0_3,.int .i64 a0_4,.int .i64 a0_5,.int .i64 a0_6] 23 (0,0)) (by (with_reducible repeat (first | refine Zc ?_ _ | refine Ze ?_ | refine Zd ?_ _)); exact BK190.out)) : gb191 ≠ gb190)); clear BK190; clear HB; have BK190 := n0_; have HB := n1_; have BK191 := n2_; have GW191 := n3_; have GE191 := n4_; have NB190_191 := n5_; have NB191_190 := n6_; clear n0_ n1_ n2_ n3_ n4_ n5_ n6_; clear hb hbox hg) | ((with_reducible refine ZD (N := 8) rfl ?_); (try (refine Xp (by rfl) ?_; dsimp only)); refine Z9 ?hg (N := 8) ?hd (cs := #[.int .i64 a3_0,.int .i64 a3_1,.int .i64 a3_2,.int .i64 a3_3,.int .i64 a3_4,.int .i64 a3_5]) (t := 25) ?hr ?_; (case hd => rfl); (case hg => rfl); (case hr => first | (go_simp; done) | (go_simp; rfl)); intro gb192 hg w15 hbox hb; have n0_ := Zh.mk (Zn (g := gb190) (o := .cells #[.int .i64 a0_0,.int .i64 a0_1,.int .i64 a0_2,.int .i64 a0_3,.int .i64 a0_4,.int .i64 a0_5,.int .i64 a0_6] 23 (0,0)) (by (with_reducible repeat (first | refine Zc ?_ _ | refine Ze ?_ | refine Zd ?_ _)); exact BK190.out) hb); have n1_ := Zh.mk (Zn (g := gb191) (o := .cells #[.int .i64 a1_0,.int .i64 a1_1,.int .i64 a1_2,.int .i64 a1_3,.int .i64 a1_4,.int .i64 a1_5,.int .i64 a1_6] 23 (0,0)) (by (with_reducible repeat (first | refine Zc ?_ _ | refine Ze ?_ | refine Zd ?_ _)); exact BK191.out) hb); have n2_ := Zh.mk (Zv (by repeat (first | (with_reducible first | exact HB.out | apply Zk | apply Zi | apply Zj | refine Zf ?_ GE190.out | refine Zf ?_ GE191.out) | exact HB.out)) hb); have n3_ := Zh.mk (hbox); have n4_ := Zh.mk ((by rw [hg]; exact (Zt (by repeat (first | (with_reducible first | exact HB.out | apply Zk | apply Zi | apply Zj | refine Zf ?_ GE190.out | refine Zf ?_ GE191.out) | exact HB.out))) : w.heap.size ≤ gb192)); have n5_ := Zh.mk ((by rw [hg]; exact (Zt (by repeat (first | (with_reducible first | exact HB.out | apply Zk | apply Zi | apply Zj | refine Zf ?_ GE190.out | refine Zf ?_ GE191.out) | exact HB.out))) : w.heap.size ≤ gb192)); have n6_ := Zh.mk ((by rw [hg]; exact Nat.ne_of_lt (ZB (g := gb190) (o := .cells #[.int .i64 a0_0,.int .i64 a0_1,.int .i64 a0_2,.int .i64 a0_3,.int .i64 a0_4,.int .i64 a0_5,.int .i64 a0_6] 23 (0,0)) (by (with_reducible repeat (first | refine Zc ?_ _ | refine Ze ?_ | refine Zd ?_ _)); exact BK190.out)) : gb190 ≠ gb192)); have n7_ := Zh.mk ((by rw [hg]; exact Nat.ne_of_gt (ZB (g := gb190) (o := .cells #[.int .i64 a0_0,.int .i64 a0_1,.int .i64 a0_2,.int .i64 a0_3,.int .i64 a0_4,.int .i64 a0_5,.int .i64 a0_6] 23 (0,0)) (by (with_reducible repeat (first | refine Zc ?_ _ | refine Ze ?_ | refine Zd ?_ _)); exact BK190.out)) : gb192 ≠ gb190)); have n8_ := Zh.mk ((by rw [hg]; exact Nat.ne_of_lt (ZB (g := gb191) (o := .cells #[.int .i64 a1_0,.int .i64 a1_1,.int .i64 a1_2,.int .i64 a1_3,.int .i64 a1_4,.int .i64 a1_5,.int .i64 a1_6] 23 (0,0)) (by (with_reducible repeat (first | refine Zc ?_ _ | refine Ze ?_ | refine Zd ?_ _)); exact BK191.out)) : gb191 ≠ gb192)); have n9_ := Zh.mk ((by rw [hg]; exact Nat.ne_of_gt (ZB (g := gb191) (o := .cells #[.int .i64 a1_0,.int .i64 a1_1,.int .i64 a1_2,.int .i64 a1_3,.int .i64 a1_4,.int .i64 a1_5,.int .i64 a1_6] 23 (0,0)) (by (with_reducible repeat (first | refine Zc ?_ _ | refine Ze ?_ | refine Zd ?_ _)); exact BK191.out)) : gb192 ≠ gb191)); clear BK190; clear BK191; clear HB; have BK190 := n0_; have BK191 := n1_; have HB := n2_; have BK192 := n3_; have GW192 := n4_; have GE192 := n5_; have NB190_192 := n6_; have NB192_190 := n7_; have NB191_192 := n8_; have NB192_191 := n9_; clear n0_ n1_ n2_ n3_ n4_ n5_ n6_ n7_ n8_ n9_; clear hb hbox hg; have hnb16 := NB190_191.out; have hnc16 := NB191_190.out; have hnb17 := NB190_192.out; have hnc17 := NB192_190.out; have hcz18_0 : w15.cell? ⟨gb190,0,none⟩ = some (.int .i64 a0_0) := (Za BK190.out 0).trans rfl; have hcz18_1 : w15.cell? ⟨gb190,1,none⟩ = some (.int .i64 a0_1) := (Za BK190.out 1).trans rfl; have hcz18_2 : w15.cell? ⟨gb190,2,none⟩ = some (.int .i64 a0_2) := (Za BK190.out 2).trans rfl; have hcz18_3 : w15.cell? ⟨gb190,3,none⟩ = some (.int .i64 a0_3) := (Za BK190.out 3).trans rfl; have hcz18_4 : w15.cell? ⟨gb190,4,none⟩ = some (.int .i64 a0_4) := (Za BK190.out 4).trans rfl; have hcz18_5 : w15.cell? ⟨gb190,5,none⟩ = some (.int .i64 a0_5) := (Za BK190.out 5).trans rfl; have hcz18_6 : w15.cell? ⟨gb190,6,none⟩ = some (.int .i64 a0_6) := (Za BK190.out 6).trans rfl; have hfz18_0 := Zb BK190.out 0; have hfz18_1 := Zb BK190.out 1; have hfz18_2 := Zb BK190.out 2; have hfz18_3 := Zb BK190.out 3; have hfz18_4 := Zb BK190.out 4; have hfz18_5 := Zb BK190.out 5; have hfz18_6 := Zb BK190.out 6; have hnb19 := NB191_192.out; have hnc19 := NB192_191.out; have hcz20_0 : w15.cell? ⟨gb191,0,none⟩ = some (.int .i64 a1_0) := (Za BK191.out 0).trans rfl; have hcz20_1 : w15.cell? ⟨gb191,1,none⟩ = some (.int .i64 a1_1) := (Za BK191.out 1).trans rfl; have hcz20_2 : w15.cell? ⟨gb191,2,none⟩ = some (.int .i64 a1_2) := (Za BK191.out 2).trans rfl; have hcz20_3 : w15.cell? ⟨gb191,3,none⟩ = some (.int .i64 a1_3) := (Za BK191.out 3).trans rfl; have hcz20_4 : w15.cell? ⟨gb191,4,none⟩ = some (.int .i64 a1_4) := (Za BK191.out 4).trans rfl; have hcz20_5 : w15.cell? ⟨gb191,5,none⟩ = some (.int .i64 a1_5) := (Za BK191.out 5).trans rfl; have hcz20_6 : w15.cell? ⟨gb191,6,none⟩ = some (.int .i64 a1_6) := (Za BK191.out 6).trans rfl; have hfz20_0 := Zb BK191.out 0; have hfz20_1 := Zb BK191.out 1; have hfz20_2 := Zb BK191.out 2; have hfz20_3 := Zb BK191.out 3; have hfz20_4 := Zb BK191.out 4; have hfz20_5 := Zb BK191.out 5; have hfz20_6 := Zb BK191.out 6) | ((with_reducible refine Z3 (f := 5) rfl ?_); refine ZE (some 35) rfl rfl Try.func5 (by kernel_rfl) rfl #[.agg #[.int .i64 a0_0,.int .i64 a0_1,.int .i64 a0_2,.int .i64 a0_3,.int .i64 a0_4,.int .i64 a0_5,.int .i64 a0_6],.agg #[.int .i64 a1_0,.int .i64 a1_1,.int .i64 a1_2,.int .i64 a1_3,.int .i64 a1_4,.int .i64 a1_5,.int .i64 a1_6],.int .i64 a2] rfl (by (try simp only [List.map_toArray,List.map_cons,List.map_nil]); first | done | rfl | (simp only [List.length_drop,List.length_take]; rfl)) ?_; (with_reducible refine (Zy.calls k a0_0 a0_1 a0_2 a0_3 a0_4 a0_5 a0_6 a1_0 a1_1 a1_2 a1_3 a1_4 a1_5 a1_6 a2 t193 t194 t195 t196 t197 t198 t199 _ A6.out).mono ?_); rintro e w21 ⟨rfl,hb⟩; refine ⟨_,rfl,?_⟩; have n0_ := Zh.mk (Zn (g := gb190) (o := .cells #[.int .i64 a0_0,.int .i64 a0_1,.int .i64 a0_2,.int .i64 a0_3,.int .i64 a0_4,.int .i64 a0_5,.int .i64 a0_6] 23 (0,0)) (by (with_reducible repeat (first | refine Zc ?_ _ | refine Ze ?_ | refine Zd ?_ _)); exact BK190.out) hb); have n1_ := Zh.mk (Zn (g := gb191) (o := .cells #[.int .i64 a1_0,.int .i64 a1_1,.int .i64 a1_2,.int .i64 a1_3,.int .i64 a1_4,.int .i64 a1_5,.int .i64 a1_6] 23 (0,0)) (by (with_reducible repeat (first | refine Zc ?_ _ | refine Ze ?_ | refine Zd ?_ _)); exact BK191.out) hb); have n2_ := Zh.mk (Zn (g := gb192) (o := .cells #[.int .i64 a3_0,.int .i64 a3_1,.int .i64 a3_2,.int .i64 a3_3,.int .i64 a3_4,.int .i64 a3_5] 25 (0,0)) (by (with_reducible repeat (first | refine Zc ?_ _ | refine Ze ?_ | refine Zd ?_ _)); exact BK192.out) hb); have n3_ := Zh.mk (Zv (by repeat (first | (with_reducible first | exact HB.out | apply Zk | apply Zi | apply Zj | refine Zf ?_ GE190.out | refine Zf ?_ GE191.out | refine Zf ?_ GE192.out) | exact HB.out)) hb); clear BK190; clear BK191; clear BK192; clear HB; have BK190 := n0_; have BK191 := n1_; have BK192 := n2_; have HB := n3_; clear n0_ n1_ n2_ n3_; (try clear hb); (try clear hb2); (try clear hk); (try clear hi)) | ((with_reducible refine ZD (N := 11) rfl ?_); (try (refine Xp (by rfl) ?_; dsimp only)); refine Z9 ?hg (N := 11) ?hd (cs := #[.int .i64 0,.int .i64 0,.int .i64 0,.int .i64 0,.int .i64 0,.int .i64 0]) (t := 25) ?hr ?_; (case hd => rfl); (case hg => rfl); (case hr => first | (go_simp; done) | (go_simp; rfl)); intro gb200 hg w22 hbox hb; have n0_ := Zh.mk (Zn (g := gb190) (o := .cells #[.int .i64 a0_0,.int .i64 a0_1,.int .i64 a0_2,.int .i64 a0_3,.int .i64 a0_4,.int .i64 a0_5,.int .i64 a0_6] 23 (0,0)) (by (with_reducible repeat (first | refine Zc ?_ _ | refine Ze ?_ | refine Zd ?_ _)); exact BK190.out) hb); have n1_ := Zh.mk (Zn (g := gb191) (o := .cells #[.int .i64 a1_0,.int .i64 a1_1,.int .i64 a1_2,.int .i64 a1_3,.int .i64 a1_4,.int .i64 a1_5,.int .i64 a1_6] 23 (0,0)) (by (with_reducible repeat (first | refine Zc ?_ _ | refine Ze ?_ | refine Zd ?_ _)); exact BK191.out) hb); have n2_ := Zh.mk (Zn (g := gb192) (o := .cells #[.int .i64 a3_0,.int .i64 a3_1,.int .i64 a3_2,.int .i64 a3_3,.int .i64 a3_4,.int .i64 a3_5] 25 (0,0)) (by (with_reducible repeat (first | refine Zc ?_ _ | refine Ze ?_ | refine Zd ?_ _)); exact BK192.out) hb); have n3_ := Zh.mk (Zv (by repeat (first | (with_reducible first | exact HB.out | apply Zk | apply Zi | apply Zj | refine Zf ?_ GE190.out | refine Zf ?_ GE191.out | refine Zf ?_ GE192.out) | exact HB.out)) hb); have n4_ := Zh.mk (hbox); have n5_ := Zh.mk ((by rw [hg]; exact (Zt (by repeat (first | (with_reducible first | exact HB.out | apply Zk | apply Zi | apply Zj | refine Zf ?_ GE190.out | refine Zf ?_ GE191.out | refine Zf ?_ GE192.out) | exact HB.out))) : w.heap.size ≤ gb200)); have n6_ := Zh.mk ((by rw [hg]; exact (Zt (by repeat (first | (with_reducible first | exact HB.out | apply Zk | apply Zi | apply Zj | refine Zf ?_ GE190.out | refine Zf ?_ GE191.out | refine Zf ?_ GE192.out) | exact HB.out))) : w.heap.size ≤ gb200)); have n7_ := Zh.mk ((by rw [hg]; exact Nat.ne_of_lt (ZB (g := gb190) (o := .cells #[.int .i64 a0_0,.int .i64 a0_1,.int .i64 a0_2,.int .i64 a0_3,.int .i64 a0_4,.int .i64 a0_5,.int .i64 a0_6] 23 (0,0)) (by (with_reducible repeat (first | refine Zc ?_ _ | refine Ze ?_ | refine Zd ?_ _)); exact BK190.out)) : gb190 ≠ gb200)); have n8_ := Zh.mk ((by rw [hg]; exact Nat.ne_of_gt (ZB (g := gb190) (o := .cells #[.int .i64 a0_0,.int .i64 a0_1,.int .i64 a0_2,.int .i64 a0_3,.int .i64 a0_4,.int .i64 a0_5,.int .i64 a0_6] 23 (0,0)) (by (with_reducible repeat (first | refine Zc ?_ _ | refine Ze ?_ | refine Zd ?_ _)); exact BK190.out)) : gb200 ≠ gb190)); have n9_ := Zh.mk ((by rw [hg]; exact Nat.ne_of_lt (ZB (g := gb191) (o := .cells #[.int .i64 a1_0,.int .i64 a1_1,.int .i64 a1_2,.int .i64 a1_3,.int .i64 a1_4,.int .i64 a1_5,.int .i64 a1_6] 23 (0,0)) (by (with_reducible repeat (first | refine Zc ?_ _ | refine Ze ?_ | refine Zd ?_ _)); exact BK191.out)) : gb191 ≠ gb200)); have n10_ := Zh.mk ((by rw [hg]; exact Nat.ne_of_gt (ZB (g := gb191) (o := .cells #[.int .i64 a1_0,.int .i64 a1_1,.int .i64 a1_2,.int .i64 a1_3,.int .i64 a1_4,.int .i64 a1_5,.int .i64 a1_6] 23 (0,0)) (by (with_reducible repeat (first | refine Zc ?_ _ | refine Ze ?_ | refine Zd ?_ _)); exact BK191.out)) : gb200 ≠ gb191)); have n11_ := Zh.mk ((by rw [hg]; exact Nat.ne_of_lt (ZB (g := gb192) (o := .cells #[.int .i64 a3_0,.int .i64 a3_1,.int .i64 a3_2,.int .i64 a3_3,.int .i64 a3_4,.int .i64 a3_5] 25 (0,0)) (by (with_reducible repeat (first | refine Zc ?_ _ | refine Ze ?_ | refine Zd ?_ _)); exact BK192.out)) : gb192 ≠ gb200)); have n12_ := Zh.mk ((by rw [hg]; exact Nat.ne_of_gt (ZB (g := gb192) (o := .cells #[.int .i64 a3_0,.int .i64 a3_1,.int .i64 a3_2,.int .i64 a3_3,.int .i64 a3_4,.int .i64 a3_5] 25 (0,0)) (by (with_reducible repeat (first | refine Zc ?_ _ | refine Ze ?_ | refine Zd ?_ _)); exact BK192.out)) : gb200 ≠ gb192)); clear BK190; clear BK191; clear BK192; clear HB; have BK190 := n0_; have BK191 := n1_; have BK192 := n2_; have HB := n3_; have BK200 := n4_; have GW200 := n5_; have GE200 := n6_; have NB190_200 := n7_; have NB200_190 := n8_; have NB191_200 := n9_; have NB200_191 := n10_; have NB192_200 := n11_; have NB200_192 := n12_; clear n0_ n1_ n2_ n3_ n4_ n5_ n6_ n7_ n8_ n9_ n10_ n11_ n12_; clear hb hbox hg; have hnb23 := NB200_190.out; have hnc23 := NB190_200.out; have hnb24 := NB200_191.out; have hnc24 := NB191_200.out; have hnb25 := NB200_192.out; have hnc25 := NB192_200.out; have hcz26_0 : w22.cell? ⟨gb200,0,none⟩ = some (.int .i64 0) := (Za BK200.out 0).trans rfl; have hcz26_1 : w22.cell? ⟨gb200,1,none⟩ = some (.int .i64 0) := (Za BK200.out 1).trans rfl; have hcz26_2 : w22.cell? ⟨gb200,2,none⟩ = some (.int .i64 0) := (Za BK200.out 2).trans rfl; have hcz26_3 : w22.cell? ⟨gb200,3,none⟩ = some (.int .i64 0) := (Za BK200.out 3).trans rfl; have hcz26_4 : w22.cell? ⟨gb200,4,none⟩ = some (.int .i64 0) := (Za BK200.out 4).trans rfl; have hcz26_5 : w22.cell? ⟨gb200,5,none⟩ = some (.int .i64 0) := (Za BK200.out 5).trans rfl; have hfz26_0 := Zb BK200.out 0; have hfz26_1 := Zb BK200.out 1; have hfz26_2 := Zb BK200.out 2; have hfz26_3 := Zb BK200.out 3; have hfz26_4 := Zb BK200.out 4; have hfz26_5 := Zb BK200.out 5; have hcz27_0 : w22.cell? ⟨gb190,0,none⟩ = some (.int .i64 a0_0) := (Za BK190.out 0).trans rfl; have hcz27_1 : w22.cell? ⟨gb190,1,none⟩ = some (.int .i64 a0_1) := (Za BK190.out 1).trans rfl; have hcz27_2 : w22.cell? ⟨gb190,2,none⟩ = some (.int .i64 a0_2) := (Za BK190.out 2).trans rfl; have hcz27_3 : w22.cell? ⟨gb190,3,none⟩ = some (.int .i64 a0_3) := (Za BK190.out 3).trans rfl; have hcz27_4 : w22.cell? ⟨gb190,4,none⟩ = some (.int .i64 a0_4) := (Za BK190.out 4).trans rfl; have hcz27_5 : w22.cell? ⟨gb190,5,none⟩ = some (.int .i64 a0_5) := (Za BK190.out 5).trans rfl; have hcz27_6 : w22.cell? ⟨gb190,6,none⟩ = some (.int .i64 a0_6) := (Za BK190.out 6).trans rfl; have hfz27_0 := Zb BK190.out 0; have hfz27_1 := Zb BK190.out 1; have hfz27_2 := Zb BK190.out 2; have hfz27_3 := Zb BK190.out 3; have hfz27_4 := Zb BK190.out 4; have hfz27_5 := Zb BK190.out 5; have hfz27_6 := Zb BK190.out 6; have hcz28_0 : w22.cell? ⟨gb191,0,none⟩ = some (.int .i64 a1_0) := (Za BK191.out 0).trans rfl; have hcz28_1 : w22.cell? ⟨gb191,1,none⟩ = some (.int .i64 a1_1) := (Za BK191.out 1).trans rfl; have hcz28_2 : w22.cell? ⟨gb191,2,none⟩ = some (.int .i64 a1_2) := (Za BK191.out 2).trans rfl; have hcz28_3 : w22.cell? ⟨gb191,3,none⟩ = some (.int .i64 a1_3) := (Za BK191.out 3).trans rfl; have hcz28_4 : w22.cell? ⟨gb191,4,none⟩ = some (.int .i64 a1_4) := (Za BK191.out 4).trans rfl; have hcz28_5 : w22.cell? ⟨gb191,5,none⟩ = some (.int .i64 a1_5) := (Za BK191.out 5).trans rfl; have hcz28_6 : w22.cell? ⟨gb191,6,none⟩ = some (.int .i64 a1_6) := (Za BK191.out 6).trans rfl; have hfz28_0 := Zb BK191.out 0; have hfz28_1 := Zb BK191.out 1; have hfz28_2 := Zb BK191.out 2; have hfz28_3 := Zb BK191.out 3; have hfz28_4 := Zb BK191.out 4; have hfz28_5 := Zb BK191.out 5; have hfz28_6 := Zb BK191.out 6) | ((with_reducible refine Z3 (f := 6) rfl ?_); refine ZE (some 42) rfl rfl Try.func6 (by kernel_rfl) rfl #[.agg #[.int .i64 a0_0,.int .i64 a0_1,.int .i64 a0_2,.int .i64 a0_3,.int .i64 a0_4,.int .i64 a0_5,.int .i64 a0_6],.agg #[.int .i64 a1_0,.int .i64 a1_1,.int .i64 a1_2,.int .i64 a1_3,.int .i64 a1_4,.int .i64 a1_5,.int .i64 a1_6],.int .i64 a2] rfl (by (try simp only [List.map_toArray,List.map_cons,List.map_nil]); first | done | rfl | (simp only [List.length_drop,List.length_take]; rfl)) ?_; (with_reducible refine (Zl.calls k a0_0 a0_1 a0_2 a0_3 a0_4 a0_5 a0_6 a1_0 a1_1 a1_2 a1_3 a1_4 a1_5 a1_6 a2 t201 t202 t203 t204 t205 t206 t207 _ A7.out).mono ?_); rintro e w29 ⟨rfl,hb⟩; refine ⟨_,rfl,?_⟩; have n0_ := Zh.mk (Zn (g := gb190) (o := .cells #[.int .i64 a0_0,.int .i64 a0_1,.int .i64 a0_2,.int .i64 a0_3,.int .i64 a0_4,.int .i64 a0_5,.int .i64 a0_6] 23 (0,0)) (by (with_reducible repeat (first | refine Zc ?_ _ | refine Ze ?_ | refine Zd ?_ _)); refine Z5 ?_ NB190_200.out _; (with_reducible repeat (first | refine Zc ?_ _ | refine Ze ?_ | refine Zd ?_ _)); refine Z5 ?_ NB190_200.out _; (with_reducible repeat (first | refine Zc ?_ _ | refine Ze ?_ | refine Zd ?_ _)); refine Z5 ?_ NB190_200.out _; (with_reducible repeat (first | refine Zc ?_ _ | refine Ze ?_ | refine Zd ?_ _)); refine Z5 ?_ NB190_200.out _; (with_reducible repeat (first | refine Zc ?_ _ | refine Ze ?_ | refine Zd ?_ _)); refine Z5 ?_ NB190_200.out _; (with_reducible repeat (first | refine Zc ?_ _ | refine Ze ?_ | refine Zd ?_ _)); refine Z5 ?_ NB190_200.out _; (with_reducible repeat (first | refine Zc ?_ _ | refine Ze ?_ | refine Zd ?_ _)); exact BK190.out) hb); have n1_ := Zh.mk (Zn (g := gb191) (o := .cells #[.int .i64 a1_0,.int .i64 a1_1,.int .i64 a1_2,.int .i64 a1_3,.int .i64 a1_4,.int .i64 a1_5,.int .i64 a1_6] 23 (0,0)) (by (with_reducible repeat (first | refine Zc ?_ _ | refine Ze ?_ | refine Zd ?_ _)); refine Z5 ?_ NB191_200.out _; (with_reducible repeat (first | refine Zc ?_ _ | refine Ze ?_ | refine Zd ?_ _)); refine Z5 ?_ NB191_200.out _; (with_reducible repeat (first | refine Zc ?_ _ | refine Ze ?_ | refine Zd ?_ _)); refine Z5 ?_ NB191_200.out _; (with_reducible repeat (first | refine Zc ?_ _ | refine Ze ?_ | refine Zd ?_ _)); refine Z5 ?_ NB191_200.out _; (with_reducible repeat (first | refine Zc ?_ _ | refine Ze ?_ | refine Zd ?_ _)); refine Z5 ?_ NB191_200.out _; (with_reducible repeat (first | refine Zc ?_ _ | refine Ze ?_ | refine Zd ?_ _)); refine Z5 ?_ NB191_200.out _; (with_reducible repeat (first | refine Zc ?_ _ | refine Ze ?_ | refine Zd ?_ _)); exact BK191.out) hb); have n2_ := Zh.mk (Zn (g := gb192) (o := .cells #[.int .i64 a3_0,.int .i64 a3_1,.int .i64 a3_2,.int .i64 a3_3,.int .i64 a3_4,.int .i64 a3_5] 25 (0,0)) (by (with_reducible repeat (first | refine Zc ?_ _ | refine Ze ?_ | refine Zd ?_ _)); refine Z5 ?_ NB192_200.out _; (with_reducible repeat (first | refine Zc ?_ _ | refine Ze ?_ | refine Zd ?_ _)); refine Z5 ?_ NB192_200.out _; (with_reducible repeat (first | refine Zc ?_ _ | refine Ze ?_ | refine Zd ?_ _)); refine Z5 ?_ NB192_200.out _; (with_reducible repeat (first | refine Zc ?_ _ | refine Ze ?_ | refine Zd ?_ _)); refine Z5 ?_ NB192_200.out _; (with_reducible repeat (first | refine Zc ?_ _ | refine Ze ?_ | refine Zd ?_ _)); refine Z5 ?_ NB192_200.out _; (with_reducible repeat (first | refine Zc ?_ _ | refine Ze ?_ | refine Zd ?_ _)); refine Z5 ?_ NB192_200.out _; (with_reducible repeat (first | refine Zc ?_ _ | refine Ze ?_ | refine Zd ?_ _)); exact BK192.out) hb); have n3_ := Zh.mk (Zn (g := gb200) (o := .cells #[.int .i64 t193,.int .i64 t194,.int .i64 t195,.int .i64 t196,.int .i64 t197,.int .i64 t198] 25 (0,0)) (by (with_reducible repeat (first | refine Zc ?_ _ | refine Ze ?_ | refine Zd ?_ _)); refine Z6 (cs := #[.int .i64 t193,.int .i64 t194,.int .i64 t195,.int .i64 t196,.int .i64 t197,.int .i64 0]) ?_ 5 _ rfl; (with_reducible repeat (first | refine Zc ?_ _ | refine Ze ?_ | refine Zd ?_ _)); refine Z6 (cs := #[.int .i64 t193,.int .i64 t194,.int .i64 t195,.int .i64 t196,.int .i64 0,.int .i64 0]) ?_ 4 _ rfl; (with_reducible repeat (first | refine Zc ?_ _ | refine Ze ?_ | refine Zd ?_ _)); refine Z6 (cs := #[.int .i64 t193,.int .i64 t194,.int .i64 t195,.int .i64 0,.int .i64 0,.int .i64 0]) ?_ 3 _ rfl; (with_reducible repeat (first | refine Zc ?_ _ | refine Ze ?_ | refine Zd ?_ _)); refine Z6 (cs := #[.int .i64 t193,.int .i64 t194,.int .i64 0,.int .i64 0,.int .i64 0,.int .i64 0]) ?_ 2 _ rfl; (with_reducible repeat (first | refine Zc ?_ _ | refine Ze ?_ | refine Zd ?_ _)); refine Z6 (cs := #[.int .i64 t193,.int .i64 0,.int .i64 0,.int .i64 0,.int .i64 0,.int .i64 0]) ?_ 1 _ rfl; (with_reducible repeat (first | refine Zc ?_ _ | refine Ze ?_ | refine Zd ?_ _)); refine Z6 (cs := #[.int .i64 0,.int .i64 0,.int .i64 0,.int .i64 0,.int .i64 0,.int .i64 0]) ?_ 0 _ rfl; (with_reducible repeat (first | refine Zc ?_ _ | refine Ze ?_ | refine Zd ?_ _)); exact BK200.out) hb); have n4_ := Zh.mk (Zv (by repeat (first | (with_reducible first | exact HB.out | apply Zk | apply Zi | apply Zj | refine Zf ?_ GE190.out | refine Zf ?_ GE191.out | refine Zf ?_ GE192.out | refine Zf ?_ GE200.out) | exact HB.out)) hb); clear BK190; clear BK191; clear BK192; clear BK200; clear HB; have BK190 := n0_; have BK191 := n1_; have BK192 := n2_; have BK200 := n3_; have HB := n4_; clear n0_ n1_ n2_ n3_ n4_; (try clear hb); (try clear hb2); (try clear hk); (try clear hi)) | ((with_reducible refine ZD (N := 13) rfl ?_); (try (refine Xp (by rfl) ?_; dsimp only)); refine Z9 ?hg (N := 13) ?hd (cs := #[.int .i64 0,.int .i64 0,.int .i64 0,.int .i64 0,.int .i64 0,.int .i64 0]) (t := 25) ?hr ?_; (case hd => rfl); (case hg => rfl); (case hr => first | (go_simp; done) | (go_simp; rfl)); intro gb208 hg w30 hbox hb; have n0_ := Zh.mk (Zn (g := gb190) (o := .cells #[.int .i64 a0_0,.int .i64 a0_1,.int .i64 a0_2,.int .i64 a0_3,.int .i64 a0_4,.int .i64 a0_5,.int .i64 a0_6] 23 (0,0)) (by (with_reducible repeat (first | refine Zc ?_ _ | refine Ze ?_ | refine Zd ?_ _)); exact BK190.out) hb); have n1_ := Zh.mk (Zn (g := gb191) (o := .cells #[.int .i64 a1_0,.int .i64 a1_1,.int .i64 a1_2,.int .i64 a1_3,.int .i64 a1_4,.int .i64 a1_5,.int .i64 a1_6] 23 (0,0)) (by (with_reducible repeat (first | refine Zc ?_ _ | refine Ze ?_ | refine Zd ?_ _)); exact BK191.out) hb); have n2_ := Zh.mk (Zn (g := gb192) (o := .cells #[.int .i64 a3_0,.int .i64 a3_1,.int .i64 a3_2,.int .i64 a3_3,.int .i64 a3_4,.int .i64 a3_5] 25 (0,0)) (by (with_reducible repeat (first | refine Zc ?_ _ | refine Ze ?_ | refine Zd ?_ _)); exact BK192.out) hb); have n3_ := Zh.mk (Zn (g := gb200) (o := .cells #[.int .i64 t193,.int .i64 t194,.int .i64 t195,.int .i64 t196,.int .i64 t197,.int .i64 t198] 25 (0,0)) (by (with_reducible repeat (first | refine Zc ?_ _ | refine Ze ?_ | refine Zd ?_ _)); exact BK200.out) hb); have n4_ := Zh.mk (Zv (by repeat (first | (with_reducible first | exact HB.out | apply Zk | apply Zi | apply Zj | refine Zf ?_ GE190.out | refine Zf ?_ GE191.out | refine Zf ?_ GE192.out | refine Zf ?_ GE200.out) | exact HB.out)) hb); have n5_ := Zh.mk (hbox); have n6_ := Zh.mk ((by rw [hg]; exact (Zt (by repeat (first | (with_reducible first | exact HB.out | apply Zk | apply Zi | apply Zj | refine Zf ?_ GE190.out | refine Zf ?_ GE191.out | refine Zf ?_ GE192.out | refine Zf ?_ GE200.out) | exact HB.out))) : w.heap.size ≤ gb208)); have n7_ := Zh.mk ((by rw [hg]; exact (Zt (by repeat (first | (with_reducible first | exact HB.out | apply Zk | apply Zi | apply Zj | refine Zf ?_ GE190.out | refine Zf ?_ GE191.out | refine Zf ?_ GE192.out | refine Zf ?_ GE200.out) | exact HB.out))) : w.heap.size ≤ gb208)); have n8_ := Zh.mk ((by rw [hg]; exact Nat.ne_of_lt (ZB (g := gb190) (o := .cells #[.int .i64 a0_0,.int .i64 a0_1,.int .i64 a0_2,.int .i64 a0_3,.int .i64 a0_4,.int .i64 a0_5,.int .i64 a0_6] 23 (0,0)) (by (with_reducible repeat (first | refine Zc ?_ _ | refine Ze ?_ | refine Zd ?_ _)); exact BK190.out)) : gb190 ≠ gb208)); have n9_ := Zh.mk ((by rw [hg]; exact Nat.ne_of_gt (ZB (g := gb190) (o := .cells #[.int .i64 a0_0,.int .i64 a0_1,.int .i64 a0_2,.int .i64 a0_3,.int .i64 a0_4,.int .i64 a0_5,.int .i64 a0_6] 23 (0,0)) (by (with_reducible repeat (first | refine Zc ?_ _ | refine Ze ?_ | refine Zd ?_ _)); exact BK190.out)) : gb208 ≠ gb190)); have n10_ := Zh.mk ((by rw [hg]; exact Nat.ne_of_lt (ZB (g := gb191) (o := .cells #[.int .i64 a1_0,.int .i64 a1_1,.int .i64 a1_2,.int .i64 a1_3,.int .i64 a1_4,.int .i64 a1_5,.int .i64 a1_6] 23 (0,0)) (by (with_reducible repeat (first | refine Zc ?_ _ | refine Ze ?_ | refine Zd ?_ _)); exact BK191.out)) : gb191 ≠ gb208)); have n11_ := Zh.mk ((by rw [hg]; exact Nat.ne_of_gt (ZB (g := gb191) (o := .cells #[.int .i64 a1_0,.int .i64 a1_1,.int .i64 a1_2,.int .i64 a1_3,.int .i64 a1_4,.int .i64 a1_5,.int .i64 a1_6] 23 (0,0)) (by (with_reducible repeat (first | refine Zc ?_ _ | refine Ze ?_ | refine Zd ?_ _)); exact BK191.out)) : gb208 ≠ gb191)); have n12_ := Zh.mk ((by rw [hg]; exact Nat.ne_of_lt (ZB (g := gb192) (o := .cells #[.int .i64 a3_0,.int .i64 a3_1,.int .i64 a3_2,.int .i64 a3_3,.int .i64 a3_4,.int .i64 a3_5] 25 (0,0)) (by (with_reducible repeat (first | refine Zc ?_ _ | refine Ze ?_ | refine Zd ?_ _)); exact BK192.out)) : gb192 ≠ gb208)); have n13_ := Zh.mk ((by rw [hg]; exact Nat.ne_of_gt (ZB (g := gb192) (o := .cells #[.int .i64 a3_0,.int .i64 a3_1,.int .i64 a3_2,.int .i64 a3_3,.int .i64 a3_4,.int .i64 a3_5] 25 (0,0)) (by (with_reducible repeat (first | refine Zc ?_ _ | refine Ze ?_ | refine Zd ?_ _)); exact BK192.out)) : gb208 ≠ gb192)); have n14_ := Zh.mk ((by rw [hg]; exact Nat.ne_of_lt (ZB (g := gb200) (o := .cells #[.int .i64 t193,.int .i64 t194,.int .i64 t195,.int .i64 t196,.int .i64 t197,.int .i64 t198] 25 (0,0)) (by (with_reducible repeat (first | refine Zc ?_ _ | refine Ze ?_ | refine Zd ?_ _)); exact BK200.out)) : gb200 ≠ gb208)); have n15_ := Zh.mk ((by rw [hg]; exact Nat.ne_of_gt (ZB (g := gb200) (o := .cells #[.int .i64 t193,.int .i64 t194,.int .i64 t195,.int .i64 t196,.int .i64 t197,.int .i64 t198] 25 (0,0)) (by (with_reducible repeat (first | refine Zc ?_ _ | refine Ze ?_ | refine Zd ?_ _)); exact BK200.out)) : gb208 ≠ gb200)); clear BK190; clear BK191; clear BK192; clear BK200; clear HB; have BK190 := n0_; have BK191 := n1_; have BK192 := n2_; have BK200 := n3_; have HB := n4_; have BK208 := n5_; have GW208 := n6_; have GE208 := n7_; have NB190_208 := n8_; have NB208_190 := n9_; have NB191_208 := n10_; have NB208_191 := n11_; have NB192_208 := n12_; have NB208_192 := n13_; have NB200_208 := n14_; have NB208_200 := n15_; clear n0_ n1_ n2_ n3_ n4_ n5_ n6_ n7_ n8_ n9_ n10_ n11_ n12_ n13_ n14_ n15_; clear hb hbox hg; have hnb31 := NB208_190.out; have hnc31 := NB190_208.out; have hnb32 := NB208_191.out; have hnc32 := NB191_208.out; have hnb33 := NB208_192.out; have hnc33 := NB192_208.out; have hnb34 := NB208_200.out; have hnc34 := NB200_208.out; have hcz35_0 : w30.cell? ⟨gb208,0,none⟩ = some (.int .i64 0) := (Za BK208.out 0).trans rfl; have hcz35_1 : w30.cell? ⟨gb208,1,none⟩ = some (.int .i64 0) := (Za BK208.out 1).trans rfl; have hcz35_2 : w30.cell? ⟨gb208,2,none⟩ = some (.int .i64 0) := (Za BK208.out 2).trans rfl; have hcz35_3 : w30.cell? ⟨gb208,3,none⟩ = some (.int .i64 0) := (Za BK208.out 3).trans rfl; have hcz35_4 : w30.cell? ⟨gb208,4,none⟩ = some (.int .i64 0) := (Za BK208.out 4).trans rfl; have hcz35_5 : w30.cell? ⟨gb208,5,none⟩ = some (.int .i64 0) := (Za BK208.out 5).trans rfl; have hfz35_0 := Zb BK208.out 0; have hfz35_1 := Zb BK208.out 1; have hfz35_2 := Zb BK208.out 2; have hfz35_3 := Zb BK208.out 3; have hfz35_4 := Zb BK208.out 4; have hfz35_5 := Zb BK208.out 5; have hcz36_0 : w30.cell? ⟨gb192,0,none⟩ = some (.int .i64 a3_0) := (Za BK192.out 0).trans rfl; have hcz36_1 : w30.cell? ⟨gb192,1,none⟩ = some (.int .i64 a3_1) := (Za BK192.out 1).trans rfl; have hcz36_2 : w30.cell? ⟨gb192,2,none⟩ = some (.int .i64 a3_2) := (Za BK192.out 2).trans rfl; have hcz36_3 : w30.cell? ⟨gb192,3,none⟩ = some (.int .i64 a3_3) := (Za BK192.out 3).trans rfl; have hcz36_4 : w30.cell? ⟨gb192,4,none⟩ = some (.int .i64 a3_4) := (Za BK192.out 4).trans rfl; have hcz36_5 : w30.cell? ⟨gb192,5,none⟩ = some (.int .i64 a3_5) := (Za BK192.out 5).trans rfl; have hfz36_0 := Zb BK192.out 0; have hfz36_1 := Zb BK192.out 1; have hfz36_2 := Zb BK192.out 2; have hfz36_3 := Zb BK192.out 3; have hfz36_4 := Zb BK192.out 4; have hfz36_5 := Zb BK192.out 5; have hcz37_0 : w30.cell? ⟨gb190,0,none⟩ = some (.int .i64 a0_0) := (Za BK190.out 0).trans rfl; have hcz37_1 : w30.cell? ⟨gb190,1,none⟩ = some (.int .i64 a0_1) := (Za BK190.out 1).trans rfl; have hcz37_2 : w30.cell? ⟨gb190,2,none⟩ = some (.int .i64 a0_2) := (Za BK190.out 2).trans rfl; have hcz37_3 : w30.cell? ⟨gb190,3,none⟩ = some (.int .i64 a0_3) := (Za BK190.out 3).trans rfl; have hcz37_4 : w30.cell? ⟨gb190,4,none⟩ = some (.int .i64 a0_4) := (Za BK190.out 4).trans rfl; have hcz37_5 : w30.cell? ⟨gb190,5,none⟩ = some (.int .i64 a0_5) := (Za BK190.out 5).trans rfl; have hcz37_6 : w30.cell? ⟨gb190,6,none⟩ = some (.int .i64 a0_6) := (Za BK190.out 6).trans rfl; have hfz37_0 := Zb BK190.out 0; have hfz37_1 := Zb BK190.out 1; have hfz37_2 := Zb BK190.out 2; have hfz37_3 := Zb BK190.out 3; have hfz37_4 := Zb BK190.out 4; have hfz37_5 := Zb BK190.out 5; have hfz37_6 := Zb BK190.out 6) | ((with_reducible refine Z3 (f := 7) rfl ?_); refine ZE (some 48) rfl rfl Try.func7 (by kernel_rfl) rfl #[.agg #[.int .i64 a3_0,.int .i64 a3_1,.int .i64 a3_2,.int .i64 a3_3,.int .i64 a3_4,.int .i64 a3_5],.agg #[.int .i64 a0_0,.int .i64 a0_1,.int .i64 a0_2,.int .i64 a0_3,.int .i64 a0_4,.int .i64 a0_5,.int .i64 a0_6]] rfl (by (try simp only [List.map_toArray,List.map_cons,List.map_nil]); first | done | rfl | (simp only [List.length_drop,List.length_take]; rfl)) ?_; (with_reducible refine (Xa.calls a3_0 a3_1 a3_2 a3_3 a3_4 a3_5 a0_0 a0_1 a0_2 a0_3 a0_4 a0_5 a0_6 t209 t210 _ A8.out).mono ?_); rintro e w38 ⟨rfl,hb⟩; refine ⟨_,rfl,?_⟩; have n0_ := Zh.mk (Zn (g := gb190) (o := .cells #[.int .i64 a0_0,.int .i64 a0_1,.int .i64 a0_2,.int .i64 a0_3,.int .i64 a0_4,.int .i64 a0_5,.int .i64 a0_6] 23 (0,0)) (by (with_reducible repeat (first | refine Zc ?_ _ | refine Ze ?_ | refine Zd ?_ _)); refine Z5 ?_ NB190_208.out _; (with_reducible repeat (first | refine Zc ?_ _ | refine Ze ?_ | refine Zd ?_ _)); refine Z5 ?_ NB190_208.out _; (with_reducible repeat (first | refine Zc ?_ _ | refine Ze ?_ | refine Zd ?_ _)); refine Z5 ?_ NB190_208.out _; (with_reducible repeat (first | refine Zc ?_ _ | refine Ze ?_ | refine Zd ?_ _)); refine Z5 ?_ NB190_208.out _; (with_reducible repeat (first | refine Zc ?_ _ | refine Ze ?_ | refine Zd ?_ _)); refine Z5 ?_ NB190_208.out _; (with_reducible repeat (first | refine Zc ?_ _ | refine Ze ?_ | refine Zd ?_ _)); refine Z5 ?_ NB190_208.out _; (with_reducible repeat (first | refine Zc ?_ _ | refine Ze ?_ | refine Zd ?_ _)); exact BK190.out) hb); have n1_ := Zh.mk (Zn (g := gb191) (o := .cells #[.int .i64 a1_0,.int .i64 a1_1,.int .i64 a1_2,.int .i64 a1_3,.int .i64 a1_4,.int .i64 a1_5,.int .i64 a1_6] 23 (0,0)) (by (with_reducible repeat (first | refine Zc ?_ _ | refine Ze ?_ | refine Zd ?_ _)); refine Z5 ?_ NB191_208.out _; (with_reducible repeat (first | refine Zc ?_ _ | refine Ze ?_ | refine Zd ?_ _)); refine Z5 ?_ NB191_208.out _; (with_reducible repeat (first | refine Zc ?_ _ | refine Ze ?_ | refine Zd ?_ _)); refine Z5 ?_ NB191_208.out _; (with_reducible repeat (first | refine Zc ?_ _ | refine Ze ?_ | refine Zd ?_ _)); refine Z5 ?_ NB191_208.out _; (with_reducible repeat (first | refine Zc ?_ _ | refine Ze ?_ | refine Zd ?_ _)); refine Z5 ?_ NB191_208.out _; (with_reducible repeat (first | refine Zc ?_ _ | refine Ze ?_ | refine Zd ?_ _)); refine Z5 ?_ NB191_208.out _; (with_reducible repeat (first | refine Zc ?_ _ | refine Ze ?_ | refine Zd ?_ _)); exact BK191.out) hb); have n2_ := Zh.mk (Zn (g := gb192) (o := .cells #[.int .i64 a3_0,.int .i64 a3_1,.int .i64 a3_2,.int .i64 a3_3,.int .i64 a3_4,.int .i64 a3_5] 25 (0,0)) (by (with_reducible repeat (first | refine Zc ?_ _ | refine Ze ?_ | refine Zd ?_ _)); refine Z5 ?_ NB192_208.out _; (with_reducible repeat (first | refine Zc ?_ _ | refine Ze ?_ | refine Zd ?_ _)); refine Z5 ?_ NB192_208.out _; (with_reducible repeat (first | refine Zc ?_ _ | refine Ze ?_ | refine Zd ?_ _)); refine Z5 ?_ NB192_208.out _; (with_reducible repeat (first | refine Zc ?_ _ | refine Ze ?_ | refine Zd ?_ _)); refine Z5 ?_ NB192_208.out _; (with_reducible repeat (first | refine Zc ?_ _ | refine Ze ?_ | refine Zd ?_ _)); refine Z5 ?_ NB192_208.out _; (with_reducible repeat (first | refine Zc ?_ _ | refine Ze ?_ | refine Zd ?_ _)); refine Z5 ?_ NB192_208.out _; (with_reducible repeat (first | refine Zc ?_ _ | refine Ze ?_ | refine Zd ?_ _)); exact BK192.out) hb); have n3_ := Zh.mk (Zn (g := gb200) (o := .cells #[.int .i64 t193,.int .i64 t194,.int .i64 t195,.int .i64 t196,.int .i64 t197,.int .i64 t198] 25 (0,0)) (by (with_reducible repeat (first | refine Zc ?_ _ | refine Ze ?_ | refine Zd ?_ _)); refine Z5 ?_ NB200_208.out _; (with_reducible repeat (first | refine Zc ?_ _ | refine Ze ?_ | refine Zd ?_ _)); refine Z5 ?_ NB200_208.out _; (with_reducible repeat (first | refine Zc ?_ _ | refine Ze ?_ | refine Zd ?_ _)); refine Z5 ?_ NB200_208.out _; (with_reducible repeat (first | refine Zc ?_ _ | refine Ze ?_ | refine Zd ?_ _)); refine Z5 ?_ NB200_208.out _; (with_reducible repeat (first | refine Zc ?_ _ | refine Ze ?_ | refine Zd ?_ _)); refine Z5 ?_ NB200_208.out _; (with_reducible repeat (first | refine Zc ?_ _ | refine Ze ?_ | refine Zd ?_ _)); refine Z5 ?_ NB200_208.out _; (with_reducible repeat (first | refine Zc ?_ _ | refine Ze ?_ | refine Zd ?_ _)); exact BK200.out) hb); have n4_ := Zh.mk (Zn (g := gb208) (o := .cells #[.int .i64 t201,.int .i64 t202,.int .i64 t203,.int .i64 t204,.int .i64 t205,.int .i64 t206] 25 (0,0)) (by (with_reducible repeat (first | refine Zc ?_ _ | refine Ze ?_ | refine Zd ?_ _)); refine Z6 (cs := #[.int .i64 t201,.int .i64 t202,.int .i64 t203,.int .i64 t204,.int .i64 t205,.int .i64 0]) ?_ 5 _ rfl; (with_reducible repeat (first | refine Zc ?_ _ | refine Ze ?_ | refine Zd ?_ _)); refine Z6 (cs := #[.int .i64 t201,.int .i64 t202,.int .i64 t203,.int .i64 t204,.int .i64 0,.int .i64 0]) ?_ 4 _ rfl; (with_reducible repeat (first | refine Zc ?_ _ | refine Ze ?_ | refine Zd ?_ _)); refine Z6 (cs := #[.int .i64 t201,.int .i64 t202,.int .i64 t203,.int .i64 0,.int .i64 0,.int .i64 0]) ?_ 3 _ rfl; (with_reducible repeat (first | refine Zc ?_ _ | refine Ze ?_ | refine Zd ?_ _)); refine Z6 (cs := #[.int .i64 t201,.int .i64 t202,.int .i64 0,.int .i64 0,.int .i64 0,.int .i64 0]) ?_ 2 _ rfl; (with_reducible repeat (first | refine Zc ?_ _ | refine Ze ?_ | refine Zd ?_ _)); refine Z6 (cs := #[.int .i64 t201,.int .i64 0,.int .i64 0,.int .i64 0,.int .i64 0,.int .i64 0]) ?_ 1 _ rfl; (with_reducible repeat (first | refine Zc ?_ _ | refine Ze ?_ | refine Zd ?_ _)); refine Z6 (cs := #[.int .i64 0,.int .i64 0,.int .i64 0,.int .i64 0,.int .i64 0,.int .i64 0]) ?_ 0 _ rfl; (with_reducible repeat (first | refine Zc ?_ _ | refine Ze ?_ | refine Zd ?_ _)); exact BK208.out) hb); have n5_ := Zh.mk (Zv (by repeat (first | (with_reducible first | exact HB.out | apply Zk | apply Zi | apply Zj | refine Zf ?_ GE190.out | refine Zf ?_ GE191.out | refine Zf ?_ GE192.out | refine Zf ?_ GE200.out | refine Zf ?_ GE208.out) | exact HB.out)) hb); clear BK190; clear BK191; clear BK192; clear BK200; clear BK208; clear HB; have BK190 := n0_; have BK191 := n1_; have BK192 := n2_; have BK200 := n3_; have BK208 := n4_; have HB := n5_; clear n0_ n1_ n2_ n3_ n4_ n5_; (try clear hb); (try clear hb2); (try clear hk); (try clear hi); have hcz39_0 : w38.cell? ⟨gb192,0,none⟩ = some (.int .i64 a3_0) := (Za BK192.out 0).trans rfl; have hcz39_1 : w38.cell? ⟨gb192,1,none⟩ = some (.int .i64 a3_1) := (Za BK192.out 1).trans rfl; have hcz39_2 : w38.cell? ⟨gb192,2,none⟩ = some (.int .i64 a3_2) := (Za BK192.out 2).trans rfl; have hcz39_3 : w38.cell? ⟨gb192,3,none⟩ = some (.int .i64 a3_3) := (Za BK192.out 3).trans rfl; have hcz39_4 : w38.cell? ⟨gb192,4,none⟩ = some (.int .i64 a3_4) := (Za BK192.out 4).trans rfl; have hcz39_5 : w38.cell? ⟨gb192,5,none⟩ = some (.int .i64 a3_5) := (Za BK192.out 5).trans rfl; have hfz39_0 := Zb BK192.out 0; have hfz39_1 := Zb BK192.out 1; have hfz39_2 := Zb BK192.out 2; have hfz39_3 := Zb BK192.out 3; have hfz39_4 := Zb BK192.out 4; have hfz39_5 := Zb BK192.out 5; have hcz40_0 : w38.cell? ⟨gb190,0,none⟩ = some (.int .i64 a0_0) := (Za BK190.out 0).trans rfl; have hcz40_1 : w38.cell? ⟨gb190,1,none⟩ = some (.int .i64 a0_1) := (Za BK190.out 1).trans rfl; have hcz40_2 : w38.cell? ⟨gb190,2,none⟩ = some (.int .i64 a0_2) := (Za BK190.out 2).trans rfl; have hcz40_3 : w38.cell? ⟨gb190,3,none⟩ = some (.int .i64 a0_3) := (Za BK190.out 3).trans rfl; have hcz40_4 : w38.cell? ⟨gb190,4,none⟩ = some (.int .i64 a0_4) := (Za BK190.out 4).trans rfl; have hcz40_5 : w38.cell? ⟨gb190,5,none⟩ = some (.int .i64 a0_5) := (Za BK190.out 5).trans rfl; have hcz40_6 : w38.cell? ⟨gb190,6,none⟩ = some (.int .i64 a0_6) := (Za BK190.out 6).trans rfl; have hfz40_0 := Zb BK190.out 0; have hfz40_1 := Zb BK190.out 1; have hfz40_2 := Zb BK190.out 2; have hfz40_3 := Zb BK190.out 3; have hfz40_4 := Zb BK190.out 4; have hfz40_5 := Zb BK190.out 5; have hfz40_6 := Zb BK190.out 6) | ((with_reducible refine Z3 (f := 8) rfl ?_); refine ZE (some 54) rfl rfl Try.func8 (by kernel_rfl) rfl #[.agg #[.int .i64 a3_0,.int .i64 a3_1,.int .i64 a3_2,.int .i64 a3_3,.int .i64 a3_4,.int .i64 a3_5],.agg #[.int .i64 a0_0,.int .i64 a0_1,.int .i64 a0_2,.int .i64 a0_3,.int .i64 a0_4,.int .i64 a0_5,.int .i64 a0_6]] rfl (by (try simp only [List.map_toArray,List.map_cons,List.map_nil]); first | done | rfl | (simp only [List.length_drop,List.length_take]; rfl)) ?_; (with_reducible refine (Z4.calls k a3_0 a3_1 a3_2 a3_3 a3_4 a3_5 a0_0 a0_1 a0_2 a0_3 a0_4 a0_5 a0_6 t211 t212 _ A9.out).mono ?_); rintro e w41 ⟨rfl,hb⟩; refine ⟨_,rfl,?_⟩; have n0_ := Zh.mk (Zn (g := gb190) (o := .cells #[.int .i64 a0_0,.int .i64 a0_1,.int .i64 a0_2,.int .i64 a0_3,.int .i64 a0_4,.int .i64 a0_5,.int .i64 a0_6] 23 (0,0)) (by (with_reducible repeat (first | refine Zc ?_ _ | refine Ze ?_ | refine Zd ?_ _)); exact BK190.out) hb); have n1_ := Zh.mk (Zn (g := gb191) (o := .cells #[.int .i64 a1_0,.int .i64 a1_1,.int .i64 a1_2,.int .i64 a1_3,.int .i64 a1_4,.int .i64 a1_5,.int .i64 a1_6] 23 (0,0)) (by (with_reducible repeat (first | refine Zc ?_ _ | refine Ze ?_ | refine Zd ?_ _)); exact BK191.out) hb); have n2_ := Zh.mk (Zn (g := gb192) (o := .cells #[.int .i64 a3_0,.int .i64 a3_1,.int .i64 a3_2,.int .i64 a3_3,.int .i64 a3_4,.int .i64 a3_5] 25 (0,0)) (by (with_reducible repeat (first | refine Zc ?_ _ | refine Ze ?_ | refine Zd ?_ _)); exact BK192.out) hb); have n3_ := Zh.mk (Zn (g := gb200) (o := .cells #[.int .i64 t193,.int .i64 t194,.int .i64 t195,.int .i64 t196,.int .i64 t197,.int .i64 t198] 25 (0,0)) (by (with_reducible repeat (first | refine Zc ?_ _ | refine Ze ?_ | refine Zd ?_ _)); exact BK200.out) hb); have n4_ := Zh.mk (Zn (g := gb208) (o := .cells #[.int .i64 t201,.int .i64 t202,.int .i64 t203,.int .i64 t204,.int .i64 t205,.int .i64 t206] 25 (0,0)) (by (with_reducible repeat (first | refine Zc ?_ _ | refine Ze ?_ | refine Zd ?_ _)); exact BK208.out) hb); have n5_ := Zh.mk (Zv (by repeat (first | (with_reducible first | exact HB.out | apply Zk | apply Zi | apply Zj | refine Zf ?_ GE190.out | refine Zf ?_ GE191.out | refine Zf ?_ GE192.out | refine Zf ?_ GE200.out | refine Zf ?_ GE208.out) | exact HB.out)) hb); clear BK190; clear BK191; clear BK192; clear BK200; clear BK208; clear HB; have BK190 := n0_; have BK191 := n1_; have BK192 := n2_; have BK200 := n3_; have BK208 := n4_; have HB := n5_; clear n0_ n1_ n2_ n3_ n4_ n5_; (try clear hb); (try clear hb2); (try clear hk); (try clear hi); have hcz42_0 : w41.cell? ⟨gb192,0,none⟩ = some (.int .i64 a3_0) := (Za BK192.out 0).trans rfl; have hcz42_1 : w41.cell? ⟨gb192,1,none⟩ = some (.int .i64 a3_1) := (Za BK192.out 1).trans rfl; have hcz42_2 : w41.cell? ⟨gb192,2,none⟩ = some (.int .i64 a3_2) := (Za BK192.out 2).trans rfl; have hcz42_3 : w41.cell? ⟨gb192,3,none⟩ = some (.int .i64 a3_3) := (Za BK192.out 3).trans rfl; have hcz42_4 : w41.cell? ⟨gb192,4,none⟩ = some (.int .i64 a3_4) := (Za BK192.out 4).trans rfl; have hcz42_5 : w41.cell? ⟨gb192,5,none⟩ = some (.int .i64 a3_5) := (Za BK192.out 5).trans rfl; have hfz42_0 := Zb BK192.out 0; have hfz42_1 := Zb BK192.out 1; have hfz42_2 := Zb BK192.out 2; have hfz42_3 := Zb BK192.out 3; have hfz42_4 := Zb BK192.out 4; have hfz42_5 := Zb BK192.out 5) | ((with_reducible refine Z3 (f := 9) rfl ?_); refine ZE (some 60) rfl rfl Try.func9 (by kernel_rfl) rfl #[.agg #[.int .i64 a3_0,.int .i64 a3_1,.int .i64 a3_2,.int .i64 a3_3,.int .i64 a3_4,.int .i64 a3_5],.int .i64 a4] rfl (by (try simp only [List.map_toArray,List.map_cons,List.map_nil]); first | done | rfl | (simp only [List.length_drop,List.length_take]; rfl)) ?_; (with_reducible refine (ZR.calls a3_0 a3_1 a3_2 a3_3 a3_4 a3_5 a4 t213 t216 t217 _ A10.out).mono ?_); rintro e w43 ⟨v214,rfl,ho0,hb⟩; refine ⟨_,rfl,?_⟩; have n0_ := Zh.mk (Kd.Xw ho0 (Zt (by repeat (first | (with_reducible first | exact HB.out | apply Zk | apply Zi | apply Zj | refine Zf ?_ GE190.out | refine Zf ?_ GE191.out | refine Zf ?_ GE192.out | refine Zf ?_ GE200.out | refine Zf ?_ GE208.out) | exact HB.out)))); have n1_ := Zh.mk (Zn (g := gb190) (o := .cells #[.int .i64 a0_0,.int .i64 a0_1,.int .i64 a0_2,.int .i64 a0_3,.int .i64 a0_4,.int .i64 a0_5,.int .i64 a0_6] 23 (0,0)) (by (with_reducible repeat (first | refine Zc ?_ _ | refine Ze ?_ | refine Zd ?_ _)); exact BK190.out) hb); have n2_ := Zh.mk (Zn (g := gb191) (o := .cells #[.int .i64 a1_0,.int .i64 a1_1,.int .i64 a1_2,.int .i64 a1_3,.int .i64 a1_4,.int .i64 a1_5,.int .i64 a1_6] 23 (0,0)) (by (with_reducible repeat (first | refine Zc ?_ _ | refine Ze ?_ | refine Zd ?_ _)); exact BK191.out) hb); have n3_ := Zh.mk (Zn (g := gb192) (o := .cells #[.int .i64 a3_0,.int .i64 a3_1,.int .i64 a3_2,.int .i64 a3_3,.int .i64 a3_4,.int .i64 a3_5] 25 (0,0)) (by (with_reducible repeat (first | refine Zc ?_ _ | refine Ze ?_ | refine Zd ?_ _)); exact BK192.out) hb); have n4_ := Zh.mk (Zn (g := gb200) (o := .cells #[.int .i64 t193,.int .i64 t194,.int .i64 t195,.int .i64 t196,.int .i64 t197,.int .i64 t198] 25 (0,0)) (by (with_reducible repeat (first | refine Zc ?_ _ | refine Ze ?_ | refine Zd ?_ _)); exact BK200.out) hb); have n5_ := Zh.mk (Zn (g := gb208) (o := .cells #[.int .i64 t201,.int .i64 t202,.int .i64 t203,.int .i64 t204,.int .i64 t205,.int .i64 t206] 25 (0,0)) (by (with_reducible repeat (first | refine Zc ?_ _ | refine Ze ?_ | refine Zd ?_ _)); exact BK208.out) hb); have n6_ := Zh.mk (Zv (by repeat (first | (with_reducible first | exact HB.out | apply Zk | apply Zi | apply Zj | refine Zf ?_ GE190.out | refine Zf ?_ GE191.out | refine Zf ?_ GE192.out | refine Zf ?_ GE200.out | refine Zf ?_ GE208.out) | exact HB.out)) hb); clear BK190; clear BK191; clear BK192; clear BK200; clear BK208; clear HB; have HO215 := n0_; have BK190 := n1_; have BK191 := n2_; have BK192 := n3_; have BK200 := n4_; have BK208 := n5_; have HB := n6_; clear n0_ n1_ n2_ n3_ n4_ n5_ n6_; (try clear hb); (try clear hb2); (try clear hk); (try clear hi); (try clear ho0); have hcz44_0 : w43.cell? ⟨gb192,0,none⟩ = some (.int .i64 a3_0) := (Za BK192.out 0).trans rfl; have hcz44_1 : w43.cell? ⟨gb192,1,none⟩ = some (.int .i64 a3_1) := (Za BK192.out 1).trans rfl; have hcz44_2 : w43.cell? ⟨gb192,2,none⟩ = some (.int .i64 a3_2) := (Za BK192.out 2).trans rfl; have hcz44_3 : w43.cell? ⟨gb192,3,none⟩ = some (.int .i64 a3_3) := (Za BK192.out 3).trans rfl; have hcz44_4 : w43.cell? ⟨gb192,4,none⟩ = some (.int .i64 a3_4) := (Za BK192.out 4).trans rfl; have hcz44_5 : w43.cell? ⟨gb192,5,none⟩ = some (.int .i64 a3_5) := (Za BK192.out 5).trans rfl; have hfz44_0 := Zb BK192.out 0; have hfz44_1 := Zb BK192.out 1; have hfz44_2 := Zb BK192.out 2; have hfz44_3 := Zb BK192.out 3; have hfz44_4 := Zb BK192.out 4; have hfz44_5 := Zb BK192.out 5) | ((with_reducible refine Z3 (f := 10) rfl ?_); refine ZE (some 67) rfl rfl Try.func10 (by kernel_rfl) rfl #[.agg #[.int .i64 a3_0,.int .i64 a3_1,.int .i64 a3_2,.int .i64 a3_3,.int .i64 a3_4,.int .i64 a3_5],.int .i64 a4] rfl (by (try simp only [List.map_toArray,List.map_cons,List.map_nil]); first | done | rfl | (simp only [List.length_drop,List.length_take]; rfl)) ?_; (with_reducible refine (ZA.calls k a3_0 a3_1 a3_2 a3_3 a3_4 a3_5 a4 t218 t221 t222 _ A11.out).mono ?_); rintro e w45 ⟨v219,rfl,ho0,hb⟩; refine ⟨_,rfl,?_⟩; have n0_ := Zh.mk (Kd.QD (by (with_reducible repeat (first | apply Kd.ZH | apply Kd.ZI | apply Kd.ZG)); exact HO215.out) (Kd.S_base ho0) hb); have n1_ := Zh.mk (Kd.Xw (Kd.S_new' ho0 (Kd.S_lt (by (with_reducible repeat (first | apply Kd.ZH | apply Kd.ZI | apply Kd.ZG)); exact HO215.out))) (Zt (by repeat (first | (with_reducible first | exact HB.out | apply Zk | apply Zi | apply Zj | refine Zf ?_ GE190.out | refine Zf ?_ GE191.out | refine Zf ?_ GE192.out | refine Zf ?_ GE200.out | refine Zf ?_ GE208.out) | exact HB.out)))); have n2_ := Zh.mk (Zn (g := gb190) (o := .cells #[.int .i64 a0_0,.int .i64 a0_1,.int .i64 a0_2,.int .i64 a0_3,.int .i64 a0_4,.int .i64 a0_5,.int .i64 a0_6] 23 (0,0)) (by (with_reducible repeat (first | refine Zc ?_ _ | refine Ze ?_ | refine Zd ?_ _)); exact BK190.out) hb); have n3_ := Zh.mk (Zn (g := gb191) (o := .cells #[.int .i64 a1_0,.int .i64 a1_1,.int .i64 a1_2,.int .i64 a1_3,.int .i64 a1_4,.int .i64 a1_5,.int .i64 a1_6] 23 (0,0)) (by (with_reducible repeat (first | refine Zc ?_ _ | refine Ze ?_ | refine Zd ?_ _)); exact BK191.out) hb); have n4_ := Zh.mk (Zn (g := gb192) (o := .cells #[.int .i64 a3_0,.int .i64 a3_1,.int .i64 a3_2,.int .i64 a3_3,.int .i64 a3_4,.int .i64 a3_5] 25 (0,0)) (by (with_reducible repeat (first | refine Zc ?_ _ | refine Ze ?_ | refine Zd ?_ _)); exact BK192.out) hb); have n5_ := Zh.mk (Zn (g := gb200) (o := .cells #[.int .i64 t193,.int .i64 t194,.int .i64 t195,.int .i64 t196,.int .i64 t197,.int .i64 t198] 25 (0,0)) (by (with_reducible repeat (first | refine Zc ?_ _ | refine Ze ?_ | refine Zd ?_ _)); exact BK200.out) hb); have n6_ := Zh.mk (Zn (g := gb208) (o := .cells #[.int .i64 t201,.int .i64 t202,.int .i64 t203,.int .i64 t204,.int .i64 t205,.int .i64 t206] 25 (0,0)) (by (with_reducible repeat (first | refine Zc ?_ _ | refine Ze ?_ | refine Zd ?_ _)); exact BK208.out) hb); have n7_ := Zh.mk (Zv (by repeat (first | (with_reducible first | exact HB.out | apply Zk | apply Zi | apply Zj | refine Zf ?_ GE190.out | refine Zf ?_ GE191.out | refine Zf ?_ GE192.out | refine Zf ?_ GE200.out | refine Zf ?_ GE208.out) | exact HB.out)) hb); clear HO215; clear BK190; clear BK191; clear BK192; clear BK200; clear BK208; clear HB; have HO215 := n0_; have HO220 := n1_; have BK190 := n2_; have BK191 := n3_; have BK192 := n4_; have BK200 := n5_; have BK208 := n6_; have HB := n7_; clear n0_ n1_ n2_ n3_ n4_ n5_ n6_ n7_; (try clear hb); (try clear hb2); (try clear hk); (try clear hi); (try clear ho0)))
  (try simp only [Act.put,Yi,Yj,Yk])
  clear hfz44_5 hfz44_4 hfz44_3 hfz44_2 hfz44_1 hfz44_0 hcz44_5 hcz44_4 hcz44_3 hcz44_2 hcz44_1 hcz44_0 hfz42_5 hfz42_4 hfz42_3 hfz42_2 hfz42_1 hfz42_0 hcz42_5 hcz42_4 hcz42_3 hcz42_2 hcz42_1 hcz42_0 hfz40_6 hfz40_5 hfz40_4 hfz40_3 hfz40_2 hfz40_1 hfz40_0 hcz40_6 hcz40_5 hcz40_4 hcz40_3 hcz40_2 hcz40_1 hcz40_0 hfz39_5 hfz39_4 hfz39_3 hfz39_2 hfz39_1 hfz39_0 hcz39_5 hcz39_4 hcz39_3 hcz39_2 hcz39_1 hcz39_0 hfz37_6 hfz37_5 hfz37_4 hfz37_3 hfz37_2 hfz37_1 hfz37_0 hcz37_6 hcz37_5 hcz37_4 hcz37_3 hcz37_2 hcz37_1 hcz37_0 hfz36_5 hfz36_4 hfz36_3 hfz36_2 hfz36_1 hfz36_0 hcz36_5 hcz36_4 hcz36_3 hcz36_2 hcz36_1 hcz36_0 hfz35_5 hfz35_4 hfz35_3 hfz35_2 hfz35_1 hfz35_0 hcz35_5 hcz35_4 hcz35_3 hcz35_2 hcz35_1 hcz35_0 hnc34 hnb34 hnc33 hnb33 hnc32 hnb32 hnc31 hnb31 hfz28_6 hfz28_5 hfz28_4 hfz28_3 hfz28_2 hfz28_1 hfz28_0 hcz28_6 hcz28_5 hcz28_4 hcz28_3 hcz28_2 hcz28_1 hcz28_0 hfz27_6 hfz27_5 hfz27_4 hfz27_3 hfz27_2 hfz27_1 hfz27_0 hcz27_6 hcz27_5 hcz27_4 hcz27_3 hcz27_2 hcz27_1 hcz27_0 hfz26_5 hfz26_4 hfz26_3 hfz26_2 hfz26_1 hfz26_0 hcz26_5 hcz26_4 hcz26_3 hcz26_2 hcz26_1 hcz26_0 hnc25 hnb25 hnc24 hnb24 hnc23 hnb23 hfz20_6 hfz20_5 hfz20_4 hfz20_3 hfz20_2 hfz20_1 hfz20_0 hcz20_6 hcz20_5 hcz20_4 hcz20_3 hcz20_2 hcz20_1 hcz20_0 hnc19 hnb19 hfz18_6 hfz18_5 hfz18_4 hfz18_3 hfz18_2 hfz18_1 hfz18_0 hcz18_6 hcz18_5 hcz18_4 hcz18_3 hcz18_2 hcz18_1 hcz18_0 hnc17 hnb17 hnc16 hnb16
  go_cut [111] (fun v111 wc => ∃ (kq : Nat) (x111_11 : Bool),v111 = .bool x111_11 ∧ Zh (Zg.j0 kq a2 t207 x111_11 a0_0 a0_1 a0_2 a0_3 a0_4 a0_5 a0_6 a1_0 a1_1 a1_2 a1_3 a1_4 a1_5 a1_6 t193 t194 t195 t196 t197 t198 = some r) ∧ Zh (kq ≤ k) ∧ Zh (wc.heap[gb190]? = some (.cells #[.int .i64 a0_0,.int .i64 a0_1,.int .i64 a0_2,.int .i64 a0_3,.int .i64 a0_4,.int .i64 a0_5,.int .i64 a0_6] 23 (0,0))) ∧ Zh (wc.heap[gb191]? = some (.cells #[.int .i64 a1_0,.int .i64 a1_1,.int .i64 a1_2,.int .i64 a1_3,.int .i64 a1_4,.int .i64 a1_5,.int .i64 a1_6] 23 (0,0))) ∧ Zh (wc.heap[gb192]? = some (.cells #[.int .i64 a3_0,.int .i64 a3_1,.int .i64 a3_2,.int .i64 a3_3,.int .i64 a3_4,.int .i64 a3_5] 25 (0,0))) ∧ Zh (wc.heap[gb200]? = some (.cells #[.int .i64 t193,.int .i64 t194,.int .i64 t195,.int .i64 t196,.int .i64 t197,.int .i64 t198] 25 (0,0))) ∧ Zh (wc.heap[gb208]? = some (.cells #[.int .i64 t201,.int .i64 t202,.int .i64 t203,.int .i64 t204,.int .i64 t205,.int .i64 t206] 25 (0,0))) ∧ Zh (Below w.heap.size w wc))
  case rest =>
   clear HC12
   (try clear c1); (try clear p2); (try clear c5); (try clear c11); (try clear c12); (try clear c56); (try clear c56b0); (try clear c56b1); (try clear HO220); (try clear HO215); (try clear w45); (try clear w43); (try clear w41); (try clear w38); (try clear NB208_192); (try clear NB192_208); (try clear GW208); (try clear w30); (try clear w29); (try clear GW200); (try clear w22); (try clear w21); (try clear GW192); (try clear w15); (try clear GW191); (try clear w14); (try clear GW190); (try clear w13); (try clear A11); (try clear t218); (try clear A10); (try clear t213); (try clear A9); (try clear A8); (try clear A7); (try clear A6); (try clear hu25); (try clear hu23)
   revert t193 t194 t195 t196 t197 t198 t199 t201 t202 t203 t204 t205 t206 t207 t209 t210 t211 t212 t216 t217 t221 t222 gb190 GE190 gb191 GE191 NB190_191 NB191_190 gb192 GE192 NB190_192 NB192_190 NB191_192 NB192_191 gb200 GE200 NB190_200 NB200_190 NB191_200 NB200_191 NB192_200 NB200_192 gb208 GE208 NB190_208 NB208_190 NB191_208 NB208_191 NB200_208 NB208_200 v214 v219 BK190 BK191 BK192 BK200 BK208 HB wc u31 u32 u33 u34 u35 u36 u37 u38 u39 u40 u41 u42 u43 u44 u45 u46 u47 u48 u49 u50 u51 u52 u53 u54 u55 u56 u57 u58 u59 u60 u61 u62 u63 u64 u65 u66 u67 u68 u69 u70 u71 u72 u73 u74 u75 u76 u77 u78 u79 u80 u81 u82 u83 u84 u85 u86 u87 u88 u89 u90 u91 u92 u93 u94 u95 u96 u97 u98 u99 u100 u101 u102 u103 u104 u105 u106 u107 u108 u109 u110 u111 u112 u113 u114 u115 u116 u117 u118 u119 u120 u121 u122 u123 u124 u125 u126 u127 u128 u129 u130 u131 u132 u133 u134 u135 u136 u137 u138 u139 u140 u141 u142 u143 u144 u145 u146 u147 u148 u149 u150 u151 u152 u153 u154 u155 u156 u157 u158 u159 u160 u161 u162 u163 u164 u165 u166 u167 u168 u169 u170 u171 u172 u173 u174 u175 u176 u177 u178 u179 u180 u181 u182 u183 u184 u185 u186 u187 u188 u189 u190 u191 u192 u193 u194 u195 u196 u197 u198 u199 u200 u201 u202 u203 u204 u205 u206 u207 u208 u209 u210 u211 u212 u213 u214 u215 u216 u217 u218 u219 u220 u221 u222 u223 u224 u225 u226 hcut
   rename_i Q_ K1_ a1_ K2_ a2_
   revert Q_ K1_ a1_ K2_ a2_
   try revert w13
   try revert w14
   try revert w15
   try revert w21
   try revert w22
   try revert w29
   try revert w30
   try revert w38
   try revert w41
   try revert w43
   try revert w45
   exact hR
  case first =>
   clear hR; have H := HC12.out; clear HC12; replace H := Option.bind_eq_some_iff.mp H; obtain ⟨t223,A460,H⟩ := H; replace H : ((Zs.f k a0_0 a0_1 a0_2 a0_3 a0_4 a0_5 a0_6).bind fun t224 => (if (t223 != t224) = true then (Zg.j0 k a2 t207 true a0_0 a0_1 a0_2 a0_3 a0_4 a0_5 a0_6 a1_0 a1_1 a1_2 a1_3 a1_4 a1_5 a1_6 t193 t194 t195 t196 t197 t198) else (if (!(t193 == t201) || (!(t194 == t202) || (!(t195 == t203) || (!(t196 == t204) || (!(t197 == t205) || (!(t198 == t206))))))) = true then (Zg.j0 k a2 t207 true a0_0 a0_1 a0_2 a0_3 a0_4 a0_5 a0_6 a1_0 a1_1 a1_2 a1_3 a1_4 a1_5 a1_6 t193 t194 t195 t196 t197 t198) else (if t199 = t207 then (if (t209 != t211) = true then (Zg.j0 k a2 t207 true a0_0 a0_1 a0_2 a0_3 a0_4 a0_5 a0_6 a1_0 a1_1 a1_2 a1_3 a1_4 a1_5 a1_6 t193 t194 t195 t196 t197 t198) else (if t210 = t212 then ((Zr.f k t213 t218).bind fun t225 => (if t225 = true then (if t216 = t221 then (Zg.j0 k a2 t207 (t217 != t222) a0_0 a0_1 a0_2 a0_3 a0_4 a0_5 a0_6 a1_0 a1_1 a1_2 a1_3 a1_4 a1_5 a1_6 t193 t194 t195 t196 t197 t198) else (Zg.j0 k a2 t207 true a0_0 a0_1 a0_2 a0_3 a0_4 a0_5 a0_6 a1_0 a1_1 a1_2 a1_3 a1_4 a1_5 a1_6 t193 t194 t195 t196 t197 t198)) else (Zg.j0 k a2 t207 true a0_0 a0_1 a0_2 a0_3 a0_4 a0_5 a0_6 a1_0 a1_1 a1_2 a1_3 a1_4 a1_5 a1_6 t193 t194 t195 t196 t197 t198))) else (Zg.j0 k a2 t207 true a0_0 a0_1 a0_2 a0_3 a0_4 a0_5 a0_6 a1_0 a1_1 a1_2 a1_3 a1_4 a1_5 a1_6 t193 t194 t195 t196 t197 t198))) else (Zg.j0 k a2 t207 true a0_0 a0_1 a0_2 a0_3 a0_4 a0_5 a0_6 a1_0 a1_1 a1_2 a1_3 a1_4 a1_5 a1_6 t193 t194 t195 t196 t197 t198))))) = some r := H; have A46 := Zh.mk A460; clear A460; replace H := Option.bind_eq_some_iff.mp H; obtain ⟨t224,A470,H⟩ := H; replace H : (if (t223 != t224) = true then (Zg.j0 k a2 t207 true a0_0 a0_1 a0_2 a0_3 a0_4 a0_5 a0_6 a1_0 a1_1 a1_2 a1_3 a1_4 a1_5 a1_6 t193 t194 t195 t196 t197 t198) else (if (!(t193 == t201) || (!(t194 == t202) || (!(t195 == t203) || (!(t196 == t204) || (!(t197 == t205) || (!(t198 == t206))))))) = true then (Zg.j0 k a2 t207 true a0_0 a0_1 a0_2 a0_3 a0_4 a0_5 a0_6 a1_0 a1_1 a1_2 a1_3 a1_4 a1_5 a1_6 t193 t194 t195 t196 t197 t198) else (if t199 = t207 then (if (t209 != t211) = true then (Zg.j0 k a2 t207 true a0_0 a0_1 a0_2 a0_3 a0_4 a0_5 a0_6 a1_0 a1_1 a1_2 a1_3 a1_4 a1_5 a1_6 t193 t194 t195 t196 t197 t198) else (if t210 = t212 then ((Zr.f k t213 t218).bind fun t225 => (if t225 = true then (if t216 = t221 then (Zg.j0 k a2 t207 (t217 != t222) a0_0 a0_1 a0_2 a0_3 a0_4 a0_5 a0_6 a1_0 a1_1 a1_2 a1_3 a1_4 a1_5 a1_6 t193 t194 t195 t196 t197 t198) else (Zg.j0 k a2 t207 true a0_0 a0_1 a0_2 a0_3 a0_4 a0_5 a0_6 a1_0 a1_1 a1_2 a1_3 a1_4 a1_5 a1_6 t193 t194 t195 t196 t197 t198)) else (Zg.j0 k a2 t207 true a0_0 a0_1 a0_2 a0_3 a0_4 a0_5 a0_6 a1_0 a1_1 a1_2 a1_3 a1_4 a1_5 a1_6 t193 t194 t195 t196 t197 t198))) else (Zg.j0 k a2 t207 true a0_0 a0_1 a0_2 a0_3 a0_4 a0_5 a0_6 a1_0 a1_1 a1_2 a1_3 a1_4 a1_5 a1_6 t193 t194 t195 t196 t197 t198))) else (Zg.j0 k a2 t207 true a0_0 a0_1 a0_2 a0_3 a0_4 a0_5 a0_6 a1_0 a1_1 a1_2 a1_3 a1_4 a1_5 a1_6 t193 t194 t195 t196 t197 t198)))) = some r := H; have A47 := Zh.mk A470; clear A470
   by_cases c48 : (t223 != t224) = true
   · rw [if_pos c48] at H
     have c48b0 : (t223 != t224) = true := c48
     (try (have c48b1 : decide (t223 = t224) = false := by simpa using c48))
     (try (have c48b2 : (t223 == t224) = false := by simpa using c48))
     (try (have c48b3 : ¬ (t223 = t224) := by simpa using c48))
     clear c48
     (first | rw [c48b0] | (simp only [i64_w,i32_w]; rw [c48b0]) | skip)
     have H' := Zh.mk H; clear H
     try go_wp2
     have n0_ := Zh.mk (Kd.ZG HO215.out); have n1_ := Zh.mk (Kd.ZG HO220.out); have n2_ := Zh.mk (Ze BK190.out); have n3_ := Zh.mk (Ze BK191.out); have n4_ := Zh.mk (Ze BK192.out); have n5_ := Zh.mk (Ze BK200.out); have n6_ := Zh.mk (Ze BK208.out); have n7_ := Zh.mk (Zj HB.out); clear HO215; clear HO220; clear BK190; clear BK191; clear BK192; clear BK200; clear BK208; clear HB; have HO215 := n0_; have HO220 := n1_; have BK190 := n2_; have BK191 := n3_; have BK192 := n4_; have BK200 := n5_; have BK208 := n6_; have HB := n7_; clear n0_ n1_ n2_ n3_ n4_ n5_ n6_ n7_; refine Xk (n := 41) (S := fun w' => w'.cell? ⟨gb190,0,none⟩ = some (.int .i64 a0_0) ∧ w'.cell? ⟨gb190,1,none⟩ = some (.int .i64 a0_1) ∧ w'.cell? ⟨gb190,2,none⟩ = some (.int .i64 a0_2) ∧ w'.cell? ⟨gb190,3,none⟩ = some (.int .i64 a0_3) ∧ w'.cell? ⟨gb190,4,none⟩ = some (.int .i64 a0_4) ∧ w'.cell? ⟨gb190,5,none⟩ = some (.int .i64 a0_5) ∧ w'.cell? ⟨gb190,6,none⟩ = some (.int .i64 a0_6)) (ds := []) Yl (by kernel_rfl) rfl rfl ⟨(Za BK190.out 0).trans rfl,(Za BK190.out 1).trans rfl,(Za BK190.out 2).trans rfl,(Za BK190.out 3).trans rfl,(Za BK190.out 4).trans rfl,(Za BK190.out 5).trans rfl,(Za BK190.out 6).trans rfl⟩ (fun hHeld => ?_); refine Xb Zg.tab7 Zg.bits7 (fun HT_ HW_ => ?_); generalize w45.drew = w49 at HO215 HO220 BK190 BK191 BK192 BK200 BK208 HB hHeld ⊢; refine take_ (i := 0) (N := some 71) (v := ?_) (a' := ?_) Ym rfl rfl (Z8 HT_.out HW_.out (by kernel_rfl)) (fun _ _ _ h => h) (Or.inl ⟨by rfl,?_⟩) hHeld ?_ ?_; rotate_left
     · rintro w' ⟨s0,s1,s2,s3,s4,s5,s6⟩
       go_simp; with_reducible rfl
     rotate_left
     · simp only [Act.put,Yi,Yj,Yk,i64_w,i32_w]
       rfl
     refine take_ (i := 2) (N := some 73) (v := ?_) (a' := ?_) Yn rfl rfl (Z8 HT_.out HW_.out (by kernel_rfl)) (fun _ _ _ h => h) (Or.inl ⟨by rfl,?_⟩) hHeld ?_ ?_; rotate_left
     · rintro w' ⟨s0,s1,s2,s3,s4,s5,s6⟩
       go_simp; with_reducible rfl
     rotate_left
     · simp only [Act.put,Yi,Yj,Yk,i64_w,i32_w]
       rfl
     refine one_ (i := 1) (N := some 72) Yo rfl rfl (Xd HT_.out (by kernel_rfl)) (by decide) (fun K hK => ?_); refine goes_ Try.func11 (by kernel_rfl) rfl #[.agg #[.int .i64 a0_0,.int .i64 a0_1,.int .i64 a0_2,.int .i64 a0_3,.int .i64 a0_4,.int .i64 a0_5,.int .i64 a0_6]] (by rfl) rfl rfl (by (try simp only [List.map_toArray,List.map_cons,List.map_nil]); first | done | rfl | (simp only [List.length_drop,List.length_take]; rfl)) ?_
     with_reducible refine (ZC.calls a0_0 a0_1 a0_2 a0_3 a0_4 a0_5 a0_6 t223 _ A46.out).mono ?_
     rintro e w50 ⟨rfl,hb⟩; refine ⟨_,rfl,?_⟩; have n0_ := Zh.mk (Kd.ZN (by (with_reducible repeat (first | apply Kd.ZH | apply Kd.ZI | apply Kd.ZG)); exact HO215.out) hb); have n1_ := Zh.mk (Kd.ZN (by (with_reducible repeat (first | apply Kd.ZH | apply Kd.ZI | apply Kd.ZG)); exact HO220.out) hb); have n2_ := Zh.mk (Zn (g := gb190) (o := .cells #[.int .i64 a0_0,.int .i64 a0_1,.int .i64 a0_2,.int .i64 a0_3,.int .i64 a0_4,.int .i64 a0_5,.int .i64 a0_6] 23 (0,0)) (by (with_reducible repeat (first | refine Zc ?_ _ | refine Ze ?_ | refine Zd ?_ _)); exact BK190.out) hb); have n3_ := Zh.mk (Zn (g := gb191) (o := .cells #[.int .i64 a1_0,.int .i64 a1_1,.int .i64 a1_2,.int .i64 a1_3,.int .i64 a1_4,.int .i64 a1_5,.int .i64 a1_6] 23 (0,0)) (by (with_reducible repeat (first | refine Zc ?_ _ | refine Ze ?_ | refine Zd ?_ _)); exact BK191.out) hb); have n4_ := Zh.mk (Zn (g := gb192) (o := .cells #[.int .i64 a3_0,.int .i64 a3_1,.int .i64 a3_2,.int .i64 a3_3,.int .i64 a3_4,.int .i64 a3_5] 25 (0,0)) (by (with_reducible repeat (first | refine Zc ?_ _ | refine Ze ?_ | refine Zd ?_ _)); exact BK192.out) hb); have n5_ := Zh.mk (Zn (g := gb200) (o := .cells #[.int .i64 t193,.int .i64 t194,.int .i64 t195,.int .i64 t196,.int .i64 t197,.int .i64 t198] 25 (0,0)) (by (with_reducible repeat (first | refine Zc ?_ _ | refine Ze ?_ | refine Zd ?_ _)); exact BK200.out) hb); have n6_ := Zh.mk (Zn (g := gb208) (o := .cells #[.int .i64 t201,.int .i64 t202,.int .i64 t203,.int .i64 t204,.int .i64 t205,.int .i64 t206] 25 (0,0)) (by (with_reducible repeat (first | refine Zc ?_ _ | refine Ze ?_ | refine Zd ?_ _)); exact BK208.out) hb); have n7_ := Zh.mk (Zv (by repeat (first | (with_reducible first | exact HB.out | apply Zk | apply Zi | apply Zj | refine Zf ?_ GE190.out | refine Zf ?_ GE191.out | refine Zf ?_ GE192.out | refine Zf ?_ GE200.out | refine Zf ?_ GE208.out) | exact HB.out)) hb); clear HO215; clear HO220; clear BK190; clear BK191; clear BK192; clear BK200; clear BK208; clear HB; have HO215 := n0_; have HO220 := n1_; have BK190 := n2_; have BK191 := n3_; have BK192 := n4_; have BK200 := n5_; have BK208 := n6_; have HB := n7_; clear n0_ n1_ n2_ n3_ n4_ n5_ n6_ n7_
     (try clear hb)
     (try clear hb2)
     (try clear hk)
     (try clear hi)
     refine hK.out _ _ ⟨(Za BK190.out 0).trans rfl,(Za BK190.out 1).trans rfl,(Za BK190.out 2).trans rfl,(Za BK190.out 3).trans rfl,(Za BK190.out 4).trans rfl,(Za BK190.out 5).trans rfl,(Za BK190.out 6).trans rfl⟩ (fun hHeld => ?_); clear hK K; refine norm_ (a' := ?_) ?_ ?_; rotate_left
     · show Act.put _ (some 72) _ = _
       simp only [Act.put,Yi,Yj,Yk,i64_w,i32_w]; rfl
     refine one_ (i := 3) (N := some 74) Yp rfl rfl (Xd HT_.out (by kernel_rfl)) (by decide) (fun K hK => ?_); refine goes_ Try.func12 (by kernel_rfl) rfl #[.agg #[.int .i64 a0_0,.int .i64 a0_1,.int .i64 a0_2,.int .i64 a0_3,.int .i64 a0_4,.int .i64 a0_5,.int .i64 a0_6]] (by rfl) rfl rfl (by (try simp only [List.map_toArray,List.map_cons,List.map_nil]); first | done | rfl | (simp only [List.length_drop,List.length_take]; rfl)) ?_
     with_reducible refine (Zs.calls k a0_0 a0_1 a0_2 a0_3 a0_4 a0_5 a0_6 t224 _ A47.out).mono ?_
     rintro e w51 ⟨rfl,hb⟩; refine ⟨_,rfl,?_⟩; have n0_ := Zh.mk (Kd.ZN (by (with_reducible repeat (first | apply Kd.ZH | apply Kd.ZI | apply Kd.ZG)); exact HO215.out) hb); have n1_ := Zh.mk (Kd.ZN (by (with_reducible repeat (first | apply Kd.ZH | apply Kd.ZI | apply Kd.ZG)); exact HO220.out) hb); have n2_ := Zh.mk (Zn (g := gb190) (o := .cells #[.int .i64 a0_0,.int .i64 a0_1,.int .i64 a0_2,.int .i64 a0_3,.int .i64 a0_4,.int .i64 a0_5,.int .i64 a0_6] 23 (0,0)) (by (with_reducible repeat (first | refine Zc ?_ _ | refine Ze ?_ | refine Zd ?_ _)); exact BK190.out) hb); have n3_ := Zh.mk (Zn (g := gb191) (o := .cells #[.int .i64 a1_0,.int .i64 a1_1,.int .i64 a1_2,.int .i64 a1_3,.int .i64 a1_4,.int .i64 a1_5,.int .i64 a1_6] 23 (0,0)) (by (with_reducible repeat (first | refine Zc ?_ _ | refine Ze ?_ | refine Zd ?_ _)); exact BK191.out) hb); have n4_ := Zh.mk (Zn (g := gb192) (o := .cells #[.int .i64 a3_0,.int .i64 a3_1,.int .i64 a3_2,.int .i64 a3_3,.int .i64 a3_4,.int .i64 a3_5] 25 (0,0)) (by (with_reducible repeat (first | refine Zc ?_ _ | refine Ze ?_ | refine Zd ?_ _)); exact BK192.out) hb); have n5_ := Zh.mk (Zn (g := gb200) (o := .cells #[.int .i64 t193,.int .i64 t194,.int .i64 t195,.int .i64 t196,.int .i64 t197,.int .i64 t198] 25 (0,0)) (by (with_reducible repeat (first | refine Zc ?_ _ | refine Ze ?_ | refine Zd ?_ _)); exact BK200.out) hb); have n6_ := Zh.mk (Zn (g := gb208) (o := .cells #[.int .i64 t201,.int .i64 t202,.int .i64 t203,.int .i64 t204,.int .i64 t205,.int .i64 t206] 25 (0,0)) (by (with_reducible repeat (first | refine Zc ?_ _ | refine Ze ?_ | refine Zd ?_ _)); exact BK208.out) hb); have n7_ := Zh.mk (Zv (by repeat (first | (with_reducible first | exact HB.out | apply Zk | apply Zi | apply Zj | refine Zf ?_ GE190.out | refine Zf ?_ GE191.out | refine Zf ?_ GE192.out | refine Zf ?_ GE200.out | refine Zf ?_ GE208.out) | exact HB.out)) hb); clear HO215; clear HO220; clear BK190; clear BK191; clear BK192; clear BK200; clear BK208; clear HB; have HO215 := n0_; have HO220 := n1_; have BK190 := n2_; have BK191 := n3_; have BK192 := n4_; have BK200 := n5_; have BK208 := n6_; have HB := n7_; clear n0_ n1_ n2_ n3_ n4_ n5_ n6_ n7_
     (try clear hb)
     (try clear hb2)
     (try clear hk)
     (try clear hi)
     refine hK.out _ _ ⟨(Za BK190.out 0).trans rfl,(Za BK190.out 1).trans rfl,(Za BK190.out 2).trans rfl,(Za BK190.out 3).trans rfl,(Za BK190.out 4).trans rfl,(Za BK190.out 5).trans rfl,(Za BK190.out 6).trans rfl⟩ (fun hHeld => ?_); clear hK K; refine norm_ (a' := ?_) ?_ ?_; rotate_left
     · show Act.put _ (some 74) _ = _
       simp only [Act.put,Yi,Yj,Yk,i64_w,i32_w]; rfl
     refine pure_ (i := 4) (N := some 75) (v := ?_) (a' := ?_) Yq rfl rfl (Zo HT_.out (by kernel_rfl)) (fun _ _ _ h => h) (Or.inl ⟨by rfl,?_⟩) ?_ ?_; rotate_left
     · intro w'
       go_simp; with_reducible rfl
     rotate_left
     · simp only [Act.put,Yi,Yj,Yk,i64_w,i32_w]
       rfl
     refine pure_ (i := 5) (N := some 76) (v := ?_) (a' := ?_) Yr rfl rfl (Zo HT_.out (by kernel_rfl)) (fun _ _ _ h => h) (Or.inl ⟨by rfl,?_⟩) ?_ ?_; rotate_left
     · intro w'
       go_simp; with_reducible rfl
     rotate_left
     · simp only [Act.put,Yi,Yj,Yk,i64_w,i32_w]
       rfl
     refine pure_ (i := 6) (N := some 77) (v := undef) (a' := ?_) Ys rfl rfl (Zo HT_.out (by kernel_rfl)) (fun _ _ _ h => h) (Or.inr ⟨by rfl,rfl⟩) ?_ ?_; rotate_left
     · simp only [Act.put,Yi,Yj,Yk,i64_w,i32_w]
       rfl
     refine pure_ (i := 7) (N := some 78) (v := undef) (a' := ?_) Yt rfl rfl (Zo HT_.out (by kernel_rfl)) (fun _ _ _ h => h) (Or.inr ⟨by rfl,rfl⟩) ?_ ?_; rotate_left
     · simp only [Act.put,Yi,Yj,Yk,i64_w,i32_w]
       rfl
     refine pure_ (i := 8) (N := some 79) (v := undef) (a' := ?_) Yu rfl rfl (Zo HT_.out (by kernel_rfl)) (fun _ _ _ h => h) (Or.inr ⟨by rfl,rfl⟩) ?_ ?_; rotate_left
     · simp only [Act.put,Yi,Yj,Yk,i64_w,i32_w]
       rfl
     refine pure_ (i := 9) (N := some 80) (v := ?_) (a' := ?_) Yv rfl rfl (Zo HT_.out (by kernel_rfl)) (fun _ _ _ h => h) (Or.inl ⟨by rfl,?_⟩) ?_ ?_; rotate_left
     · intro w'
       go_simp; with_reducible rfl
     rotate_left
     · simp only [Act.put,Yi,Yj,Yk,i64_w,i32_w]
       rfl
     refine pure_ (i := 10) (N := some 81) (v := ?_) (a' := ?_) Yw rfl rfl (Zo HT_.out (by kernel_rfl)) (fun _ _ _ h => h) (Or.inl ⟨by rfl,?_⟩) ?_ ?_; rotate_left
     · intro w'
       go_simp; with_reducible rfl
     rotate_left
     · simp only [Act.put,Yi,Yj,Yk,i64_w,i32_w]
       rfl
     refine pure_ (i := 11) (N := some 82) (v := undef) (a' := ?_) Yx rfl rfl (Zo HT_.out (by kernel_rfl)) (fun _ _ _ h => h) (Or.inr ⟨by rfl,rfl⟩) ?_ ?_; rotate_left
     · simp only [Act.put,Yi,Yj,Yk,i64_w,i32_w]
       rfl
     refine pure_ (i := 12) (N := some 83) (v := undef) (a' := ?_) Yy rfl rfl (Zo HT_.out (by kernel_rfl)) (fun _ _ _ h => h) (Or.inr ⟨by rfl,rfl⟩) ?_ ?_; rotate_left
     · simp only [Act.put,Yi,Yj,Yk,i64_w,i32_w]
       rfl
     refine pure_ (i := 13) (N := some 84) (v := undef) (a' := ?_) Yz rfl rfl (Zo HT_.out (by kernel_rfl)) (fun _ _ _ h => h) (Or.inr ⟨by rfl,rfl⟩) ?_ ?_; rotate_left
     · simp only [Act.put,Yi,Yj,Yk,i64_w,i32_w]
       rfl
     refine pure_ (i := 14) (N := some 85) (v := ?_) (a' := ?_) Y0 rfl rfl (Zo HT_.out (by kernel_rfl)) (fun _ _ _ h => h) (Or.inl ⟨by rfl,?_⟩) ?_ ?_; rotate_left
     · intro w'
       go_simp; with_reducible rfl
     rotate_left
     · simp only [Act.put,Yi,Yj,Yk,i64_w,i32_w]
       rfl
     refine pure_ (i := 15) (N := some 86) (v := ?_) (a' := ?_) Y1 rfl rfl (Zo HT_.out (by kernel_rfl)) (fun _ _ _ h => h) (Or.inl ⟨by rfl,?_⟩) ?_ ?_; rotate_left
     · intro w'
       go_simp; with_reducible rfl
     rotate_left
     · simp only [Act.put,Yi,Yj,Yk,i64_w,i32_w]
       rfl
     refine pure_ (i := 16) (N := some 87) (v := undef) (a' := ?_) Y2 rfl rfl (Zo HT_.out (by kernel_rfl)) (fun _ _ _ h => h) (Or.inr ⟨by rfl,rfl⟩) ?_ ?_; rotate_left
     · simp only [Act.put,Yi,Yj,Yk,i64_w,i32_w]
       rfl
     refine pure_ (i := 17) (N := some 88) (v := undef) (a' := ?_) Y3 rfl rfl (Zo HT_.out (by kernel_rfl)) (fun _ _ _ h => h) (Or.inr ⟨by rfl,rfl⟩) ?_ ?_; rotate_left
     · simp only [Act.put,Yi,Yj,Yk,i64_w,i32_w]
       rfl
     refine pure_ (i := 18) (N := some 89) (v := undef) (a' := ?_) Y4 rfl rfl (Zo HT_.out (by kernel_rfl)) (fun _ _ _ h => h) (Or.inr ⟨by rfl,rfl⟩) ?_ ?_; rotate_left
     · simp only [Act.put,Yi,Yj,Yk,i64_w,i32_w]
       rfl
     refine pure_ (i := 19) (N := some 90) (v := ?_) (a' := ?_) Y5 rfl rfl (Zo HT_.out (by kernel_rfl)) (fun _ _ _ h => h) (Or.inl ⟨by rfl,?_⟩) ?_ ?_; rotate_left
     · intro w'
       go_simp; with_reducible rfl
     rotate_left
     · simp only [Act.put,Yi,Yj,Yk,i64_w,i32_w]
       rfl
     refine pure_ (i := 20) (N := some 91) (v := ?_) (a' := ?_) Y6 rfl rfl (Zo HT_.out (by kernel_rfl)) (fun _ _ _ h => h) (Or.inl ⟨by rfl,?_⟩) ?_ ?_; rotate_left
     · intro w'
       go_simp; with_reducible rfl
     rotate_left
     · simp only [Act.put,Yi,Yj,Yk,i64_w,i32_w]
       rfl
     refine pure_ (i := 21) (N := some 92) (v := undef) (a' := ?_) Y7 rfl rfl (Zo HT_.out (by kernel_rfl)) (fun _ _ _ h => h) (Or.inr ⟨by rfl,rfl⟩) ?_ ?_; rotate_left
     · simp only [Act.put,Yi,Yj,Yk,i64_w,i32_w]
       rfl
     refine pure_ (i := 22) (N := some 93) (v := undef) (a' := ?_) Y8 rfl rfl (Zo HT_.out (by kernel_rfl)) (fun _ _ _ h => h) (Or.inr ⟨by rfl,rfl⟩) ?_ ?_; rotate_left
     · simp only [Act.put,Yi,Yj,Yk,i64_w,i32_w]
       rfl
     refine pure_ (i := 23) (N := some 94) (v := undef) (a' := ?_) Y9 rfl rfl (Zo HT_.out (by kernel_rfl)) (fun _ _ _ h => h) (Or.inr ⟨by rfl,rfl⟩) ?_ ?_; rotate_left
     · simp only [Act.put,Yi,Yj,Yk,i64_w,i32_w]
       rfl
     refine pure_ (i := 24) (N := some 95) (v := ?_) (a' := ?_) YA rfl rfl (Zo HT_.out (by kernel_rfl)) (fun _ _ _ h => h) (Or.inl ⟨by rfl,?_⟩) ?_ ?_; rotate_left
     · intro w'
       go_simp; with_reducible rfl
     rotate_left
     · simp only [Act.put,Yi,Yj,Yk,i64_w,i32_w]
       rfl
     refine pure_ (i := 25) (N := some 96) (v := ?_) (a' := ?_) YB rfl rfl (Zo HT_.out (by kernel_rfl)) (fun _ _ _ h => h) (Or.inl ⟨by rfl,?_⟩) ?_ ?_; rotate_left
     · intro w'
       go_simp; with_reducible rfl
     rotate_left
     · simp only [Act.put,Yi,Yj,Yk,i64_w,i32_w]
       rfl
     refine pure_ (i := 26) (N := some 97) (v := undef) (a' := ?_) YC rfl rfl (Zo HT_.out (by kernel_rfl)) (fun _ _ _ h => h) (Or.inr ⟨by rfl,rfl⟩) ?_ ?_; rotate_left
     · simp only [Act.put,Yi,Yj,Yk,i64_w,i32_w]
       rfl
     refine pure_ (i := 27) (N := some 98) (v := undef) (a' := ?_) YD rfl rfl (Zo HT_.out (by kernel_rfl)) (fun _ _ _ h => h) (Or.inr ⟨by rfl,rfl⟩) ?_ ?_; rotate_left
     · simp only [Act.put,Yi,Yj,Yk,i64_w,i32_w]
       rfl
     refine pure_ (i := 28) (N := some 99) (v := undef) (a' := ?_) YE rfl rfl (Zo HT_.out (by kernel_rfl)) (fun _ _ _ h => h) (Or.inr ⟨by rfl,rfl⟩) ?_ ?_; rotate_left
     · simp only [Act.put,Yi,Yj,Yk,i64_w,i32_w]
       rfl
     refine pure_ (i := 29) (N := some 100) (v := undef) (a' := ?_) YF rfl rfl (Zo HT_.out (by kernel_rfl)) (fun _ _ _ h => h) (Or.inr ⟨by rfl,rfl⟩) ?_ ?_; rotate_left
     · simp only [Act.put,Yi,Yj,Yk,i64_w,i32_w]
       rfl
     refine pure_ (i := 30) (N := some 101) (v := ?_) (a' := ?_) YG rfl rfl (Zo HT_.out (by kernel_rfl)) (fun _ _ _ h => h) (Or.inl ⟨by rfl,?_⟩) ?_ ?_; rotate_left
     · intro w'
       go_simp; with_reducible rfl
     rotate_left
     · simp only [Act.put,Yi,Yj,Yk,i64_w,i32_w]
       rfl
     refine pure_ (i := 31) (N := some 102) (v := ?_) (a' := ?_) YH rfl rfl (Zo HT_.out (by kernel_rfl)) (fun _ _ _ h => h) (Or.inl ⟨by rfl,?_⟩) ?_ ?_; rotate_left
     · intro w'
       go_simp; with_reducible rfl
     rotate_left
     · simp only [Act.put,Yi,Yj,Yk,i64_w,i32_w]
       rfl
     refine pure_ (i := 32) (N := some 103) (v := undef) (a' := ?_) YI rfl rfl (Zo HT_.out (by kernel_rfl)) (fun _ _ _ h => h) (Or.inr ⟨by rfl,rfl⟩) ?_ ?_; rotate_left
     · simp only [Act.put,Yi,Yj,Yk,i64_w,i32_w]
       rfl
     refine pure_ (i := 33) (N := some 104) (v := undef) (a' := ?_) YJ rfl rfl (Zo HT_.out (by kernel_rfl)) (fun _ _ _ h => h) (Or.inr ⟨by rfl,rfl⟩) ?_ ?_; rotate_left
     · simp only [Act.put,Yi,Yj,Yk,i64_w,i32_w]
       rfl
     refine pure_ (i := 34) (N := some 105) (v := undef) (a' := ?_) YK rfl rfl (Zo HT_.out (by kernel_rfl)) (fun _ _ _ h => h) (Or.inr ⟨by rfl,rfl⟩) ?_ ?_; rotate_left
     · simp only [Act.put,Yi,Yj,Yk,i64_w,i32_w]
       rfl
     refine pure_ (i := 35) (N := some 106) (v := ?_) (a' := ?_) YL rfl rfl (Zo HT_.out (by kernel_rfl)) (fun _ _ _ h => h) (Or.inl ⟨by rfl,?_⟩) ?_ ?_; rotate_left
     · intro w'
       go_simp; with_reducible rfl
     rotate_left
     · simp only [Act.put,Yi,Yj,Yk,i64_w,i32_w]
       rfl
     refine pure_ (i := 36) (N := some 107) (v := ?_) (a' := ?_) YM rfl rfl (Zo HT_.out (by kernel_rfl)) (fun _ _ _ h => h) (Or.inl ⟨by rfl,?_⟩) ?_ ?_; rotate_left
     · intro w'
       go_simp; with_reducible rfl
     rotate_left
     · simp only [Act.put,Yi,Yj,Yk,i64_w,i32_w]
       rfl
     refine pure_ (i := 37) (N := some 108) (v := undef) (a' := ?_) YN rfl rfl (Zo HT_.out (by kernel_rfl)) (fun _ _ _ h => h) (Or.inr ⟨by rfl,rfl⟩) ?_ ?_; rotate_left
     · simp only [Act.put,Yi,Yj,Yk,i64_w,i32_w]
       rfl
     refine pure_ (i := 38) (N := some 109) (v := undef) (a' := ?_) YO rfl rfl (Zo HT_.out (by kernel_rfl)) (fun _ _ _ h => h) (Or.inr ⟨by rfl,rfl⟩) ?_ ?_; rotate_left
     · simp only [Act.put,Yi,Yj,Yk,i64_w,i32_w]
       rfl
     refine pure_ (i := 39) (N := some 110) (v := undef) (a' := ?_) YP rfl rfl (Zo HT_.out (by kernel_rfl)) (fun _ _ _ h => h) (Or.inr ⟨by rfl,rfl⟩) ?_ ?_; rotate_left
     · simp only [Act.put,Yi,Yj,Yk,i64_w,i32_w]
       rfl
     refine pure_ (i := 40) (N := some 111) (v := ?_) (a' := ?_) YQ rfl rfl (Zo HT_.out (by kernel_rfl)) (fun _ _ _ h => h) (Or.inl ⟨by rfl,?_⟩) ?_ ?_; rotate_left
     · intro w'
       go_simp; with_reducible rfl
     rotate_left
     · simp only [Act.put,Yi,Yj,Yk,i64_w,i32_w]
       rfl
     refine done_ (Xh HT_.out (by kernel_rfl)) ?_
     try go_wp2
     go_meet
     case rel => exact ⟨_,(true),(by first | rfl | (simp; done) | (simp [*]; done)),H',⟨by first | omega | exact Nat.le_refl _⟩,⟨by (with_reducible repeat (first | refine Zc ?_ _ | refine Ze ?_ | refine Zd ?_ _)); exact BK190.out⟩,⟨by (with_reducible repeat (first | refine Zc ?_ _ | refine Ze ?_ | refine Zd ?_ _)); exact BK191.out⟩,⟨by (with_reducible repeat (first | refine Zc ?_ _ | refine Ze ?_ | refine Zd ?_ _)); exact BK192.out⟩,⟨by (with_reducible repeat (first | refine Zc ?_ _ | refine Ze ?_ | refine Zd ?_ _)); exact BK200.out⟩,⟨by (with_reducible repeat (first | refine Zc ?_ _ | refine Ze ?_ | refine Zd ?_ _)); exact BK208.out⟩,⟨by repeat (first | (with_reducible first | exact HB.out | apply Zk | apply Zi | apply Zj | refine Zf ?_ GE190.out | refine Zf ?_ GE191.out | refine Zf ?_ GE192.out | refine Zf ?_ GE200.out | refine Zf ?_ GE208.out) | exact HB.out)⟩⟩
   · rw [if_neg c48] at H
     have c48b0 : (t223 != t224) = false := by simpa using c48
     (try (have c48b1 : decide (t223 = t224) = true := by simpa using c48))
     (try (have c48b2 : (t223 == t224) = true := by simpa using c48))
     clear c48
     (first | rw [c48b0] | (simp only [i64_w,i32_w]; rw [c48b0]) | skip)
     by_cases c52 : (!(t193 == t201) || (!(t194 == t202) || (!(t195 == t203) || (!(t196 == t204) || (!(t197 == t205) || (!(t198 == t206))))))) = true
     · rw [if_pos c52] at H
       have c52b0 : (!(t193 == t201) || (!(t194 == t202) || (!(t195 == t203) || (!(t196 == t204) || (!(t197 == t205) || (!(t198 == t206))))))) = true := c52; clear c52; have H' := Zh.mk H; clear H
       try go_wp2
       have n0_ := Zh.mk (Kd.ZG HO215.out); have n1_ := Zh.mk (Kd.ZG HO220.out); have n2_ := Zh.mk (Ze BK190.out); have n3_ := Zh.mk (Ze BK191.out); have n4_ := Zh.mk (Ze BK192.out); have n5_ := Zh.mk (Ze BK200.out); have n6_ := Zh.mk (Ze BK208.out); have n7_ := Zh.mk (Zj HB.out); clear HO215; clear HO220; clear BK190; clear BK191; clear BK192; clear BK200; clear BK208; clear HB; have HO215 := n0_; have HO220 := n1_; have BK190 := n2_; have BK191 := n3_; have BK192 := n4_; have BK200 := n5_; have BK208 := n6_; have HB := n7_; clear n0_ n1_ n2_ n3_ n4_ n5_ n6_ n7_; refine Xk (n := 41) (S := fun w' => w'.cell? ⟨gb190,0,none⟩ = some (.int .i64 a0_0) ∧ w'.cell? ⟨gb190,1,none⟩ = some (.int .i64 a0_1) ∧ w'.cell? ⟨gb190,2,none⟩ = some (.int .i64 a0_2) ∧ w'.cell? ⟨gb190,3,none⟩ = some (.int .i64 a0_3) ∧ w'.cell? ⟨gb190,4,none⟩ = some (.int .i64 a0_4) ∧ w'.cell? ⟨gb190,5,none⟩ = some (.int .i64 a0_5) ∧ w'.cell? ⟨gb190,6,none⟩ = some (.int .i64 a0_6) ∧ w'.cell? ⟨gb200,0,none⟩ = some (.int .i64 t193) ∧ w'.cell? ⟨gb200,1,none⟩ = some (.int .i64 t194) ∧ w'.cell? ⟨gb200,2,none⟩ = some (.int .i64 t195) ∧ w'.cell? ⟨gb200,3,none⟩ = some (.int .i64 t196) ∧ w'.cell? ⟨gb200,4,none⟩ = some (.int .i64 t197) ∧ w'.cell? ⟨gb200,5,none⟩ = some (.int .i64 t198) ∧ w'.cell? ⟨gb208,0,none⟩ = some (.int .i64 t201) ∧ w'.cell? ⟨gb208,1,none⟩ = some (.int .i64 t202) ∧ w'.cell? ⟨gb208,2,none⟩ = some (.int .i64 t203) ∧ w'.cell? ⟨gb208,3,none⟩ = some (.int .i64 t204) ∧ w'.cell? ⟨gb208,4,none⟩ = some (.int .i64 t205) ∧ w'.cell? ⟨gb208,5,none⟩ = some (.int .i64 t206)) (ds := []) Yl (by kernel_rfl) rfl rfl ⟨(Za BK190.out 0).trans rfl,(Za BK190.out 1).trans rfl,(Za BK190.out 2).trans rfl,(Za BK190.out 3).trans rfl,(Za BK190.out 4).trans rfl,(Za BK190.out 5).trans rfl,(Za BK190.out 6).trans rfl,(Za BK200.out 0).trans rfl,(Za BK200.out 1).trans rfl,(Za BK200.out 2).trans rfl,(Za BK200.out 3).trans rfl,(Za BK200.out 4).trans rfl,(Za BK200.out 5).trans rfl,(Za BK208.out 0).trans rfl,(Za BK208.out 1).trans rfl,(Za BK208.out 2).trans rfl,(Za BK208.out 3).trans rfl,(Za BK208.out 4).trans rfl,(Za BK208.out 5).trans rfl⟩ (fun hHeld => ?_); refine Xb Zg.tab7 Zg.bits7 (fun HT_ HW_ => ?_); generalize w45.drew = w53 at HO215 HO220 BK190 BK191 BK192 BK200 BK208 HB hHeld ⊢; refine take_ (i := 0) (N := some 71) (v := ?_) (a' := ?_) Ym rfl rfl (Z8 HT_.out HW_.out (by kernel_rfl)) (fun _ _ _ h => h) (Or.inl ⟨by rfl,?_⟩) hHeld ?_ ?_; rotate_left
       · rintro w' ⟨s0,s1,s2,s3,s4,s5,s6,s7,s8,s9,s10,s11,s12,s13,s14,s15,s16,s17,s18⟩
         go_simp; with_reducible rfl
       rotate_left
       · simp only [Act.put,Yi,Yj,Yk,i64_w,i32_w]
         rfl
       refine take_ (i := 2) (N := some 73) (v := ?_) (a' := ?_) Yn rfl rfl (Z8 HT_.out HW_.out (by kernel_rfl)) (fun _ _ _ h => h) (Or.inl ⟨by rfl,?_⟩) hHeld ?_ ?_; rotate_left
       · rintro w' ⟨s0,s1,s2,s3,s4,s5,s6,s7,s8,s9,s10,s11,s12,s13,s14,s15,s16,s17,s18⟩
         go_simp; with_reducible rfl
       rotate_left
       · simp only [Act.put,Yi,Yj,Yk,i64_w,i32_w]
         rfl
       refine one_ (i := 1) (N := some 72) Yo rfl rfl (Xd HT_.out (by kernel_rfl)) (by decide) (fun K hK => ?_); refine goes_ Try.func11 (by kernel_rfl) rfl #[.agg #[.int .i64 a0_0,.int .i64 a0_1,.int .i64 a0_2,.int .i64 a0_3,.int .i64 a0_4,.int .i64 a0_5,.int .i64 a0_6]] (by rfl) rfl rfl (by (try simp only [List.map_toArray,List.map_cons,List.map_nil]); first | done | rfl | (simp only [List.length_drop,List.length_take]; rfl)) ?_
       with_reducible refine (ZC.calls a0_0 a0_1 a0_2 a0_3 a0_4 a0_5 a0_6 t223 _ A46.out).mono ?_
       rintro e w54 ⟨rfl,hb⟩; refine ⟨_,rfl,?_⟩; have n0_ := Zh.mk (Kd.ZN (by (with_reducible repeat (first | apply Kd.ZH | apply Kd.ZI | apply Kd.ZG)); exact HO215.out) hb); have n1_ := Zh.mk (Kd.ZN (by (with_reducible repeat (first | apply Kd.ZH | apply Kd.ZI | apply Kd.ZG)); exact HO220.out) hb); have n2_ := Zh.mk (Zn (g := gb190) (o := .cells #[.int .i64 a0_0,.int .i64 a0_1,.int .i64 a0_2,.int .i64 a0_3,.int .i64 a0_4,.int .i64 a0_5,.int .i64 a0_6] 23 (0,0)) (by (with_reducible repeat (first | refine Zc ?_ _ | refine Ze ?_ | refine Zd ?_ _)); exact BK190.out) hb); have n3_ := Zh.mk (Zn (g := gb191) (o := .cells #[.int .i64 a1_0,.int .i64 a1_1,.int .i64 a1_2,.int .i64 a1_3,.int .i64 a1_4,.int .i64 a1_5,.int .i64 a1_6] 23 (0,0)) (by (with_reducible repeat (first | refine Zc ?_ _ | refine Ze ?_ | refine Zd ?_ _)); exact BK191.out) hb); have n4_ := Zh.mk (Zn (g := gb192) (o := .cells #[.int .i64 a3_0,.int .i64 a3_1,.int .i64 a3_2,.int .i64 a3_3,.int .i64 a3_4,.int .i64 a3_5] 25 (0,0)) (by (with_reducible repeat (first | refine Zc ?_ _ | refine Ze ?_ | refine Zd ?_ _)); exact BK192.out) hb); have n5_ := Zh.mk (Zn (g := gb200) (o := .cells #[.int .i64 t193,.int .i64 t194,.int .i64 t195,.int .i64 t196,.int .i64 t197,.int .i64 t198] 25 (0,0)) (by (with_reducible repeat (first | refine Zc ?_ _ | refine Ze ?_ | refine Zd ?_ _)); exact BK200.out) hb); have n6_ := Zh.mk (Zn (g := gb208) (o := .cells #[.int .i64 t201,.int .i64 t202,.int .i64 t203,.int .i64 t204,.int .i64 t205,.int .i64 t206] 25 (0,0)) (by (with_reducible repeat (first | refine Zc ?_ _ | refine Ze ?_ | refine Zd ?_ _)); exact BK208.out) hb); have n7_ := Zh.mk (Zv (by repeat (first | (with_reducible first | exact HB.out | apply Zk | apply Zi | apply Zj | refine Zf ?_ GE190.out | refine Zf ?_ GE191.out | refine Zf ?_ GE192.out | refine Zf ?_ GE200.out | refine Zf ?_ GE208.out) | exact HB.out)) hb); clear HO215; clear HO220; clear BK190; clear BK191; clear BK192; clear BK200; clear BK208; clear HB; have HO215 := n0_; have HO220 := n1_; have BK190 := n2_; have BK191 := n3_; have BK192 := n4_; have BK200 := n5_; have BK208 := n6_; have HB := n7_; clear n0_ n1_ n2_ n3_ n4_ n5_ n6_ n7_
       (try clear hb)
       (try clear hb2)
       (try clear hk)
       (try clear hi)
       refine hK.out _ _ ⟨(Za BK190.out 0).trans rfl,(Za BK190.out 1).trans rfl,(Za BK190.out 2).trans rfl,(Za BK190.out 3).trans rfl,(Za BK190.out 4).trans rfl,(Za BK190.out 5).trans rfl,(Za BK190.out 6).trans rfl,(Za BK200.out 0).trans rfl,(Za BK200.out 1).trans rfl,(Za BK200.out 2).trans rfl,(Za BK200.out 3).trans rfl,(Za BK200.out 4).trans rfl,(Za BK200.out 5).trans rfl,(Za BK208.out 0).trans rfl,(Za BK208.out 1).trans rfl,(Za BK208.out 2).trans rfl,(Za BK208.out 3).trans rfl,(Za BK208.out 4).trans rfl,(Za BK208.out 5).trans rfl⟩ (fun hHeld => ?_); clear hK K; refine norm_ (a' := ?_) ?_ ?_; rotate_left
       · show Act.put _ (some 72) _ = _
         simp only [Act.put,Yi,Yj,Yk,i64_w,i32_w]; rfl
       refine one_ (i := 3) (N := some 74) Yp rfl rfl (Xd HT_.out (by kernel_rfl)) (by decide) (fun K hK => ?_); refine goes_ Try.func12 (by kernel_rfl) rfl #[.agg #[.int .i64 a0_0,.int .i64 a0_1,.int .i64 a0_2,.int .i64 a0_3,.int .i64 a0_4,.int .i64 a0_5,.int .i64 a0_6]] (by rfl) rfl rfl (by (try simp only [List.map_toArray,List.map_cons,List.map_nil]); first | done | rfl | (simp only [List.length_drop,List.length_take]; rfl)) ?_
       with_reducible refine (Zs.calls k a0_0 a0_1 a0_2 a0_3 a0_4 a0_5 a0_6 t224 _ A47.out).mono ?_
       rintro e w55 ⟨rfl,hb⟩; refine ⟨_,rfl,?_⟩; have n0_ := Zh.mk (Kd.ZN (by (with_reducible repeat (first | apply Kd.ZH | apply Kd.ZI | apply Kd.ZG)); exact HO215.out) hb); have n1_ := Zh.mk (Kd.ZN (by (with_reducible repeat (first | apply Kd.ZH | apply Kd.ZI | apply Kd.ZG)); exact HO220.out) hb); have n2_ := Zh.mk (Zn (g := gb190) (o := .cells #[.int .i64 a0_0,.int .i64 a0_1,.int .i64 a0_2,.int .i64 a0_3,.int .i64 a0_4,.int .i64 a0_5,.int .i64 a0_6] 23 (0,0)) (by (with_reducible repeat (first | refine Zc ?_ _ | refine Ze ?_ | refine Zd ?_ _)); exact BK190.out) hb); have n3_ := Zh.mk (Zn (g := gb191) (o := .cells #[.int .i64 a1_0,.int .i64 a1_1,.int .i64 a1_2,.int .i64 a1_3,.int .i64 a1_4,.int .i64 a1_5,.int .i64 a1_6] 23 (0,0)) (by (with_reducible repeat (first | refine Zc ?_ _ | refine Ze ?_ | refine Zd ?_ _)); exact BK191.out) hb); have n4_ := Zh.mk (Zn (g := gb192) (o := .cells #[.int .i64 a3_0,.int .i64 a3_1,.int .i64 a3_2,.int .i64 a3_3,.int .i64 a3_4,.int .i64 a3_5] 25 (0,0)) (by (with_reducible repeat (first | refine Zc ?_ _ | refine Ze ?_ | refine Zd ?_ _)); exact BK192.out) hb); have n5_ := Zh.mk (Zn (g := gb200) (o := .cells #[.int .i64 t193,.int .i64 t194,.int .i64 t195,.int .i64 t196,.int .i64 t197,.int .i64 t198] 25 (0,0)) (by (with_reducible repeat (first | refine Zc ?_ _ | refine Ze ?_ | refine Zd ?_ _)); exact BK200.out) hb); have n6_ := Zh.mk (Zn (g := gb208) (o := .cells #[.int .i64 t201,.int .i64 t202,.int .i64 t203,.int .i64 t204,.int .i64 t205,.int .i64 t206] 25 (0,0)) (by (with_reducible repeat (first | refine Zc ?_ _ | refine Ze ?_ | refine Zd ?_ _)); exact BK208.out) hb); have n7_ := Zh.mk (Zv (by repeat (first | (with_reducible first | exact HB.out | apply Zk | apply Zi | apply Zj | refine Zf ?_ GE190.out | refine Zf ?_ GE191.out | refine Zf ?_ GE192.out | refine Zf ?_ GE200.out | refine Zf ?_ GE208.out) | exact HB.out)) hb); clear HO215; clear HO220; clear BK190; clear BK191; clear BK192; clear BK200; clear BK208; clear HB; have HO215 := n0_; have HO220 := n1_; have BK190 := n2_; have BK191 := n3_; have BK192 := n4_; have BK200 := n5_; have BK208 := n6_; have HB := n7_; clear n0_ n1_ n2_ n3_ n4_ n5_ n6_ n7_
       (try clear hb)
       (try clear hb2)
       (try clear hk)
       (try clear hi)
       refine hK.out _ _ ⟨(Za BK190.out 0).trans rfl,(Za BK190.out 1).trans rfl,(Za BK190.out 2).trans rfl,(Za BK190.out 3).trans rfl,(Za BK190.out 4).trans rfl,(Za BK190.out 5).trans rfl,(Za BK190.out 6).trans rfl,(Za BK200.out 0).trans rfl,(Za BK200.out 1).trans rfl,(Za BK200.out 2).trans rfl,(Za BK200.out 3).trans rfl,(Za BK200.out 4).trans rfl,(Za BK200.out 5).trans rfl,(Za BK208.out 0).trans rfl,(Za BK208.out 1).trans rfl,(Za BK208.out 2).trans rfl,(Za BK208.out 3).trans rfl,(Za BK208.out 4).trans rfl,(Za BK208.out 5).trans rfl⟩ (fun hHeld => ?_); clear hK K; refine norm_ (a' := ?_) ?_ ?_; rotate_left
       · show Act.put _ (some 74) _ = _
         simp only [Act.put,Yi,Yj,Yk,i64_w,i32_w]; rfl
       refine pure_ (i := 4) (N := some 75) (v := ?_) (a' := ?_) Yq rfl rfl (Zo HT_.out (by kernel_rfl)) (fun _ _ _ h => h) (Or.inl ⟨by rfl,?_⟩) ?_ ?_; rotate_left
       · intro w'
         go_simp; with_reducible rfl
       rotate_left
       · simp only [Act.put,Yi,Yj,Yk,i64_w,i32_w]
         rfl
       refine pure_ (i := 5) (N := some 76) (v := ?_) (a' := ?_) Yr rfl rfl (Zo HT_.out (by kernel_rfl)) (fun _ _ _ h => h) (Or.inl ⟨by rfl,?_⟩) ?_ ?_; rotate_left
       · intro w'
         go_simp; with_reducible rfl
       rotate_left
       · simp only [Act.put,Yi,Yj,Yk,i64_w,i32_w]
         rfl
       refine take_ (i := 6) (N := some 77) (v := ?_) (a' := ?_) Ys rfl rfl (Z8 HT_.out HW_.out (by kernel_rfl)) (fun _ _ _ h => h) (Or.inl ⟨by rfl,?_⟩) hHeld ?_ ?_; rotate_left
       · rintro w' ⟨s0,s1,s2,s3,s4,s5,s6,s7,s8,s9,s10,s11,s12,s13,s14,s15,s16,s17,s18⟩
         go_simp; with_reducible rfl
       rotate_left
       · simp only [Act.put,Yi,Yj,Yk,i64_w,i32_w]
         rfl
       refine take_ (i := 7) (N := some 78) (v := ?_) (a' := ?_) Yt rfl rfl (Z8 HT_.out HW_.out (by kernel_rfl)) (fun _ _ _ h => h) (Or.inl ⟨by rfl,?_⟩) hHeld ?_ ?_; rotate_left
       · rintro w' ⟨s0,s1,s2,s3,s4,s5,s6,s7,s8,s9,s10,s11,s12,s13,s14,s15,s16,s17,s18⟩
         go_simp; with_reducible rfl
       rotate_left
       · simp only [Act.put,Yi,Yj,Yk,i64_w,i32_w]
         rfl
       refine pure_ (i := 8) (N := some 79) (v := ?_) (a' := ?_) Yu rfl rfl (Zo HT_.out (by kernel_rfl)) (fun _ _ _ h => h) (Or.inl ⟨by rfl,?_⟩) ?_ ?_; rotate_left
       · intro w'
         go_simp; with_reducible rfl
       rotate_left
       · simp only [Act.put,Yi,Yj,Yk,i64_w,i32_w]
         rfl
       refine pure_ (i := 9) (N := some 80) (v := ?_) (a' := ?_) Yv rfl rfl (Zo HT_.out (by kernel_rfl)) (fun _ _ _ h => h) (Or.inl ⟨by rfl,?_⟩) ?_ ?_; rotate_left
       · intro w'
         go_simp; with_reducible rfl
       rotate_left
       · simp only [Act.put,Yi,Yj,Yk,i64_w,i32_w]
         rfl
       refine pure_ (i := 10) (N := some 81) (v := ?_) (a' := ?_) Yw rfl rfl (Zo HT_.out (by kernel_rfl)) (fun _ _ _ h => h) (Or.inl ⟨by rfl,?_⟩) ?_ ?_; rotate_left
       · intro w'
         go_simp; with_reducible rfl
       rotate_left
       · simp only [Act.put,Yi,Yj,Yk,i64_w,i32_w]
         rfl
       refine pure_ (i := 11) (N := some 82) (v := undef) (a' := ?_) Yx rfl rfl (Zo HT_.out (by kernel_rfl)) (fun _ _ _ h => h) (Or.inr ⟨by rfl,rfl⟩) ?_ ?_; rotate_left
       · simp only [Act.put,Yi,Yj,Yk,i64_w,i32_w]
         rfl
       refine pure_ (i := 12) (N := some 83) (v := undef) (a' := ?_) Yy rfl rfl (Zo HT_.out (by kernel_rfl)) (fun _ _ _ h => h) (Or.inr ⟨by rfl,rfl⟩) ?_ ?_; rotate_left
       · simp only [Act.put,Yi,Yj,Yk,i64_w,i32_w]
         rfl
       refine pure_ (i := 13) (N := some 84) (v := undef) (a' := ?_) Yz rfl rfl (Zo HT_.out (by kernel_rfl)) (fun _ _ _ h => h) (Or.inr ⟨by rfl,rfl⟩) ?_ ?_; rotate_left
       · simp only [Act.put,Yi,Yj,Yk,i64_w,i32_w]
         rfl
       refine pure_ (i := 14) (N := some 85) (v := ?_) (a' := ?_) Y0 rfl rfl (Zo HT_.out (by kernel_rfl)) (fun _ _ _ h => h) (Or.inl ⟨by rfl,?_⟩) ?_ ?_; rotate_left
       · intro w'
         go_simp; with_reducible rfl
       rotate_left
       · simp only [Act.put,Yi,Yj,Yk,i64_w,i32_w]
         rfl
       refine pure_ (i := 15) (N := some 86) (v := ?_) (a' := ?_) Y1 rfl rfl (Zo HT_.out (by kernel_rfl)) (fun _ _ _ h => h) (Or.inl ⟨by rfl,?_⟩) ?_ ?_; rotate_left
       · intro w'
         go_simp; with_reducible rfl
       rotate_left
       · simp only [Act.put,Yi,Yj,Yk,i64_w,i32_w]
         rfl
       refine pure_ (i := 16) (N := some 87) (v := undef) (a' := ?_) Y2 rfl rfl (Zo HT_.out (by kernel_rfl)) (fun _ _ _ h => h) (Or.inr ⟨by rfl,rfl⟩) ?_ ?_; rotate_left
       · simp only [Act.put,Yi,Yj,Yk,i64_w,i32_w]
         rfl
       refine pure_ (i := 17) (N := some 88) (v := undef) (a' := ?_) Y3 rfl rfl (Zo HT_.out (by kernel_rfl)) (fun _ _ _ h => h) (Or.inr ⟨by rfl,rfl⟩) ?_ ?_; rotate_left
       · simp only [Act.put,Yi,Yj,Yk,i64_w,i32_w]
         rfl
       refine pure_ (i := 18) (N := some 89) (v := undef) (a' := ?_) Y4 rfl rfl (Zo HT_.out (by kernel_rfl)) (fun _ _ _ h => h) (Or.inr ⟨by rfl,rfl⟩) ?_ ?_; rotate_left
       · simp only [Act.put,Yi,Yj,Yk,i64_w,i32_w]
         rfl
       refine pure_ (i := 19) (N := some 90) (v := ?_) (a' := ?_) Y5 rfl rfl (Zo HT_.out (by kernel_rfl)) (fun _ _ _ h => h) (Or.inl ⟨by rfl,?_⟩) ?_ ?_; rotate_left
       · intro w'
         go_simp; with_reducible rfl
       rotate_left
       · simp only [Act.put,Yi,Yj,Yk,i64_w,i32_w]
         rfl
       refine pure_ (i := 20) (N := some 91) (v := ?_) (a' := ?_) Y6 rfl rfl (Zo HT_.out (by kernel_rfl)) (fun _ _ _ h => h) (Or.inl ⟨by rfl,?_⟩) ?_ ?_; rotate_left
       · intro w'
         go_simp; with_reducible rfl
       rotate_left
       · simp only [Act.put,Yi,Yj,Yk,i64_w,i32_w]
         rfl
       refine pure_ (i := 21) (N := some 92) (v := undef) (a' := ?_) Y7 rfl rfl (Zo HT_.out (by kernel_rfl)) (fun _ _ _ h => h) (Or.inr ⟨by rfl,rfl⟩) ?_ ?_; rotate_left
       · simp only [Act.put,Yi,Yj,Yk,i64_w,i32_w]
         rfl
       refine pure_ (i := 22) (N := some 93) (v := undef) (a' := ?_) Y8 rfl rfl (Zo HT_.out (by kernel_rfl)) (fun _ _ _ h => h) (Or.inr ⟨by rfl,rfl⟩) ?_ ?_; rotate_left
       · simp only [Act.put,Yi,Yj,Yk,i64_w,i32_w]
         rfl
       refine pure_ (i := 23) (N := some 94) (v := undef) (a' := ?_) Y9 rfl rfl (Zo HT_.out (by kernel_rfl)) (fun _ _ _ h => h) (Or.inr ⟨by rfl,rfl⟩) ?_ ?_; rotate_left
       · simp only [Act.put,Yi,Yj,Yk,i64_w,i32_w]
         rfl
       refine pure_ (i := 24) (N := some 95) (v := ?_) (a' := ?_) YA rfl rfl (Zo HT_.out (by kernel_rfl)) (fun _ _ _ h => h) (Or.inl ⟨by rfl,?_⟩) ?_ ?_; rotate_left
       · intro w'
         go_simp; with_reducible rfl
       rotate_left
       · simp only [Act.put,Yi,Yj,Yk,i64_w,i32_w]
         rfl
       refine pure_ (i := 25) (N := some 96) (v := ?_) (a' := ?_) YB rfl rfl (Zo HT_.out (by kernel_rfl)) (fun _ _ _ h => h) (Or.inl ⟨by rfl,?_⟩) ?_ ?_; rotate_left
       · intro w'
         go_simp; with_reducible rfl
       rotate_left
       · simp only [Act.put,Yi,Yj,Yk,i64_w,i32_w]
         rfl
       refine pure_ (i := 26) (N := some 97) (v := undef) (a' := ?_) YC rfl rfl (Zo HT_.out (by kernel_rfl)) (fun _ _ _ h => h) (Or.inr ⟨by rfl,rfl⟩) ?_ ?_; rotate_left
       · simp only [Act.put,Yi,Yj,Yk,i64_w,i32_w]
         rfl
       refine pure_ (i := 27) (N := some 98) (v := undef) (a' := ?_) YD rfl rfl (Zo HT_.out (by kernel_rfl)) (fun _ _ _ h => h) (Or.inr ⟨by rfl,rfl⟩) ?_ ?_; rotate_left
       · simp only [Act.put,Yi,Yj,Yk,i64_w,i32_w]
         rfl
       refine pure_ (i := 28) (N := some 99) (v := undef) (a' := ?_) YE rfl rfl (Zo HT_.out (by kernel_rfl)) (fun _ _ _ h => h) (Or.inr ⟨by rfl,rfl⟩) ?_ ?_; rotate_left
       · simp only [Act.put,Yi,Yj,Yk,i64_w,i32_w]
         rfl
       refine pure_ (i := 29) (N := some 100) (v := undef) (a' := ?_) YF rfl rfl (Zo HT_.out (by kernel_rfl)) (fun _ _ _ h => h) (Or.inr ⟨by rfl,rfl⟩) ?_ ?_; rotate_left
       · simp only [Act.put,Yi,Yj,Yk,i64_w,i32_w]
         rfl
       refine pure_ (i := 30) (N := some 101) (v := ?_) (a' := ?_) YG rfl rfl (Zo HT_.out (by kernel_rfl)) (fun _ _ _ h => h) (Or.inl ⟨by rfl,?_⟩) ?_ ?_; rotate_left
       · intro w'
         go_simp; with_reducible rfl
       rotate_left
       · simp only [Act.put,Yi,Yj,Yk,i64_w,i32_w]
         rfl
       refine pure_ (i := 31) (N := some 102) (v := ?_) (a' := ?_) YH rfl rfl (Zo HT_.out (by kernel_rfl)) (fun _ _ _ h => h) (Or.inl ⟨by rfl,?_⟩) ?_ ?_; rotate_left
       · intro w'
         go_simp; with_reducible rfl
       rotate_left
       · simp only [Act.put,Yi,Yj,Yk,i64_w,i32_w]
         rfl
       refine pure_ (i := 32) (N := some 103) (v := undef) (a' := ?_) YI rfl rfl (Zo HT_.out (by kernel_rfl)) (fun _ _ _ h => h) (Or.inr ⟨by rfl,rfl⟩) ?_ ?_; rotate_left
       · simp only [Act.put,Yi,Yj,Yk,i64_w,i32_w]
         rfl
       refine pure_ (i := 33) (N := some 104) (v := undef) (a' := ?_) YJ rfl rfl (Zo HT_.out (by kernel_rfl)) (fun _ _ _ h => h) (Or.inr ⟨by rfl,rfl⟩) ?_ ?_; rotate_left
       · simp only [Act.put,Yi,Yj,Yk,i64_w,i32_w]
         rfl
       refine pure_ (i := 34) (N := some 105) (v := undef) (a' := ?_) YK rfl rfl (Zo HT_.out (by kernel_rfl)) (fun _ _ _ h => h) (Or.inr ⟨by rfl,rfl⟩) ?_ ?_; rotate_left
       · simp only [Act.put,Yi,Yj,Yk,i64_w,i32_w]
         rfl
       refine pure_ (i := 35) (N := some 106) (v := ?_) (a' := ?_) YL rfl rfl (Zo HT_.out (by kernel_rfl)) (fun _ _ _ h => h) (Or.inl ⟨by rfl,?_⟩) ?_ ?_; rotate_left
       · intro w'
         go_simp; with_reducible rfl
       rotate_left
       · simp only [Act.put,Yi,Yj,Yk,i64_w,i32_w]
         rfl
       refine pure_ (i := 36) (N := some 107) (v := ?_) (a' := ?_) YM rfl rfl (Zo HT_.out (by kernel_rfl)) (fun _ _ _ h => h) (Or.inl ⟨by rfl,?_⟩) ?_ ?_; rotate_left
       · intro w'
         go_simp; with_reducible rfl
       rotate_left
       · simp only [Act.put,Yi,Yj,Yk,i64_w,i32_w]
         rfl
       refine pure_ (i := 37) (N := some 108) (v := undef) (a' := ?_) YN rfl rfl (Zo HT_.out (by kernel_rfl)) (fun _ _ _ h => h) (Or.inr ⟨by rfl,rfl⟩) ?_ ?_; rotate_left
       · simp only [Act.put,Yi,Yj,Yk,i64_w,i32_w]
         rfl
       refine pure_ (i := 38) (N := some 109) (v := undef) (a' := ?_) YO rfl rfl (Zo HT_.out (by kernel_rfl)) (fun _ _ _ h => h) (Or.inr ⟨by rfl,rfl⟩) ?_ ?_; rotate_left
       · simp only [Act.put,Yi,Yj,Yk,i64_w,i32_w]
         rfl
       refine pure_ (i := 39) (N := some 110) (v := undef) (a' := ?_) YP rfl rfl (Zo HT_.out (by kernel_rfl)) (fun _ _ _ h => h) (Or.inr ⟨by rfl,rfl⟩) ?_ ?_; rotate_left
       · simp only [Act.put,Yi,Yj,Yk,i64_w,i32_w]
         rfl
       refine pure_ (i := 40) (N := some 111) (v := ?_) (a' := ?_) YQ rfl rfl (Zo HT_.out (by kernel_rfl)) (fun _ _ _ h => h) (Or.inl ⟨by rfl,?_⟩) ?_ ?_; rotate_left
       · intro w'
         go_simp; with_reducible rfl
       rotate_left
       · simp only [Act.put,Yi,Yj,Yk,i64_w,i32_w]
         rfl
       refine done_ (Xh HT_.out (by kernel_rfl)) ?_
       try go_wp2
       go_meet
       case rel => exact ⟨_,(true),(by first | rfl | (simp; done) | (simp [*]; done)),H',⟨by first | omega | exact Nat.le_refl _⟩,⟨by (with_reducible repeat (first | refine Zc ?_ _ | refine Ze ?_ | refine Zd ?_ _)); exact BK190.out⟩,⟨by (with_reducible repeat (first | refine Zc ?_ _ | refine Ze ?_ | refine Zd ?_ _)); exact BK191.out⟩,⟨by (with_reducible repeat (first | refine Zc ?_ _ | refine Ze ?_ | refine Zd ?_ _)); exact BK192.out⟩,⟨by (with_reducible repeat (first | refine Zc ?_ _ | refine Ze ?_ | refine Zd ?_ _)); exact BK200.out⟩,⟨by (with_reducible repeat (first | refine Zc ?_ _ | refine Ze ?_ | refine Zd ?_ _)); exact BK208.out⟩,⟨by repeat (first | (with_reducible first | exact HB.out | apply Zk | apply Zi | apply Zj | refine Zf ?_ GE190.out | refine Zf ?_ GE191.out | refine Zf ?_ GE192.out | refine Zf ?_ GE200.out | refine Zf ?_ GE208.out) | exact HB.out)⟩⟩
     · rw [if_neg c52] at H
       have c52b0 : (!(t193 == t201) || (!(t194 == t202) || (!(t195 == t203) || (!(t196 == t204) || (!(t197 == t205) || (!(t198 == t206))))))) = false := by simpa using c52
       clear c52
       by_cases c56 : t199 = t207
       · rw [if_pos c56] at H
         have c56b0 : (t199 == t207) = true := beq_iff_eq.mpr c56; have c56b1 : (t199 != t207) = false := bne_eq_false_iff_eq.mpr c56; clear c56
         by_cases c57 : (t209 != t211) = true
         · rw [if_pos c57] at H
           have c57b0 : (t209 != t211) = true := c57
           (try (have c57b1 : decide (t209 = t211) = false := by simpa using c57))
           (try (have c57b2 : (t209 == t211) = false := by simpa using c57))
           (try (have c57b3 : ¬ (t209 = t211) := by simpa using c57))
           clear c57; have H' := Zh.mk H; clear H
           try go_wp2
           have n0_ := Zh.mk (Kd.ZG HO215.out); have n1_ := Zh.mk (Kd.ZG HO220.out); have n2_ := Zh.mk (Ze BK190.out); have n3_ := Zh.mk (Ze BK191.out); have n4_ := Zh.mk (Ze BK192.out); have n5_ := Zh.mk (Ze BK200.out); have n6_ := Zh.mk (Ze BK208.out); have n7_ := Zh.mk (Zj HB.out); clear HO215; clear HO220; clear BK190; clear BK191; clear BK192; clear BK200; clear BK208; clear HB; have HO215 := n0_; have HO220 := n1_; have BK190 := n2_; have BK191 := n3_; have BK192 := n4_; have BK200 := n5_; have BK208 := n6_; have HB := n7_; clear n0_ n1_ n2_ n3_ n4_ n5_ n6_ n7_; refine Xk (n := 41) (S := fun w' => w'.cell? ⟨gb190,0,none⟩ = some (.int .i64 a0_0) ∧ w'.cell? ⟨gb190,1,none⟩ = some (.int .i64 a0_1) ∧ w'.cell? ⟨gb190,2,none⟩ = some (.int .i64 a0_2) ∧ w'.cell? ⟨gb190,3,none⟩ = some (.int .i64 a0_3) ∧ w'.cell? ⟨gb190,4,none⟩ = some (.int .i64 a0_4) ∧ w'.cell? ⟨gb190,5,none⟩ = some (.int .i64 a0_5) ∧ w'.cell? ⟨gb190,6,none⟩ = some (.int .i64 a0_6) ∧ w'.cell? ⟨gb200,0,none⟩ = some (.int .i64 t193) ∧ w'.cell? ⟨gb200,1,none⟩ = some (.int .i64 t194) ∧ w'.cell? ⟨gb200,2,none⟩ = some (.int .i64 t195) ∧ w'.cell? ⟨gb200,3,none⟩ = some (.int .i64 t196) ∧ w'.cell? ⟨gb200,4,none⟩ = some (.int .i64 t197) ∧ w'.cell? ⟨gb200,5,none⟩ = some (.int .i64 t198) ∧ w'.cell? ⟨gb208,0,none⟩ = some (.int .i64 t201) ∧ w'.cell? ⟨gb208,1,none⟩ = some (.int .i64 t202) ∧ w'.cell? ⟨gb208,2,none⟩ = some (.int .i64 t203) ∧ w'.cell? ⟨gb208,3,none⟩ = some (.int .i64 t204) ∧ w'.cell? ⟨gb208,4,none⟩ = some (.int .i64 t205) ∧ w'.cell? ⟨gb208,5,none⟩ = some (.int .i64 t206)) (ds := []) Yl (by kernel_rfl) rfl rfl ⟨(Za BK190.out 0).trans rfl,(Za BK190.out 1).trans rfl,(Za BK190.out 2).trans rfl,(Za BK190.out 3).trans rfl,(Za BK190.out 4).trans rfl,(Za BK190.out 5).trans rfl,(Za BK190.out 6).trans rfl,(Za BK200.out 0).trans rfl,(Za BK200.out 1).trans rfl,(Za BK200.out 2).trans rfl,(Za BK200.out 3).trans rfl,(Za BK200.out 4).trans rfl,(Za BK200.out 5).trans rfl,(Za BK208.out 0).trans rfl,(Za BK208.out 1).trans rfl,(Za BK208.out 2).trans rfl,(Za BK208.out 3).trans rfl,(Za BK208.out 4).trans rfl,(Za BK208.out 5).trans rfl⟩ (fun hHeld => ?_); refine Xb Zg.tab7 Zg.bits7 (fun HT_ HW_ => ?_); generalize w45.drew = w58 at HO215 HO220 BK190 BK191 BK192 BK200 BK208 HB hHeld ⊢; refine take_ (i := 0) (N := some 71) (v := ?_) (a' := ?_) Ym rfl rfl (Z8 HT_.out HW_.out (by kernel_rfl)) (fun _ _ _ h => h) (Or.inl ⟨by rfl,?_⟩) hHeld ?_ ?_; rotate_left
           · rintro w' ⟨s0,s1,s2,s3,s4,s5,s6,s7,s8,s9,s10,s11,s12,s13,s14,s15,s16,s17,s18⟩
             go_simp; with_reducible rfl
           rotate_left
           · simp only [Act.put,Yi,Yj,Yk,i64_w,i32_w]
             rfl
           refine take_ (i := 2) (N := some 73) (v := ?_) (a' := ?_) Yn rfl rfl (Z8 HT_.out HW_.out (by kernel_rfl)) (fun _ _ _ h => h) (Or.inl ⟨by rfl,?_⟩) hHeld ?_ ?_; rotate_left
           · rintro w' ⟨s0,s1,s2,s3,s4,s5,s6,s7,s8,s9,s10,s11,s12,s13,s14,s15,s16,s17,s18⟩
             go_simp; with_reducible rfl
           rotate_left
           · simp only [Act.put,Yi,Yj,Yk,i64_w,i32_w]
             rfl
           refine one_ (i := 1) (N := some 72) Yo rfl rfl (Xd HT_.out (by kernel_rfl)) (by decide) (fun K hK => ?_); refine goes_ Try.func11 (by kernel_rfl) rfl #[.agg #[.int .i64 a0_0,.int .i64 a0_1,.int .i64 a0_2,.int .i64 a0_3,.int .i64 a0_4,.int .i64 a0_5,.int .i64 a0_6]] (by rfl) rfl rfl (by (try simp only [List.map_toArray,List.map_cons,List.map_nil]); first | done | rfl | (simp only [List.length_drop,List.length_take]; rfl)) ?_
           with_reducible refine (ZC.calls a0_0 a0_1 a0_2 a0_3 a0_4 a0_5 a0_6 t223 _ A46.out).mono ?_
           rintro e w59 ⟨rfl,hb⟩; refine ⟨_,rfl,?_⟩; have n0_ := Zh.mk (Kd.ZN (by (with_reducible repeat (first | apply Kd.ZH | apply Kd.ZI | apply Kd.ZG)); exact HO215.out) hb); have n1_ := Zh.mk (Kd.ZN (by (with_reducible repeat (first | apply Kd.ZH | apply Kd.ZI | apply Kd.ZG)); exact HO220.out) hb); have n2_ := Zh.mk (Zn (g := gb190) (o := .cells #[.int .i64 a0_0,.int .i64 a0_1,.int .i64 a0_2,.int .i64 a0_3,.int .i64 a0_4,.int .i64 a0_5,.int .i64 a0_6] 23 (0,0)) (by (with_reducible repeat (first | refine Zc ?_ _ | refine Ze ?_ | refine Zd ?_ _)); exact BK190.out) hb); have n3_ := Zh.mk (Zn (g := gb191) (o := .cells #[.int .i64 a1_0,.int .i64 a1_1,.int .i64 a1_2,.int .i64 a1_3,.int .i64 a1_4,.int .i64 a1_5,.int .i64 a1_6] 23 (0,0)) (by (with_reducible repeat (first | refine Zc ?_ _ | refine Ze ?_ | refine Zd ?_ _)); exact BK191.out) hb); have n4_ := Zh.mk (Zn (g := gb192) (o := .cells #[.int .i64 a3_0,.int .i64 a3_1,.int .i64 a3_2,.int .i64 a3_3,.int .i64 a3_4,.int .i64 a3_5] 25 (0,0)) (by (with_reducible repeat (first | refine Zc ?_ _ | refine Ze ?_ | refine Zd ?_ _)); exact BK192.out) hb); have n5_ := Zh.mk (Zn (g := gb200) (o := .cells #[.int .i64 t193,.int .i64 t194,.int .i64 t195,.int .i64 t196,.int .i64 t197,.int .i64 t198] 25 (0,0)) (by (with_reducible repeat (first | refine Zc ?_ _ | refine Ze ?_ | refine Zd ?_ _)); exact BK200.out) hb); have n6_ := Zh.mk (Zn (g := gb208) (o := .cells #[.int .i64 t201,.int .i64 t202,.int .i64 t203,.int .i64 t204,.int .i64 t205,.int .i64 t206] 25 (0,0)) (by (with_reducible repeat (first | refine Zc ?_ _ | refine Ze ?_ | refine Zd ?_ _)); exact BK208.out) hb); have n7_ := Zh.mk (Zv (by repeat (first | (with_reducible first | exact HB.out | apply Zk | apply Zi | apply Zj | refine Zf ?_ GE190.out | refine Zf ?_ GE191.out | refine Zf ?_ GE192.out | refine Zf ?_ GE200.out | refine Zf ?_ GE208.out) | exact HB.out)) hb); clear HO215; clear HO220; clear BK190; clear BK191; clear BK192; clear BK200; clear BK208; clear HB; have HO215 := n0_; have HO220 := n1_; have BK190 := n2_; have BK191 := n3_; have BK192 := n4_; have BK200 := n5_; have BK208 := n6_; have HB := n7_; clear n0_ n1_ n2_ n3_ n4_ n5_ n6_ n7_
           (try clear hb)
           (try clear hb2)
           (try clear hk)
           (try clear hi)
           refine hK.out _ _ ⟨(Za BK190.out 0).trans rfl,(Za BK190.out 1).trans rfl,(Za BK190.out 2).trans rfl,(Za BK190.out 3).trans rfl,(Za BK190.out 4).trans rfl,(Za BK190.out 5).trans rfl,(Za BK190.out 6).trans rfl,(Za BK200.out 0).trans rfl,(Za BK200.out 1).trans rfl,(Za BK200.out 2).trans rfl,(Za BK200.out 3).trans rfl,(Za BK200.out 4).trans rfl,(Za BK200.out 5).trans rfl,(Za BK208.out 0).trans rfl,(Za BK208.out 1).trans rfl,(Za BK208.out 2).trans rfl,(Za BK208.out 3).trans rfl,(Za BK208.out 4).trans rfl,(Za BK208.out 5).trans rfl⟩ (fun hHeld => ?_); clear hK K; refine norm_ (a' := ?_) ?_ ?_; rotate_left
           · show Act.put _ (some 72) _ = _
             simp only [Act.put,Yi,Yj,Yk,i64_w,i32_w]; rfl
           refine one_ (i := 3) (N := some 74) Yp rfl rfl (Xd HT_.out (by kernel_rfl)) (by decide) (fun K hK => ?_); refine goes_ Try.func12 (by kernel_rfl) rfl #[.agg #[.int .i64 a0_0,.int .i64 a0_1,.int .i64 a0_2,.int .i64 a0_3,.int .i64 a0_4,.int .i64 a0_5,.int .i64 a0_6]] (by rfl) rfl rfl (by (try simp only [List.map_toArray,List.map_cons,List.map_nil]); first | done | rfl | (simp only [List.length_drop,List.length_take]; rfl)) ?_
           with_reducible refine (Zs.calls k a0_0 a0_1 a0_2 a0_3 a0_4 a0_5 a0_6 t224 _ A47.out).mono ?_
           rintro e w60 ⟨rfl,hb⟩; refine ⟨_,rfl,?_⟩; have n0_ := Zh.mk (Kd.ZN (by (with_reducible repeat (first | apply Kd.ZH | apply Kd.ZI | apply Kd.ZG)); exact HO215.out) hb); have n1_ := Zh.mk (Kd.ZN (by (with_reducible repeat (first | apply Kd.ZH | apply Kd.ZI | apply Kd.ZG)); exact HO220.out) hb); have n2_ := Zh.mk (Zn (g := gb190) (o := .cells #[.int .i64 a0_0,.int .i64 a0_1,.int .i64 a0_2,.int .i64 a0_3,.int .i64 a0_4,.int .i64 a0_5,.int .i64 a0_6] 23 (0,0)) (by (with_reducible repeat (first | refine Zc ?_ _ | refine Ze ?_ | refine Zd ?_ _)); exact BK190.out) hb); have n3_ := Zh.mk (Zn (g := gb191) (o := .cells #[.int .i64 a1_0,.int .i64 a1_1,.int .i64 a1_2,.int .i64 a1_3,.int .i64 a1_4,.int .i64 a1_5,.int .i64 a1_6] 23 (0,0)) (by (with_reducible repeat (first | refine Zc ?_ _ | refine Ze ?_ | refine Zd ?_ _)); exact BK191.out) hb); have n4_ := Zh.mk (Zn (g := gb192) (o := .cells #[.int .i64 a3_0,.int .i64 a3_1,.int .i64 a3_2,.int .i64 a3_3,.int .i64 a3_4,.int .i64 a3_5] 25 (0,0)) (by (with_reducible repeat (first | refine Zc ?_ _ | refine Ze ?_ | refine Zd ?_ _)); exact BK192.out) hb); have n5_ := Zh.mk (Zn (g := gb200) (o := .cells #[.int .i64 t193,.int .i64 t194,.int .i64 t195,.int .i64 t196,.int .i64 t197,.int .i64 t198] 25 (0,0)) (by (with_reducible repeat (first | refine Zc ?_ _ | refine Ze ?_ | refine Zd ?_ _)); exact BK200.out) hb); have n6_ := Zh.mk (Zn (g := gb208) (o := .cells #[.int .i64 t201,.int .i64 t202,.int .i64 t203,.int .i64 t204,.int .i64 t205,.int .i64 t206] 25 (0,0)) (by (with_reducible repeat (first | refine Zc ?_ _ | refine Ze ?_ | refine Zd ?_ _)); exact BK208.out) hb); have n7_ := Zh.mk (Zv (by repeat (first | (with_reducible first | exact HB.out | apply Zk | apply Zi | apply Zj | refine Zf ?_ GE190.out | refine Zf ?_ GE191.out | refine Zf ?_ GE192.out | refine Zf ?_ GE200.out | refine Zf ?_ GE208.out) | exact HB.out)) hb); clear HO215; clear HO220; clear BK190; clear BK191; clear BK192; clear BK200; clear BK208; clear HB; have HO215 := n0_; have HO220 := n1_; have BK190 := n2_; have BK191 := n3_; have BK192 := n4_; have BK200 := n5_; have BK208 := n6_; have HB := n7_; clear n0_ n1_ n2_ n3_ n4_ n5_ n6_ n7_
           (try clear hb)
           (try clear hb2)
           (try clear hk)
           (try clear hi)
           refine hK.out _ _ ⟨(Za BK190.out 0).trans rfl,(Za BK190.out 1).trans rfl,(Za BK190.out 2).trans rfl,(Za BK190.out 3).trans rfl,(Za BK190.out 4).trans rfl,(Za BK190.out 5).trans rfl,(Za BK190.out 6).trans rfl,(Za BK200.out 0).trans rfl,(Za BK200.out 1).trans rfl,(Za BK200.out 2).trans rfl,(Za BK200.out 3).trans rfl,(Za BK200.out 4).trans rfl,(Za BK200.out 5).trans rfl,(Za BK208.out 0).trans rfl,(Za BK208.out 1).trans rfl,(Za BK208.out 2).trans rfl,(Za BK208.out 3).trans rfl,(Za BK208.out 4).trans rfl,(Za BK208.out 5).trans rfl⟩ (fun hHeld => ?_); clear hK K; refine norm_ (a' := ?_) ?_ ?_; rotate_left
           · show Act.put _ (some 74) _ = _
             simp only [Act.put,Yi,Yj,Yk,i64_w,i32_w]; rfl
           refine pure_ (i := 4) (N := some 75) (v := ?_) (a' := ?_) Yq rfl rfl (Zo HT_.out (by kernel_rfl)) (fun _ _ _ h => h) (Or.inl ⟨by rfl,?_⟩) ?_ ?_; rotate_left
           · intro w'
             go_simp; with_reducible rfl
           rotate_left
           · simp only [Act.put,Yi,Yj,Yk,i64_w,i32_w]
             rfl
           refine pure_ (i := 5) (N := some 76) (v := ?_) (a' := ?_) Yr rfl rfl (Zo HT_.out (by kernel_rfl)) (fun _ _ _ h => h) (Or.inl ⟨by rfl,?_⟩) ?_ ?_; rotate_left
           · intro w'
             go_simp; with_reducible rfl
           rotate_left
           · simp only [Act.put,Yi,Yj,Yk,i64_w,i32_w]
             rfl
           refine take_ (i := 6) (N := some 77) (v := ?_) (a' := ?_) Ys rfl rfl (Z8 HT_.out HW_.out (by kernel_rfl)) (fun _ _ _ h => h) (Or.inl ⟨by rfl,?_⟩) hHeld ?_ ?_; rotate_left
           · rintro w' ⟨s0,s1,s2,s3,s4,s5,s6,s7,s8,s9,s10,s11,s12,s13,s14,s15,s16,s17,s18⟩
             go_simp; with_reducible rfl
           rotate_left
           · simp only [Act.put,Yi,Yj,Yk,i64_w,i32_w]
             rfl
           refine take_ (i := 7) (N := some 78) (v := ?_) (a' := ?_) Yt rfl rfl (Z8 HT_.out HW_.out (by kernel_rfl)) (fun _ _ _ h => h) (Or.inl ⟨by rfl,?_⟩) hHeld ?_ ?_; rotate_left
           · rintro w' ⟨s0,s1,s2,s3,s4,s5,s6,s7,s8,s9,s10,s11,s12,s13,s14,s15,s16,s17,s18⟩
             go_simp; with_reducible rfl
           rotate_left
           · simp only [Act.put,Yi,Yj,Yk,i64_w,i32_w]
             rfl
           refine pure_ (i := 8) (N := some 79) (v := ?_) (a' := ?_) Yu rfl rfl (Zo HT_.out (by kernel_rfl)) (fun _ _ _ h => h) (Or.inl ⟨by rfl,?_⟩) ?_ ?_; rotate_left
           · intro w'
             go_simp; with_reducible rfl
           rotate_left
           · simp only [Act.put,Yi,Yj,Yk,i64_w,i32_w]
             rfl
           refine pure_ (i := 9) (N := some 80) (v := ?_) (a' := ?_) Yv rfl rfl (Zo HT_.out (by kernel_rfl)) (fun _ _ _ h => h) (Or.inl ⟨by rfl,?_⟩) ?_ ?_; rotate_left
           · intro w'
             go_simp; with_reducible rfl
           rotate_left
           · simp only [Act.put,Yi,Yj,Yk,i64_w,i32_w]
             rfl
           refine pure_ (i := 10) (N := some 81) (v := ?_) (a' := ?_) Yw rfl rfl (Zo HT_.out (by kernel_rfl)) (fun _ _ _ h => h) (Or.inl ⟨by rfl,?_⟩) ?_ ?_; rotate_left
           · intro w'
             go_simp; with_reducible rfl
           rotate_left
           · simp only [Act.put,Yi,Yj,Yk,i64_w,i32_w]
             rfl
           refine pure_ (i := 11) (N := some 82) (v := ?_) (a' := ?_) Yx rfl rfl (Zo HT_.out (by kernel_rfl)) (fun _ _ _ h => h) (Or.inl ⟨by rfl,?_⟩) ?_ ?_; rotate_left
           · intro w'
             go_simp; with_reducible rfl
           rotate_left
           · simp only [Act.put,Yi,Yj,Yk,i64_w,i32_w]
             rfl
           refine pure_ (i := 12) (N := some 83) (v := ?_) (a' := ?_) Yy rfl rfl (Zo HT_.out (by kernel_rfl)) (fun _ _ _ h => h) (Or.inl ⟨by rfl,?_⟩) ?_ ?_; rotate_left
           · intro w'
             go_simp; with_reducible rfl
           rotate_left
           · simp only [Act.put,Yi,Yj,Yk,i64_w,i32_w]
             rfl
           refine pure_ (i := 13) (N := some 84) (v := ?_) (a' := ?_) Yz rfl rfl (Zo HT_.out (by kernel_rfl)) (fun _ _ _ h => h) (Or.inl ⟨by rfl,?_⟩) ?_ ?_; rotate_left
           · intro w'
             go_simp; with_reducible rfl
           rotate_left
           · simp only [Act.put,Yi,Yj,Yk,i64_w,i32_w]
             rfl
           refine pure_ (i := 14) (N := some 85) (v := ?_) (a' := ?_) Y0 rfl rfl (Zo HT_.out (by kernel_rfl)) (fun _ _ _ h => h) (Or.inl ⟨by rfl,?_⟩) ?_ ?_; rotate_left
           · intro w'
             go_simp; with_reducible rfl
           rotate_left
           · simp only [Act.put,Yi,Yj,Yk,i64_w,i32_w]
             rfl
           refine pure_ (i := 15) (N := some 86) (v := ?_) (a' := ?_) Y1 rfl rfl (Zo HT_.out (by kernel_rfl)) (fun _ _ _ h => h) (Or.inl ⟨by rfl,?_⟩) ?_ ?_; rotate_left
           · intro w'
             go_simp; with_reducible rfl
           rotate_left
           · simp only [Act.put,Yi,Yj,Yk,i64_w,i32_w]
             rfl
           refine pure_ (i := 16) (N := some 87) (v := ?_) (a' := ?_) Y2 rfl rfl (Zo HT_.out (by kernel_rfl)) (fun _ _ _ h => h) (Or.inl ⟨by rfl,?_⟩) ?_ ?_; rotate_left
           · intro w'
             go_simp; with_reducible rfl
           rotate_left
           · simp only [Act.put,Yi,Yj,Yk,i64_w,i32_w]
             rfl
           refine pure_ (i := 17) (N := some 88) (v := ?_) (a' := ?_) Y3 rfl rfl (Zo HT_.out (by kernel_rfl)) (fun _ _ _ h => h) (Or.inl ⟨by rfl,?_⟩) ?_ ?_; rotate_left
           · intro w'
             go_simp; with_reducible rfl
           rotate_left
           · simp only [Act.put,Yi,Yj,Yk,i64_w,i32_w]
             rfl
           refine pure_ (i := 18) (N := some 89) (v := ?_) (a' := ?_) Y4 rfl rfl (Zo HT_.out (by kernel_rfl)) (fun _ _ _ h => h) (Or.inl ⟨by rfl,?_⟩) ?_ ?_; rotate_left
           · intro w'
             go_simp; with_reducible rfl
           rotate_left
           · simp only [Act.put,Yi,Yj,Yk,i64_w,i32_w]
             rfl
           refine pure_ (i := 19) (N := some 90) (v := ?_) (a' := ?_) Y5 rfl rfl (Zo HT_.out (by kernel_rfl)) (fun _ _ _ h => h) (Or.inl ⟨by rfl,?_⟩) ?_ ?_; rotate_left
           · intro w'
             go_simp; with_reducible rfl
           rotate_left
           · simp only [Act.put,Yi,Yj,Yk,i64_w,i32_w]
             rfl
           refine pure_ (i := 20) (N := some 91) (v := ?_) (a' := ?_) Y6 rfl rfl (Zo HT_.out (by kernel_rfl)) (fun _ _ _ h => h) (Or.inl ⟨by rfl,?_⟩) ?_ ?_; rotate_left
           · intro w'
             go_simp; with_reducible rfl
           rotate_left
           · simp only [Act.put,Yi,Yj,Yk,i64_w,i32_w]
             rfl
           refine pure_ (i := 21) (N := some 92) (v := undef) (a' := ?_) Y7 rfl rfl (Zo HT_.out (by kernel_rfl)) (fun _ _ _ h => h) (Or.inr ⟨by rfl,rfl⟩) ?_ ?_; rotate_left
           · simp only [Act.put,Yi,Yj,Yk,i64_w,i32_w]
             rfl
           refine pure_ (i := 22) (N := some 93) (v := undef) (a' := ?_) Y8 rfl rfl (Zo HT_.out (by kernel_rfl)) (fun _ _ _ h => h) (Or.inr ⟨by rfl,rfl⟩) ?_ ?_; rotate_left
           · simp only [Act.put,Yi,Yj,Yk,i64_w,i32_w]
             rfl
           refine pure_ (i := 23) (N := some 94) (v := undef) (a' := ?_) Y9 rfl rfl (Zo HT_.out (by kernel_rfl)) (fun _ _ _ h => h) (Or.inr ⟨by rfl,rfl⟩) ?_ ?_; rotate_left
           · simp only [Act.put,Yi,Yj,Yk,i64_w,i32_w]
             rfl
           refine pure_ (i := 24) (N := some 95) (v := ?_) (a' := ?_) YA rfl rfl (Zo HT_.out (by kernel_rfl)) (fun _ _ _ h => h) (Or.inl ⟨by rfl,?_⟩) ?_ ?_; rotate_left
           · intro w'
             go_simp; with_reducible rfl
           rotate_left
           · simp only [Act.put,Yi,Yj,Yk,i64_w,i32_w]
             rfl
           refine pure_ (i := 25) (N := some 96) (v := ?_) (a' := ?_) YB rfl rfl (Zo HT_.out (by kernel_rfl)) (fun _ _ _ h => h) (Or.inl ⟨by rfl,?_⟩) ?_ ?_; rotate_left
           · intro w'
             go_simp; with_reducible rfl
           rotate_left
           · simp only [Act.put,Yi,Yj,Yk,i64_w,i32_w]
             rfl
           refine pure_ (i := 26) (N := some 97) (v := undef) (a' := ?_) YC rfl rfl (Zo HT_.out (by kernel_rfl)) (fun _ _ _ h => h) (Or.inr ⟨by rfl,rfl⟩) ?_ ?_; rotate_left
           · simp only [Act.put,Yi,Yj,Yk,i64_w,i32_w]
             rfl
           refine pure_ (i := 27) (N := some 98) (v := undef) (a' := ?_) YD rfl rfl (Zo HT_.out (by kernel_rfl)) (fun _ _ _ h => h) (Or.inr ⟨by rfl,rfl⟩) ?_ ?_; rotate_left
           · simp only [Act.put,Yi,Yj,Yk,i64_w,i32_w]
             rfl
           refine pure_ (i := 28) (N := some 99) (v := undef) (a' := ?_) YE rfl rfl (Zo HT_.out (by kernel_rfl)) (fun _ _ _ h => h) (Or.inr ⟨by rfl,rfl⟩) ?_ ?_; rotate_left
           · simp only [Act.put,Yi,Yj,Yk,i64_w,i32_w]
             rfl
           refine pure_ (i := 29) (N := some 100) (v := undef) (a' := ?_) YF rfl rfl (Zo HT_.out (by kernel_rfl)) (fun _ _ _ h => h) (Or.inr ⟨by rfl,rfl⟩) ?_ ?_; rotate_left
           · simp only [Act.put,Yi,Yj,Yk,i64_w,i32_w]
             rfl
           refine pure_ (i := 30) (N := some 101) (v := ?_) (a' := ?_) YG rfl rfl (Zo HT_.out (by kernel_rfl)) (fun _ _ _ h => h) (Or.inl ⟨by rfl,?_⟩) ?_ ?_; rotate_left
           · intro w'
             go_simp; with_reducible rfl
           rotate_left
           · simp only [Act.put,Yi,Yj,Yk,i64_w,i32_w]
             rfl
           refine pure_ (i := 31) (N := some 102) (v := ?_) (a' := ?_) YH rfl rfl (Zo HT_.out (by kernel_rfl)) (fun _ _ _ h => h) (Or.inl ⟨by rfl,?_⟩) ?_ ?_; rotate_left
           · intro w'
             go_simp; with_reducible rfl
           rotate_left
           · simp only [Act.put,Yi,Yj,Yk,i64_w,i32_w]
             rfl
           refine pure_ (i := 32) (N := some 103) (v := undef) (a' := ?_) YI rfl rfl (Zo HT_.out (by kernel_rfl)) (fun _ _ _ h => h) (Or.inr ⟨by rfl,rfl⟩) ?_ ?_; rotate_left
           · simp only [Act.put,Yi,Yj,Yk,i64_w,i32_w]
             rfl
           refine pure_ (i := 33) (N := some 104) (v := undef) (a' := ?_) YJ rfl rfl (Zo HT_.out (by kernel_rfl)) (fun _ _ _ h => h) (Or.inr ⟨by rfl,rfl⟩) ?_ ?_; rotate_left
           · simp only [Act.put,Yi,Yj,Yk,i64_w,i32_w]
             rfl
           refine pure_ (i := 34) (N := some 105) (v := undef) (a' := ?_) YK rfl rfl (Zo HT_.out (by kernel_rfl)) (fun _ _ _ h => h) (Or.inr ⟨by rfl,rfl⟩) ?_ ?_; rotate_left
           · simp only [Act.put,Yi,Yj,Yk,i64_w,i32_w]
             rfl
           refine pure_ (i := 35) (N := some 106) (v := ?_) (a' := ?_) YL rfl rfl (Zo HT_.out (by kernel_rfl)) (fun _ _ _ h => h) (Or.inl ⟨by rfl,?_⟩) ?_ ?_; rotate_left
           · intro w'
             go_simp; with_reducible rfl
           rotate_left
           · simp only [Act.put,Yi,Yj,Yk,i64_w,i32_w]
             rfl
           refine pure_ (i := 36) (N := some 107) (v := ?_) (a' := ?_) YM rfl rfl (Zo HT_.out (by kernel_rfl)) (fun _ _ _ h => h) (Or.inl ⟨by rfl,?_⟩) ?_ ?_; rotate_left
           · intro w'
             go_simp; with_reducible rfl
           rotate_left
           · simp only [Act.put,Yi,Yj,Yk,i64_w,i32_w]
             rfl
           refine pure_ (i := 37) (N := some 108) (v := undef) (a' := ?_) YN rfl rfl (Zo HT_.out (by kernel_rfl)) (fun _ _ _ h => h) (Or.inr ⟨by rfl,rfl⟩) ?_ ?_; rotate_left
           · simp only [Act.put,Yi,Yj,Yk,i64_w,i32_w]
             rfl
           refine pure_ (i := 38) (N := some 109) (v := undef) (a' := ?_) YO rfl rfl (Zo HT_.out (by kernel_rfl)) (fun _ _ _ h => h) (Or.inr ⟨by rfl,rfl⟩) ?_ ?_; rotate_left
           · simp only [Act.put,Yi,Yj,Yk,i64_w,i32_w]
             rfl
           refine pure_ (i := 39) (N := some 110) (v := undef) (a' := ?_) YP rfl rfl (Zo HT_.out (by kernel_rfl)) (fun _ _ _ h => h) (Or.inr ⟨by rfl,rfl⟩) ?_ ?_; rotate_left
           · simp only [Act.put,Yi,Yj,Yk,i64_w,i32_w]
             rfl
           refine pure_ (i := 40) (N := some 111) (v := ?_) (a' := ?_) YQ rfl rfl (Zo HT_.out (by kernel_rfl)) (fun _ _ _ h => h) (Or.inl ⟨by rfl,?_⟩) ?_ ?_; rotate_left
           · intro w'
             go_simp; with_reducible rfl
           rotate_left
           · simp only [Act.put,Yi,Yj,Yk,i64_w,i32_w]
             rfl
           refine done_ (Xh HT_.out (by kernel_rfl)) ?_
           try go_wp2
           go_meet
           case rel => exact ⟨_,(true),(by first | rfl | (simp; done) | (simp [*]; done)),H',⟨by first | omega | exact Nat.le_refl _⟩,⟨by (with_reducible repeat (first | refine Zc ?_ _ | refine Ze ?_ | refine Zd ?_ _)); exact BK190.out⟩,⟨by (with_reducible repeat (first | refine Zc ?_ _ | refine Ze ?_ | refine Zd ?_ _)); exact BK191.out⟩,⟨by (with_reducible repeat (first | refine Zc ?_ _ | refine Ze ?_ | refine Zd ?_ _)); exact BK192.out⟩,⟨by (with_reducible repeat (first | refine Zc ?_ _ | refine Ze ?_ | refine Zd ?_ _)); exact BK200.out⟩,⟨by (with_reducible repeat (first | refine Zc ?_ _ | refine Ze ?_ | refine Zd ?_ _)); exact BK208.out⟩,⟨by repeat (first | (with_reducible first | exact HB.out | apply Zk | apply Zi | apply Zj | refine Zf ?_ GE190.out | refine Zf ?_ GE191.out | refine Zf ?_ GE192.out | refine Zf ?_ GE200.out | refine Zf ?_ GE208.out) | exact HB.out)⟩⟩
         · rw [if_neg c57] at H
           have c57b0 : (t209 != t211) = false := by simpa using c57
           (try (have c57b1 : decide (t209 = t211) = true := by simpa using c57))
           (try (have c57b2 : (t209 == t211) = true := by simpa using c57))
           clear c57
           by_cases c61 : t210 = t212
           · rw [if_pos c61] at H
             have c61b0 : (t210 == t212) = true := beq_iff_eq.mpr c61; have c61b1 : (t210 != t212) = false := bne_eq_false_iff_eq.mpr c61; clear c61; replace H := Option.bind_eq_some_iff.mp H; obtain ⟨t225,A620,H⟩ := H; replace H : (if t225 = true then (if t216 = t221 then (Zg.j0 k a2 t207 (t217 != t222) a0_0 a0_1 a0_2 a0_3 a0_4 a0_5 a0_6 a1_0 a1_1 a1_2 a1_3 a1_4 a1_5 a1_6 t193 t194 t195 t196 t197 t198) else (Zg.j0 k a2 t207 true a0_0 a0_1 a0_2 a0_3 a0_4 a0_5 a0_6 a1_0 a1_1 a1_2 a1_3 a1_4 a1_5 a1_6 t193 t194 t195 t196 t197 t198)) else (Zg.j0 k a2 t207 true a0_0 a0_1 a0_2 a0_3 a0_4 a0_5 a0_6 a1_0 a1_1 a1_2 a1_3 a1_4 a1_5 a1_6 t193 t194 t195 t196 t197 t198)) = some r := H; have A62 := Zh.mk A620; clear A620
             by_cases c63 : t225 = true
             · subst c63
               have H1 : (if t216 = t221 then (Zg.j0 k a2 t207 (t217 != t222) a0_0 a0_1 a0_2 a0_3 a0_4 a0_5 a0_6 a1_0 a1_1 a1_2 a1_3 a1_4 a1_5 a1_6 t193 t194 t195 t196 t197 t198) else (Zg.j0 k a2 t207 true a0_0 a0_1 a0_2 a0_3 a0_4 a0_5 a0_6 a1_0 a1_1 a1_2 a1_3 a1_4 a1_5 a1_6 t193 t194 t195 t196 t197 t198)) = some r := by rw [if_pos rfl] at H; exact H
               clear H; have H := H1; clear H1
               by_cases c64 : t216 = t221
               · rw [if_pos c64] at H
                 have c64b0 : (t216 == t221) = true := beq_iff_eq.mpr c64; have c64b1 : (t216 != t221) = false := bne_eq_false_iff_eq.mpr c64; clear c64; have H' := Zh.mk H; clear H
                 try go_wp2
                 have n0_ := Zh.mk (Kd.ZG HO215.out); have n1_ := Zh.mk (Kd.ZG HO220.out); have n2_ := Zh.mk (Ze BK190.out); have n3_ := Zh.mk (Ze BK191.out); have n4_ := Zh.mk (Ze BK192.out); have n5_ := Zh.mk (Ze BK200.out); have n6_ := Zh.mk (Ze BK208.out); have n7_ := Zh.mk (Zj HB.out); clear HO215; clear HO220; clear BK190; clear BK191; clear BK192; clear BK200; clear BK208; clear HB; have HO215 := n0_; have HO220 := n1_; have BK190 := n2_; have BK191 := n3_; have BK192 := n4_; have BK200 := n5_; have BK208 := n6_; have HB := n7_; clear n0_ n1_ n2_ n3_ n4_ n5_ n6_ n7_; refine Xk (n := 41) (S := fun w' => w'.cell? ⟨gb190,0,none⟩ = some (.int .i64 a0_0) ∧ w'.cell? ⟨gb190,1,none⟩ = some (.int .i64 a0_1) ∧ w'.cell? ⟨gb190,2,none⟩ = some (.int .i64 a0_2) ∧ w'.cell? ⟨gb190,3,none⟩ = some (.int .i64 a0_3) ∧ w'.cell? ⟨gb190,4,none⟩ = some (.int .i64 a0_4) ∧ w'.cell? ⟨gb190,5,none⟩ = some (.int .i64 a0_5) ∧ w'.cell? ⟨gb190,6,none⟩ = some (.int .i64 a0_6) ∧ w'.cell? ⟨gb200,0,none⟩ = some (.int .i64 t193) ∧ w'.cell? ⟨gb200,1,none⟩ = some (.int .i64 t194) ∧ w'.cell? ⟨gb200,2,none⟩ = some (.int .i64 t195) ∧ w'.cell? ⟨gb200,3,none⟩ = some (.int .i64 t196) ∧ w'.cell? ⟨gb200,4,none⟩ = some (.int .i64 t197) ∧ w'.cell? ⟨gb200,5,none⟩ = some (.int .i64 t198) ∧ w'.cell? ⟨gb208,0,none⟩ = some (.int .i64 t201) ∧ w'.cell? ⟨gb208,1,none⟩ = some (.int .i64 t202) ∧ w'.cell? ⟨gb208,2,none⟩ = some (.int .i64 t203) ∧ w'.cell? ⟨gb208,3,none⟩ = some (.int .i64 t204) ∧ w'.cell? ⟨gb208,4,none⟩ = some (.int .i64 t205) ∧ w'.cell? ⟨gb208,5,none⟩ = some (.int .i64 t206)) (ds := []) Yl (by kernel_rfl) rfl rfl ⟨(Za BK190.out 0).trans rfl,(Za BK190.out 1).trans rfl,(Za BK190.out 2).trans rfl,(Za BK190.out 3).trans rfl,(Za BK190.out 4).trans rfl,(Za BK190.out 5).trans rfl,(Za BK190.out 6).trans rfl,(Za BK200.out 0).trans rfl,(Za BK200.out 1).trans rfl,(Za BK200.out 2).trans rfl,(Za BK200.out 3).trans rfl,(Za BK200.out 4).trans rfl,(Za BK200.out 5).trans rfl,(Za BK208.out 0).trans rfl,(Za BK208.out 1).trans rfl,(Za BK208.out 2).trans rfl,(Za BK208.out 3).trans rfl,(Za BK208.out 4).trans rfl,(Za BK208.out 5).trans rfl⟩ (fun hHeld => ?_); refine Xb Zg.tab7 Zg.bits7 (fun HT_ HW_ => ?_); generalize w45.drew = w65 at HO215 HO220 BK190 BK191 BK192 BK200 BK208 HB hHeld ⊢; refine take_ (i := 0) (N := some 71) (v := ?_) (a' := ?_) Ym rfl rfl (Z8 HT_.out HW_.out (by kernel_rfl)) (fun _ _ _ h => h) (Or.inl ⟨by rfl,?_⟩) hHeld ?_ ?_; rotate_left
                 · rintro w' ⟨s0,s1,s2,s3,s4,s5,s6,s7,s8,s9,s10,s11,s12,s13,s14,s15,s16,s17,s18⟩
                   go_simp; with_reducible rfl
                 rotate_left
                 · simp only [Act.put,Yi,Yj,Yk,i64_w,i32_w]
                   rfl
                 refine take_ (i := 2) (N := some 73) (v := ?_) (a' := ?_) Yn rfl rfl (Z8 HT_.out HW_.out (by kernel_rfl)) (fun _ _ _ h => h) (Or.inl ⟨by rfl,?_⟩) hHeld ?_ ?_; rotate_left
                 · rintro w' ⟨s0,s1,s2,s3,s4,s5,s6,s7,s8,s9,s10,s11,s12,s13,s14,s15,s16,s17,s18⟩
                   go_simp; with_reducible rfl
                 rotate_left
                 · simp only [Act.put,Yi,Yj,Yk,i64_w,i32_w]
                   rfl
                 refine one_ (i := 1) (N := some 72) Yo rfl rfl (Xd HT_.out (by kernel_rfl)) (by decide) (fun K hK => ?_); refine goes_ Try.func11 (by kernel_rfl) rfl #[.agg #[.int .i64 a0_0,.int .i64 a0_1,.int .i64 a0_2,.int .i64 a0_3,.int .i64 a0_4,.int .i64 a0_5,.int .i64 a0_6]] (by rfl) rfl rfl (by (try simp only [List.map_toArray,List.map_cons,List.map_nil]); first | done | rfl | (simp only [List.length_drop,List.length_take]; rfl)) ?_
                 with_reducible refine (ZC.calls a0_0 a0_1 a0_2 a0_3 a0_4 a0_5 a0_6 t223 _ A46.out).mono ?_
                 rintro e w66 ⟨rfl,hb⟩; refine ⟨_,rfl,?_⟩; have n0_ := Zh.mk (Kd.ZN (by (with_reducible repeat (first | apply Kd.ZH | apply Kd.ZI | apply Kd.ZG)); exact HO215.out) hb); have n1_ := Zh.mk (Kd.ZN (by (with_reducible repeat (first | apply Kd.ZH | apply Kd.ZI | apply Kd.ZG)); exact HO220.out) hb); have n2_ := Zh.mk (Zn (g := gb190) (o := .cells #[.int .i64 a0_0,.int .i64 a0_1,.int .i64 a0_2,.int .i64 a0_3,.int .i64 a0_4,.int .i64 a0_5,.int .i64 a0_6] 23 (0,0)) (by (with_reducible repeat (first | refine Zc ?_ _ | refine Ze ?_ | refine Zd ?_ _)); exact BK190.out) hb); have n3_ := Zh.mk (Zn (g := gb191) (o := .cells #[.int .i64 a1_0,.int .i64 a1_1,.int .i64 a1_2,.int .i64 a1_3,.int .i64 a1_4,.int .i64 a1_5,.int .i64 a1_6] 23 (0,0)) (by (with_reducible repeat (first | refine Zc ?_ _ | refine Ze ?_ | refine Zd ?_ _)); exact BK191.out) hb); have n4_ := Zh.mk (Zn (g := gb192) (o := .cells #[.int .i64 a3_0,.int .i64 a3_1,.int .i64 a3_2,.int .i64 a3_3,.int .i64 a3_4,.int .i64 a3_5] 25 (0,0)) (by (with_reducible repeat (first | refine Zc ?_ _ | refine Ze ?_ | refine Zd ?_ _)); exact BK192.out) hb); have n5_ := Zh.mk (Zn (g := gb200) (o := .cells #[.int .i64 t193,.int .i64 t194,.int .i64 t195,.int .i64 t196,.int .i64 t197,.int .i64 t198] 25 (0,0)) (by (with_reducible repeat (first | refine Zc ?_ _ | refine Ze ?_ | refine Zd ?_ _)); exact BK200.out) hb); have n6_ := Zh.mk (Zn (g := gb208) (o := .cells #[.int .i64 t201,.int .i64 t202,.int .i64 t203,.int .i64 t204,.int .i64 t205,.int .i64 t206] 25 (0,0)) (by (with_reducible repeat (first | refine Zc ?_ _ | refine Ze ?_ | refine Zd ?_ _)); exact BK208.out) hb); have n7_ := Zh.mk (Zv (by repeat (first | (with_reducible first | exact HB.out | apply Zk | apply Zi | apply Zj | refine Zf ?_ GE190.out | refine Zf ?_ GE191.out | refine Zf ?_ GE192.out | refine Zf ?_ GE200.out | refine Zf ?_ GE208.out) | exact HB.out)) hb); clear HO215; clear HO220; clear BK190; clear BK191; clear BK192; clear BK200; clear BK208; clear HB; have HO215 := n0_; have HO220 := n1_; have BK190 := n2_; have BK191 := n3_; have BK192 := n4_; have BK200 := n5_; have BK208 := n6_; have HB := n7_; clear n0_ n1_ n2_ n3_ n4_ n5_ n6_ n7_
                 (try clear hb)
                 (try clear hb2)
                 (try clear hk)
                 (try clear hi)
                 refine hK.out _ _ ⟨(Za BK190.out 0).trans rfl,(Za BK190.out 1).trans rfl,(Za BK190.out 2).trans rfl,(Za BK190.out 3).trans rfl,(Za BK190.out 4).trans rfl,(Za BK190.out 5).trans rfl,(Za BK190.out 6).trans rfl,(Za BK200.out 0).trans rfl,(Za BK200.out 1).trans rfl,(Za BK200.out 2).trans rfl,(Za BK200.out 3).trans rfl,(Za BK200.out 4).trans rfl,(Za BK200.out 5).trans rfl,(Za BK208.out 0).trans rfl,(Za BK208.out 1).trans rfl,(Za BK208.out 2).trans rfl,(Za BK208.out 3).trans rfl,(Za BK208.out 4).trans rfl,(Za BK208.out 5).trans rfl⟩ (fun hHeld => ?_); clear hK K; refine norm_ (a' := ?_) ?_ ?_; rotate_left
                 · show Act.put _ (some 72) _ = _
                   simp only [Act.put,Yi,Yj,Yk,i64_w,i32_w]; rfl
                 refine one_ (i := 3) (N := some 74) Yp rfl rfl (Xd HT_.out (by kernel_rfl)) (by decide) (fun K hK => ?_); refine goes_ Try.func12 (by kernel_rfl) rfl #[.agg #[.int .i64 a0_0,.int .i64 a0_1,.int .i64 a0_2,.int .i64 a0_3,.int .i64 a0_4,.int .i64 a0_5,.int .i64 a0_6]] (by rfl) rfl rfl (by (try simp only [List.map_toArray,List.map_cons,List.map_nil]); first | done | rfl | (simp only [List.length_drop,List.length_take]; rfl)) ?_
                 with_reducible refine (Zs.calls k a0_0 a0_1 a0_2 a0_3 a0_4 a0_5 a0_6 t224 _ A47.out).mono ?_
                 rintro e w67 ⟨rfl,hb⟩; refine ⟨_,rfl,?_⟩; have n0_ := Zh.mk (Kd.ZN (by (with_reducible repeat (first | apply Kd.ZH | apply Kd.ZI | apply Kd.ZG)); exact HO215.out) hb); have n1_ := Zh.mk (Kd.ZN (by (with_reducible repeat (first | apply Kd.ZH | apply Kd.ZI | apply Kd.ZG)); exact HO220.out) hb); have n2_ := Zh.mk (Zn (g := gb190) (o := .cells #[.int .i64 a0_0,.int .i64 a0_1,.int .i64 a0_2,.int .i64 a0_3,.int .i64 a0_4,.int .i64 a0_5,.int .i64 a0_6] 23 (0,0)) (by (with_reducible repeat (first | refine Zc ?_ _ | refine Ze ?_ | refine Zd ?_ _)); exact BK190.out) hb); have n3_ := Zh.mk (Zn (g := gb191) (o := .cells #[.int .i64 a1_0,.int .i64 a1_1,.int .i64 a1_2,.int .i64 a1_3,.int .i64 a1_4,.int .i64 a1_5,.int .i64 a1_6] 23 (0,0)) (by (with_reducible repeat (first | refine Zc ?_ _ | refine Ze ?_ | refine Zd ?_ _)); exact BK191.out) hb); have n4_ := Zh.mk (Zn (g := gb192) (o := .cells #[.int .i64 a3_0,.int .i64 a3_1,.int .i64 a3_2,.int .i64 a3_3,.int .i64 a3_4,.int .i64 a3_5] 25 (0,0)) (by (with_reducible repeat (first | refine Zc ?_ _ | refine Ze ?_ | refine Zd ?_ _)); exact BK192.out) hb); have n5_ := Zh.mk (Zn (g := gb200) (o := .cells #[.int .i64 t193,.int .i64 t194,.int .i64 t195,.int .i64 t196,.int .i64 t197,.int .i64 t198] 25 (0,0)) (by (with_reducible repeat (first | refine Zc ?_ _ | refine Ze ?_ | refine Zd ?_ _)); exact BK200.out) hb); have n6_ := Zh.mk (Zn (g := gb208) (o := .cells #[.int .i64 t201,.int .i64 t202,.int .i64 t203,.int .i64 t204,.int .i64 t205,.int .i64 t206] 25 (0,0)) (by (with_reducible repeat (first | refine Zc ?_ _ | refine Ze ?_ | refine Zd ?_ _)); exact BK208.out) hb); have n7_ := Zh.mk (Zv (by repeat (first | (with_reducible first | exact HB.out | apply Zk | apply Zi | apply Zj | refine Zf ?_ GE190.out | refine Zf ?_ GE191.out | refine Zf ?_ GE192.out | refine Zf ?_ GE200.out | refine Zf ?_ GE208.out) | exact HB.out)) hb); clear HO215; clear HO220; clear BK190; clear BK191; clear BK192; clear BK200; clear BK208; clear HB; have HO215 := n0_; have HO220 := n1_; have BK190 := n2_; have BK191 := n3_; have BK192 := n4_; have BK200 := n5_; have BK208 := n6_; have HB := n7_; clear n0_ n1_ n2_ n3_ n4_ n5_ n6_ n7_
                 (try clear hb)
                 (try clear hb2)
                 (try clear hk)
                 (try clear hi)
                 obtain ⟨Ao68,co68,eo68⟩ := Kd.Xm HO215.out
                 (first | subst eo68 | (injection eo68 with f1_ f2_ f3_; have f4_ := f1_.symm; have f5_ := f3_.symm; clear f1_ f2_ f3_; subst f4_; subst f5_))
                 obtain ⟨Ao69,co69,eo69⟩ := Kd.Xm HO220.out
                 (first | subst eo69 | (injection eo69 with f1_ f2_ f3_; have f4_ := f1_.symm; have f5_ := f3_.symm; clear f1_ f2_ f3_; subst f4_; subst f5_))
                 refine hK.out _ _ ⟨(Za BK190.out 0).trans rfl,(Za BK190.out 1).trans rfl,(Za BK190.out 2).trans rfl,(Za BK190.out 3).trans rfl,(Za BK190.out 4).trans rfl,(Za BK190.out 5).trans rfl,(Za BK190.out 6).trans rfl,(Za BK200.out 0).trans rfl,(Za BK200.out 1).trans rfl,(Za BK200.out 2).trans rfl,(Za BK200.out 3).trans rfl,(Za BK200.out 4).trans rfl,(Za BK200.out 5).trans rfl,(Za BK208.out 0).trans rfl,(Za BK208.out 1).trans rfl,(Za BK208.out 2).trans rfl,(Za BK208.out 3).trans rfl,(Za BK208.out 4).trans rfl,(Za BK208.out 5).trans rfl⟩ (fun hHeld => ?_); clear hK K; refine norm_ (a' := ?_) ?_ ?_; rotate_left
                 · show Act.put _ (some 74) _ = _
                   simp only [Act.put,Yi,Yj,Yk,i64_w,i32_w]; rfl
                 refine pure_ (i := 4) (N := some 75) (v := ?_) (a' := ?_) Yq rfl rfl (Zo HT_.out (by kernel_rfl)) (fun _ _ _ h => h) (Or.inl ⟨by rfl,?_⟩) ?_ ?_; rotate_left
                 · intro w'
                   go_simp; with_reducible rfl
                 rotate_left
                 · simp only [Act.put,Yi,Yj,Yk,i64_w,i32_w]
                   rfl
                 refine pure_ (i := 5) (N := some 76) (v := ?_) (a' := ?_) Yr rfl rfl (Zo HT_.out (by kernel_rfl)) (fun _ _ _ h => h) (Or.inl ⟨by rfl,?_⟩) ?_ ?_; rotate_left
                 · intro w'
                   go_simp; with_reducible rfl
                 rotate_left
                 · simp only [Act.put,Yi,Yj,Yk,i64_w,i32_w]
                   rfl
                 refine take_ (i := 6) (N := some 77) (v := ?_) (a' := ?_) Ys rfl rfl (Z8 HT_.out HW_.out (by kernel_rfl)) (fun _ _ _ h => h) (Or.inl ⟨by rfl,?_⟩) hHeld ?_ ?_; rotate_left
                 · rintro w' ⟨s0,s1,s2,s3,s4,s5,s6,s7,s8,s9,s10,s11,s12,s13,s14,s15,s16,s17,s18⟩
                   go_simp; with_reducible rfl
                 rotate_left
                 · simp only [Act.put,Yi,Yj,Yk,i64_w,i32_w]
                   rfl
                 refine take_ (i := 7) (N := some 78) (v := ?_) (a' := ?_) Yt rfl rfl (Z8 HT_.out HW_.out (by kernel_rfl)) (fun _ _ _ h => h) (Or.inl ⟨by rfl,?_⟩) hHeld ?_ ?_; rotate_left
                 · rintro w' ⟨s0,s1,s2,s3,s4,s5,s6,s7,s8,s9,s10,s11,s12,s13,s14,s15,s16,s17,s18⟩
                   go_simp; with_reducible rfl
                 rotate_left
                 · simp only [Act.put,Yi,Yj,Yk,i64_w,i32_w]
                   rfl
                 refine pure_ (i := 8) (N := some 79) (v := ?_) (a' := ?_) Yu rfl rfl (Zo HT_.out (by kernel_rfl)) (fun _ _ _ h => h) (Or.inl ⟨by rfl,?_⟩) ?_ ?_; rotate_left
                 · intro w'
                   go_simp; with_reducible rfl
                 rotate_left
                 · simp only [Act.put,Yi,Yj,Yk,i64_w,i32_w]
                   rfl
                 refine pure_ (i := 9) (N := some 80) (v := ?_) (a' := ?_) Yv rfl rfl (Zo HT_.out (by kernel_rfl)) (fun _ _ _ h => h) (Or.inl ⟨by rfl,?_⟩) ?_ ?_; rotate_left
                 · intro w'
                   go_simp; with_reducible rfl
                 rotate_left
                 · simp only [Act.put,Yi,Yj,Yk,i64_w,i32_w]
                   rfl
                 refine pure_ (i := 10) (N := some 81) (v := ?_) (a' := ?_) Yw rfl rfl (Zo HT_.out (by kernel_rfl)) (fun _ _ _ h => h) (Or.inl ⟨by rfl,?_⟩) ?_ ?_; rotate_left
                 · intro w'
                   go_simp; with_reducible rfl
                 rotate_left
                 · simp only [Act.put,Yi,Yj,Yk,i64_w,i32_w]
                   rfl
                 refine pure_ (i := 11) (N := some 82) (v := ?_) (a' := ?_) Yx rfl rfl (Zo HT_.out (by kernel_rfl)) (fun _ _ _ h => h) (Or.inl ⟨by rfl,?_⟩) ?_ ?_; rotate_left
                 · intro w'
                   go_simp; with_reducible rfl
                 rotate_left
                 · simp only [Act.put,Yi,Yj,Yk,i64_w,i32_w]
                   rfl
                 refine pure_ (i := 12) (N := some 83) (v := ?_) (a' := ?_) Yy rfl rfl (Zo HT_.out (by kernel_rfl)) (fun _ _ _ h => h) (Or.inl ⟨by rfl,?_⟩) ?_ ?_; rotate_left
                 · intro w'
                   go_simp; with_reducible rfl
                 rotate_left
                 · simp only [Act.put,Yi,Yj,Yk,i64_w,i32_w]
                   rfl
                 refine pure_ (i := 13) (N := some 84) (v := ?_) (a' := ?_) Yz rfl rfl (Zo HT_.out (by kernel_rfl)) (fun _ _ _ h => h) (Or.inl ⟨by rfl,?_⟩) ?_ ?_; rotate_left
                 · intro w'
                   go_simp; with_reducible rfl
                 rotate_left
                 · simp only [Act.put,Yi,Yj,Yk,i64_w,i32_w]
                   rfl
                 refine pure_ (i := 14) (N := some 85) (v := ?_) (a' := ?_) Y0 rfl rfl (Zo HT_.out (by kernel_rfl)) (fun _ _ _ h => h) (Or.inl ⟨by rfl,?_⟩) ?_ ?_; rotate_left
                 · intro w'
                   go_simp; with_reducible rfl
                 rotate_left
                 · simp only [Act.put,Yi,Yj,Yk,i64_w,i32_w]
                   rfl
                 refine pure_ (i := 15) (N := some 86) (v := ?_) (a' := ?_) Y1 rfl rfl (Zo HT_.out (by kernel_rfl)) (fun _ _ _ h => h) (Or.inl ⟨by rfl,?_⟩) ?_ ?_; rotate_left
                 · intro w'
                   go_simp; with_reducible rfl
                 rotate_left
                 · simp only [Act.put,Yi,Yj,Yk,i64_w,i32_w]
                   rfl
                 refine pure_ (i := 16) (N := some 87) (v := ?_) (a' := ?_) Y2 rfl rfl (Zo HT_.out (by kernel_rfl)) (fun _ _ _ h => h) (Or.inl ⟨by rfl,?_⟩) ?_ ?_; rotate_left
                 · intro w'
                   go_simp; with_reducible rfl
                 rotate_left
                 · simp only [Act.put,Yi,Yj,Yk,i64_w,i32_w]
                   rfl
                 refine pure_ (i := 17) (N := some 88) (v := ?_) (a' := ?_) Y3 rfl rfl (Zo HT_.out (by kernel_rfl)) (fun _ _ _ h => h) (Or.inl ⟨by rfl,?_⟩) ?_ ?_; rotate_left
                 · intro w'
                   go_simp; with_reducible rfl
                 rotate_left
                 · simp only [Act.put,Yi,Yj,Yk,i64_w,i32_w]
                   rfl
                 refine pure_ (i := 18) (N := some 89) (v := ?_) (a' := ?_) Y4 rfl rfl (Zo HT_.out (by kernel_rfl)) (fun _ _ _ h => h) (Or.inl ⟨by rfl,?_⟩) ?_ ?_; rotate_left
                 · intro w'
                   go_simp; with_reducible rfl
                 rotate_left
                 · simp only [Act.put,Yi,Yj,Yk,i64_w,i32_w]
                   rfl
                 refine pure_ (i := 19) (N := some 90) (v := ?_) (a' := ?_) Y5 rfl rfl (Zo HT_.out (by kernel_rfl)) (fun _ _ _ h => h) (Or.inl ⟨by rfl,?_⟩) ?_ ?_; rotate_left
                 · intro w'
                   go_simp; with_reducible rfl
                 rotate_left
                 · simp only [Act.put,Yi,Yj,Yk,i64_w,i32_w]
                   rfl
                 refine pure_ (i := 20) (N := some 91) (v := ?_) (a' := ?_) Y6 rfl rfl (Zo HT_.out (by kernel_rfl)) (fun _ _ _ h => h) (Or.inl ⟨by rfl,?_⟩) ?_ ?_; rotate_left
                 · intro w'
                   go_simp; with_reducible rfl
                 rotate_left
                 · simp only [Act.put,Yi,Yj,Yk,i64_w,i32_w]
                   rfl
                 refine pure_ (i := 21) (N := some 92) (v := ?_) (a' := ?_) Y7 rfl rfl (Zo HT_.out (by kernel_rfl)) (fun _ _ _ h => h) (Or.inl ⟨by rfl,?_⟩) ?_ ?_; rotate_left
                 · intro w'
                   go_simp; with_reducible rfl
                 rotate_left
                 · simp only [Act.put,Yi,Yj,Yk,i64_w,i32_w]
                   rfl
                 refine pure_ (i := 22) (N := some 93) (v := ?_) (a' := ?_) Y8 rfl rfl (Zo HT_.out (by kernel_rfl)) (fun _ _ _ h => h) (Or.inl ⟨by rfl,?_⟩) ?_ ?_; rotate_left
                 · intro w'
                   go_simp; with_reducible rfl
                 rotate_left
                 · simp only [Act.put,Yi,Yj,Yk,i64_w,i32_w]
                   rfl
                 refine pure_ (i := 23) (N := some 94) (v := ?_) (a' := ?_) Y9 rfl rfl (Zo HT_.out (by kernel_rfl)) (fun _ _ _ h => h) (Or.inl ⟨by rfl,?_⟩) ?_ ?_; rotate_left
                 · intro w'
                   go_simp; with_reducible rfl
                 rotate_left
                 · simp only [Act.put,Yi,Yj,Yk,i64_w,i32_w]
                   rfl
                 refine pure_ (i := 24) (N := some 95) (v := ?_) (a' := ?_) YA rfl rfl (Zo HT_.out (by kernel_rfl)) (fun _ _ _ h => h) (Or.inl ⟨by rfl,?_⟩) ?_ ?_; rotate_left
                 · intro w'
                   go_simp; with_reducible rfl
                 rotate_left
                 · simp only [Act.put,Yi,Yj,Yk,i64_w,i32_w]
                   rfl
                 refine pure_ (i := 25) (N := some 96) (v := ?_) (a' := ?_) YB rfl rfl (Zo HT_.out (by kernel_rfl)) (fun _ _ _ h => h) (Or.inl ⟨by rfl,?_⟩) ?_ ?_; rotate_left
                 · intro w'
                   go_simp; with_reducible rfl
                 rotate_left
                 · simp only [Act.put,Yi,Yj,Yk,i64_w,i32_w]
                   rfl
                 refine pure_ (i := 26) (N := some 97) (v := ?_) (a' := ?_) YC rfl rfl (Zo HT_.out (by kernel_rfl)) (fun _ _ _ h => h) (Or.inl ⟨by rfl,?_⟩) ?_ ?_; rotate_left
                 · intro w'
                   go_simp; with_reducible rfl
                 rotate_left
                 · simp only [Act.put,Yi,Yj,Yk,i64_w,i32_w]
                   rfl
                 refine pure_ (i := 27) (N := some 98) (v := ?_) (a' := ?_) YD rfl rfl (Zo HT_.out (by kernel_rfl)) (fun _ _ _ h => h) (Or.inl ⟨by rfl,?_⟩) ?_ ?_; rotate_left
                 · intro w'
                   go_simp; with_reducible rfl
                 rotate_left
                 · simp only [Act.put,Yi,Yj,Yk,i64_w,i32_w]
                   rfl
                 refine one_ (i := 28) (N := some 99) YE rfl rfl (Xd HT_.out (by kernel_rfl)) (by decide) (fun K hK => ?_); refine goes_ Try.func13 (by kernel_rfl) rfl #[.slice Ao68 t213.length co68,.slice Ao69 t218.length co69] (by rfl) rfl rfl (by (try simp only [List.map_toArray,List.map_cons,List.map_nil]); first | done | rfl | (simp only [List.length_drop,List.length_take]; rfl)) ?_
                 with_reducible refine (Zr.calls k _ _ t213 _ _ t218 true _ ?side1 ?side2 ?side3 ?side4 A62.out).mono ?_
                 (case side1 => repeat (first | exact (Kd.ZJ HO215.out).2.2 | (with_reducible refine Kd.ZV ?_ _) | (with_reducible refine Kd.ZW ?_ _) | (with_reducible refine Kd.ZX ?_)))
                 (case side2 => exact (Kd.ZJ HO215.out).2.1)
                 (case side3 => repeat (first | exact (Kd.ZJ HO220.out).2.2 | (with_reducible refine Kd.ZV ?_ _) | (with_reducible refine Kd.ZW ?_ _) | (with_reducible refine Kd.ZX ?_)))
                 (case side4 => exact (Kd.ZJ HO220.out).2.1)
                 rintro e w' ⟨rfl,⟨nd,rfl⟩⟩; refine ⟨_,rfl,?_⟩; refine hK.out _ _ ⟨(Za BK190.out 0).trans rfl,(Za BK190.out 1).trans rfl,(Za BK190.out 2).trans rfl,(Za BK190.out 3).trans rfl,(Za BK190.out 4).trans rfl,(Za BK190.out 5).trans rfl,(Za BK190.out 6).trans rfl,(Za BK200.out 0).trans rfl,(Za BK200.out 1).trans rfl,(Za BK200.out 2).trans rfl,(Za BK200.out 3).trans rfl,(Za BK200.out 4).trans rfl,(Za BK200.out 5).trans rfl,(Za BK208.out 0).trans rfl,(Za BK208.out 1).trans rfl,(Za BK208.out 2).trans rfl,(Za BK208.out 3).trans rfl,(Za BK208.out 4).trans rfl,(Za BK208.out 5).trans rfl⟩ (fun hHeld => ?_); clear hK K; refine norm_ (a' := ?_) ?_ ?_; rotate_left
                 · show Act.put _ (some 99) _ = _
                   simp only [Act.put,Yi,Yj,Yk,i64_w,i32_w]; rfl
                 refine pure_ (i := 29) (N := some 100) (v := ?_) (a' := ?_) YF rfl rfl (Zo HT_.out (by kernel_rfl)) (fun _ _ _ h => h) (Or.inl ⟨by rfl,?_⟩) ?_ ?_; rotate_left
                 · intro w'
                   go_simp; with_reducible rfl
                 rotate_left
                 · simp only [Act.put,Yi,Yj,Yk,i64_w,i32_w]
                   rfl
                 refine pure_ (i := 30) (N := some 101) (v := ?_) (a' := ?_) YG rfl rfl (Zo HT_.out (by kernel_rfl)) (fun _ _ _ h => h) (Or.inl ⟨by rfl,?_⟩) ?_ ?_; rotate_left
                 · intro w'
                   go_simp; with_reducible rfl
                 rotate_left
                 · simp only [Act.put,Yi,Yj,Yk,i64_w,i32_w]
                   rfl
                 refine pure_ (i := 31) (N := some 102) (v := ?_) (a' := ?_) YH rfl rfl (Zo HT_.out (by kernel_rfl)) (fun _ _ _ h => h) (Or.inl ⟨by rfl,?_⟩) ?_ ?_; rotate_left
                 · intro w'
                   go_simp; with_reducible rfl
                 rotate_left
                 · simp only [Act.put,Yi,Yj,Yk,i64_w,i32_w]
                   rfl
                 refine pure_ (i := 32) (N := some 103) (v := ?_) (a' := ?_) YI rfl rfl (Zo HT_.out (by kernel_rfl)) (fun _ _ _ h => h) (Or.inl ⟨by rfl,?_⟩) ?_ ?_; rotate_left
                 · intro w'
                   go_simp; with_reducible rfl
                 rotate_left
                 · simp only [Act.put,Yi,Yj,Yk,i64_w,i32_w]
                   rfl
                 refine pure_ (i := 33) (N := some 104) (v := ?_) (a' := ?_) YJ rfl rfl (Zo HT_.out (by kernel_rfl)) (fun _ _ _ h => h) (Or.inl ⟨by rfl,?_⟩) ?_ ?_; rotate_left
                 · intro w'
                   go_simp; with_reducible rfl
                 rotate_left
                 · simp only [Act.put,Yi,Yj,Yk,i64_w,i32_w]
                   rfl
                 refine pure_ (i := 34) (N := some 105) (v := ?_) (a' := ?_) YK rfl rfl (Zo HT_.out (by kernel_rfl)) (fun _ _ _ h => h) (Or.inl ⟨by rfl,?_⟩) ?_ ?_; rotate_left
                 · intro w'
                   go_simp; with_reducible rfl
                 rotate_left
                 · simp only [Act.put,Yi,Yj,Yk,i64_w,i32_w]
                   rfl
                 refine pure_ (i := 35) (N := some 106) (v := ?_) (a' := ?_) YL rfl rfl (Zo HT_.out (by kernel_rfl)) (fun _ _ _ h => h) (Or.inl ⟨by rfl,?_⟩) ?_ ?_; rotate_left
                 · intro w'
                   go_simp; with_reducible rfl
                 rotate_left
                 · simp only [Act.put,Yi,Yj,Yk,i64_w,i32_w]
                   rfl
                 refine pure_ (i := 36) (N := some 107) (v := ?_) (a' := ?_) YM rfl rfl (Zo HT_.out (by kernel_rfl)) (fun _ _ _ h => h) (Or.inl ⟨by rfl,?_⟩) ?_ ?_; rotate_left
                 · intro w'
                   go_simp; with_reducible rfl
                 rotate_left
                 · simp only [Act.put,Yi,Yj,Yk,i64_w,i32_w]
                   rfl
                 refine pure_ (i := 37) (N := some 108) (v := ?_) (a' := ?_) YN rfl rfl (Zo HT_.out (by kernel_rfl)) (fun _ _ _ h => h) (Or.inl ⟨by rfl,?_⟩) ?_ ?_; rotate_left
                 · intro w'
                   go_simp; with_reducible rfl
                 rotate_left
                 · simp only [Act.put,Yi,Yj,Yk,i64_w,i32_w]
                   rfl
                 refine pure_ (i := 38) (N := some 109) (v := ?_) (a' := ?_) YO rfl rfl (Zo HT_.out (by kernel_rfl)) (fun _ _ _ h => h) (Or.inl ⟨by rfl,?_⟩) ?_ ?_; rotate_left
                 · intro w'
                   go_simp; with_reducible rfl
                 rotate_left
                 · simp only [Act.put,Yi,Yj,Yk,i64_w,i32_w]
                   rfl
                 refine pure_ (i := 39) (N := some 110) (v := ?_) (a' := ?_) YP rfl rfl (Zo HT_.out (by kernel_rfl)) (fun _ _ _ h => h) (Or.inl ⟨by rfl,?_⟩) ?_ ?_; rotate_left
                 · intro w'
                   go_simp; with_reducible rfl
                 rotate_left
                 · simp only [Act.put,Yi,Yj,Yk,i64_w,i32_w]
                   rfl
                 refine pure_ (i := 40) (N := some 111) (v := ?_) (a' := ?_) YQ rfl rfl (Zo HT_.out (by kernel_rfl)) (fun _ _ _ h => h) (Or.inl ⟨by rfl,?_⟩) ?_ ?_; rotate_left
                 · intro w'
                   go_simp; with_reducible rfl
                 rotate_left
                 · simp only [Act.put,Yi,Yj,Yk,i64_w,i32_w]
                   rfl
                 refine done_ (Xh HT_.out (by kernel_rfl)) ?_
                 try go_wp2
                 go_meet
                 case rel => exact ⟨_,((t217 != t222)),(by first | rfl | (simp; done) | (simp [*]; done)),H',⟨by first | omega | exact Nat.le_refl _⟩,⟨by (with_reducible repeat (first | refine Zc ?_ _ | refine Ze ?_ | refine Zd ?_ _)); exact BK190.out⟩,⟨by (with_reducible repeat (first | refine Zc ?_ _ | refine Ze ?_ | refine Zd ?_ _)); exact BK191.out⟩,⟨by (with_reducible repeat (first | refine Zc ?_ _ | refine Ze ?_ | refine Zd ?_ _)); exact BK192.out⟩,⟨by (with_reducible repeat (first | refine Zc ?_ _ | refine Ze ?_ | refine Zd ?_ _)); exact BK200.out⟩,⟨by (with_reducible repeat (first | refine Zc ?_ _ | refine Ze ?_ | refine Zd ?_ _)); exact BK208.out⟩,⟨by repeat (first | (with_reducible first | exact HB.out | apply Zk | apply Zi | apply Zj | refine Zf ?_ GE190.out | refine Zf ?_ GE191.out | refine Zf ?_ GE192.out | refine Zf ?_ GE200.out | refine Zf ?_ GE208.out) | exact HB.out)⟩⟩
               · rw [if_neg c64] at H
                 have c64b0 : (t216 == t221) = false := beq_eq_false_iff_ne.mpr c64; have c64b1 : (t216 != t221) = true := bne_iff_ne.mpr c64; have H' := Zh.mk H; clear H
                 try go_wp2
                 have n0_ := Zh.mk (Kd.ZG HO215.out); have n1_ := Zh.mk (Kd.ZG HO220.out); have n2_ := Zh.mk (Ze BK190.out); have n3_ := Zh.mk (Ze BK191.out); have n4_ := Zh.mk (Ze BK192.out); have n5_ := Zh.mk (Ze BK200.out); have n6_ := Zh.mk (Ze BK208.out); have n7_ := Zh.mk (Zj HB.out); clear HO215; clear HO220; clear BK190; clear BK191; clear BK192; clear BK200; clear BK208; clear HB; have HO215 := n0_; have HO220 := n1_; have BK190 := n2_; have BK191 := n3_; have BK192 := n4_; have BK200 := n5_; have BK208 := n6_; have HB := n7_; clear n0_ n1_ n2_ n3_ n4_ n5_ n6_ n7_; refine Xk (n := 41) (S := fun w' => w'.cell? ⟨gb190,0,none⟩ = some (.int .i64 a0_0) ∧ w'.cell? ⟨gb190,1,none⟩ = some (.int .i64 a0_1) ∧ w'.cell? ⟨gb190,2,none⟩ = some (.int .i64 a0_2) ∧ w'.cell? ⟨gb190,3,none⟩ = some (.int .i64 a0_3) ∧ w'.cell? ⟨gb190,4,none⟩ = some (.int .i64 a0_4) ∧ w'.cell? ⟨gb190,5,none⟩ = some (.int .i64 a0_5) ∧ w'.cell? ⟨gb190,6,none⟩ = some (.int .i64 a0_6) ∧ w'.cell? ⟨gb200,0,none⟩ = some (.int .i64 t193) ∧ w'.cell? ⟨gb200,1,none⟩ = some (.int .i64 t194) ∧ w'.cell? ⟨gb200,2,none⟩ = some (.int .i64 t195) ∧ w'.cell? ⟨gb200,3,none⟩ = some (.int .i64 t196) ∧ w'.cell? ⟨gb200,4,none⟩ = some (.int .i64 t197) ∧ w'.cell? ⟨gb200,5,none⟩ = some (.int .i64 t198) ∧ w'.cell? ⟨gb208,0,none⟩ = some (.int .i64 t201) ∧ w'.cell? ⟨gb208,1,none⟩ = some (.int .i64 t202) ∧ w'.cell? ⟨gb208,2,none⟩ = some (.int .i64 t203) ∧ w'.cell? ⟨gb208,3,none⟩ = some (.int .i64 t204) ∧ w'.cell? ⟨gb208,4,none⟩ = some (.int .i64 t205) ∧ w'.cell? ⟨gb208,5,none⟩ = some (.int .i64 t206)) (ds := []) Yl (by kernel_rfl) rfl rfl ⟨(Za BK190.out 0).trans rfl,(Za BK190.out 1).trans rfl,(Za BK190.out 2).trans rfl,(Za BK190.out 3).trans rfl,(Za BK190.out 4).trans rfl,(Za BK190.out 5).trans rfl,(Za BK190.out 6).trans rfl,(Za BK200.out 0).trans rfl,(Za BK200.out 1).trans rfl,(Za BK200.out 2).trans rfl,(Za BK200.out 3).trans rfl,(Za BK200.out 4).trans rfl,(Za BK200.out 5).trans rfl,(Za BK208.out 0).trans rfl,(Za BK208.out 1).trans rfl,(Za BK208.out 2).trans rfl,(Za BK208.out 3).trans rfl,(Za BK208.out 4).trans rfl,(Za BK208.out 5).trans rfl⟩ (fun hHeld => ?_); refine Xb Zg.tab7 Zg.bits7 (fun HT_ HW_ => ?_); generalize w45.drew = w70 at HO215 HO220 BK190 BK191 BK192 BK200 BK208 HB hHeld ⊢; refine take_ (i := 0) (N := some 71) (v := ?_) (a' := ?_) Ym rfl rfl (Z8 HT_.out HW_.out (by kernel_rfl)) (fun _ _ _ h => h) (Or.inl ⟨by rfl,?_⟩) hHeld ?_ ?_; rotate_left
                 · rintro w' ⟨s0,s1,s2,s3,s4,s5,s6,s7,s8,s9,s10,s11,s12,s13,s14,s15,s16,s17,s18⟩
                   go_simp; with_reducible rfl
                 rotate_left
                 · simp only [Act.put,Yi,Yj,Yk,i64_w,i32_w]
                   rfl
                 refine take_ (i := 2) (N := some 73) (v := ?_) (a' := ?_) Yn rfl rfl (Z8 HT_.out HW_.out (by kernel_rfl)) (fun _ _ _ h => h) (Or.inl ⟨by rfl,?_⟩) hHeld ?_ ?_; rotate_left
                 · rintro w' ⟨s0,s1,s2,s3,s4,s5,s6,s7,s8,s9,s10,s11,s12,s13,s14,s15,s16,s17,s18⟩
                   go_simp; with_reducible rfl
                 rotate_left
                 · simp only [Act.put,Yi,Yj,Yk,i64_w,i32_w]
                   rfl
                 refine one_ (i := 1) (N := some 72) Yo rfl rfl (Xd HT_.out (by kernel_rfl)) (by decide) (fun K hK => ?_); refine goes_ Try.func11 (by kernel_rfl) rfl #[.agg #[.int .i64 a0_0,.int .i64 a0_1,.int .i64 a0_2,.int .i64 a0_3,.int .i64 a0_4,.int .i64 a0_5,.int .i64 a0_6]] (by rfl) rfl rfl (by (try simp only [List.map_toArray,List.map_cons,List.map_nil]); first | done | rfl | (simp only [List.length_drop,List.length_take]; rfl)) ?_
                 with_reducible refine (ZC.calls a0_0 a0_1 a0_2 a0_3 a0_4 a0_5 a0_6 t223 _ A46.out).mono ?_
                 rintro e w71 ⟨rfl,hb⟩; refine ⟨_,rfl,?_⟩; have n0_ := Zh.mk (Kd.ZN (by (with_reducible repeat (first | apply Kd.ZH | apply Kd.ZI | apply Kd.ZG)); exact HO215.out) hb); have n1_ := Zh.mk (Kd.ZN (by (with_reducible repeat (first | apply Kd.ZH | apply Kd.ZI | apply Kd.ZG)); exact HO220.out) hb); have n2_ := Zh.mk (Zn (g := gb190) (o := .cells #[.int .i64 a0_0,.int .i64 a0_1,.int .i64 a0_2,.int .i64 a0_3,.int .i64 a0_4,.int .i64 a0_5,.int .i64 a0_6] 23 (0,0)) (by (with_reducible repeat (first | refine Zc ?_ _ | refine Ze ?_ | refine Zd ?_ _)); exact BK190.out) hb); have n3_ := Zh.mk (Zn (g := gb191) (o := .cells #[.int .i64 a1_0,.int .i64 a1_1,.int .i64 a1_2,.int .i64 a1_3,.int .i64 a1_4,.int .i64 a1_5,.int .i64 a1_6] 23 (0,0)) (by (with_reducible repeat (first | refine Zc ?_ _ | refine Ze ?_ | refine Zd ?_ _)); exact BK191.out) hb); have n4_ := Zh.mk (Zn (g := gb192) (o := .cells #[.int .i64 a3_0,.int .i64 a3_1,.int .i64 a3_2,.int .i64 a3_3,.int .i64 a3_4,.int .i64 a3_5] 25 (0,0)) (by (with_reducible repeat (first | refine Zc ?_ _ | refine Ze ?_ | refine Zd ?_ _)); exact BK192.out) hb); have n5_ := Zh.mk (Zn (g := gb200) (o := .cells #[.int .i64 t193,.int .i64 t194,.int .i64 t195,.int .i64 t196,.int .i64 t197,.int .i64 t198] 25 (0,0)) (by (with_reducible repeat (first | refine Zc ?_ _ | refine Ze ?_ | refine Zd ?_ _)); exact BK200.out) hb); have n6_ := Zh.mk (Zn (g := gb208) (o := .cells #[.int .i64 t201,.int .i64 t202,.int .i64 t203,.int .i64 t204,.int .i64 t205,.int .i64 t206] 25 (0,0)) (by (with_reducible repeat (first | refine Zc ?_ _ | refine Ze ?_ | refine Zd ?_ _)); exact BK208.out) hb); have n7_ := Zh.mk (Zv (by repeat (first | (with_reducible first | exact HB.out | apply Zk | apply Zi | apply Zj | refine Zf ?_ GE190.out | refine Zf ?_ GE191.out | refine Zf ?_ GE192.out | refine Zf ?_ GE200.out | refine Zf ?_ GE208.out) | exact HB.out)) hb); clear HO215; clear HO220; clear BK190; clear BK191; clear BK192; clear BK200; clear BK208; clear HB; have HO215 := n0_; have HO220 := n1_; have BK190 := n2_; have BK191 := n3_; have BK192 := n4_; have BK200 := n5_; have BK208 := n6_; have HB := n7_; clear n0_ n1_ n2_ n3_ n4_ n5_ n6_ n7_
                 (try clear hb)
                 (try clear hb2)
                 (try clear hk)
                 (try clear hi)
                 refine hK.out _ _ ⟨(Za BK190.out 0).trans rfl,(Za BK190.out 1).trans rfl,(Za BK190.out 2).trans rfl,(Za BK190.out 3).trans rfl,(Za BK190.out 4).trans rfl,(Za BK190.out 5).trans rfl,(Za BK190.out 6).trans rfl,(Za BK200.out 0).trans rfl,(Za BK200.out 1).trans rfl,(Za BK200.out 2).trans rfl,(Za BK200.out 3).trans rfl,(Za BK200.out 4).trans rfl,(Za BK200.out 5).trans rfl,(Za BK208.out 0).trans rfl,(Za BK208.out 1).trans rfl,(Za BK208.out 2).trans rfl,(Za BK208.out 3).trans rfl,(Za BK208.out 4).trans rfl,(Za BK208.out 5).trans rfl⟩ (fun hHeld => ?_); clear hK K; refine norm_ (a' := ?_) ?_ ?_; rotate_left
                 · show Act.put _ (some 72) _ = _
                   simp only [Act.put,Yi,Yj,Yk,i64_w,i32_w]; rfl
                 refine one_ (i := 3) (N := some 74) Yp rfl rfl (Xd HT_.out (by kernel_rfl)) (by decide) (fun K hK => ?_); refine goes_ Try.func12 (by kernel_rfl) rfl #[.agg #[.int .i64 a0_0,.int .i64 a0_1,.int .i64 a0_2,.int .i64 a0_3,.int .i64 a0_4,.int .i64 a0_5,.int .i64 a0_6]] (by rfl) rfl rfl (by (try simp only [List.map_toArray,List.map_cons,List.map_nil]); first | done | rfl | (simp only [List.length_drop,List.length_take]; rfl)) ?_
                 with_reducible refine (Zs.calls k a0_0 a0_1 a0_2 a0_3 a0_4 a0_5 a0_6 t224 _ A47.out).mono ?_
                 rintro e w72 ⟨rfl,hb⟩; refine ⟨_,rfl,?_⟩; have n0_ := Zh.mk (Kd.ZN (by (with_reducible repeat (first | apply Kd.ZH | apply Kd.ZI | apply Kd.ZG)); exact HO215.out) hb); have n1_ := Zh.mk (Kd.ZN (by (with_reducible repeat (first | apply Kd.ZH | apply Kd.ZI | apply Kd.ZG)); exact HO220.out) hb); have n2_ := Zh.mk (Zn (g := gb190) (o := .cells #[.int .i64 a0_0,.int .i64 a0_1,.int .i64 a0_2,.int .i64 a0_3,.int .i64 a0_4,.int .i64 a0_5,.int .i64 a0_6] 23 (0,0)) (by (with_reducible repeat (first | refine Zc ?_ _ | refine Ze ?_ | refine Zd ?_ _)); exact BK190.out) hb); have n3_ := Zh.mk (Zn (g := gb191) (o := .cells #[.int .i64 a1_0,.int .i64 a1_1,.int .i64 a1_2,.int .i64 a1_3,.int .i64 a1_4,.int .i64 a1_5,.int .i64 a1_6] 23 (0,0)) (by (with_reducible repeat (first | refine Zc ?_ _ | refine Ze ?_ | refine Zd ?_ _)); exact BK191.out) hb); have n4_ := Zh.mk (Zn (g := gb192) (o := .cells #[.int .i64 a3_0,.int .i64 a3_1,.int .i64 a3_2,.int .i64 a3_3,.int .i64 a3_4,.int .i64 a3_5] 25 (0,0)) (by (with_reducible repeat (first | refine Zc ?_ _ | refine Ze ?_ | refine Zd ?_ _)); exact BK192.out) hb); have n5_ := Zh.mk (Zn (g := gb200) (o := .cells #[.int .i64 t193,.int .i64 t194,.int .i64 t195,.int .i64 t196,.int .i64 t197,.int .i64 t198] 25 (0,0)) (by (with_reducible repeat (first | refine Zc ?_ _ | refine Ze ?_ | refine Zd ?_ _)); exact BK200.out) hb); have n6_ := Zh.mk (Zn (g := gb208) (o := .cells #[.int .i64 t201,.int .i64 t202,.int .i64 t203,.int .i64 t204,.int .i64 t205,.int .i64 t206] 25 (0,0)) (by (with_reducible repeat (first | refine Zc ?_ _ | refine Ze ?_ | refine Zd ?_ _)); exact BK208.out) hb); have n7_ := Zh.mk (Zv (by repeat (first | (with_reducible first | exact HB.out | apply Zk | apply Zi | apply Zj | refine Zf ?_ GE190.out | refine Zf ?_ GE191.out | refine Zf ?_ GE192.out | refine Zf ?_ GE200.out | refine Zf ?_ GE208.out) | exact HB.out)) hb); clear HO215; clear HO220; clear BK190; clear BK191; clear BK192; clear BK200; clear BK208; clear HB; have HO215 := n0_; have HO220 := n1_; have BK190 := n2_; have BK191 := n3_; have BK192 := n4_; have BK200 := n5_; have BK208 := n6_; have HB := n7_; clear n0_ n1_ n2_ n3_ n4_ n5_ n6_ n7_
                 (try clear hb)
                 (try clear hb2)
                 (try clear hk)
                 (try clear hi)
                 obtain ⟨Ao73,co73,eo73⟩ := Kd.Xm HO215.out
                 (first | subst eo73 | (injection eo73 with f1_ f2_ f3_; have f4_ := f1_.symm; have f5_ := f3_.symm; clear f1_ f2_ f3_; subst f4_; subst f5_))
                 obtain ⟨Ao74,co74,eo74⟩ := Kd.Xm HO220.out
                 (first | subst eo74 | (injection eo74 with f1_ f2_ f3_; have f4_ := f1_.symm; have f5_ := f3_.symm; clear f1_ f2_ f3_; subst f4_; subst f5_))
                 refine hK.out _ _ ⟨(Za BK190.out 0).trans rfl,(Za BK190.out 1).trans rfl,(Za BK190.out 2).trans rfl,(Za BK190.out 3).trans rfl,(Za BK190.out 4).trans rfl,(Za BK190.out 5).trans rfl,(Za BK190.out 6).trans rfl,(Za BK200.out 0).trans rfl,(Za BK200.out 1).trans rfl,(Za BK200.out 2).trans rfl,(Za BK200.out 3).trans rfl,(Za BK200.out 4).trans rfl,(Za BK200.out 5).trans rfl,(Za BK208.out 0).trans rfl,(Za BK208.out 1).trans rfl,(Za BK208.out 2).trans rfl,(Za BK208.out 3).trans rfl,(Za BK208.out 4).trans rfl,(Za BK208.out 5).trans rfl⟩ (fun hHeld => ?_); clear hK K; refine norm_ (a' := ?_) ?_ ?_; rotate_left
                 · show Act.put _ (some 74) _ = _
                   simp only [Act.put,Yi,Yj,Yk,i64_w,i32_w]; rfl
                 refine pure_ (i := 4) (N := some 75) (v := ?_) (a' := ?_) Yq rfl rfl (Zo HT_.out (by kernel_rfl)) (fun _ _ _ h => h) (Or.inl ⟨by rfl,?_⟩) ?_ ?_; rotate_left
                 · intro w'
                   go_simp; with_reducible rfl
                 rotate_left
                 · simp only [Act.put,Yi,Yj,Yk,i64_w,i32_w]
                   rfl
                 refine pure_ (i := 5) (N := some 76) (v := ?_) (a' := ?_) Yr rfl rfl (Zo HT_.out (by kernel_rfl)) (fun _ _ _ h => h) (Or.inl ⟨by rfl,?_⟩) ?_ ?_; rotate_left
                 · intro w'
                   go_simp; with_reducible rfl
                 rotate_left
                 · simp only [Act.put,Yi,Yj,Yk,i64_w,i32_w]
                   rfl
                 refine take_ (i := 6) (N := some 77) (v := ?_) (a' := ?_) Ys rfl rfl (Z8 HT_.out HW_.out (by kernel_rfl)) (fun _ _ _ h => h) (Or.inl ⟨by rfl,?_⟩) hHeld ?_ ?_; rotate_left
                 · rintro w' ⟨s0,s1,s2,s3,s4,s5,s6,s7,s8,s9,s10,s11,s12,s13,s14,s15,s16,s17,s18⟩
                   go_simp; with_reducible rfl
                 rotate_left
                 · simp only [Act.put,Yi,Yj,Yk,i64_w,i32_w]
                   rfl
                 refine take_ (i := 7) (N := some 78) (v := ?_) (a' := ?_) Yt rfl rfl (Z8 HT_.out HW_.out (by kernel_rfl)) (fun _ _ _ h => h) (Or.inl ⟨by rfl,?_⟩) hHeld ?_ ?_; rotate_left
                 · rintro w' ⟨s0,s1,s2,s3,s4,s5,s6,s7,s8,s9,s10,s11,s12,s13,s14,s15,s16,s17,s18⟩
                   go_simp; with_reducible rfl
                 rotate_left
                 · simp only [Act.put,Yi,Yj,Yk,i64_w,i32_w]
                   rfl
                 refine pure_ (i := 8) (N := some 79) (v := ?_) (a' := ?_) Yu rfl rfl (Zo HT_.out (by kernel_rfl)) (fun _ _ _ h => h) (Or.inl ⟨by rfl,?_⟩) ?_ ?_; rotate_left
                 · intro w'
                   go_simp; with_reducible rfl
                 rotate_left
                 · simp only [Act.put,Yi,Yj,Yk,i64_w,i32_w]
                   rfl
                 refine pure_ (i := 9) (N := some 80) (v := ?_) (a' := ?_) Yv rfl rfl (Zo HT_.out (by kernel_rfl)) (fun _ _ _ h => h) (Or.inl ⟨by rfl,?_⟩) ?_ ?_; rotate_left
                 · intro w'
                   go_simp; with_reducible rfl
                 rotate_left
                 · simp only [Act.put,Yi,Yj,Yk,i64_w,i32_w]
                   rfl
                 refine pure_ (i := 10) (N := some 81) (v := ?_) (a' := ?_) Yw rfl rfl (Zo HT_.out (by kernel_rfl)) (fun _ _ _ h => h) (Or.inl ⟨by rfl,?_⟩) ?_ ?_; rotate_left
                 · intro w'
                   go_simp; with_reducible rfl
                 rotate_left
                 · simp only [Act.put,Yi,Yj,Yk,i64_w,i32_w]
                   rfl
                 refine pure_ (i := 11) (N := some 82) (v := ?_) (a' := ?_) Yx rfl rfl (Zo HT_.out (by kernel_rfl)) (fun _ _ _ h => h) (Or.inl ⟨by rfl,?_⟩) ?_ ?_; rotate_left
                 · intro w'
                   go_simp; with_reducible rfl
                 rotate_left
                 · simp only [Act.put,Yi,Yj,Yk,i64_w,i32_w]
                   rfl
                 refine pure_ (i := 12) (N := some 83) (v := ?_) (a' := ?_) Yy rfl rfl (Zo HT_.out (by kernel_rfl)) (fun _ _ _ h => h) (Or.inl ⟨by rfl,?_⟩) ?_ ?_; rotate_left
                 · intro w'
                   go_simp; with_reducible rfl
                 rotate_left
                 · simp only [Act.put,Yi,Yj,Yk,i64_w,i32_w]
                   rfl
                 refine pure_ (i := 13) (N := some 84) (v := ?_) (a' := ?_) Yz rfl rfl (Zo HT_.out (by kernel_rfl)) (fun _ _ _ h => h) (Or.inl ⟨by rfl,?_⟩) ?_ ?_; rotate_left
                 · intro w'
                   go_simp; with_reducible rfl
                 rotate_left
                 · simp only [Act.put,Yi,Yj,Yk,i64_w,i32_w]
                   rfl
                 refine pure_ (i := 14) (N := some 85) (v := ?_) (a' := ?_) Y0 rfl rfl (Zo HT_.out (by kernel_rfl)) (fun _ _ _ h => h) (Or.inl ⟨by rfl,?_⟩) ?_ ?_; rotate_left
                 · intro w'
                   go_simp; with_reducible rfl
                 rotate_left
                 · simp only [Act.put,Yi,Yj,Yk,i64_w,i32_w]
                   rfl
                 refine pure_ (i := 15) (N := some 86) (v := ?_) (a' := ?_) Y1 rfl rfl (Zo HT_.out (by kernel_rfl)) (fun _ _ _ h => h) (Or.inl ⟨by rfl,?_⟩) ?_ ?_; rotate_left
                 · intro w'
                   go_simp; with_reducible rfl
                 rotate_left
                 · simp only [Act.put,Yi,Yj,Yk,i64_w,i32_w]
                   rfl
                 refine pure_ (i := 16) (N := some 87) (v := ?_) (a' := ?_) Y2 rfl rfl (Zo HT_.out (by kernel_rfl)) (fun _ _ _ h => h) (Or.inl ⟨by rfl,?_⟩) ?_ ?_; rotate_left
                 · intro w'
                   go_simp; with_reducible rfl
                 rotate_left
                 · simp only [Act.put,Yi,Yj,Yk,i64_w,i32_w]
                   rfl
                 refine pure_ (i := 17) (N := some 88) (v := ?_) (a' := ?_) Y3 rfl rfl (Zo HT_.out (by kernel_rfl)) (fun _ _ _ h => h) (Or.inl ⟨by rfl,?_⟩) ?_ ?_; rotate_left
                 · intro w'
                   go_simp; with_reducible rfl
                 rotate_left
                 · simp only [Act.put,Yi,Yj,Yk,i64_w,i32_w]
                   rfl
                 refine pure_ (i := 18) (N := some 89) (v := ?_) (a' := ?_) Y4 rfl rfl (Zo HT_.out (by kernel_rfl)) (fun _ _ _ h => h) (Or.inl ⟨by rfl,?_⟩) ?_ ?_; rotate_left
                 · intro w'
                   go_simp; with_reducible rfl
                 rotate_left
                 · simp only [Act.put,Yi,Yj,Yk,i64_w,i32_w]
                   rfl
                 refine pure_ (i := 19) (N := some 90) (v := ?_) (a' := ?_) Y5 rfl rfl (Zo HT_.out (by kernel_rfl)) (fun _ _ _ h => h) (Or.inl ⟨by rfl,?_⟩) ?_ ?_; rotate_left
                 · intro w'
                   go_simp; with_reducible rfl
                 rotate_left
                 · simp only [Act.put,Yi,Yj,Yk,i64_w,i32_w]
                   rfl
                 refine pure_ (i := 20) (N := some 91) (v := ?_) (a' := ?_) Y6 rfl rfl (Zo HT_.out (by kernel_rfl)) (fun _ _ _ h => h) (Or.inl ⟨by rfl,?_⟩) ?_ ?_; rotate_left
                 · intro w'
                   go_simp; with_reducible rfl
                 rotate_left
                 · simp only [Act.put,Yi,Yj,Yk,i64_w,i32_w]
                   rfl
                 refine pure_ (i := 21) (N := some 92) (v := ?_) (a' := ?_) Y7 rfl rfl (Zo HT_.out (by kernel_rfl)) (fun _ _ _ h => h) (Or.inl ⟨by rfl,?_⟩) ?_ ?_; rotate_left
                 · intro w'
                   go_simp; with_reducible rfl
                 rotate_left
                 · simp only [Act.put,Yi,Yj,Yk,i64_w,i32_w]
                   rfl
                 refine pure_ (i := 22) (N := some 93) (v := ?_) (a' := ?_) Y8 rfl rfl (Zo HT_.out (by kernel_rfl)) (fun _ _ _ h => h) (Or.inl ⟨by rfl,?_⟩) ?_ ?_; rotate_left
                 · intro w'
                   go_simp; with_reducible rfl
                 rotate_left
                 · simp only [Act.put,Yi,Yj,Yk,i64_w,i32_w]
                   rfl
                 refine pure_ (i := 23) (N := some 94) (v := ?_) (a' := ?_) Y9 rfl rfl (Zo HT_.out (by kernel_rfl)) (fun _ _ _ h => h) (Or.inl ⟨by rfl,?_⟩) ?_ ?_; rotate_left
                 · intro w'
                   go_simp; with_reducible rfl
                 rotate_left
                 · simp only [Act.put,Yi,Yj,Yk,i64_w,i32_w]
                   rfl
                 refine pure_ (i := 24) (N := some 95) (v := ?_) (a' := ?_) YA rfl rfl (Zo HT_.out (by kernel_rfl)) (fun _ _ _ h => h) (Or.inl ⟨by rfl,?_⟩) ?_ ?_; rotate_left
                 · intro w'
                   go_simp; with_reducible rfl
                 rotate_left
                 · simp only [Act.put,Yi,Yj,Yk,i64_w,i32_w]
                   rfl
                 refine pure_ (i := 25) (N := some 96) (v := ?_) (a' := ?_) YB rfl rfl (Zo HT_.out (by kernel_rfl)) (fun _ _ _ h => h) (Or.inl ⟨by rfl,?_⟩) ?_ ?_; rotate_left
                 · intro w'
                   go_simp; with_reducible rfl
                 rotate_left
                 · simp only [Act.put,Yi,Yj,Yk,i64_w,i32_w]
                   rfl
                 refine pure_ (i := 26) (N := some 97) (v := ?_) (a' := ?_) YC rfl rfl (Zo HT_.out (by kernel_rfl)) (fun _ _ _ h => h) (Or.inl ⟨by rfl,?_⟩) ?_ ?_; rotate_left
                 · intro w'
                   go_simp; with_reducible rfl
                 rotate_left
                 · simp only [Act.put,Yi,Yj,Yk,i64_w,i32_w]
                   rfl
                 refine pure_ (i := 27) (N := some 98) (v := ?_) (a' := ?_) YD rfl rfl (Zo HT_.out (by kernel_rfl)) (fun _ _ _ h => h) (Or.inl ⟨by rfl,?_⟩) ?_ ?_; rotate_left
                 · intro w'
                   go_simp; with_reducible rfl
                 rotate_left
                 · simp only [Act.put,Yi,Yj,Yk,i64_w,i32_w]
                   rfl
                 refine one_ (i := 28) (N := some 99) YE rfl rfl (Xd HT_.out (by kernel_rfl)) (by decide) (fun K hK => ?_); refine goes_ Try.func13 (by kernel_rfl) rfl #[.slice Ao73 t213.length co73,.slice Ao74 t218.length co74] (by rfl) rfl rfl (by (try simp only [List.map_toArray,List.map_cons,List.map_nil]); first | done | rfl | (simp only [List.length_drop,List.length_take]; rfl)) ?_
                 with_reducible refine (Zr.calls k _ _ t213 _ _ t218 true _ ?side1 ?side2 ?side3 ?side4 A62.out).mono ?_
                 (case side1 => repeat (first | exact (Kd.ZJ HO215.out).2.2 | (with_reducible refine Kd.ZV ?_ _) | (with_reducible refine Kd.ZW ?_ _) | (with_reducible refine Kd.ZX ?_)))
                 (case side2 => exact (Kd.ZJ HO215.out).2.1)
                 (case side3 => repeat (first | exact (Kd.ZJ HO220.out).2.2 | (with_reducible refine Kd.ZV ?_ _) | (with_reducible refine Kd.ZW ?_ _) | (with_reducible refine Kd.ZX ?_)))
                 (case side4 => exact (Kd.ZJ HO220.out).2.1)
                 rintro e w' ⟨rfl,⟨nd,rfl⟩⟩; refine ⟨_,rfl,?_⟩; refine hK.out _ _ ⟨(Za BK190.out 0).trans rfl,(Za BK190.out 1).trans rfl,(Za BK190.out 2).trans rfl,(Za BK190.out 3).trans rfl,(Za BK190.out 4).trans rfl,(Za BK190.out 5).trans rfl,(Za BK190.out 6).trans rfl,(Za BK200.out 0).trans rfl,(Za BK200.out 1).trans rfl,(Za BK200.out 2).trans rfl,(Za BK200.out 3).trans rfl,(Za BK200.out 4).trans rfl,(Za BK200.out 5).trans rfl,(Za BK208.out 0).trans rfl,(Za BK208.out 1).trans rfl,(Za BK208.out 2).trans rfl,(Za BK208.out 3).trans rfl,(Za BK208.out 4).trans rfl,(Za BK208.out 5).trans rfl⟩ (fun hHeld => ?_); clear hK K; refine norm_ (a' := ?_) ?_ ?_; rotate_left
                 · show Act.put _ (some 99) _ = _
                   simp only [Act.put,Yi,Yj,Yk,i64_w,i32_w]; rfl
                 refine pure_ (i := 29) (N := some 100) (v := ?_) (a' := ?_) YF rfl rfl (Zo HT_.out (by kernel_rfl)) (fun _ _ _ h => h) (Or.inl ⟨by rfl,?_⟩) ?_ ?_; rotate_left
                 · intro w'
                   go_simp; with_reducible rfl
                 rotate_left
                 · simp only [Act.put,Yi,Yj,Yk,i64_w,i32_w]
                   rfl
                 refine pure_ (i := 30) (N := some 101) (v := ?_) (a' := ?_) YG rfl rfl (Zo HT_.out (by kernel_rfl)) (fun _ _ _ h => h) (Or.inl ⟨by rfl,?_⟩) ?_ ?_; rotate_left
                 · intro w'
                   go_simp; with_reducible rfl
                 rotate_left
                 · simp only [Act.put,Yi,Yj,Yk,i64_w,i32_w]
                   rfl
                 refine pure_ (i := 31) (N := some 102) (v := ?_) (a' := ?_) YH rfl rfl (Zo HT_.out (by kernel_rfl)) (fun _ _ _ h => h) (Or.inl ⟨by rfl,?_⟩) ?_ ?_; rotate_left
                 · intro w'
                   go_simp; with_reducible rfl
                 rotate_left
                 · simp only [Act.put,Yi,Yj,Yk,i64_w,i32_w]
                   rfl
                 refine pure_ (i := 32) (N := some 103) (v := ?_) (a' := ?_) YI rfl rfl (Zo HT_.out (by kernel_rfl)) (fun _ _ _ h => h) (Or.inl ⟨by rfl,?_⟩) ?_ ?_; rotate_left
                 · intro w'
                   go_simp; with_reducible rfl
                 rotate_left
                 · simp only [Act.put,Yi,Yj,Yk,i64_w,i32_w]
                   rfl
                 refine pure_ (i := 33) (N := some 104) (v := ?_) (a' := ?_) YJ rfl rfl (Zo HT_.out (by kernel_rfl)) (fun _ _ _ h => h) (Or.inl ⟨by rfl,?_⟩) ?_ ?_; rotate_left
                 · intro w'
                   go_simp; with_reducible rfl
                 rotate_left
                 · simp only [Act.put,Yi,Yj,Yk,i64_w,i32_w]
                   rfl
                 refine pure_ (i := 34) (N := some 105) (v := ?_) (a' := ?_) YK rfl rfl (Zo HT_.out (by kernel_rfl)) (fun _ _ _ h => h) (Or.inl ⟨by rfl,?_⟩) ?_ ?_; rotate_left
                 · intro w'
                   go_simp; with_reducible rfl
                 rotate_left
                 · simp only [Act.put,Yi,Yj,Yk,i64_w,i32_w]
                   rfl
                 refine pure_ (i := 35) (N := some 106) (v := ?_) (a' := ?_) YL rfl rfl (Zo HT_.out (by kernel_rfl)) (fun _ _ _ h => h) (Or.inl ⟨by rfl,?_⟩) ?_ ?_; rotate_left
                 · intro w'
                   go_simp; with_reducible rfl
                 rotate_left
                 · simp only [Act.put,Yi,Yj,Yk,i64_w,i32_w]
                   rfl
                 refine pure_ (i := 36) (N := some 107) (v := ?_) (a' := ?_) YM rfl rfl (Zo HT_.out (by kernel_rfl)) (fun _ _ _ h => h) (Or.inl ⟨by rfl,?_⟩) ?_ ?_; rotate_left
                 · intro w'
                   go_simp; with_reducible rfl
                 rotate_left
                 · simp only [Act.put,Yi,Yj,Yk,i64_w,i32_w]
                   rfl
                 refine pure_ (i := 37) (N := some 108) (v := undef) (a' := ?_) YN rfl rfl (Zo HT_.out (by kernel_rfl)) (fun _ _ _ h => h) (Or.inr ⟨by rfl,rfl⟩) ?_ ?_; rotate_left
                 · simp only [Act.put,Yi,Yj,Yk,i64_w,i32_w]
                   rfl
                 refine pure_ (i := 38) (N := some 109) (v := undef) (a' := ?_) YO rfl rfl (Zo HT_.out (by kernel_rfl)) (fun _ _ _ h => h) (Or.inr ⟨by rfl,rfl⟩) ?_ ?_; rotate_left
                 · simp only [Act.put,Yi,Yj,Yk,i64_w,i32_w]
                   rfl
                 refine pure_ (i := 39) (N := some 110) (v := undef) (a' := ?_) YP rfl rfl (Zo HT_.out (by kernel_rfl)) (fun _ _ _ h => h) (Or.inr ⟨by rfl,rfl⟩) ?_ ?_; rotate_left
                 · simp only [Act.put,Yi,Yj,Yk,i64_w,i32_w]
                   rfl
                 refine pure_ (i := 40) (N := some 111) (v := ?_) (a' := ?_) YQ rfl rfl (Zo HT_.out (by kernel_rfl)) (fun _ _ _ h => h) (Or.inl ⟨by rfl,?_⟩) ?_ ?_; rotate_left
                 · intro w'
                   go_simp; with_reducible rfl
                 rotate_left
                 · simp only [Act.put,Yi,Yj,Yk,i64_w,i32_w]
                   rfl
                 refine done_ (Xh HT_.out (by kernel_rfl)) ?_
                 try go_wp2
                 go_meet
                 case rel => exact ⟨_,(true),(by first | rfl | (simp; done) | (simp [*]; done)),H',⟨by first | omega | exact Nat.le_refl _⟩,⟨by (with_reducible repeat (first | refine Zc ?_ _ | refine Ze ?_ | refine Zd ?_ _)); exact BK190.out⟩,⟨by (with_reducible repeat (first | refine Zc ?_ _ | refine Ze ?_ | refine Zd ?_ _)); exact BK191.out⟩,⟨by (with_reducible repeat (first | refine Zc ?_ _ | refine Ze ?_ | refine Zd ?_ _)); exact BK192.out⟩,⟨by (with_reducible repeat (first | refine Zc ?_ _ | refine Ze ?_ | refine Zd ?_ _)); exact BK200.out⟩,⟨by (with_reducible repeat (first | refine Zc ?_ _ | refine Ze ?_ | refine Zd ?_ _)); exact BK208.out⟩,⟨by repeat (first | (with_reducible first | exact HB.out | apply Zk | apply Zi | apply Zj | refine Zf ?_ GE190.out | refine Zf ?_ GE191.out | refine Zf ?_ GE192.out | refine Zf ?_ GE200.out | refine Zf ?_ GE208.out) | exact HB.out)⟩⟩
             · replace c63 := Bool.eq_false_iff.mpr c63
               subst c63
               have H1 : (Zg.j0 k a2 t207 true a0_0 a0_1 a0_2 a0_3 a0_4 a0_5 a0_6 a1_0 a1_1 a1_2 a1_3 a1_4 a1_5 a1_6 t193 t194 t195 t196 t197 t198) = some r := by rw [if_neg (show ¬ (false = true) by decide)] at H; exact H
               clear H; have H := H1; clear H1; have H' := Zh.mk H; clear H
               try go_wp2
               have n0_ := Zh.mk (Kd.ZG HO215.out); have n1_ := Zh.mk (Kd.ZG HO220.out); have n2_ := Zh.mk (Ze BK190.out); have n3_ := Zh.mk (Ze BK191.out); have n4_ := Zh.mk (Ze BK192.out); have n5_ := Zh.mk (Ze BK200.out); have n6_ := Zh.mk (Ze BK208.out); have n7_ := Zh.mk (Zj HB.out); clear HO215; clear HO220; clear BK190; clear BK191; clear BK192; clear BK200; clear BK208; clear HB; have HO215 := n0_; have HO220 := n1_; have BK190 := n2_; have BK191 := n3_; have BK192 := n4_; have BK200 := n5_; have BK208 := n6_; have HB := n7_; clear n0_ n1_ n2_ n3_ n4_ n5_ n6_ n7_; refine Xk (n := 41) (S := fun w' => w'.cell? ⟨gb190,0,none⟩ = some (.int .i64 a0_0) ∧ w'.cell? ⟨gb190,1,none⟩ = some (.int .i64 a0_1) ∧ w'.cell? ⟨gb190,2,none⟩ = some (.int .i64 a0_2) ∧ w'.cell? ⟨gb190,3,none⟩ = some (.int .i64 a0_3) ∧ w'.cell? ⟨gb190,4,none⟩ = some (.int .i64 a0_4) ∧ w'.cell? ⟨gb190,5,none⟩ = some (.int .i64 a0_5) ∧ w'.cell? ⟨gb190,6,none⟩ = some (.int .i64 a0_6) ∧ w'.cell? ⟨gb200,0,none⟩ = some (.int .i64 t193) ∧ w'.cell? ⟨gb200,1,none⟩ = some (.int .i64 t194) ∧ w'.cell? ⟨gb200,2,none⟩ = some (.int .i64 t195) ∧ w'.cell? ⟨gb200,3,none⟩ = some (.int .i64 t196) ∧ w'.cell? ⟨gb200,4,none⟩ = some (.int .i64 t197) ∧ w'.cell? ⟨gb200,5,none⟩ = some (.int .i64 t198) ∧ w'.cell? ⟨gb208,0,none⟩ = some (.int .i64 t201) ∧ w'.cell? ⟨gb208,1,none⟩ = some (.int .i64 t202) ∧ w'.cell? ⟨gb208,2,none⟩ = some (.int .i64 t203) ∧ w'.cell? ⟨gb208,3,none⟩ = some (.int .i64 t204) ∧ w'.cell? ⟨gb208,4,none⟩ = some (.int .i64 t205) ∧ w'.cell? ⟨gb208,5,none⟩ = some (.int .i64 t206)) (ds := []) Yl (by kernel_rfl) rfl rfl ⟨(Za BK190.out 0).trans rfl,(Za BK190.out 1).trans rfl,(Za BK190.out 2).trans rfl,(Za BK190.out 3).trans rfl,(Za BK190.out 4).trans rfl,(Za BK190.out 5).trans rfl,(Za BK190.out 6).trans rfl,(Za BK200.out 0).trans rfl,(Za BK200.out 1).trans rfl,(Za BK200.out 2).trans rfl,(Za BK200.out 3).trans rfl,(Za BK200.out 4).trans rfl,(Za BK200.out 5).trans rfl,(Za BK208.out 0).trans rfl,(Za BK208.out 1).trans rfl,(Za BK208.out 2).trans rfl,(Za BK208.out 3).trans rfl,(Za BK208.out 4).trans rfl,(Za BK208.out 5).trans rfl⟩ (fun hHeld => ?_); refine Xb Zg.tab7 Zg.bits7 (fun HT_ HW_ => ?_); generalize w45.drew = w75 at HO215 HO220 BK190 BK191 BK192 BK200 BK208 HB hHeld ⊢; refine take_ (i := 0) (N := some 71) (v := ?_) (a' := ?_) Ym rfl rfl (Z8 HT_.out HW_.out (by kernel_rfl)) (fun _ _ _ h => h) (Or.inl ⟨by rfl,?_⟩) hHeld ?_ ?_; rotate_left
               · rintro w' ⟨s0,s1,s2,s3,s4,s5,s6,s7,s8,s9,s10,s11,s12,s13,s14,s15,s16,s17,s18⟩
                 go_simp; with_reducible rfl
               rotate_left
               · simp only [Act.put,Yi,Yj,Yk,i64_w,i32_w]
                 rfl
               refine take_ (i := 2) (N := some 73) (v := ?_) (a' := ?_) Yn rfl rfl (Z8 HT_.out HW_.out (by kernel_rfl)) (fun _ _ _ h => h) (Or.inl ⟨by rfl,?_⟩) hHeld ?_ ?_; rotate_left
               · rintro w' ⟨s0,s1,s2,s3,s4,s5,s6,s7,s8,s9,s10,s11,s12,s13,s14,s15,s16,s17,s18⟩
                 go_simp; with_reducible rfl
               rotate_left
               · simp only [Act.put,Yi,Yj,Yk,i64_w,i32_w]
                 rfl
               refine one_ (i := 1) (N := some 72) Yo rfl rfl (Xd HT_.out (by kernel_rfl)) (by decide) (fun K hK => ?_); refine goes_ Try.func11 (by kernel_rfl) rfl #[.agg #[.int .i64 a0_0,.int .i64 a0_1,.int .i64 a0_2,.int .i64 a0_3,.int .i64 a0_4,.int .i64 a0_5,.int .i64 a0_6]] (by rfl) rfl rfl (by (try simp only [List.map_toArray,List.map_cons,List.map_nil]); first | done | rfl | (simp only [List.length_drop,List.length_take]; rfl)) ?_
               with_reducible refine (ZC.calls a0_0 a0_1 a0_2 a0_3 a0_4 a0_5 a0_6 t223 _ A46.out).mono ?_
               rintro e w76 ⟨rfl,hb⟩; refine ⟨_,rfl,?_⟩; have n0_ := Zh.mk (Kd.ZN (by (with_reducible repeat (first | apply Kd.ZH | apply Kd.ZI | apply Kd.ZG)); exact HO215.out) hb); have n1_ := Zh.mk (Kd.ZN (by (with_reducible repeat (first | apply Kd.ZH | apply Kd.ZI | apply Kd.ZG)); exact HO220.out) hb); have n2_ := Zh.mk (Zn (g := gb190) (o := .cells #[.int .i64 a0_0,.int .i64 a0_1,.int .i64 a0_2,.int .i64 a0_3,.int .i64 a0_4,.int .i64 a0_5,.int .i64 a0_6] 23 (0,0)) (by (with_reducible repeat (first | refine Zc ?_ _ | refine Ze ?_ | refine Zd ?_ _)); exact BK190.out) hb); have n3_ := Zh.mk (Zn (g := gb191) (o := .cells #[.int .i64 a1_0,.int .i64 a1_1,.int .i64 a1_2,.int .i64 a1_3,.int .i64 a1_4,.int .i64 a1_5,.int .i64 a1_6] 23 (0,0)) (by (with_reducible repeat (first | refine Zc ?_ _ | refine Ze ?_ | refine Zd ?_ _)); exact BK191.out) hb); have n4_ := Zh.mk (Zn (g := gb192) (o := .cells #[.int .i64 a3_0,.int .i64 a3_1,.int .i64 a3_2,.int .i64 a3_3,.int .i64 a3_4,.int .i64 a3_5] 25 (0,0)) (by (with_reducible repeat (first | refine Zc ?_ _ | refine Ze ?_ | refine Zd ?_ _)); exact BK192.out) hb); have n5_ := Zh.mk (Zn (g := gb200) (o := .cells #[.int .i64 t193,.int .i64 t194,.int .i64 t195,.int .i64 t196,.int .i64 t197,.int .i64 t198] 25 (0,0)) (by (with_reducible repeat (first | refine Zc ?_ _ | refine Ze ?_ | refine Zd ?_ _)); exact BK200.out) hb); have n6_ := Zh.mk (Zn (g := gb208) (o := .cells #[.int .i64 t201,.int .i64 t202,.int .i64 t203,.int .i64 t204,.int .i64 t205,.int .i64 t206] 25 (0,0)) (by (with_reducible repeat (first | refine Zc ?_ _ | refine Ze ?_ | refine Zd ?_ _)); exact BK208.out) hb); have n7_ := Zh.mk (Zv (by repeat (first | (with_reducible first | exact HB.out | apply Zk | apply Zi | apply Zj | refine Zf ?_ GE190.out | refine Zf ?_ GE191.out | refine Zf ?_ GE192.out | refine Zf ?_ GE200.out | refine Zf ?_ GE208.out) | exact HB.out)) hb); clear HO215; clear HO220; clear BK190; clear BK191; clear BK192; clear BK200; clear BK208; clear HB; have HO215 := n0_; have HO220 := n1_; have BK190 := n2_; have BK191 := n3_; have BK192 := n4_; have BK200 := n5_; have BK208 := n6_; have HB := n7_; clear n0_ n1_ n2_ n3_ n4_ n5_ n6_ n7_
               (try clear hb)
               (try clear hb2)
               (try clear hk)
               (try clear hi)
               refine hK.out _ _ ⟨(Za BK190.out 0).trans rfl,(Za BK190.out 1).trans rfl,(Za BK190.out 2).trans rfl,(Za BK190.out 3).trans rfl,(Za BK190.out 4).trans rfl,(Za BK190.out 5).trans rfl,(Za BK190.out 6).trans rfl,(Za BK200.out 0).trans rfl,(Za BK200.out 1).trans rfl,(Za BK200.out 2).trans rfl,(Za BK200.out 3).trans rfl,(Za BK200.out 4).trans rfl,(Za BK200.out 5).trans rfl,(Za BK208.out 0).trans rfl,(Za BK208.out 1).trans rfl,(Za BK208.out 2).trans rfl,(Za BK208.out 3).trans rfl,(Za BK208.out 4).trans rfl,(Za BK208.out 5).trans rfl⟩ (fun hHeld => ?_); clear hK K; refine norm_ (a' := ?_) ?_ ?_; rotate_left
               · show Act.put _ (some 72) _ = _
                 simp only [Act.put,Yi,Yj,Yk,i64_w,i32_w]; rfl
               refine one_ (i := 3) (N := some 74) Yp rfl rfl (Xd HT_.out (by kernel_rfl)) (by decide) (fun K hK => ?_); refine goes_ Try.func12 (by kernel_rfl) rfl #[.agg #[.int .i64 a0_0,.int .i64 a0_1,.int .i64 a0_2,.int .i64 a0_3,.int .i64 a0_4,.int .i64 a0_5,.int .i64 a0_6]] (by rfl) rfl rfl (by (try simp only [List.map_toArray,List.map_cons,List.map_nil]); first | done | rfl | (simp only [List.length_drop,List.length_take]; rfl)) ?_
               with_reducible refine (Zs.calls k a0_0 a0_1 a0_2 a0_3 a0_4 a0_5 a0_6 t224 _ A47.out).mono ?_
               rintro e w77 ⟨rfl,hb⟩; refine ⟨_,rfl,?_⟩; have n0_ := Zh.mk (Kd.ZN (by (with_reducible repeat (first | apply Kd.ZH | apply Kd.ZI | apply Kd.ZG)); exact HO215.out) hb); have n1_ := Zh.mk (Kd.ZN (by (with_reducible repeat (first | apply Kd.ZH | apply Kd.ZI | apply Kd.ZG)); exact HO220.out) hb); have n2_ := Zh.mk (Zn (g := gb190) (o := .cells #[.int .i64 a0_0,.int .i64 a0_1,.int .i64 a0_2,.int .i64 a0_3,.int .i64 a0_4,.int .i64 a0_5,.int .i64 a0_6] 23 (0,0)) (by (with_reducible repeat (first | refine Zc ?_ _ | refine Ze ?_ | refine Zd ?_ _)); exact BK190.out) hb); have n3_ := Zh.mk (Zn (g := gb191) (o := .cells #[.int .i64 a1_0,.int .i64 a1_1,.int .i64 a1_2,.int .i64 a1_3,.int .i64 a1_4,.int .i64 a1_5,.int .i64 a1_6] 23 (0,0)) (by (with_reducible repeat (first | refine Zc ?_ _ | refine Ze ?_ | refine Zd ?_ _)); exact BK191.out) hb); have n4_ := Zh.mk (Zn (g := gb192) (o := .cells #[.int .i64 a3_0,.int .i64 a3_1,.int .i64 a3_2,.int .i64 a3_3,.int .i64 a3_4,.int .i64 a3_5] 25 (0,0)) (by (with_reducible repeat (first | refine Zc ?_ _ | refine Ze ?_ | refine Zd ?_ _)); exact BK192.out) hb); have n5_ := Zh.mk (Zn (g := gb200) (o := .cells #[.int .i64 t193,.int .i64 t194,.int .i64 t195,.int .i64 t196,.int .i64 t197,.int .i64 t198] 25 (0,0)) (by (with_reducible repeat (first | refine Zc ?_ _ | refine Ze ?_ | refine Zd ?_ _)); exact BK200.out) hb); have n6_ := Zh.mk (Zn (g := gb208) (o := .cells #[.int .i64 t201,.int .i64 t202,.int .i64 t203,.int .i64 t204,.int .i64 t205,.int .i64 t206] 25 (0,0)) (by (with_reducible repeat (first | refine Zc ?_ _ | refine Ze ?_ | refine Zd ?_ _)); exact BK208.out) hb); have n7_ := Zh.mk (Zv (by repeat (first | (with_reducible first | exact HB.out | apply Zk | apply Zi | apply Zj | refine Zf ?_ GE190.out | refine Zf ?_ GE191.out | refine Zf ?_ GE192.out | refine Zf ?_ GE200.out | refine Zf ?_ GE208.out) | exact HB.out)) hb); clear HO215; clear HO220; clear BK190; clear BK191; clear BK192; clear BK200; clear BK208; clear HB; have HO215 := n0_; have HO220 := n1_; have BK190 := n2_; have BK191 := n3_; have BK192 := n4_; have BK200 := n5_; have BK208 := n6_; have HB := n7_; clear n0_ n1_ n2_ n3_ n4_ n5_ n6_ n7_
               (try clear hb)
               (try clear hb2)
               (try clear hk)
               (try clear hi)
               obtain ⟨Ao78,co78,eo78⟩ := Kd.Xm HO215.out
               (first | subst eo78 | (injection eo78 with f1_ f2_ f3_; have f4_ := f1_.symm; have f5_ := f3_.symm; clear f1_ f2_ f3_; subst f4_; subst f5_))
               obtain ⟨Ao79,co79,eo79⟩ := Kd.Xm HO220.out
               (first | subst eo79 | (injection eo79 with f1_ f2_ f3_; have f4_ := f1_.symm; have f5_ := f3_.symm; clear f1_ f2_ f3_; subst f4_; subst f5_))
               refine hK.out _ _ ⟨(Za BK190.out 0).trans rfl,(Za BK190.out 1).trans rfl,(Za BK190.out 2).trans rfl,(Za BK190.out 3).trans rfl,(Za BK190.out 4).trans rfl,(Za BK190.out 5).trans rfl,(Za BK190.out 6).trans rfl,(Za BK200.out 0).trans rfl,(Za BK200.out 1).trans rfl,(Za BK200.out 2).trans rfl,(Za BK200.out 3).trans rfl,(Za BK200.out 4).trans rfl,(Za BK200.out 5).trans rfl,(Za BK208.out 0).trans rfl,(Za BK208.out 1).trans rfl,(Za BK208.out 2).trans rfl,(Za BK208.out 3).trans rfl,(Za BK208.out 4).trans rfl,(Za BK208.out 5).trans rfl⟩ (fun hHeld => ?_); clear hK K; refine norm_ (a' := ?_) ?_ ?_; rotate_left
               · show Act.put _ (some 74) _ = _
                 simp only [Act.put,Yi,Yj,Yk,i64_w,i32_w]; rfl
               refine pure_ (i := 4) (N := some 75) (v := ?_) (a' := ?_) Yq rfl rfl (Zo HT_.out (by kernel_rfl)) (fun _ _ _ h => h) (Or.inl ⟨by rfl,?_⟩) ?_ ?_; rotate_left
               · intro w'
                 go_simp; with_reducible rfl
               rotate_left
               · simp only [Act.put,Yi,Yj,Yk,i64_w,i32_w]
                 rfl
               refine pure_ (i := 5) (N := some 76) (v := ?_) (a' := ?_) Yr rfl rfl (Zo HT_.out (by kernel_rfl)) (fun _ _ _ h => h) (Or.inl ⟨by rfl,?_⟩) ?_ ?_; rotate_left
               · intro w'
                 go_simp; with_reducible rfl
               rotate_left
               · simp only [Act.put,Yi,Yj,Yk,i64_w,i32_w]
                 rfl
               refine take_ (i := 6) (N := some 77) (v := ?_) (a' := ?_) Ys rfl rfl (Z8 HT_.out HW_.out (by kernel_rfl)) (fun _ _ _ h => h) (Or.inl ⟨by rfl,?_⟩) hHeld ?_ ?_; rotate_left
               · rintro w' ⟨s0,s1,s2,s3,s4,s5,s6,s7,s8,s9,s10,s11,s12,s13,s14,s15,s16,s17,s18⟩
                 go_simp; with_reducible rfl
               rotate_left
               · simp only [Act.put,Yi,Yj,Yk,i64_w,i32_w]
                 rfl
               refine take_ (i := 7) (N := some 78) (v := ?_) (a' := ?_) Yt rfl rfl (Z8 HT_.out HW_.out (by kernel_rfl)) (fun _ _ _ h => h) (Or.inl ⟨by rfl,?_⟩) hHeld ?_ ?_; rotate_left
               · rintro w' ⟨s0,s1,s2,s3,s4,s5,s6,s7,s8,s9,s10,s11,s12,s13,s14,s15,s16,s17,s18⟩
                 go_simp; with_reducible rfl
               rotate_left
               · simp only [Act.put,Yi,Yj,Yk,i64_w,i32_w]
                 rfl
               refine pure_ (i := 8) (N := some 79) (v := ?_) (a' := ?_) Yu rfl rfl (Zo HT_.out (by kernel_rfl)) (fun _ _ _ h => h) (Or.inl ⟨by rfl,?_⟩) ?_ ?_; rotate_left
               · intro w'
                 go_simp; with_reducible rfl
               rotate_left
               · simp only [Act.put,Yi,Yj,Yk,i64_w,i32_w]
                 rfl
               refine pure_ (i := 9) (N := some 80) (v := ?_) (a' := ?_) Yv rfl rfl (Zo HT_.out (by kernel_rfl)) (fun _ _ _ h => h) (Or.inl ⟨by rfl,?_⟩) ?_ ?_; rotate_left
               · intro w'
                 go_simp; with_reducible rfl
               rotate_left
               · simp only [Act.put,Yi,Yj,Yk,i64_w,i32_w]
                 rfl
               refine pure_ (i := 10) (N := some 81) (v := ?_) (a' := ?_) Yw rfl rfl (Zo HT_.out (by kernel_rfl)) (fun _ _ _ h => h) (Or.inl ⟨by rfl,?_⟩) ?_ ?_; rotate_left
               · intro w'
                 go_simp; with_reducible rfl
               rotate_left
               · simp only [Act.put,Yi,Yj,Yk,i64_w,i32_w]
                 rfl
               refine pure_ (i := 11) (N := some 82) (v := ?_) (a' := ?_) Yx rfl rfl (Zo HT_.out (by kernel_rfl)) (fun _ _ _ h => h) (Or.inl ⟨by rfl,?_⟩) ?_ ?_; rotate_left
               · intro w'
                 go_simp; with_reducible rfl
               rotate_left
               · simp only [Act.put,Yi,Yj,Yk,i64_w,i32_w]
                 rfl
               refine pure_ (i := 12) (N := some 83) (v := ?_) (a' := ?_) Yy rfl rfl (Zo HT_.out (by kernel_rfl)) (fun _ _ _ h => h) (Or.inl ⟨by rfl,?_⟩) ?_ ?_; rotate_left
               · intro w'
                 go_simp; with_reducible rfl
               rotate_left
               · simp only [Act.put,Yi,Yj,Yk,i64_w,i32_w]
                 rfl
               refine pure_ (i := 13) (N := some 84) (v := ?_) (a' := ?_) Yz rfl rfl (Zo HT_.out (by kernel_rfl)) (fun _ _ _ h => h) (Or.inl ⟨by rfl,?_⟩) ?_ ?_; rotate_left
               · intro w'
                 go_simp; with_reducible rfl
               rotate_left
               · simp only [Act.put,Yi,Yj,Yk,i64_w,i32_w]
                 rfl
               refine pure_ (i := 14) (N := some 85) (v := ?_) (a' := ?_) Y0 rfl rfl (Zo HT_.out (by kernel_rfl)) (fun _ _ _ h => h) (Or.inl ⟨by rfl,?_⟩) ?_ ?_; rotate_left
               · intro w'
                 go_simp; with_reducible rfl
               rotate_left
               · simp only [Act.put,Yi,Yj,Yk,i64_w,i32_w]
                 rfl
               refine pure_ (i := 15) (N := some 86) (v := ?_) (a' := ?_) Y1 rfl rfl (Zo HT_.out (by kernel_rfl)) (fun _ _ _ h => h) (Or.inl ⟨by rfl,?_⟩) ?_ ?_; rotate_left
               · intro w'
                 go_simp; with_reducible rfl
               rotate_left
               · simp only [Act.put,Yi,Yj,Yk,i64_w,i32_w]
                 rfl
               refine pure_ (i := 16) (N := some 87) (v := ?_) (a' := ?_) Y2 rfl rfl (Zo HT_.out (by kernel_rfl)) (fun _ _ _ h => h) (Or.inl ⟨by rfl,?_⟩) ?_ ?_; rotate_left
               · intro w'
                 go_simp; with_reducible rfl
               rotate_left
               · simp only [Act.put,Yi,Yj,Yk,i64_w,i32_w]
                 rfl
               refine pure_ (i := 17) (N := some 88) (v := ?_) (a' := ?_) Y3 rfl rfl (Zo HT_.out (by kernel_rfl)) (fun _ _ _ h => h) (Or.inl ⟨by rfl,?_⟩) ?_ ?_; rotate_left
               · intro w'
                 go_simp; with_reducible rfl
               rotate_left
               · simp only [Act.put,Yi,Yj,Yk,i64_w,i32_w]
                 rfl
               refine pure_ (i := 18) (N := some 89) (v := ?_) (a' := ?_) Y4 rfl rfl (Zo HT_.out (by kernel_rfl)) (fun _ _ _ h => h) (Or.inl ⟨by rfl,?_⟩) ?_ ?_; rotate_left
               · intro w'
                 go_simp; with_reducible rfl
               rotate_left
               · simp only [Act.put,Yi,Yj,Yk,i64_w,i32_w]
                 rfl
               refine pure_ (i := 19) (N := some 90) (v := ?_) (a' := ?_) Y5 rfl rfl (Zo HT_.out (by kernel_rfl)) (fun _ _ _ h => h) (Or.inl ⟨by rfl,?_⟩) ?_ ?_; rotate_left
               · intro w'
                 go_simp; with_reducible rfl
               rotate_left
               · simp only [Act.put,Yi,Yj,Yk,i64_w,i32_w]
                 rfl
               refine pure_ (i := 20) (N := some 91) (v := ?_) (a' := ?_) Y6 rfl rfl (Zo HT_.out (by kernel_rfl)) (fun _ _ _ h => h) (Or.inl ⟨by rfl,?_⟩) ?_ ?_; rotate_left
               · intro w'
                 go_simp; with_reducible rfl
               rotate_left
               · simp only [Act.put,Yi,Yj,Yk,i64_w,i32_w]
                 rfl
               refine pure_ (i := 21) (N := some 92) (v := ?_) (a' := ?_) Y7 rfl rfl (Zo HT_.out (by kernel_rfl)) (fun _ _ _ h => h) (Or.inl ⟨by rfl,?_⟩) ?_ ?_; rotate_left
               · intro w'
                 go_simp; with_reducible rfl
               rotate_left
               · simp only [Act.put,Yi,Yj,Yk,i64_w,i32_w]
                 rfl
               refine pure_ (i := 22) (N := some 93) (v := ?_) (a' := ?_) Y8 rfl rfl (Zo HT_.out (by kernel_rfl)) (fun _ _ _ h => h) (Or.inl ⟨by rfl,?_⟩) ?_ ?_; rotate_left
               · intro w'
                 go_simp; with_reducible rfl
               rotate_left
               · simp only [Act.put,Yi,Yj,Yk,i64_w,i32_w]
                 rfl
               refine pure_ (i := 23) (N := some 94) (v := ?_) (a' := ?_) Y9 rfl rfl (Zo HT_.out (by kernel_rfl)) (fun _ _ _ h => h) (Or.inl ⟨by rfl,?_⟩) ?_ ?_; rotate_left
               · intro w'
                 go_simp; with_reducible rfl
               rotate_left
               · simp only [Act.put,Yi,Yj,Yk,i64_w,i32_w]
                 rfl
               refine pure_ (i := 24) (N := some 95) (v := ?_) (a' := ?_) YA rfl rfl (Zo HT_.out (by kernel_rfl)) (fun _ _ _ h => h) (Or.inl ⟨by rfl,?_⟩) ?_ ?_; rotate_left
               · intro w'
                 go_simp; with_reducible rfl
               rotate_left
               · simp only [Act.put,Yi,Yj,Yk,i64_w,i32_w]
                 rfl
               refine pure_ (i := 25) (N := some 96) (v := ?_) (a' := ?_) YB rfl rfl (Zo HT_.out (by kernel_rfl)) (fun _ _ _ h => h) (Or.inl ⟨by rfl,?_⟩) ?_ ?_; rotate_left
               · intro w'
                 go_simp; with_reducible rfl
               rotate_left
               · simp only [Act.put,Yi,Yj,Yk,i64_w,i32_w]
                 rfl
               refine pure_ (i := 26) (N := some 97) (v := ?_) (a' := ?_) YC rfl rfl (Zo HT_.out (by kernel_rfl)) (fun _ _ _ h => h) (Or.inl ⟨by rfl,?_⟩) ?_ ?_; rotate_left
               · intro w'
                 go_simp; with_reducible rfl
               rotate_left
               · simp only [Act.put,Yi,Yj,Yk,i64_w,i32_w]
                 rfl
               refine pure_ (i := 27) (N := some 98) (v := ?_) (a' := ?_) YD rfl rfl (Zo HT_.out (by kernel_rfl)) (fun _ _ _ h => h) (Or.inl ⟨by rfl,?_⟩) ?_ ?_; rotate_left
               · intro w'
                 go_simp; with_reducible rfl
               rotate_left
               · simp only [Act.put,Yi,Yj,Yk,i64_w,i32_w]
                 rfl
               refine one_ (i := 28) (N := some 99) YE rfl rfl (Xd HT_.out (by kernel_rfl)) (by decide) (fun K hK => ?_); refine goes_ Try.func13 (by kernel_rfl) rfl #[.slice Ao78 t213.length co78,.slice Ao79 t218.length co79] (by rfl) rfl rfl (by (try simp only [List.map_toArray,List.map_cons,List.map_nil]); first | done | rfl | (simp only [List.length_drop,List.length_take]; rfl)) ?_
               with_reducible refine (Zr.calls k _ _ t213 _ _ t218 false _ ?side1 ?side2 ?side3 ?side4 A62.out).mono ?_
               (case side1 => repeat (first | exact (Kd.ZJ HO215.out).2.2 | (with_reducible refine Kd.ZV ?_ _) | (with_reducible refine Kd.ZW ?_ _) | (with_reducible refine Kd.ZX ?_)))
               (case side2 => exact (Kd.ZJ HO215.out).2.1)
               (case side3 => repeat (first | exact (Kd.ZJ HO220.out).2.2 | (with_reducible refine Kd.ZV ?_ _) | (with_reducible refine Kd.ZW ?_ _) | (with_reducible refine Kd.ZX ?_)))
               (case side4 => exact (Kd.ZJ HO220.out).2.1)
               rintro e w' ⟨rfl,⟨nd,rfl⟩⟩; refine ⟨_,rfl,?_⟩; refine hK.out _ _ ⟨(Za BK190.out 0).trans rfl,(Za BK190.out 1).trans rfl,(Za BK190.out 2).trans rfl,(Za BK190.out 3).trans rfl,(Za BK190.out 4).trans rfl,(Za BK190.out 5).trans rfl,(Za BK190.out 6).trans rfl,(Za BK200.out 0).trans rfl,(Za BK200.out 1).trans rfl,(Za BK200.out 2).trans rfl,(Za BK200.out 3).trans rfl,(Za BK200.out 4).trans rfl,(Za BK200.out 5).trans rfl,(Za BK208.out 0).trans rfl,(Za BK208.out 1).trans rfl,(Za BK208.out 2).trans rfl,(Za BK208.out 3).trans rfl,(Za BK208.out 4).trans rfl,(Za BK208.out 5).trans rfl⟩ (fun hHeld => ?_); clear hK K; refine norm_ (a' := ?_) ?_ ?_; rotate_left
               · show Act.put _ (some 99) _ = _
                 simp only [Act.put,Yi,Yj,Yk,i64_w,i32_w]; rfl
               refine pure_ (i := 29) (N := some 100) (v := ?_) (a' := ?_) YF rfl rfl (Zo HT_.out (by kernel_rfl)) (fun _ _ _ h => h) (Or.inl ⟨by rfl,?_⟩) ?_ ?_; rotate_left
               · intro w'
                 go_simp; with_reducible rfl
               rotate_left
               · simp only [Act.put,Yi,Yj,Yk,i64_w,i32_w]
                 rfl
               refine pure_ (i := 30) (N := some 101) (v := ?_) (a' := ?_) YG rfl rfl (Zo HT_.out (by kernel_rfl)) (fun _ _ _ h => h) (Or.inl ⟨by rfl,?_⟩) ?_ ?_; rotate_left
               · intro w'
                 go_simp; with_reducible rfl
               rotate_left
               · simp only [Act.put,Yi,Yj,Yk,i64_w,i32_w]
                 rfl
               refine pure_ (i := 31) (N := some 102) (v := ?_) (a' := ?_) YH rfl rfl (Zo HT_.out (by kernel_rfl)) (fun _ _ _ h => h) (Or.inl ⟨by rfl,?_⟩) ?_ ?_; rotate_left
               · intro w'
                 go_simp; with_reducible rfl
               rotate_left
               · simp only [Act.put,Yi,Yj,Yk,i64_w,i32_w]
                 rfl
               refine pure_ (i := 32) (N := some 103) (v := undef) (a' := ?_) YI rfl rfl (Zo HT_.out (by kernel_rfl)) (fun _ _ _ h => h) (Or.inr ⟨by rfl,rfl⟩) ?_ ?_; rotate_left
               · simp only [Act.put,Yi,Yj,Yk,i64_w,i32_w]
                 rfl
               refine pure_ (i := 33) (N := some 104) (v := undef) (a' := ?_) YJ rfl rfl (Zo HT_.out (by kernel_rfl)) (fun _ _ _ h => h) (Or.inr ⟨by rfl,rfl⟩) ?_ ?_; rotate_left
               · simp only [Act.put,Yi,Yj,Yk,i64_w,i32_w]
                 rfl
               refine pure_ (i := 34) (N := some 105) (v := undef) (a' := ?_) YK rfl rfl (Zo HT_.out (by kernel_rfl)) (fun _ _ _ h => h) (Or.inr ⟨by rfl,rfl⟩) ?_ ?_; rotate_left
               · simp only [Act.put,Yi,Yj,Yk,i64_w,i32_w]
                 rfl
               refine pure_ (i := 35) (N := some 106) (v := ?_) (a' := ?_) YL rfl rfl (Zo HT_.out (by kernel_rfl)) (fun _ _ _ h => h) (Or.inl ⟨by rfl,?_⟩) ?_ ?_; rotate_left
               · intro w'
                 go_simp; with_reducible rfl
               rotate_left
               · simp only [Act.put,Yi,Yj,Yk,i64_w,i32_w]
                 rfl
               refine pure_ (i := 36) (N := some 107) (v := ?_) (a' := ?_) YM rfl rfl (Zo HT_.out (by kernel_rfl)) (fun _ _ _ h => h) (Or.inl ⟨by rfl,?_⟩) ?_ ?_; rotate_left
               · intro w'
                 go_simp; with_reducible rfl
               rotate_left
               · simp only [Act.put,Yi,Yj,Yk,i64_w,i32_w]
                 rfl
               refine pure_ (i := 37) (N := some 108) (v := undef) (a' := ?_) YN rfl rfl (Zo HT_.out (by kernel_rfl)) (fun _ _ _ h => h) (Or.inr ⟨by rfl,rfl⟩) ?_ ?_; rotate_left
               · simp only [Act.put,Yi,Yj,Yk,i64_w,i32_w]
                 rfl
               refine pure_ (i := 38) (N := some 109) (v := undef) (a' := ?_) YO rfl rfl (Zo HT_.out (by kernel_rfl)) (fun _ _ _ h => h) (Or.inr ⟨by rfl,rfl⟩) ?_ ?_; rotate_left
               · simp only [Act.put,Yi,Yj,Yk,i64_w,i32_w]
                 rfl
               refine pure_ (i := 39) (N := some 110) (v := undef) (a' := ?_) YP rfl rfl (Zo HT_.out (by kernel_rfl)) (fun _ _ _ h => h) (Or.inr ⟨by rfl,rfl⟩) ?_ ?_; rotate_left
               · simp only [Act.put,Yi,Yj,Yk,i64_w,i32_w]
                 rfl
               refine pure_ (i := 40) (N := some 111) (v := ?_) (a' := ?_) YQ rfl rfl (Zo HT_.out (by kernel_rfl)) (fun _ _ _ h => h) (Or.inl ⟨by rfl,?_⟩) ?_ ?_; rotate_left
               · intro w'
                 go_simp; with_reducible rfl
               rotate_left
               · simp only [Act.put,Yi,Yj,Yk,i64_w,i32_w]
                 rfl
               refine done_ (Xh HT_.out (by kernel_rfl)) ?_
               try go_wp2
               go_meet
               case rel => exact ⟨_,(true),(by first | rfl | (simp; done) | (simp [*]; done)),H',⟨by first | omega | exact Nat.le_refl _⟩,⟨by (with_reducible repeat (first | refine Zc ?_ _ | refine Ze ?_ | refine Zd ?_ _)); exact BK190.out⟩,⟨by (with_reducible repeat (first | refine Zc ?_ _ | refine Ze ?_ | refine Zd ?_ _)); exact BK191.out⟩,⟨by (with_reducible repeat (first | refine Zc ?_ _ | refine Ze ?_ | refine Zd ?_ _)); exact BK192.out⟩,⟨by (with_reducible repeat (first | refine Zc ?_ _ | refine Ze ?_ | refine Zd ?_ _)); exact BK200.out⟩,⟨by (with_reducible repeat (first | refine Zc ?_ _ | refine Ze ?_ | refine Zd ?_ _)); exact BK208.out⟩,⟨by repeat (first | (with_reducible first | exact HB.out | apply Zk | apply Zi | apply Zj | refine Zf ?_ GE190.out | refine Zf ?_ GE191.out | refine Zf ?_ GE192.out | refine Zf ?_ GE200.out | refine Zf ?_ GE208.out) | exact HB.out)⟩⟩
           · rw [if_neg c61] at H
             have c61b0 : (t210 == t212) = false := beq_eq_false_iff_ne.mpr c61; have c61b1 : (t210 != t212) = true := bne_iff_ne.mpr c61; have H' := Zh.mk H; clear H
             try go_wp2
             have n0_ := Zh.mk (Kd.ZG HO215.out); have n1_ := Zh.mk (Kd.ZG HO220.out); have n2_ := Zh.mk (Ze BK190.out); have n3_ := Zh.mk (Ze BK191.out); have n4_ := Zh.mk (Ze BK192.out); have n5_ := Zh.mk (Ze BK200.out); have n6_ := Zh.mk (Ze BK208.out); have n7_ := Zh.mk (Zj HB.out); clear HO215; clear HO220; clear BK190; clear BK191; clear BK192; clear BK200; clear BK208; clear HB; have HO215 := n0_; have HO220 := n1_; have BK190 := n2_; have BK191 := n3_; have BK192 := n4_; have BK200 := n5_; have BK208 := n6_; have HB := n7_; clear n0_ n1_ n2_ n3_ n4_ n5_ n6_ n7_; refine Xk (n := 41) (S := fun w' => w'.cell? ⟨gb190,0,none⟩ = some (.int .i64 a0_0) ∧ w'.cell? ⟨gb190,1,none⟩ = some (.int .i64 a0_1) ∧ w'.cell? ⟨gb190,2,none⟩ = some (.int .i64 a0_2) ∧ w'.cell? ⟨gb190,3,none⟩ = some (.int .i64 a0_3) ∧ w'.cell? ⟨gb190,4,none⟩ = some (.int .i64 a0_4) ∧ w'.cell? ⟨gb190,5,none⟩ = some (.int .i64 a0_5) ∧ w'.cell? ⟨gb190,6,none⟩ = some (.int .i64 a0_6) ∧ w'.cell? ⟨gb200,0,none⟩ = some (.int .i64 t193) ∧ w'.cell? ⟨gb200,1,none⟩ = some (.int .i64 t194) ∧ w'.cell? ⟨gb200,2,none⟩ = some (.int .i64 t195) ∧ w'.cell? ⟨gb200,3,none⟩ = some (.int .i64 t196) ∧ w'.cell? ⟨gb200,4,none⟩ = some (.int .i64 t197) ∧ w'.cell? ⟨gb200,5,none⟩ = some (.int .i64 t198) ∧ w'.cell? ⟨gb208,0,none⟩ = some (.int .i64 t201) ∧ w'.cell? ⟨gb208,1,none⟩ = some (.int .i64 t202) ∧ w'.cell? ⟨gb208,2,none⟩ = some (.int .i64 t203) ∧ w'.cell? ⟨gb208,3,none⟩ = some (.int .i64 t204) ∧ w'.cell? ⟨gb208,4,none⟩ = some (.int .i64 t205) ∧ w'.cell? ⟨gb208,5,none⟩ = some (.int .i64 t206)) (ds := []) Yl (by kernel_rfl) rfl rfl ⟨(Za BK190.out 0).trans rfl,(Za BK190.out 1).trans rfl,(Za BK190.out 2).trans rfl,(Za BK190.out 3).trans rfl,(Za BK190.out 4).trans rfl,(Za BK190.out 5).trans rfl,(Za BK190.out 6).trans rfl,(Za BK200.out 0).trans rfl,(Za BK200.out 1).trans rfl,(Za BK200.out 2).trans rfl,(Za BK200.out 3).trans rfl,(Za BK200.out 4).trans rfl,(Za BK200.out 5).trans rfl,(Za BK208.out 0).trans rfl,(Za BK208.out 1).trans rfl,(Za BK208.out 2).trans rfl,(Za BK208.out 3).trans rfl,(Za BK208.out 4).trans rfl,(Za BK208.out 5).trans rfl⟩ (fun hHeld => ?_); refine Xb Zg.tab7 Zg.bits7 (fun HT_ HW_ => ?_); generalize w45.drew = w80 at HO215 HO220 BK190 BK191 BK192 BK200 BK208 HB hHeld ⊢; refine take_ (i := 0) (N := some 71) (v := ?_) (a' := ?_) Ym rfl rfl (Z8 HT_.out HW_.out (by kernel_rfl)) (fun _ _ _ h => h) (Or.inl ⟨by rfl,?_⟩) hHeld ?_ ?_; rotate_left
             · rintro w' ⟨s0,s1,s2,s3,s4,s5,s6,s7,s8,s9,s10,s11,s12,s13,s14,s15,s16,s17,s18⟩
               go_simp; with_reducible rfl
             rotate_left
             · simp only [Act.put,Yi,Yj,Yk,i64_w,i32_w]
               rfl
             refine take_ (i := 2) (N := some 73) (v := ?_) (a' := ?_) Yn rfl rfl (Z8 HT_.out HW_.out (by kernel_rfl)) (fun _ _ _ h => h) (Or.inl ⟨by rfl,?_⟩) hHeld ?_ ?_; rotate_left
             · rintro w' ⟨s0,s1,s2,s3,s4,s5,s6,s7,s8,s9,s10,s11,s12,s13,s14,s15,s16,s17,s18⟩
               go_simp; with_reducible rfl
             rotate_left
             · simp only [Act.put,Yi,Yj,Yk,i64_w,i32_w]
               rfl
             refine one_ (i := 1) (N := some 72) Yo rfl rfl (Xd HT_.out (by kernel_rfl)) (by decide) (fun K hK => ?_); refine goes_ Try.func11 (by kernel_rfl) rfl #[.agg #[.int .i64 a0_0,.int .i64 a0_1,.int .i64 a0_2,.int .i64 a0_3,.int .i64 a0_4,.int .i64 a0_5,.int .i64 a0_6]] (by rfl) rfl rfl (by (try simp only [List.map_toArray,List.map_cons,List.map_nil]); first | done | rfl | (simp only [List.length_drop,List.length_take]; rfl)) ?_
             with_reducible refine (ZC.calls a0_0 a0_1 a0_2 a0_3 a0_4 a0_5 a0_6 t223 _ A46.out).mono ?_
             rintro e w81 ⟨rfl,hb⟩; refine ⟨_,rfl,?_⟩; have n0_ := Zh.mk (Kd.ZN (by (with_reducible repeat (first | apply Kd.ZH | apply Kd.ZI | apply Kd.ZG)); exact HO215.out) hb); have n1_ := Zh.mk (Kd.ZN (by (with_reducible repeat (first | apply Kd.ZH | apply Kd.ZI | apply Kd.ZG)); exact HO220.out) hb); have n2_ := Zh.mk (Zn (g := gb190) (o := .cells #[.int .i64 a0_0,.int .i64 a0_1,.int .i64 a0_2,.int .i64 a0_3,.int .i64 a0_4,.int .i64 a0_5,.int .i64 a0_6] 23 (0,0)) (by (with_reducible repeat (first | refine Zc ?_ _ | refine Ze ?_ | refine Zd ?_ _)); exact BK190.out) hb); have n3_ := Zh.mk (Zn (g := gb191) (o := .cells #[.int .i64 a1_0,.int .i64 a1_1,.int .i64 a1_2,.int .i64 a1_3,.int .i64 a1_4,.int .i64 a1_5,.int .i64 a1_6] 23 (0,0)) (by (with_reducible repeat (first | refine Zc ?_ _ | refine Ze ?_ | refine Zd ?_ _)); exact BK191.out) hb); have n4_ := Zh.mk (Zn (g := gb192) (o := .cells #[.int .i64 a3_0,.int .i64 a3_1,.int .i64 a3_2,.int .i64 a3_3,.int .i64 a3_4,.int .i64 a3_5] 25 (0,0)) (by (with_reducible repeat (first | refine Zc ?_ _ | refine Ze ?_ | refine Zd ?_ _)); exact BK192.out) hb); have n5_ := Zh.mk (Zn (g := gb200) (o := .cells #[.int .i64 t193,.int .i64 t194,.int .i64 t195,.int .i64 t196,.int .i64 t197,.int .i64 t198] 25 (0,0)) (by (with_reducible repeat (first | refine Zc ?_ _ | refine Ze ?_ | refine Zd ?_ _)); exact BK200.out) hb); have n6_ := Zh.mk (Zn (g := gb208) (o := .cells #[.int .i64 t201,.int .i64 t202,.int .i64 t203,.int .i64 t204,.int .i64 t205,.int .i64 t206] 25 (0,0)) (by (with_reducible repeat (first | refine Zc ?_ _ | refine Ze ?_ | refine Zd ?_ _)); exact BK208.out) hb); have n7_ := Zh.mk (Zv (by repeat (first | (with_reducible first | exact HB.out | apply Zk | apply Zi | apply Zj | refine Zf ?_ GE190.out | refine Zf ?_ GE191.out | refine Zf ?_ GE192.out | refine Zf ?_ GE200.out | refine Zf ?_ GE208.out) | exact HB.out)) hb); clear HO215; clear HO220; clear BK190; clear BK191; clear BK192; clear BK200; clear BK208; clear HB; have HO215 := n0_; have HO220 := n1_; have BK190 := n2_; have BK191 := n3_; have BK192 := n4_; have BK200 := n5_; have BK208 := n6_; have HB := n7_; clear n0_ n1_ n2_ n3_ n4_ n5_ n6_ n7_
             (try clear hb)
             (try clear hb2)
             (try clear hk)
             (try clear hi)
             refine hK.out _ _ ⟨(Za BK190.out 0).trans rfl,(Za BK190.out 1).trans rfl,(Za BK190.out 2).trans rfl,(Za BK190.out 3).trans rfl,(Za BK190.out 4).trans rfl,(Za BK190.out 5).trans rfl,(Za BK190.out 6).trans rfl,(Za BK200.out 0).trans rfl,(Za BK200.out 1).trans rfl,(Za BK200.out 2).trans rfl,(Za BK200.out 3).trans rfl,(Za BK200.out 4).trans rfl,(Za BK200.out 5).trans rfl,(Za BK208.out 0).trans rfl,(Za BK208.out 1).trans rfl,(Za BK208.out 2).trans rfl,(Za BK208.out 3).trans rfl,(Za BK208.out 4).trans rfl,(Za BK208.out 5).trans rfl⟩ (fun hHeld => ?_); clear hK K; refine norm_ (a' := ?_) ?_ ?_; rotate_left
             · show Act.put _ (some 72) _ = _
               simp only [Act.put,Yi,Yj,Yk,i64_w,i32_w]; rfl
             refine one_ (i := 3) (N := some 74) Yp rfl rfl (Xd HT_.out (by kernel_rfl)) (by decide) (fun K hK => ?_); refine goes_ Try.func12 (by kernel_rfl) rfl #[.agg #[.int .i64 a0_0,.int .i64 a0_1,.int .i64 a0_2,.int .i64 a0_3,.int .i64 a0_4,.int .i64 a0_5,.int .i64 a0_6]] (by rfl) rfl rfl (by (try simp only [List.map_toArray,List.map_cons,List.map_nil]); first | done | rfl | (simp only [List.length_drop,List.length_take]; rfl)) ?_
             with_reducible refine (Zs.calls k a0_0 a0_1 a0_2 a0_3 a0_4 a0_5 a0_6 t224 _ A47.out).mono ?_
             rintro e w82 ⟨rfl,hb⟩; refine ⟨_,rfl,?_⟩; have n0_ := Zh.mk (Kd.ZN (by (with_reducible repeat (first | apply Kd.ZH | apply Kd.ZI | apply Kd.ZG)); exact HO215.out) hb); have n1_ := Zh.mk (Kd.ZN (by (with_reducible repeat (first | apply Kd.ZH | apply Kd.ZI | apply Kd.ZG)); exact HO220.out) hb); have n2_ := Zh.mk (Zn (g := gb190) (o := .cells #[.int .i64 a0_0,.int .i64 a0_1,.int .i64 a0_2,.int .i64 a0_3,.int .i64 a0_4,.int .i64 a0_5,.int .i64 a0_6] 23 (0,0)) (by (with_reducible repeat (first | refine Zc ?_ _ | refine Ze ?_ | refine Zd ?_ _)); exact BK190.out) hb); have n3_ := Zh.mk (Zn (g := gb191) (o := .cells #[.int .i64 a1_0,.int .i64 a1_1,.int .i64 a1_2,.int .i64 a1_3,.int .i64 a1_4,.int .i64 a1_5,.int .i64 a1_6] 23 (0,0)) (by (with_reducible repeat (first | refine Zc ?_ _ | refine Ze ?_ | refine Zd ?_ _)); exact BK191.out) hb); have n4_ := Zh.mk (Zn (g := gb192) (o := .cells #[.int .i64 a3_0,.int .i64 a3_1,.int .i64 a3_2,.int .i64 a3_3,.int .i64 a3_4,.int .i64 a3_5] 25 (0,0)) (by (with_reducible repeat (first | refine Zc ?_ _ | refine Ze ?_ | refine Zd ?_ _)); exact BK192.out) hb); have n5_ := Zh.mk (Zn (g := gb200) (o := .cells #[.int .i64 t193,.int .i64 t194,.int .i64 t195,.int .i64 t196,.int .i64 t197,.int .i64 t198] 25 (0,0)) (by (with_reducible repeat (first | refine Zc ?_ _ | refine Ze ?_ | refine Zd ?_ _)); exact BK200.out) hb); have n6_ := Zh.mk (Zn (g := gb208) (o := .cells #[.int .i64 t201,.int .i64 t202,.int .i64 t203,.int .i64 t204,.int .i64 t205,.int .i64 t206] 25 (0,0)) (by (with_reducible repeat (first | refine Zc ?_ _ | refine Ze ?_ | refine Zd ?_ _)); exact BK208.out) hb); have n7_ := Zh.mk (Zv (by repeat (first | (with_reducible first | exact HB.out | apply Zk | apply Zi | apply Zj | refine Zf ?_ GE190.out | refine Zf ?_ GE191.out | refine Zf ?_ GE192.out | refine Zf ?_ GE200.out | refine Zf ?_ GE208.out) | exact HB.out)) hb); clear HO215; clear HO220; clear BK190; clear BK191; clear BK192; clear BK200; clear BK208; clear HB; have HO215 := n0_; have HO220 := n1_; have BK190 := n2_; have BK191 := n3_; have BK192 := n4_; have BK200 := n5_; have BK208 := n6_; have HB := n7_; clear n0_ n1_ n2_ n3_ n4_ n5_ n6_ n7_
             (try clear hb)
             (try clear hb2)
             (try clear hk)
             (try clear hi)
             refine hK.out _ _ ⟨(Za BK190.out 0).trans rfl,(Za BK190.out 1).trans rfl,(Za BK190.out 2).trans rfl,(Za BK190.out 3).trans rfl,(Za BK190.out 4).trans rfl,(Za BK190.out 5).trans rfl,(Za BK190.out 6).trans rfl,(Za BK200.out 0).trans rfl,(Za BK200.out 1).trans rfl,(Za BK200.out 2).trans rfl,(Za BK200.out 3).trans rfl,(Za BK200.out 4).trans rfl,(Za BK200.out 5).trans rfl,(Za BK208.out 0).trans rfl,(Za BK208.out 1).trans rfl,(Za BK208.out 2).trans rfl,(Za BK208.out 3).trans rfl,(Za BK208.out 4).trans rfl,(Za BK208.out 5).trans rfl⟩ (fun hHeld => ?_); clear hK K; refine norm_ (a' := ?_) ?_ ?_; rotate_left
             · show Act.put _ (some 74) _ = _
               simp only [Act.put,Yi,Yj,Yk,i64_w,i32_w]; rfl
             refine pure_ (i := 4) (N := some 75) (v := ?_) (a' := ?_) Yq rfl rfl (Zo HT_.out (by kernel_rfl)) (fun _ _ _ h => h) (Or.inl ⟨by rfl,?_⟩) ?_ ?_; rotate_left
             · intro w'
               go_simp; with_reducible rfl
             rotate_left
             · simp only [Act.put,Yi,Yj,Yk,i64_w,i32_w]
               rfl
             refine pure_ (i := 5) (N := some 76) (v := ?_) (a' := ?_) Yr rfl rfl (Zo HT_.out (by kernel_rfl)) (fun _ _ _ h => h) (Or.inl ⟨by rfl,?_⟩) ?_ ?_; rotate_left
             · intro w'
               go_simp; with_reducible rfl
             rotate_left
             · simp only [Act.put,Yi,Yj,Yk,i64_w,i32_w]
               rfl
             refine take_ (i := 6) (N := some 77) (v := ?_) (a' := ?_) Ys rfl rfl (Z8 HT_.out HW_.out (by kernel_rfl)) (fun _ _ _ h => h) (Or.inl ⟨by rfl,?_⟩) hHeld ?_ ?_; rotate_left
             · rintro w' ⟨s0,s1,s2,s3,s4,s5,s6,s7,s8,s9,s10,s11,s12,s13,s14,s15,s16,s17,s18⟩
               go_simp; with_reducible rfl
             rotate_left
             · simp only [Act.put,Yi,Yj,Yk,i64_w,i32_w]
               rfl
             refine take_ (i := 7) (N := some 78) (v := ?_) (a' := ?_) Yt rfl rfl (Z8 HT_.out HW_.out (by kernel_rfl)) (fun _ _ _ h => h) (Or.inl ⟨by rfl,?_⟩) hHeld ?_ ?_; rotate_left
             · rintro w' ⟨s0,s1,s2,s3,s4,s5,s6,s7,s8,s9,s10,s11,s12,s13,s14,s15,s16,s17,s18⟩
               go_simp; with_reducible rfl
             rotate_left
             · simp only [Act.put,Yi,Yj,Yk,i64_w,i32_w]
               rfl
             refine pure_ (i := 8) (N := some 79) (v := ?_) (a' := ?_) Yu rfl rfl (Zo HT_.out (by kernel_rfl)) (fun _ _ _ h => h) (Or.inl ⟨by rfl,?_⟩) ?_ ?_; rotate_left
             · intro w'
               go_simp; with_reducible rfl
             rotate_left
             · simp only [Act.put,Yi,Yj,Yk,i64_w,i32_w]
               rfl
             refine pure_ (i := 9) (N := some 80) (v := ?_) (a' := ?_) Yv rfl rfl (Zo HT_.out (by kernel_rfl)) (fun _ _ _ h => h) (Or.inl ⟨by rfl,?_⟩) ?_ ?_; rotate_left
             · intro w'
               go_simp; with_reducible rfl
             rotate_left
             · simp only [Act.put,Yi,Yj,Yk,i64_w,i32_w]
               rfl
             refine pure_ (i := 10) (N := some 81) (v := ?_) (a' := ?_) Yw rfl rfl (Zo HT_.out (by kernel_rfl)) (fun _ _ _ h => h) (Or.inl ⟨by rfl,?_⟩) ?_ ?_; rotate_left
             · intro w'
               go_simp; with_reducible rfl
             rotate_left
             · simp only [Act.put,Yi,Yj,Yk,i64_w,i32_w]
               rfl
             refine pure_ (i := 11) (N := some 82) (v := ?_) (a' := ?_) Yx rfl rfl (Zo HT_.out (by kernel_rfl)) (fun _ _ _ h => h) (Or.inl ⟨by rfl,?_⟩) ?_ ?_; rotate_left
             · intro w'
               go_simp; with_reducible rfl
             rotate_left
             · simp only [Act.put,Yi,Yj,Yk,i64_w,i32_w]
               rfl
             refine pure_ (i := 12) (N := some 83) (v := ?_) (a' := ?_) Yy rfl rfl (Zo HT_.out (by kernel_rfl)) (fun _ _ _ h => h) (Or.inl ⟨by rfl,?_⟩) ?_ ?_; rotate_left
             · intro w'
               go_simp; with_reducible rfl
             rotate_left
             · simp only [Act.put,Yi,Yj,Yk,i64_w,i32_w]
               rfl
             refine pure_ (i := 13) (N := some 84) (v := ?_) (a' := ?_) Yz rfl rfl (Zo HT_.out (by kernel_rfl)) (fun _ _ _ h => h) (Or.inl ⟨by rfl,?_⟩) ?_ ?_; rotate_left
             · intro w'
               go_simp; with_reducible rfl
             rotate_left
             · simp only [Act.put,Yi,Yj,Yk,i64_w,i32_w]
               rfl
             refine pure_ (i := 14) (N := some 85) (v := ?_) (a' := ?_) Y0 rfl rfl (Zo HT_.out (by kernel_rfl)) (fun _ _ _ h => h) (Or.inl ⟨by rfl,?_⟩) ?_ ?_; rotate_left
             · intro w'
               go_simp; with_reducible rfl
             rotate_left
             · simp only [Act.put,Yi,Yj,Yk,i64_w,i32_w]
               rfl
             refine pure_ (i := 15) (N := some 86) (v := ?_) (a' := ?_) Y1 rfl rfl (Zo HT_.out (by kernel_rfl)) (fun _ _ _ h => h) (Or.inl ⟨by rfl,?_⟩) ?_ ?_; rotate_left
             · intro w'
               go_simp; with_reducible rfl
             rotate_left
             · simp only [Act.put,Yi,Yj,Yk,i64_w,i32_w]
               rfl
             refine pure_ (i := 16) (N := some 87) (v := ?_) (a' := ?_) Y2 rfl rfl (Zo HT_.out (by kernel_rfl)) (fun _ _ _ h => h) (Or.inl ⟨by rfl,?_⟩) ?_ ?_; rotate_left
             · intro w'
               go_simp; with_reducible rfl
             rotate_left
             · simp only [Act.put,Yi,Yj,Yk,i64_w,i32_w]
               rfl
             refine pure_ (i := 17) (N := some 88) (v := ?_) (a' := ?_) Y3 rfl rfl (Zo HT_.out (by kernel_rfl)) (fun _ _ _ h => h) (Or.inl ⟨by rfl,?_⟩) ?_ ?_; rotate_left
             · intro w'
               go_simp; with_reducible rfl
             rotate_left
             · simp only [Act.put,Yi,Yj,Yk,i64_w,i32_w]
               rfl
             refine pure_ (i := 18) (N := some 89) (v := ?_) (a' := ?_) Y4 rfl rfl (Zo HT_.out (by kernel_rfl)) (fun _ _ _ h => h) (Or.inl ⟨by rfl,?_⟩) ?_ ?_; rotate_left
             · intro w'
               go_simp; with_reducible rfl
             rotate_left
             · simp only [Act.put,Yi,Yj,Yk,i64_w,i32_w]
               rfl
             refine pure_ (i := 19) (N := some 90) (v := ?_) (a' := ?_) Y5 rfl rfl (Zo HT_.out (by kernel_rfl)) (fun _ _ _ h => h) (Or.inl ⟨by rfl,?_⟩) ?_ ?_; rotate_left
             · intro w'
               go_simp; with_reducible rfl
             rotate_left
             · simp only [Act.put,Yi,Yj,Yk,i64_w,i32_w]
               rfl
             refine pure_ (i := 20) (N := some 91) (v := ?_) (a' := ?_) Y6 rfl rfl (Zo HT_.out (by kernel_rfl)) (fun _ _ _ h => h) (Or.inl ⟨by rfl,?_⟩) ?_ ?_; rotate_left
             · intro w'
               go_simp; with_reducible rfl
             rotate_left
             · simp only [Act.put,Yi,Yj,Yk,i64_w,i32_w]
               rfl
             refine pure_ (i := 21) (N := some 92) (v := ?_) (a' := ?_) Y7 rfl rfl (Zo HT_.out (by kernel_rfl)) (fun _ _ _ h => h) (Or.inl ⟨by rfl,?_⟩) ?_ ?_; rotate_left
             · intro w'
               go_simp; with_reducible rfl
             rotate_left
             · simp only [Act.put,Yi,Yj,Yk,i64_w,i32_w]
               rfl
             refine pure_ (i := 22) (N := some 93) (v := ?_) (a' := ?_) Y8 rfl rfl (Zo HT_.out (by kernel_rfl)) (fun _ _ _ h => h) (Or.inl ⟨by rfl,?_⟩) ?_ ?_; rotate_left
             · intro w'
               go_simp; with_reducible rfl
             rotate_left
             · simp only [Act.put,Yi,Yj,Yk,i64_w,i32_w]
               rfl
             refine pure_ (i := 23) (N := some 94) (v := ?_) (a' := ?_) Y9 rfl rfl (Zo HT_.out (by kernel_rfl)) (fun _ _ _ h => h) (Or.inl ⟨by rfl,?_⟩) ?_ ?_; rotate_left
             · intro w'
               go_simp; with_reducible rfl
             rotate_left
             · simp only [Act.put,Yi,Yj,Yk,i64_w,i32_w]
               rfl
             refine pure_ (i := 24) (N := some 95) (v := ?_) (a' := ?_) YA rfl rfl (Zo HT_.out (by kernel_rfl)) (fun _ _ _ h => h) (Or.inl ⟨by rfl,?_⟩) ?_ ?_; rotate_left
             · intro w'
               go_simp; with_reducible rfl
             rotate_left
             · simp only [Act.put,Yi,Yj,Yk,i64_w,i32_w]
               rfl
             refine pure_ (i := 25) (N := some 96) (v := ?_) (a' := ?_) YB rfl rfl (Zo HT_.out (by kernel_rfl)) (fun _ _ _ h => h) (Or.inl ⟨by rfl,?_⟩) ?_ ?_; rotate_left
             · intro w'
               go_simp; with_reducible rfl
             rotate_left
             · simp only [Act.put,Yi,Yj,Yk,i64_w,i32_w]
               rfl
             refine pure_ (i := 26) (N := some 97) (v := undef) (a' := ?_) YC rfl rfl (Zo HT_.out (by kernel_rfl)) (fun _ _ _ h => h) (Or.inr ⟨by rfl,rfl⟩) ?_ ?_; rotate_left
             · simp only [Act.put,Yi,Yj,Yk,i64_w,i32_w]
               rfl
             refine pure_ (i := 27) (N := some 98) (v := undef) (a' := ?_) YD rfl rfl (Zo HT_.out (by kernel_rfl)) (fun _ _ _ h => h) (Or.inr ⟨by rfl,rfl⟩) ?_ ?_; rotate_left
             · simp only [Act.put,Yi,Yj,Yk,i64_w,i32_w]
               rfl
             refine pure_ (i := 28) (N := some 99) (v := undef) (a' := ?_) YE rfl rfl (Zo HT_.out (by kernel_rfl)) (fun _ _ _ h => h) (Or.inr ⟨by rfl,rfl⟩) ?_ ?_; rotate_left
             · simp only [Act.put,Yi,Yj,Yk,i64_w,i32_w]
               rfl
             refine pure_ (i := 29) (N := some 100) (v := undef) (a' := ?_) YF rfl rfl (Zo HT_.out (by kernel_rfl)) (fun _ _ _ h => h) (Or.inr ⟨by rfl,rfl⟩) ?_ ?_; rotate_left
             · simp only [Act.put,Yi,Yj,Yk,i64_w,i32_w]
               rfl
             refine pure_ (i := 30) (N := some 101) (v := ?_) (a' := ?_) YG rfl rfl (Zo HT_.out (by kernel_rfl)) (fun _ _ _ h => h) (Or.inl ⟨by rfl,?_⟩) ?_ ?_; rotate_left
             · intro w'
               go_simp; with_reducible rfl
             rotate_left
             · simp only [Act.put,Yi,Yj,Yk,i64_w,i32_w]
               rfl
             refine pure_ (i := 31) (N := some 102) (v := ?_) (a' := ?_) YH rfl rfl (Zo HT_.out (by kernel_rfl)) (fun _ _ _ h => h) (Or.inl ⟨by rfl,?_⟩) ?_ ?_; rotate_left
             · intro w'
               go_simp; with_reducible rfl
             rotate_left
             · simp only [Act.put,Yi,Yj,Yk,i64_w,i32_w]
               rfl
             refine pure_ (i := 32) (N := some 103) (v := undef) (a' := ?_) YI rfl rfl (Zo HT_.out (by kernel_rfl)) (fun _ _ _ h => h) (Or.inr ⟨by rfl,rfl⟩) ?_ ?_; rotate_left
             · simp only [Act.put,Yi,Yj,Yk,i64_w,i32_w]
               rfl
             refine pure_ (i := 33) (N := some 104) (v := undef) (a' := ?_) YJ rfl rfl (Zo HT_.out (by kernel_rfl)) (fun _ _ _ h => h) (Or.inr ⟨by rfl,rfl⟩) ?_ ?_; rotate_left
             · simp only [Act.put,Yi,Yj,Yk,i64_w,i32_w]
               rfl
             refine pure_ (i := 34) (N := some 105) (v := undef) (a' := ?_) YK rfl rfl (Zo HT_.out (by kernel_rfl)) (fun _ _ _ h => h) (Or.inr ⟨by rfl,rfl⟩) ?_ ?_; rotate_left
             · simp only [Act.put,Yi,Yj,Yk,i64_w,i32_w]
               rfl
             refine pure_ (i := 35) (N := some 106) (v := ?_) (a' := ?_) YL rfl rfl (Zo HT_.out (by kernel_rfl)) (fun _ _ _ h => h) (Or.inl ⟨by rfl,?_⟩) ?_ ?_; rotate_left
             · intro w'
               go_simp; with_reducible rfl
             rotate_left
             · simp only [Act.put,Yi,Yj,Yk,i64_w,i32_w]
               rfl
             refine pure_ (i := 36) (N := some 107) (v := ?_) (a' := ?_) YM rfl rfl (Zo HT_.out (by kernel_rfl)) (fun _ _ _ h => h) (Or.inl ⟨by rfl,?_⟩) ?_ ?_; rotate_left
             · intro w'
               go_simp; with_reducible rfl
             rotate_left
             · simp only [Act.put,Yi,Yj,Yk,i64_w,i32_w]
               rfl
             refine pure_ (i := 37) (N := some 108) (v := undef) (a' := ?_) YN rfl rfl (Zo HT_.out (by kernel_rfl)) (fun _ _ _ h => h) (Or.inr ⟨by rfl,rfl⟩) ?_ ?_; rotate_left
             · simp only [Act.put,Yi,Yj,Yk,i64_w,i32_w]
               rfl
             refine pure_ (i := 38) (N := some 109) (v := undef) (a' := ?_) YO rfl rfl (Zo HT_.out (by kernel_rfl)) (fun _ _ _ h => h) (Or.inr ⟨by rfl,rfl⟩) ?_ ?_; rotate_left
             · simp only [Act.put,Yi,Yj,Yk,i64_w,i32_w]
               rfl
             refine pure_ (i := 39) (N := some 110) (v := undef) (a' := ?_) YP rfl rfl (Zo HT_.out (by kernel_rfl)) (fun _ _ _ h => h) (Or.inr ⟨by rfl,rfl⟩) ?_ ?_; rotate_left
             · simp only [Act.put,Yi,Yj,Yk,i64_w,i32_w]
               rfl
             refine pure_ (i := 40) (N := some 111) (v := ?_) (a' := ?_) YQ rfl rfl (Zo HT_.out (by kernel_rfl)) (fun _ _ _ h => h) (Or.inl ⟨by rfl,?_⟩) ?_ ?_; rotate_left
             · intro w'
               go_simp; with_reducible rfl
             rotate_left
             · simp only [Act.put,Yi,Yj,Yk,i64_w,i32_w]
               rfl
             refine done_ (Xh HT_.out (by kernel_rfl)) ?_
             try go_wp2
             go_meet
             case rel => exact ⟨_,(true),(by first | rfl | (simp; done) | (simp [*]; done)),H',⟨by first | omega | exact Nat.le_refl _⟩,⟨by (with_reducible repeat (first | refine Zc ?_ _ | refine Ze ?_ | refine Zd ?_ _)); exact BK190.out⟩,⟨by (with_reducible repeat (first | refine Zc ?_ _ | refine Ze ?_ | refine Zd ?_ _)); exact BK191.out⟩,⟨by (with_reducible repeat (first | refine Zc ?_ _ | refine Ze ?_ | refine Zd ?_ _)); exact BK192.out⟩,⟨by (with_reducible repeat (first | refine Zc ?_ _ | refine Ze ?_ | refine Zd ?_ _)); exact BK200.out⟩,⟨by (with_reducible repeat (first | refine Zc ?_ _ | refine Ze ?_ | refine Zd ?_ _)); exact BK208.out⟩,⟨by repeat (first | (with_reducible first | exact HB.out | apply Zk | apply Zi | apply Zj | refine Zf ?_ GE190.out | refine Zf ?_ GE191.out | refine Zf ?_ GE192.out | refine Zf ?_ GE200.out | refine Zf ?_ GE208.out) | exact HB.out)⟩⟩
       · rw [if_neg c56] at H
         have c56b0 : (t199 == t207) = false := beq_eq_false_iff_ne.mpr c56; have c56b1 : (t199 != t207) = true := bne_iff_ne.mpr c56; have H' := Zh.mk H; clear H
         try go_wp2
         have n0_ := Zh.mk (Kd.ZG HO215.out); have n1_ := Zh.mk (Kd.ZG HO220.out); have n2_ := Zh.mk (Ze BK190.out); have n3_ := Zh.mk (Ze BK191.out); have n4_ := Zh.mk (Ze BK192.out); have n5_ := Zh.mk (Ze BK200.out); have n6_ := Zh.mk (Ze BK208.out); have n7_ := Zh.mk (Zj HB.out); clear HO215; clear HO220; clear BK190; clear BK191; clear BK192; clear BK200; clear BK208; clear HB; have HO215 := n0_; have HO220 := n1_; have BK190 := n2_; have BK191 := n3_; have BK192 := n4_; have BK200 := n5_; have BK208 := n6_; have HB := n7_; clear n0_ n1_ n2_ n3_ n4_ n5_ n6_ n7_; refine Xk (n := 41) (S := fun w' => w'.cell? ⟨gb190,0,none⟩ = some (.int .i64 a0_0) ∧ w'.cell? ⟨gb190,1,none⟩ = some (.int .i64 a0_1) ∧ w'.cell? ⟨gb190,2,none⟩ = some (.int .i64 a0_2) ∧ w'.cell? ⟨gb190,3,none⟩ = some (.int .i64 a0_3) ∧ w'.cell? ⟨gb190,4,none⟩ = some (.int .i64 a0_4) ∧ w'.cell? ⟨gb190,5,none⟩ = some (.int .i64 a0_5) ∧ w'.cell? ⟨gb190,6,none⟩ = some (.int .i64 a0_6) ∧ w'.cell? ⟨gb200,0,none⟩ = some (.int .i64 t193) ∧ w'.cell? ⟨gb200,1,none⟩ = some (.int .i64 t194) ∧ w'.cell? ⟨gb200,2,none⟩ = some (.int .i64 t195) ∧ w'.cell? ⟨gb200,3,none⟩ = some (.int .i64 t196) ∧ w'.cell? ⟨gb200,4,none⟩ = some (.int .i64 t197) ∧ w'.cell? ⟨gb200,5,none⟩ = some (.int .i64 t198) ∧ w'.cell? ⟨gb208,0,none⟩ = some (.int .i64 t201) ∧ w'.cell? ⟨gb208,1,none⟩ = some (.int .i64 t202) ∧ w'.cell? ⟨gb208,2,none⟩ = some (.int .i64 t203) ∧ w'.cell? ⟨gb208,3,none⟩ = some (.int .i64 t204) ∧ w'.cell? ⟨gb208,4,none⟩ = some (.int .i64 t205) ∧ w'.cell? ⟨gb208,5,none⟩ = some (.int .i64 t206)) (ds := []) Yl (by kernel_rfl) rfl rfl ⟨(Za BK190.out 0).trans rfl,(Za BK190.out 1).trans rfl,(Za BK190.out 2).trans rfl,(Za BK190.out 3).trans rfl,(Za BK190.out 4).trans rfl,(Za BK190.out 5).trans rfl,(Za BK190.out 6).trans rfl,(Za BK200.out 0).trans rfl,(Za BK200.out 1).trans rfl,(Za BK200.out 2).trans rfl,(Za BK200.out 3).trans rfl,(Za BK200.out 4).trans rfl,(Za BK200.out 5).trans rfl,(Za BK208.out 0).trans rfl,(Za BK208.out 1).trans rfl,(Za BK208.out 2).trans rfl,(Za BK208.out 3).trans rfl,(Za BK208.out 4).trans rfl,(Za BK208.out 5).trans rfl⟩ (fun hHeld => ?_); refine Xb Zg.tab7 Zg.bits7 (fun HT_ HW_ => ?_); generalize w45.drew = w83 at HO215 HO220 BK190 BK191 BK192 BK200 BK208 HB hHeld ⊢; refine take_ (i := 0) (N := some 71) (v := ?_) (a' := ?_) Ym rfl rfl (Z8 HT_.out HW_.out (by kernel_rfl)) (fun _ _ _ h => h) (Or.inl ⟨by rfl,?_⟩) hHeld ?_ ?_; rotate_left
         · rintro w' ⟨s0,s1,s2,s3,s4,s5,s6,s7,s8,s9,s10,s11,s12,s13,s14,s15,s16,s17,s18⟩
           go_simp; with_reducible rfl
         rotate_left
         · simp only [Act.put,Yi,Yj,Yk,i64_w,i32_w]
           rfl
         refine take_ (i := 2) (N := some 73) (v := ?_) (a' := ?_) Yn rfl rfl (Z8 HT_.out HW_.out (by kernel_rfl)) (fun _ _ _ h => h) (Or.inl ⟨by rfl,?_⟩) hHeld ?_ ?_; rotate_left
         · rintro w' ⟨s0,s1,s2,s3,s4,s5,s6,s7,s8,s9,s10,s11,s12,s13,s14,s15,s16,s17,s18⟩
           go_simp; with_reducible rfl
         rotate_left
         · simp only [Act.put,Yi,Yj,Yk,i64_w,i32_w]
           rfl
         refine one_ (i := 1) (N := some 72) Yo rfl rfl (Xd HT_.out (by kernel_rfl)) (by decide) (fun K hK => ?_); refine goes_ Try.func11 (by kernel_rfl) rfl #[.agg #[.int .i64 a0_0,.int .i64 a0_1,.int .i64 a0_2,.int .i64 a0_3,.int .i64 a0_4,.int .i64 a0_5,.int .i64 a0_6]] (by rfl) rfl rfl (by (try simp only [List.map_toArray,List.map_cons,List.map_nil]); first | done | rfl | (simp only [List.length_drop,List.length_take]; rfl)) ?_
         with_reducible refine (ZC.calls a0_0 a0_1 a0_2 a0_3 a0_4 a0_5 a0_6 t223 _ A46.out).mono ?_
         rintro e w84 ⟨rfl,hb⟩; refine ⟨_,rfl,?_⟩; have n0_ := Zh.mk (Kd.ZN (by (with_reducible repeat (first | apply Kd.ZH | apply Kd.ZI | apply Kd.ZG)); exact HO215.out) hb); have n1_ := Zh.mk (Kd.ZN (by (with_reducible repeat (first | apply Kd.ZH | apply Kd.ZI | apply Kd.ZG)); exact HO220.out) hb); have n2_ := Zh.mk (Zn (g := gb190) (o := .cells #[.int .i64 a0_0,.int .i64 a0_1,.int .i64 a0_2,.int .i64 a0_3,.int .i64 a0_4,.int .i64 a0_5,.int .i64 a0_6] 23 (0,0)) (by (with_reducible repeat (first | refine Zc ?_ _ | refine Ze ?_ | refine Zd ?_ _)); exact BK190.out) hb); have n3_ := Zh.mk (Zn (g := gb191) (o := .cells #[.int .i64 a1_0,.int .i64 a1_1,.int .i64 a1_2,.int .i64 a1_3,.int .i64 a1_4,.int .i64 a1_5,.int .i64 a1_6] 23 (0,0)) (by (with_reducible repeat (first | refine Zc ?_ _ | refine Ze ?_ | refine Zd ?_ _)); exact BK191.out) hb); have n4_ := Zh.mk (Zn (g := gb192) (o := .cells #[.int .i64 a3_0,.int .i64 a3_1,.int .i64 a3_2,.int .i64 a3_3,.int .i64 a3_4,.int .i64 a3_5] 25 (0,0)) (by (with_reducible repeat (first | refine Zc ?_ _ | refine Ze ?_ | refine Zd ?_ _)); exact BK192.out) hb); have n5_ := Zh.mk (Zn (g := gb200) (o := .cells #[.int .i64 t193,.int .i64 t194,.int .i64 t195,.int .i64 t196,.int .i64 t197,.int .i64 t198] 25 (0,0)) (by (with_reducible repeat (first | refine Zc ?_ _ | refine Ze ?_ | refine Zd ?_ _)); exact BK200.out) hb); have n6_ := Zh.mk (Zn (g := gb208) (o := .cells #[.int .i64 t201,.int .i64 t202,.int .i64 t203,.int .i64 t204,.int .i64 t205,.int .i64 t206] 25 (0,0)) (by (with_reducible repeat (first | refine Zc ?_ _ | refine Ze ?_ | refine Zd ?_ _)); exact BK208.out) hb); have n7_ := Zh.mk (Zv (by repeat (first | (with_reducible first | exact HB.out | apply Zk | apply Zi | apply Zj | refine Zf ?_ GE190.out | refine Zf ?_ GE191.out | refine Zf ?_ GE192.out | refine Zf ?_ GE200.out | refine Zf ?_ GE208.out) | exact HB.out)) hb); clear HO215; clear HO220; clear BK190; clear BK191; clear BK192; clear BK200; clear BK208; clear HB; have HO215 := n0_; have HO220 := n1_; have BK190 := n2_; have BK191 := n3_; have BK192 := n4_; have BK200 := n5_; have BK208 := n6_; have HB := n7_; clear n0_ n1_ n2_ n3_ n4_ n5_ n6_ n7_
         (try clear hb)
         (try clear hb2)
         (try clear hk)
         (try clear hi)
         refine hK.out _ _ ⟨(Za BK190.out 0).trans rfl,(Za BK190.out 1).trans rfl,(Za BK190.out 2).trans rfl,(Za BK190.out 3).trans rfl,(Za BK190.out 4).trans rfl,(Za BK190.out 5).trans rfl,(Za BK190.out 6).trans rfl,(Za BK200.out 0).trans rfl,(Za BK200.out 1).trans rfl,(Za BK200.out 2).trans rfl,(Za BK200.out 3).trans rfl,(Za BK200.out 4).trans rfl,(Za BK200.out 5).trans rfl,(Za BK208.out 0).trans rfl,(Za BK208.out 1).trans rfl,(Za BK208.out 2).trans rfl,(Za BK208.out 3).trans rfl,(Za BK208.out 4).trans rfl,(Za BK208.out 5).trans rfl⟩ (fun hHeld => ?_); clear hK K; refine norm_ (a' := ?_) ?_ ?_; rotate_left
         · show Act.put _ (some 72) _ = _
           simp only [Act.put,Yi,Yj,Yk,i64_w,i32_w]; rfl
         refine one_ (i := 3) (N := some 74) Yp rfl rfl (Xd HT_.out (by kernel_rfl)) (by decide) (fun K hK => ?_); refine goes_ Try.func12 (by kernel_rfl) rfl #[.agg #[.int .i64 a0_0,.int .i64 a0_1,.int .i64 a0_2,.int .i64 a0_3,.int .i64 a0_4,.int .i64 a0_5,.int .i64 a0_6]] (by rfl) rfl rfl (by (try simp only [List.map_toArray,List.map_cons,List.map_nil]); first | done | rfl | (simp only [List.length_drop,List.length_take]; rfl)) ?_
         with_reducible refine (Zs.calls k a0_0 a0_1 a0_2 a0_3 a0_4 a0_5 a0_6 t224 _ A47.out).mono ?_
         rintro e w85 ⟨rfl,hb⟩; refine ⟨_,rfl,?_⟩; have n0_ := Zh.mk (Kd.ZN (by (with_reducible repeat (first | apply Kd.ZH | apply Kd.ZI | apply Kd.ZG)); exact HO215.out) hb); have n1_ := Zh.mk (Kd.ZN (by (with_reducible repeat (first | apply Kd.ZH | apply Kd.ZI | apply Kd.ZG)); exact HO220.out) hb); have n2_ := Zh.mk (Zn (g := gb190) (o := .cells #[.int .i64 a0_0,.int .i64 a0_1,.int .i64 a0_2,.int .i64 a0_3,.int .i64 a0_4,.int .i64 a0_5,.int .i64 a0_6] 23 (0,0)) (by (with_reducible repeat (first | refine Zc ?_ _ | refine Ze ?_ | refine Zd ?_ _)); exact BK190.out) hb); have n3_ := Zh.mk (Zn (g := gb191) (o := .cells #[.int .i64 a1_0,.int .i64 a1_1,.int .i64 a1_2,.int .i64 a1_3,.int .i64 a1_4,.int .i64 a1_5,.int .i64 a1_6] 23 (0,0)) (by (with_reducible repeat (first | refine Zc ?_ _ | refine Ze ?_ | refine Zd ?_ _)); exact BK191.out) hb); have n4_ := Zh.mk (Zn (g := gb192) (o := .cells #[.int .i64 a3_0,.int .i64 a3_1,.int .i64 a3_2,.int .i64 a3_3,.int .i64 a3_4,.int .i64 a3_5] 25 (0,0)) (by (with_reducible repeat (first | refine Zc ?_ _ | refine Ze ?_ | refine Zd ?_ _)); exact BK192.out) hb); have n5_ := Zh.mk (Zn (g := gb200) (o := .cells #[.int .i64 t193,.int .i64 t194,.int .i64 t195,.int .i64 t196,.int .i64 t197,.int .i64 t198] 25 (0,0)) (by (with_reducible repeat (first | refine Zc ?_ _ | refine Ze ?_ | refine Zd ?_ _)); exact BK200.out) hb); have n6_ := Zh.mk (Zn (g := gb208) (o := .cells #[.int .i64 t201,.int .i64 t202,.int .i64 t203,.int .i64 t204,.int .i64 t205,.int .i64 t206] 25 (0,0)) (by (with_reducible repeat (first | refine Zc ?_ _ | refine Ze ?_ | refine Zd ?_ _)); exact BK208.out) hb); have n7_ := Zh.mk (Zv (by repeat (first | (with_reducible first | exact HB.out | apply Zk | apply Zi | apply Zj | refine Zf ?_ GE190.out | refine Zf ?_ GE191.out | refine Zf ?_ GE192.out | refine Zf ?_ GE200.out | refine Zf ?_ GE208.out) | exact HB.out)) hb); clear HO215; clear HO220; clear BK190; clear BK191; clear BK192; clear BK200; clear BK208; clear HB; have HO215 := n0_; have HO220 := n1_; have BK190 := n2_; have BK191 := n3_; have BK192 := n4_; have BK200 := n5_; have BK208 := n6_; have HB := n7_; clear n0_ n1_ n2_ n3_ n4_ n5_ n6_ n7_
         (try clear hb)
         (try clear hb2)
         (try clear hk)
         (try clear hi)
         refine hK.out _ _ ⟨(Za BK190.out 0).trans rfl,(Za BK190.out 1).trans rfl,(Za BK190.out 2).trans rfl,(Za BK190.out 3).trans rfl,(Za BK190.out 4).trans rfl,(Za BK190.out 5).trans rfl,(Za BK190.out 6).trans rfl,(Za BK200.out 0).trans rfl,(Za BK200.out 1).trans rfl,(Za BK200.out 2).trans rfl,(Za BK200.out 3).trans rfl,(Za BK200.out 4).trans rfl,(Za BK200.out 5).trans rfl,(Za BK208.out 0).trans rfl,(Za BK208.out 1).trans rfl,(Za BK208.out 2).trans rfl,(Za BK208.out 3).trans rfl,(Za BK208.out 4).trans rfl,(Za BK208.out 5).trans rfl⟩ (fun hHeld => ?_); clear hK K; refine norm_ (a' := ?_) ?_ ?_; rotate_left
         · show Act.put _ (some 74) _ = _
           simp only [Act.put,Yi,Yj,Yk,i64_w,i32_w]; rfl
         refine pure_ (i := 4) (N := some 75) (v := ?_) (a' := ?_) Yq rfl rfl (Zo HT_.out (by kernel_rfl)) (fun _ _ _ h => h) (Or.inl ⟨by rfl,?_⟩) ?_ ?_; rotate_left
         · intro w'
           go_simp; with_reducible rfl
         rotate_left
         · simp only [Act.put,Yi,Yj,Yk,i64_w,i32_w]
           rfl
         refine pure_ (i := 5) (N := some 76) (v := ?_) (a' := ?_) Yr rfl rfl (Zo HT_.out (by kernel_rfl)) (fun _ _ _ h => h) (Or.inl ⟨by rfl,?_⟩) ?_ ?_; rotate_left
         · intro w'
           go_simp; with_reducible rfl
         rotate_left
         · simp only [Act.put,Yi,Yj,Yk,i64_w,i32_w]
           rfl
         refine take_ (i := 6) (N := some 77) (v := ?_) (a' := ?_) Ys rfl rfl (Z8 HT_.out HW_.out (by kernel_rfl)) (fun _ _ _ h => h) (Or.inl ⟨by rfl,?_⟩) hHeld ?_ ?_; rotate_left
         · rintro w' ⟨s0,s1,s2,s3,s4,s5,s6,s7,s8,s9,s10,s11,s12,s13,s14,s15,s16,s17,s18⟩
           go_simp; with_reducible rfl
         rotate_left
         · simp only [Act.put,Yi,Yj,Yk,i64_w,i32_w]
           rfl
         refine take_ (i := 7) (N := some 78) (v := ?_) (a' := ?_) Yt rfl rfl (Z8 HT_.out HW_.out (by kernel_rfl)) (fun _ _ _ h => h) (Or.inl ⟨by rfl,?_⟩) hHeld ?_ ?_; rotate_left
         · rintro w' ⟨s0,s1,s2,s3,s4,s5,s6,s7,s8,s9,s10,s11,s12,s13,s14,s15,s16,s17,s18⟩
           go_simp; with_reducible rfl
         rotate_left
         · simp only [Act.put,Yi,Yj,Yk,i64_w,i32_w]
           rfl
         refine pure_ (i := 8) (N := some 79) (v := ?_) (a' := ?_) Yu rfl rfl (Zo HT_.out (by kernel_rfl)) (fun _ _ _ h => h) (Or.inl ⟨by rfl,?_⟩) ?_ ?_; rotate_left
         · intro w'
           go_simp; with_reducible rfl
         rotate_left
         · simp only [Act.put,Yi,Yj,Yk,i64_w,i32_w]
           rfl
         refine pure_ (i := 9) (N := some 80) (v := ?_) (a' := ?_) Yv rfl rfl (Zo HT_.out (by kernel_rfl)) (fun _ _ _ h => h) (Or.inl ⟨by rfl,?_⟩) ?_ ?_; rotate_left
         · intro w'
           go_simp; with_reducible rfl
         rotate_left
         · simp only [Act.put,Yi,Yj,Yk,i64_w,i32_w]
           rfl
         refine pure_ (i := 10) (N := some 81) (v := ?_) (a' := ?_) Yw rfl rfl (Zo HT_.out (by kernel_rfl)) (fun _ _ _ h => h) (Or.inl ⟨by rfl,?_⟩) ?_ ?_; rotate_left
         · intro w'
           go_simp; with_reducible rfl
         rotate_left
         · simp only [Act.put,Yi,Yj,Yk,i64_w,i32_w]
           rfl
         refine pure_ (i := 11) (N := some 82) (v := ?_) (a' := ?_) Yx rfl rfl (Zo HT_.out (by kernel_rfl)) (fun _ _ _ h => h) (Or.inl ⟨by rfl,?_⟩) ?_ ?_; rotate_left
         · intro w'
           go_simp; with_reducible rfl
         rotate_left
         · simp only [Act.put,Yi,Yj,Yk,i64_w,i32_w]
           rfl
         refine pure_ (i := 12) (N := some 83) (v := ?_) (a' := ?_) Yy rfl rfl (Zo HT_.out (by kernel_rfl)) (fun _ _ _ h => h) (Or.inl ⟨by rfl,?_⟩) ?_ ?_; rotate_left
         · intro w'
           go_simp; with_reducible rfl
         rotate_left
         · simp only [Act.put,Yi,Yj,Yk,i64_w,i32_w]
           rfl
         refine pure_ (i := 13) (N := some 84) (v := ?_) (a' := ?_) Yz rfl rfl (Zo HT_.out (by kernel_rfl)) (fun _ _ _ h => h) (Or.inl ⟨by rfl,?_⟩) ?_ ?_; rotate_left
         · intro w'
           go_simp; with_reducible rfl
         rotate_left
         · simp only [Act.put,Yi,Yj,Yk,i64_w,i32_w]
           rfl
         refine pure_ (i := 14) (N := some 85) (v := ?_) (a' := ?_) Y0 rfl rfl (Zo HT_.out (by kernel_rfl)) (fun _ _ _ h => h) (Or.inl ⟨by rfl,?_⟩) ?_ ?_; rotate_left
         · intro w'
           go_simp; with_reducible rfl
         rotate_left
         · simp only [Act.put,Yi,Yj,Yk,i64_w,i32_w]
           rfl
         refine pure_ (i := 15) (N := some 86) (v := ?_) (a' := ?_) Y1 rfl rfl (Zo HT_.out (by kernel_rfl)) (fun _ _ _ h => h) (Or.inl ⟨by rfl,?_⟩) ?_ ?_; rotate_left
         · intro w'
           go_simp; with_reducible rfl
         rotate_left
         · simp only [Act.put,Yi,Yj,Yk,i64_w,i32_w]
           rfl
         refine pure_ (i := 16) (N := some 87) (v := undef) (a' := ?_) Y2 rfl rfl (Zo HT_.out (by kernel_rfl)) (fun _ _ _ h => h) (Or.inr ⟨by rfl,rfl⟩) ?_ ?_; rotate_left
         · simp only [Act.put,Yi,Yj,Yk,i64_w,i32_w]
           rfl
         refine pure_ (i := 17) (N := some 88) (v := undef) (a' := ?_) Y3 rfl rfl (Zo HT_.out (by kernel_rfl)) (fun _ _ _ h => h) (Or.inr ⟨by rfl,rfl⟩) ?_ ?_; rotate_left
         · simp only [Act.put,Yi,Yj,Yk,i64_w,i32_w]
           rfl
         refine pure_ (i := 18) (N := some 89) (v := undef) (a' := ?_) Y4 rfl rfl (Zo HT_.out (by kernel_rfl)) (fun _ _ _ h => h) (Or.inr ⟨by rfl,rfl⟩) ?_ ?_; rotate_left
         · simp only [Act.put,Yi,Yj,Yk,i64_w,i32_w]
           rfl
         refine pure_ (i := 19) (N := some 90) (v := ?_) (a' := ?_) Y5 rfl rfl (Zo HT_.out (by kernel_rfl)) (fun _ _ _ h => h) (Or.inl ⟨by rfl,?_⟩) ?_ ?_; rotate_left
         · intro w'
           go_simp; with_reducible rfl
         rotate_left
         · simp only [Act.put,Yi,Yj,Yk,i64_w,i32_w]
           rfl
         refine pure_ (i := 20) (N := some 91) (v := ?_) (a' := ?_) Y6 rfl rfl (Zo HT_.out (by kernel_rfl)) (fun _ _ _ h => h) (Or.inl ⟨by rfl,?_⟩) ?_ ?_; rotate_left
         · intro w'
           go_simp; with_reducible rfl
         rotate_left
         · simp only [Act.put,Yi,Yj,Yk,i64_w,i32_w]
           rfl
         refine pure_ (i := 21) (N := some 92) (v := undef) (a' := ?_) Y7 rfl rfl (Zo HT_.out (by kernel_rfl)) (fun _ _ _ h => h) (Or.inr ⟨by rfl,rfl⟩) ?_ ?_; rotate_left
         · simp only [Act.put,Yi,Yj,Yk,i64_w,i32_w]
           rfl
         refine pure_ (i := 22) (N := some 93) (v := undef) (a' := ?_) Y8 rfl rfl (Zo HT_.out (by kernel_rfl)) (fun _ _ _ h => h) (Or.inr ⟨by rfl,rfl⟩) ?_ ?_; rotate_left
         · simp only [Act.put,Yi,Yj,Yk,i64_w,i32_w]
           rfl
         refine pure_ (i := 23) (N := some 94) (v := undef) (a' := ?_) Y9 rfl rfl (Zo HT_.out (by kernel_rfl)) (fun _ _ _ h => h) (Or.inr ⟨by rfl,rfl⟩) ?_ ?_; rotate_left
         · simp only [Act.put,Yi,Yj,Yk,i64_w,i32_w]
           rfl
         refine pure_ (i := 24) (N := some 95) (v := ?_) (a' := ?_) YA rfl rfl (Zo HT_.out (by kernel_rfl)) (fun _ _ _ h => h) (Or.inl ⟨by rfl,?_⟩) ?_ ?_; rotate_left
         · intro w'
           go_simp; with_reducible rfl
         rotate_left
         · simp only [Act.put,Yi,Yj,Yk,i64_w,i32_w]
           rfl
         refine pure_ (i := 25) (N := some 96) (v := ?_) (a' := ?_) YB rfl rfl (Zo HT_.out (by kernel_rfl)) (fun _ _ _ h => h) (Or.inl ⟨by rfl,?_⟩) ?_ ?_; rotate_left
         · intro w'
           go_simp; with_reducible rfl
         rotate_left
         · simp only [Act.put,Yi,Yj,Yk,i64_w,i32_w]
           rfl
         refine pure_ (i := 26) (N := some 97) (v := undef) (a' := ?_) YC rfl rfl (Zo HT_.out (by kernel_rfl)) (fun _ _ _ h => h) (Or.inr ⟨by rfl,rfl⟩) ?_ ?_; rotate_left
         · simp only [Act.put,Yi,Yj,Yk,i64_w,i32_w]
           rfl
         refine pure_ (i := 27) (N := some 98) (v := undef) (a' := ?_) YD rfl rfl (Zo HT_.out (by kernel_rfl)) (fun _ _ _ h => h) (Or.inr ⟨by rfl,rfl⟩) ?_ ?_; rotate_left
         · simp only [Act.put,Yi,Yj,Yk,i64_w,i32_w]
           rfl
         refine pure_ (i := 28) (N := some 99) (v := undef) (a' := ?_) YE rfl rfl (Zo HT_.out (by kernel_rfl)) (fun _ _ _ h => h) (Or.inr ⟨by rfl,rfl⟩) ?_ ?_; rotate_left
         · simp only [Act.put,Yi,Yj,Yk,i64_w,i32_w]
           rfl
         refine pure_ (i := 29) (N := some 100) (v := undef) (a' := ?_) YF rfl rfl (Zo HT_.out (by kernel_rfl)) (fun _ _ _ h => h) (Or.inr ⟨by rfl,rfl⟩) ?_ ?_; rotate_left
         · simp only [Act.put,Yi,Yj,Yk,i64_w,i32_w]
           rfl
         refine pure_ (i := 30) (N := some 101) (v := ?_) (a' := ?_) YG rfl rfl (Zo HT_.out (by kernel_rfl)) (fun _ _ _ h => h) (Or.inl ⟨by rfl,?_⟩) ?_ ?_; rotate_left
         · intro w'
           go_simp; with_reducible rfl
         rotate_left
         · simp only [Act.put,Yi,Yj,Yk,i64_w,i32_w]
           rfl
         refine pure_ (i := 31) (N := some 102) (v := ?_) (a' := ?_) YH rfl rfl (Zo HT_.out (by kernel_rfl)) (fun _ _ _ h => h) (Or.inl ⟨by rfl,?_⟩) ?_ ?_; rotate_left
         · intro w'
           go_simp; with_reducible rfl
         rotate_left
         · simp only [Act.put,Yi,Yj,Yk,i64_w,i32_w]
           rfl
         refine pure_ (i := 32) (N := some 103) (v := undef) (a' := ?_) YI rfl rfl (Zo HT_.out (by kernel_rfl)) (fun _ _ _ h => h) (Or.inr ⟨by rfl,rfl⟩) ?_ ?_; rotate_left
         · simp only [Act.put,Yi,Yj,Yk,i64_w,i32_w]
           rfl
         refine pure_ (i := 33) (N := some 104) (v := undef) (a' := ?_) YJ rfl rfl (Zo HT_.out (by kernel_rfl)) (fun _ _ _ h => h) (Or.inr ⟨by rfl,rfl⟩) ?_ ?_; rotate_left
         · simp only [Act.put,Yi,Yj,Yk,i64_w,i32_w]
           rfl
         refine pure_ (i := 34) (N := some 105) (v := undef) (a' := ?_) YK rfl rfl (Zo HT_.out (by kernel_rfl)) (fun _ _ _ h => h) (Or.inr ⟨by rfl,rfl⟩) ?_ ?_; rotate_left
         · simp only [Act.put,Yi,Yj,Yk,i64_w,i32_w]
           rfl
         refine pure_ (i := 35) (N := some 106) (v := ?_) (a' := ?_) YL rfl rfl (Zo HT_.out (by kernel_rfl)) (fun _ _ _ h => h) (Or.inl ⟨by rfl,?_⟩) ?_ ?_; rotate_left
         · intro w'
           go_simp; with_reducible rfl
         rotate_left
         · simp only [Act.put,Yi,Yj,Yk,i64_w,i32_w]
           rfl
         refine pure_ (i := 36) (N := some 107) (v := ?_) (a' := ?_) YM rfl rfl (Zo HT_.out (by kernel_rfl)) (fun _ _ _ h => h) (Or.inl ⟨by rfl,?_⟩) ?_ ?_; rotate_left
         · intro w'
           go_simp; with_reducible rfl
         rotate_left
         · simp only [Act.put,Yi,Yj,Yk,i64_w,i32_w]
           rfl
         refine pure_ (i := 37) (N := some 108) (v := undef) (a' := ?_) YN rfl rfl (Zo HT_.out (by kernel_rfl)) (fun _ _ _ h => h) (Or.inr ⟨by rfl,rfl⟩) ?_ ?_; rotate_left
         · simp only [Act.put,Yi,Yj,Yk,i64_w,i32_w]
           rfl
         refine pure_ (i := 38) (N := some 109) (v := undef) (a' := ?_) YO rfl rfl (Zo HT_.out (by kernel_rfl)) (fun _ _ _ h => h) (Or.inr ⟨by rfl,rfl⟩) ?_ ?_; rotate_left
         · simp only [Act.put,Yi,Yj,Yk,i64_w,i32_w]
           rfl
         refine pure_ (i := 39) (N := some 110) (v := undef) (a' := ?_) YP rfl rfl (Zo HT_.out (by kernel_rfl)) (fun _ _ _ h => h) (Or.inr ⟨by rfl,rfl⟩) ?_ ?_; rotate_left
         · simp only [Act.put,Yi,Yj,Yk,i64_w,i32_w]
           rfl
         refine pure_ (i := 40) (N := some 111) (v := ?_) (a' := ?_) YQ rfl rfl (Zo HT_.out (by kernel_rfl)) (fun _ _ _ h => h) (Or.inl ⟨by rfl,?_⟩) ?_ ?_; rotate_left
         · intro w'
           go_simp; with_reducible rfl
         rotate_left
         · simp only [Act.put,Yi,Yj,Yk,i64_w,i32_w]
           rfl
         refine done_ (Xh HT_.out (by kernel_rfl)) ?_
         try go_wp2
         go_meet
         case rel => exact ⟨_,(true),(by first | rfl | (simp; done) | (simp [*]; done)),H',⟨by first | omega | exact Nat.le_refl _⟩,⟨by (with_reducible repeat (first | refine Zc ?_ _ | refine Ze ?_ | refine Zd ?_ _)); exact BK190.out⟩,⟨by (with_reducible repeat (first | refine Zc ?_ _ | refine Ze ?_ | refine Zd ?_ _)); exact BK191.out⟩,⟨by (with_reducible repeat (first | refine Zc ?_ _ | refine Ze ?_ | refine Zd ?_ _)); exact BK192.out⟩,⟨by (with_reducible repeat (first | refine Zc ?_ _ | refine Ze ?_ | refine Zd ?_ _)); exact BK200.out⟩,⟨by (with_reducible repeat (first | refine Zc ?_ _ | refine Ze ?_ | refine Zd ?_ _)); exact BK208.out⟩,⟨by repeat (first | (with_reducible first | exact HB.out | apply Zk | apply Zi | apply Zj | refine Zf ?_ GE190.out | refine Zf ?_ GE191.out | refine Zf ?_ GE192.out | refine Zf ?_ GE200.out | refine Zf ?_ GE208.out) | exact HB.out)⟩⟩
end Go.Proofs.Ytcdiecgenpigbaa.PA
