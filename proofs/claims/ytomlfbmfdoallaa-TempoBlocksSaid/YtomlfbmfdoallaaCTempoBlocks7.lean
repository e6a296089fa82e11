/- TempoBlocks, part 7: what the row is built on. -/
import Derived.Test.YtomlfbmfdoallaaCTempoBlocks6
namespace Go.Proofs.Ytomlfbmfdoallaa.PA
open Go.RowKit Go.Proofs.YtomlfbmfdoallaaW.PrintWords Go.Proofs.YtomlfbmfdoallaaW.PrintLast Go.Proofs.YtomlfbmfdoallaaW.PrintMore
attribute [local go_sem] Xf Xg Xo Xn Xa ZZ Xh Xi
set_option linter.unusedVariables false
set_option linter.unusedSimpArgs false
mutual
def Ze.j0 : Nat → List (S27) → List (S56) → Int → Int → Int → Int → Bool → Option (Bool)
 | 0,_,_,_,_,_,_,_ => none
 | k + 1,x0,x1,x2,x3,x4,x5,x47 => if x47 = true then (some true) else ((Z4.f k x0 x2 x3 x4).bind fun bt402 => ((Zi.f k x0 x2 x3 x4).bind fun bt409 => ((Zw.f k bt402.1 bt409.1).bind fun t416 => (if t416 = true then ((Zw.f k bt402.2.1 bt409.2.1).bind fun t417 => (if t417 = true then (Ze.j1 k x0 x1 x2 x3 x4 x5 bt402.1 bt402.2.1 bt402.2.2 (bt402.2.2 != bt409.2.2)) else (Ze.j1 k x0 x1 x2 x3 x4 x5 bt402.1 bt402.2.1 bt402.2.2 true))) else (Ze.j1 k x0 x1 x2 x3 x4 x5 bt402.1 bt402.2.1 bt402.2.2 true)))))
def Ze.j1 : Nat → List (S27) → List (S56) → Int → Int → Int → Int → List Int → List Int → Int → Bool → Option (Bool)
 | 0,_,_,_,_,_,_,_,_,_,_ => none
 | k + 1,x0,x1,x2,x3,x4,x5,x13,x14,x15,x80 => if x80 = true then (some false) else ((ZG.f k x1 x0 x2 x3 x4).bind fun bt418 => ((Zo.f k x1 x0 x2 x3 x4).bind fun bt422 => ((Zw.f k bt418.1 bt422.1).bind fun t426 => (if t426 = true then (Ze.j2 k x0 x1 x2 x3 x4 x5 x13 x14 x15 bt418.2 bt422.1 (bt418.2 != bt422.2)) else (Ze.j2 k x0 x1 x2 x3 x4 x5 x13 x14 x15 bt418.2 bt422.1 true)))))
def Ze.j2 : Nat → List (S27) → List (S56) → Int → Int → Int → Int → List Int → List Int → Int → Int → List Int → Bool → Option (Bool)
 | 0,_,_,_,_,_,_,_,_,_,_,_,_ => none
 | k + 1,x0,x1,x2,x3,x4,x5,x13,x14,x15,x20,x21,x107 => if x107 = true then (some false) else (if x4 < 1 then (Ze.j3 k x0 x1 x2 x3 x4 x5 x13 x14 x20 x21 true) else (Ze.j3 k x0 x1 x2 x3 x4 x5 x13 x14 x20 x21 (x15 != 0)))
def Ze.j3 : Nat → List (S27) → List (S56) → Int → Int → Int → Int → List Int → List Int → Int → List Int → Bool → Option (Bool)
 | 0,_,_,_,_,_,_,_,_,_,_,_ => none
 | k + 1,x0,x1,x2,x3,x4,x5,x13,x14,x20,x21,x113 => if x113 = true then (some true) else (if (wrap64 (x4 + 1)) = 0 then (none) else ((Z4.f k x0 x2 x3 (Int.tmod x5 (wrap64 (x4 + 1)))).bind fun bt427 => (if bt427.2.2 = 0 then (if (wrap64 (x3 + (Int.tmod x5 (wrap64 (x4 + 1))))) ≤ 1000000000 then ((Z4.f k x0 x2 (wrap64 (x3 + (Int.tmod x5 (wrap64 (x4 + 1))))) (wrap64 (x4 - (Int.tmod x5 (wrap64 (x4 + 1)))))).bind fun bt434 => (if bt434.2.2 = 0 then (Ze.l0 k x0 x1 x2 x3 x4 x13 x14 x20 x21 (Int.tmod x5 (wrap64 (x4 + 1))) bt427.1 bt427.2.1 bt434.1 bt434.2.1 0) else (some false))) else (Ze.j5 k x0 x1 x2 x3 x4 x20 x21 (Int.tmod x5 (wrap64 (x4 + 1))))) else (some false))))
def Ze.j5 : Nat → List (S27) → List (S56) → Int → Int → Int → Int → List Int → Int → Option (Bool)
 | 0,_,_,_,_,_,_,_,_ => none
 | k + 1,x0,x1,x2,x3,x4,x20,x21,x23 => if x20 = 0 then (Ze.j6 k x0 x1 x2 x3 x4 x21 x23 (decide ((wrap64 (x3 + x23)) > 1000000000))) else (Ze.j6 k x0 x1 x2 x3 x4 x21 x23 true)
def Ze.j6 : Nat → List (S27) → List (S56) → Int → Int → Int → List Int → Int → Bool → Option (Bool)
 | 0,_,_,_,_,_,_,_,_ => none
 | k + 1,x0,x1,x2,x3,x4,x21,x23,x187 => if x187 = true then (some true) else ((ZG.f k x1 x0 x2 x3 x23).bind fun bt457 => (if bt457.2 = 0 then ((ZG.f k x1 x0 x2 (wrap64 (x3 + x23)) (wrap64 (x4 - x23))).bind fun bt461 => (if bt461.2 = 0 then (if bt457.1.length + bt461.1.length < 17592186044416 then ((Zw.f k (bt457.1 ++ bt461.1) x21).bind fun t468 => (some t468)) else (none)) else (some false))) else (some false)))
def Ze.l0 : Nat → List (S27) → List (S56) → Int → Int → Int → List Int → List Int → Int → List Int → Int → List Int → List Int → List Int → List Int → Int → Option (Bool)
 | 0,_,_,_,_,_,_,_,_,_,_,_,_,_,_,_ => none
 | k + 1,x0,x1,x2,x3,x4,x13,x14,x20,x21,x23,x24,x25,x26,x27,x29 => if x29 < (x27.length : Int) then (if 0 ≤ x29 then (if x29 < (x26.length : Int) then ((some (([rd x26 x29] : List Int) : List Int)).bind fun y442 => (if x24.length + y442.length < 17592186044416 then ((some (([wrap64 ((rd x27 x29) + x23)] : List Int) : List Int)).bind fun y449 => (if x25.length + y449.length < 17592186044416 then (Ze.l0 k x0 x1 x2 x3 x4 x13 x14 x20 x21 x23 (x24 ++ y442) (x25 ++ y449) x26 x27 (wrap64 (x29 + 1))) else (none))) else (none))) else (none)) else (none)) else ((Zw.f k x24 x13).bind fun t455 => (if t455 = true then ((Zw.f k x25 x14).bind fun t456 => (if t456 = true then (Ze.j5 k x0 x1 x2 x3 x4 x20 x21 x23) else (some false))) else (some false)))
end
def Ze.f (k : Nat) (l0 : List (S27)) (l1 : List (S56)) (a2 : Int) (a3 : Int) (a4 : Int) (a5 : Int) : Option (Bool) := (ZE.f k).bind fun t400 => (if t400 = true then ((Xc.f l0 ([] : List (S61)) l1).bind fun t401 => (if t401 = true then (Ze.j0 k l0 l1 a2 a3 a4 a5 true) else (if a4 > 1000 then (if a4 ≤ 4096 then (Ze.j0 k l0 l1 a2 a3 a4 a5 true) else (Ze.j0 k l0 l1 a2 a3 a4 a5 (decide (a5 < 0)))) else (Ze.j0 k l0 l1 a2 a3 a4 a5 (decide (a5 < 0)))))) else (some false))
theorem Ze.Xq : ∀ k,(∀ y0 y1 y2 y3 y4 y5 y6,LeO (Ze.j0 k y0 y1 y2 y3 y4 y5 y6) (Ze.j0 (k + 1) y0 y1 y2 y3 y4 y5 y6)) ∧ (∀ y0 y1 y2 y3 y4 y5 y6 y7 y8 y9,LeO (Ze.j1 k y0 y1 y2 y3 y4 y5 y6 y7 y8 y9) (Ze.j1 (k + 1) y0 y1 y2 y3 y4 y5 y6 y7 y8 y9)) ∧ (∀ y0 y1 y2 y3 y4 y5 y6 y7 y8 y9 y10 y11,LeO (Ze.j2 k y0 y1 y2 y3 y4 y5 y6 y7 y8 y9 y10 y11) (Ze.j2 (k + 1) y0 y1 y2 y3 y4 y5 y6 y7 y8 y9 y10 y11)) ∧ (∀ y0 y1 y2 y3 y4 y5 y6 y7 y8 y9 y10,LeO (Ze.j3 k y0 y1 y2 y3 y4 y5 y6 y7 y8 y9 y10) (Ze.j3 (k + 1) y0 y1 y2 y3 y4 y5 y6 y7 y8 y9 y10)) ∧ (∀ y0 y1 y2 y3 y4 y5 y6 y7,LeO (Ze.j5 k y0 y1 y2 y3 y4 y5 y6 y7) (Ze.j5 (k + 1) y0 y1 y2 y3 y4 y5 y6 y7)) ∧ (∀ y0 y1 y2 y3 y4 y5 y6 y7,LeO (Ze.j6 k y0 y1 y2 y3 y4 y5 y6 y7) (Ze.j6 (k + 1) y0 y1 y2 y3 y4 y5 y6 y7)) ∧ (∀ y0 y1 y2 y3 y4 y5 y6 y7 y8 y9 y10 y11 y12 y13 y14,LeO (Ze.l0 k y0 y1 y2 y3 y4 y5 y6 y7 y8 y9 y10 y11 y12 y13 y14) (Ze.l0 (k + 1) y0 y1 y2 y3 y4 y5 y6 y7 y8 y9 y10 y11 y12 y13 y14))
 | 0 => ⟨fun _ _ _ _ _ _ _ r h => by simp [Ze.j0] at h,fun _ _ _ _ _ _ _ _ _ _ r h => by simp [Ze.j1] at h,fun _ _ _ _ _ _ _ _ _ _ _ _ r h => by simp [Ze.j2] at h,fun _ _ _ _ _ _ _ _ _ _ _ r h => by simp [Ze.j3] at h,fun _ _ _ _ _ _ _ _ r h => by simp [Ze.j5] at h,fun _ _ _ _ _ _ _ _ r h => by simp [Ze.j6] at h,fun _ _ _ _ _ _ _ _ _ _ _ _ _ _ _ r h => by simp [Ze.l0] at h⟩
 | k + 1 => by
  obtain ⟨ih0,ih1,ih2,ih3,ih4,ih5,ih6⟩ := Ze.Xq k; refine ⟨?_,?_,?_,?_,?_,?_,?_⟩
  · intro y0 y1 y2 y3 y4 y5 y6
    unfold Ze.j0
    repeat' first
    | (with_reducible exact ih0 _ _ _ _ _ _ _)
    | (with_reducible exact ih1 _ _ _ _ _ _ _ _ _ _)
    | (with_reducible exact ih2 _ _ _ _ _ _ _ _ _ _ _ _)
    | (with_reducible exact ih3 _ _ _ _ _ _ _ _ _ _ _)
    | (with_reducible exact ih4 _ _ _ _ _ _ _ _)
    | (with_reducible exact ih5 _ _ _ _ _ _ _ _)
    | (with_reducible exact ih6 _ _ _ _ _ _ _ _ _ _ _ _ _ _ _)
    | (with_reducible exact ZE.mono _)
    | (with_reducible exact Zw.mono _ _ _)
    | (with_reducible exact Zi.mono _ _ _ _ _)
    | (with_reducible exact Zo.mono _ _ _ _ _ _)
    | (with_reducible exact Z4.mono _ _ _ _ _)
    | (with_reducible exact ZG.mono _ _ _ _ _ _)
    | (with_reducible exact LeO.refl _)
    | (with_reducible exact LeO.none _)
    | (with_reducible refine LeO.ite ?_ ?_)
    | (with_reducible refine LeO.bind ?_ (fun _ => ?_))
    | exact ih0 _ _ _ _ _ _ _
    | exact ih1 _ _ _ _ _ _ _ _ _ _
    | exact ih2 _ _ _ _ _ _ _ _ _ _ _ _
    | exact ih3 _ _ _ _ _ _ _ _ _ _ _
    | exact ih4 _ _ _ _ _ _ _ _
    | exact ih5 _ _ _ _ _ _ _ _
    | exact ih6 _ _ _ _ _ _ _ _ _ _ _ _ _ _ _
    | exact ZE.mono _
    | exact Zw.mono _ _ _
    | exact Zi.mono _ _ _ _ _
    | exact Zo.mono _ _ _ _ _ _
    | exact Z4.mono _ _ _ _ _
    | exact ZG.mono _ _ _ _ _ _
    | exact LeO.none _
    | refine LeO.ite ?_ ?_
    | refine LeO.bind ?_ (fun _ => ?_)
  · intro y0 y1 y2 y3 y4 y5 y6 y7 y8 y9
    unfold Ze.j1
    repeat' first
    | (with_reducible exact ih0 _ _ _ _ _ _ _)
    | (with_reducible exact ih1 _ _ _ _ _ _ _ _ _ _)
    | (with_reducible exact ih2 _ _ _ _ _ _ _ _ _ _ _ _)
    | (with_reducible exact ih3 _ _ _ _ _ _ _ _ _ _ _)
    | (with_reducible exact ih4 _ _ _ _ _ _ _ _)
    | (with_reducible exact ih5 _ _ _ _ _ _ _ _)
    | (with_reducible exact ih6 _ _ _ _ _ _ _ _ _ _ _ _ _ _ _)
    | (with_reducible exact ZE.mono _)
    | (with_reducible exact Zw.mono _ _ _)
    | (with_reducible exact Zi.mono _ _ _ _ _)
    | (with_reducible exact Zo.mono _ _ _ _ _ _)
    | (with_reducible exact Z4.mono _ _ _ _ _)
    | (with_reducible exact ZG.mono _ _ _ _ _ _)
    | (with_reducible exact LeO.refl _)
    | (with_reducible exact LeO.none _)
    | (with_reducible refine LeO.ite ?_ ?_)
    | (with_reducible refine LeO.bind ?_ (fun _ => ?_))
    | exact ih0 _ _ _ _ _ _ _
    | exact ih1 _ _ _ _ _ _ _ _ _ _
    | exact ih2 _ _ _ _ _ _ _ _ _ _ _ _
    | exact ih3 _ _ _ _ _ _ _ _ _ _ _
    | exact ih4 _ _ _ _ _ _ _ _
    | exact ih5 _ _ _ _ _ _ _ _
    | exact ih6 _ _ _ _ _ _ _ _ _ _ _ _ _ _ _
    | exact ZE.mono _
    | exact Zw.mono _ _ _
    | exact Zi.mono _ _ _ _ _
    | exact Zo.mono _ _ _ _ _ _
    | exact Z4.mono _ _ _ _ _
    | exact ZG.mono _ _ _ _ _ _
    | exact LeO.none _
    | refine LeO.ite ?_ ?_
    | refine LeO.bind ?_ (fun _ => ?_)
  · intro y0 y1 y2 y3 y4 y5 y6 y7 y8 y9 y10 y11
    unfold Ze.j2
    repeat' first
    | (with_reducible exact ih0 _ _ _ _ _ _ _)
    | (with_reducible exact ih1 _ _ _ _ _ _ _ _ _ _)
    | (with_reducible exact ih2 _ _ _ _ _ _ _ _ _ _ _ _)
    | (with_reducible exact ih3 _ _ _ _ _ _ _ _ _ _ _)
    | (with_reducible exact ih4 _ _ _ _ _ _ _ _)
    | (with_reducible exact ih5 _ _ _ _ _ _ _ _)
    | (with_reducible exact ih6 _ _ _ _ _ _ _ _ _ _ _ _ _ _ _)
    | (with_reducible exact ZE.mono _)
    | (with_reducible exact Zw.mono _ _ _)
    | (with_reducible exact Zi.mono _ _ _ _ _)
    | (with_reducible exact Zo.mono _ _ _ _ _ _)
    | (with_reducible exact Z4.mono _ _ _ _ _)
    | (with_reducible exact ZG.mono _ _ _ _ _ _)
    | (with_reducible exact LeO.refl _)
    | (with_reducible exact LeO.none _)
    | (with_reducible refine LeO.ite ?_ ?_)
    | (with_reducible refine LeO.bind ?_ (fun _ => ?_))
    | exact ih0 _ _ _ _ _ _ _
    | exact ih1 _ _ _ _ _ _ _ _ _ _
    | exact ih2 _ _ _ _ _ _ _ _ _ _ _ _
    | exact ih3 _ _ _ _ _ _ _ _ _ _ _
    | exact ih4 _ _ _ _ _ _ _ _
    | exact ih5 _ _ _ _ _ _ _ _
    | exact ih6 _ _ _ _ _ _ _ _ _ _ _ _ _ _ _
    | exact ZE.mono _
    | exact Zw.mono _ _ _
    | exact Zi.mono _ _ _ _ _
    | exact Zo.mono _ _ _ _ _ _
    | exact Z4.mono _ _ _ _ _
    | exact ZG.mono _ _ _ _ _ _
    | exact LeO.none _
    | refine LeO.ite ?_ ?_
    | refine LeO.bind ?_ (fun _ => ?_)
  · intro y0 y1 y2 y3 y4 y5 y6 y7 y8 y9 y10
    unfold Ze.j3
    repeat' first
    | (with_reducible exact ih0 _ _ _ _ _ _ _)
    | (with_reducible exact ih1 _ _ _ _ _ _ _ _ _ _)
    | (with_reducible exact ih2 _ _ _ _ _ _ _ _ _ _ _ _)
    | (with_reducible exact ih3 _ _ _ _ _ _ _ _ _ _ _)
    | (with_reducible exact ih4 _ _ _ _ _ _ _ _)
    | (with_reducible exact ih5 _ _ _ _ _ _ _ _)
    | (with_reducible exact ih6 _ _ _ _ _ _ _ _ _ _ _ _ _ _ _)
    | (with_reducible exact ZE.mono _)
    | (with_reducible exact Zw.mono _ _ _)
    | (with_reducible exact Zi.mono _ _ _ _ _)
    | (with_reducible exact Zo.mono _ _ _ _ _ _)
    | (with_reducible exact Z4.mono _ _ _ _ _)
    | (with_reducible exact ZG.mono _ _ _ _ _ _)
    | (with_reducible exact LeO.refl _)
    | (with_reducible exact LeO.none _)
    | (with_reducible refine LeO.ite ?_ ?_)
    | (with_reducible refine LeO.bind ?_ (fun _ => ?_))
    | exact ih0 _ _ _ _ _ _ _
    | exact ih1 _ _ _ _ _ _ _ _ _ _
    | exact ih2 _ _ _ _ _ _ _ _ _ _ _ _
    | exact ih3 _ _ _ _ _ _ _ _ _ _ _
    | exact ih4 _ _ _ _ _ _ _ _
    | exact ih5 _ _ _ _ _ _ _ _
    | exact ih6 _ _ _ _ _ _ _ _ _ _ _ _ _ _ _
    | exact ZE.mono _
    | exact Zw.mono _ _ _
    | exact Zi.mono _ _ _ _ _
    | exact Zo.mono _ _ _ _ _ _
    | exact Z4.mono _ _ _ _ _
    | exact ZG.mono _ _ _ _ _ _
    | exact LeO.none _
    | refine LeO.ite ?_ ?_
    | refine LeO.bind ?_ (fun _ => ?_)
  · intro y0 y1 y2 y3 y4 y5 y6 y7
    unfold Ze.j5
    repeat' first
    | (with_reducible exact ih0 _ _ _ _ _ _ _)
    | (with_reducible exact ih1 _ _ _ _ _ _ _ _ _ _)
    | (with_reducible exact ih2 _ _ _ _ _ _ _ _ _ _ _ _)
    | (with_reducible exact ih3 _ _ _ _ _ _ _ _ _ _ _)
    | (with_reducible exact ih4 _ _ _ _ _ _ _ _)
    | (with_reducible exact ih5 _ _ _ _ _ _ _ _)
    | (with_reducible exact ih6 _ _ _ _ _ _ _ _ _ _ _ _ _ _ _)
    | (with_reducible exact ZE.mono _)
    | (with_reducible exact Zw.mono _ _ _)
    | (with_reducible exact Zi.mono _ _ _ _ _)
    | (with_reducible exact Zo.mono _ _ _ _ _ _)
    | (with_reducible exact Z4.mono _ _ _ _ _)
    | (with_reducible exact ZG.mono _ _ _ _ _ _)
    | (with_reducible exact LeO.refl _)
    | (with_reducible exact LeO.none _)
    | (with_reducible refine LeO.ite ?_ ?_)
    | (with_reducible refine LeO.bind ?_ (fun _ => ?_))
    | exact ih0 _ _ _ _ _ _ _
    | exact ih1 _ _ _ _ _ _ _ _ _ _
    | exact ih2 _ _ _ _ _ _ _ _ _ _ _ _
    | exact ih3 _ _ _ _ _ _ _ _ _ _ _
    | exact ih4 _ _ _ _ _ _ _ _
    | exact ih5 _ _ _ _ _ _ _ _
    | exact ih6 _ _ _ _ _ _ _ _ _ _ _ _ _ _ _
    | exact ZE.mono _
    | exact Zw.mono _ _ _
    | exact Zi.mono _ _ _ _ _
    | exact Zo.mono _ _ _ _ _ _
    | exact Z4.mono _ _ _ _ _
    | exact ZG.mono _ _ _ _ _ _
    | exact LeO.none _
    | refine LeO.ite ?_ ?_
    | refine LeO.bind ?_ (fun _ => ?_)
  · intro y0 y1 y2 y3 y4 y5 y6 y7
    unfold Ze.j6
    repeat' first
    | (with_reducible exact ih0 _ _ _ _ _ _ _)
    | (with_reducible exact ih1 _ _ _ _ _ _ _ _ _ _)
    | (with_reducible exact ih2 _ _ _ _ _ _ _ _ _ _ _ _)
    | (with_reducible exact ih3 _ _ _ _ _ _ _ _ _ _ _)
    | (with_reducible exact ih4 _ _ _ _ _ _ _ _)
    | (with_reducible exact ih5 _ _ _ _ _ _ _ _)
    | (with_reducible exact ih6 _ _ _ _ _ _ _ _ _ _ _ _ _ _ _)
    | (with_reducible exact ZE.mono _)
    | (with_reducible exact Zw.mono _ _ _)
    | (with_reducible exact Zi.mono _ _ _ _ _)
    | (with_reducible exact Zo.mono _ _ _ _ _ _)
    | (with_reducible exact Z4.mono _ _ _ _ _)
    | (with_reducible exact ZG.mono _ _ _ _ _ _)
    | (with_reducible exact LeO.refl _)
    | (with_reducible exact LeO.none _)
    | (with_reducible refine LeO.ite ?_ ?_)
    | (with_reducible refine LeO.bind ?_ (fun _ => ?_))
    | exact ih0 _ _ _ _ _ _ _
    | exact ih1 _ _ _ _ _ _ _ _ _ _
    | exact ih2 _ _ _ _ _ _ _ _ _ _ _ _
    | exact ih3 _ _ _ _ _ _ _ _ _ _ _
    | exact ih4 _ _ _ _ _ _ _ _
    | exact ih5 _ _ _ _ _ _ _ _
    | exact ih6 _ _ _ _ _ _ _ _ _ _ _ _ _ _ _
    | exact ZE.mono _
    | exact Zw.mono _ _ _
    | exact Zi.mono _ _ _ _ _
    | exact Zo.mono _ _ _ _ _ _
    | exact Z4.mono _ _ _ _ _
    | exact ZG.mono _ _ _ _ _ _
    | exact LeO.none _
    | refine LeO.ite ?_ ?_
    | refine LeO.bind ?_ (fun _ => ?_)
  · intro y0 y1 y2 y3 y4 y5 y6 y7 y8 y9 y10 y11 y12 y13 y14
    unfold Ze.l0
    repeat' first
    | (with_reducible exact ih0 _ _ _ _ _ _ _)
    | (with_reducible exact ih1 _ _ _ _ _ _ _ _ _ _)
    | (with_reducible exact ih2 _ _ _ _ _ _ _ _ _ _ _ _)
    | (with_reducible exact ih3 _ _ _ _ _ _ _ _ _ _ _)
    | (with_reducible exact ih4 _ _ _ _ _ _ _ _)
    | (with_reducible exact ih5 _ _ _ _ _ _ _ _)
    | (with_reducible exact ih6 _ _ _ _ _ _ _ _ _ _ _ _ _ _ _)
    | (with_reducible exact ZE.mono _)
    | (with_reducible exact Zw.mono _ _ _)
    | (with_reducible exact Zi.mono _ _ _ _ _)
    | (with_reducible exact Zo.mono _ _ _ _ _ _)
    | (with_reducible exact Z4.mono _ _ _ _ _)
    | (with_reducible exact ZG.mono _ _ _ _ _ _)
    | (with_reducible exact LeO.refl _)
    | (with_reducible exact LeO.none _)
    | (with_reducible refine LeO.ite ?_ ?_)
    | (with_reducible refine LeO.bind ?_ (fun _ => ?_))
    | exact ih0 _ _ _ _ _ _ _
    | exact ih1 _ _ _ _ _ _ _ _ _ _
    | exact ih2 _ _ _ _ _ _ _ _ _ _ _ _
    | exact ih3 _ _ _ _ _ _ _ _ _ _ _
    | exact ih4 _ _ _ _ _ _ _ _
    | exact ih5 _ _ _ _ _ _ _ _
    | exact ih6 _ _ _ _ _ _ _ _ _ _ _ _ _ _ _
    | exact ZE.mono _
    | exact Zw.mono _ _ _
    | exact Zi.mono _ _ _ _ _
    | exact Zo.mono _ _ _ _ _ _
    | exact Z4.mono _ _ _ _ _
    | exact ZG.mono _ _ _ _ _ _
    | exact LeO.none _
    | refine LeO.ite ?_ ?_
    | refine LeO.bind ?_ (fun _ => ?_)
theorem Ze.mono : ∀ a0 a1 a2 a3 a4 a5 k,LeO (Ze.f k a0 a1 a2 a3 a4 a5) (Ze.f (k + 1) a0 a1 a2 a3 a4 a5) := by
 intro a0 a1 a2 a3 a4 a5 k; obtain ⟨ih0,ih1,ih2,ih3,ih4,ih5,ih6⟩ := Ze.Xq k; unfold Ze.f
 repeat' first
  | (with_reducible exact ih0 _ _ _ _ _ _ _)
  | (with_reducible exact ih1 _ _ _ _ _ _ _ _ _ _)
  | (with_reducible exact ih2 _ _ _ _ _ _ _ _ _ _ _ _)
  | (with_reducible exact ih3 _ _ _ _ _ _ _ _ _ _ _)
  | (with_reducible exact ih4 _ _ _ _ _ _ _ _)
  | (with_reducible exact ih5 _ _ _ _ _ _ _ _)
  | (with_reducible exact ih6 _ _ _ _ _ _ _ _ _ _ _ _ _ _ _)
  | (with_reducible exact ZE.mono _)
  | (with_reducible exact Zw.mono _ _ _)
  | (with_reducible exact Zi.mono _ _ _ _ _)
  | (with_reducible exact Zo.mono _ _ _ _ _ _)
  | (with_reducible exact Z4.mono _ _ _ _ _)
  | (with_reducible exact ZG.mono _ _ _ _ _ _)
  | (with_reducible exact LeO.refl _)
  | (with_reducible exact LeO.none _)
  | (with_reducible refine LeO.ite ?_ ?_)
  | (with_reducible refine LeO.bind ?_ (fun _ => ?_))
  | exact ih0 _ _ _ _ _ _ _
  | exact ih1 _ _ _ _ _ _ _ _ _ _
  | exact ih2 _ _ _ _ _ _ _ _ _ _ _ _
  | exact ih3 _ _ _ _ _ _ _ _ _ _ _
  | exact ih4 _ _ _ _ _ _ _ _
  | exact ih5 _ _ _ _ _ _ _ _
  | exact ih6 _ _ _ _ _ _ _ _ _ _ _ _ _ _ _
  | exact ZE.mono _
  | exact Zw.mono _ _ _
  | exact Zi.mono _ _ _ _ _
  | exact Zo.mono _ _ _ _ _ _
  | exact Z4.mono _ _ _ _ _
  | exact ZG.mono _ _ _ _ _ _
  | exact LeO.none _
  | refine LeO.ite ?_ ?_
  | refine LeO.bind ?_ (fun _ => ?_)
def Ze.T26 : Bool × List (List Nat × List Nat) := (true,[([],[]),([],[]),([],[]),([1,2],[1,2]),([3],[3]),([4],[4]),([0,5],[0,5]),([],[]),([],[]),([],[]),([8,9],[8,9]),([10],[10]),([],[]),([11,12],[11,12]),([13],[13]),([7,14,6],[7,14]),([6,15,0,1,2,3,4,5,6],[0,6]),([15,16,0,1,2,3,4,5,6,7,8,9,10,11,12,13,14,15,16],[7,15])])
def Ze.B26 : List Nat := [0,0,0,6,14,30,63,0,0,0,768,1792,0,7936,16128,32767,65535,131071]
theorem Ze.tab26 : rtab .any (opsOf Try.f7 26) = Ze.T26 := by kernel_rfl
theorem Ze.bits26 : waitsOk Ze.T26.2 Ze.B26 = true := by kernel_rfl
set_option maxHeartbeats 8000000 in
set_option maxRecDepth 100000 in
theorem Ze.calls (k : Nat) (A0 : Option Addr) (c0 : Nat) (l0 : List (S27)) (A1 : Option Addr) (c1 : Nat) (l1 : List (S56)) (a2 : Int) (a3 : Int) (a4 : Int) (a5 : Int) (r : Bool) (w : World) (hr0 : Kd.C k27 w A0 l0.length l0) (hc0 : l0.length ≤ c0) (hr1 : Kd.C k56 w A1 l1.length l1) (hc1 : l1.length ≤ c1) (h : Ze.f k l0 l1 a2 a3 a4 a5 = some r) :
 Calls Try.prog 7 #[.slice A0 l0.length c0,.slice A1 l1.length c1,.int .i64 a2,.int .i64 a3,.int .i64 a4,.int .i64 a5] w fun e w' => e = .returned (.bool r) ∧ Below w.heap.size w w' := by
 have HR0 := Zc.mk hr0; have HC0 := Zc.mk hc0; clear hr0 hc0; have HR1 := Zc.mk hr1; have HC1 := Zc.mk hc1; clear hr1 hc1; have HB := Zc.mk (Below.refl w.heap.size w); have H : ((ZE.f k).bind fun t400 => (if t400 = true then ((Xc.f l0 ([] : List (S61)) l1).bind fun t401 => (if t401 = true then (Ze.j0 k l0 l1 a2 a3 a4 a5 true) else (if a4 > 1000 then (if a4 ≤ 4096 then (Ze.j0 k l0 l1 a2 a3 a4 a5 true) else (Ze.j0 k l0 l1 a2 a3 a4 a5 (decide (a5 < 0)))) else (Ze.j0 k l0 l1 a2 a3 a4 a5 (decide (a5 < 0)))))) else (some false))) = some r := h; clear h; replace H := Option.bind_eq_some_iff.mp H; obtain ⟨t400,A70,H⟩ := H; replace H : (if t400 = true then ((Xc.f l0 ([] : List (S61)) l1).bind fun t401 => (if t401 = true then (Ze.j0 k l0 l1 a2 a3 a4 a5 true) else (if a4 > 1000 then (if a4 ≤ 4096 then (Ze.j0 k l0 l1 a2 a3 a4 a5 true) else (Ze.j0 k l0 l1 a2 a3 a4 a5 (decide (a5 < 0)))) else (Ze.j0 k l0 l1 a2 a3 a4 a5 (decide (a5 < 0)))))) else (some false)) = some r := H; have A7 := Zc.mk A70; clear A70
 by_cases c8 : t400 = true
 · subst c8
   have H1 : ((Xc.f l0 ([] : List (S61)) l1).bind fun t401 => (if t401 = true then (Ze.j0 k l0 l1 a2 a3 a4 a5 true) else (if a4 > 1000 then (if a4 ≤ 4096 then (Ze.j0 k l0 l1 a2 a3 a4 a5 true) else (Ze.j0 k l0 l1 a2 a3 a4 a5 (decide (a5 < 0)))) else (Ze.j0 k l0 l1 a2 a3 a4 a5 (decide (a5 < 0)))))) = some r := by rw [if_pos rfl] at H; exact H
   clear H; have H := H1; clear H1; have HC9 := Zc.mk H; clear H
   go_enter Try.func7,Try.ntmps7
   go_upto_region 3 with (first | ((with_reducible refine Z1 (f := 9) rfl ?_); refine ZQ (some 31) rfl rfl Try.func9 (by kernel_rfl) rfl #[] rfl (by (try simp only [List.map_toArray,List.map_cons,List.map_nil]); first | done | rfl | (simp only [List.length_drop,List.length_take]; rfl)) ?_; (with_reducible refine (ZE.calls k  true _ A7.out).mono ?_); rintro e w10 ⟨rfl,hb⟩; refine ⟨_,rfl,?_⟩; have n0_ := Zc.mk (Z3 (by repeat (first | (with_reducible first | exact HB.out | apply Zd | apply Za | apply Zb) | exact HB.out)) hb); clear HB; have HB := n0_; clear n0_; (try clear hb); (try clear hb2); (try clear hk); (try clear hi)))
   (try simp only [Act.put,YD,YE,YF])
   go_cut [47] (fun v47 wc => ∃ (kq : Nat) (x47_8 : Bool),v47 = .bool x47_8 ∧ Zc (Ze.j0 kq l0 l1 a2 a3 a4 a5 x47_8 = some r) ∧ Zc (kq ≤ k) ∧ Zc (Below w.heap.size w wc))
   case first => as_aux_lemma =>
    have H := HC9.out; clear HC9; replace H := Option.bind_eq_some_iff.mp H; obtain ⟨t401,A110,H⟩ := H; replace H : (if t401 = true then (Ze.j0 k l0 l1 a2 a3 a4 a5 true) else (if a4 > 1000 then (if a4 ≤ 4096 then (Ze.j0 k l0 l1 a2 a3 a4 a5 true) else (Ze.j0 k l0 l1 a2 a3 a4 a5 (decide (a5 < 0)))) else (Ze.j0 k l0 l1 a2 a3 a4 a5 (decide (a5 < 0))))) = some r := H; have A11 := Zc.mk A110; clear A110
    by_cases c12 : t401 = true
    · subst c12
      have H1 : (Ze.j0 k l0 l1 a2 a3 a4 a5 true) = some r := by rw [if_pos rfl] at H; exact H
      clear H; have H := H1; clear H1; have H' := Zc.mk H; clear H
      go_wp2_with (first | ((with_reducible refine Z1 (f := 10) rfl ?_); refine ZQ (some 35) rfl rfl Try.func10 (by kernel_rfl) rfl #[.slice A0 l0.length c0,.slice none 0 0,.slice A1 l1.length c1] rfl (by (try simp only [List.map_toArray,List.map_cons,List.map_nil]); first | done | rfl | (simp only [List.length_drop,List.length_take]; rfl)) ?_; (refine (Xc.calls _ _ l0 _ _ ([] : List (S61)) _ _ l1 true _ ?side1 ?side2 ?side3 ?side4 ?side5 ?side6 A11.out).mono ?_); (case side1 => repeat (first | exact (Kd.ZO HR0.out HB.out) | (with_reducible refine Kd.ZA ?_ _) | (with_reducible refine Kd.Z9 ?_ _) | (with_reducible refine Kd.ZI ?_))); (case side2 => exact HC0.out); (case side3 => exact Kd.C_nil _ _); (case side4 => exact Nat.le_refl _); (case side5 => repeat (first | exact (Kd.ZO HR1.out HB.out) | (with_reducible refine Kd.ZA ?_ _) | (with_reducible refine Kd.Z9 ?_ _) | (with_reducible refine Kd.ZI ?_))); (case side6 => exact HC1.out); rintro e w' ⟨rfl,⟨nd,rfl⟩⟩; refine ⟨_,rfl,?_⟩))
      go_meet
      case rel => exact ⟨_,(true),(by first | rfl | (simp; done) | (simp [*]; done)),H',⟨by first | omega | exact Nat.le_refl _⟩,⟨by repeat (first | (with_reducible first | exact HB.out | apply Zd | apply Za | apply Zb) | exact HB.out)⟩⟩
    · replace c12 := Bool.eq_false_iff.mpr c12
      subst c12
      have H1 : (if a4 > 1000 then (if a4 ≤ 4096 then (Ze.j0 k l0 l1 a2 a3 a4 a5 true) else (Ze.j0 k l0 l1 a2 a3 a4 a5 (decide (a5 < 0)))) else (Ze.j0 k l0 l1 a2 a3 a4 a5 (decide (a5 < 0)))) = some r := by rw [if_neg (show ¬ (false = true) by decide)] at H; exact H
      clear H; have H := H1; clear H1
      by_cases c13 : a4 > 1000
      · rw [if_pos c13] at H
        have c13b0 : decide (1000 < a4) = true := decide_eq_true c13; clear c13
        (first | rw [c13b0] | (simp only [i64_w,i32_w]; rw [c13b0]) | skip)
        by_cases c14 : a4 ≤ 4096
        · rw [if_pos c14] at H
          have c14b0 : decide (a4 ≤ 4096) = true := decide_eq_true c14; clear c14; have H' := Zc.mk H; clear H
          go_wp2_with (first | ((with_reducible refine Z1 (f := 10) rfl ?_); refine ZQ (some 35) rfl rfl Try.func10 (by kernel_rfl) rfl #[.slice A0 l0.length c0,.slice none 0 0,.slice A1 l1.length c1] rfl (by (try simp only [List.map_toArray,List.map_cons,List.map_nil]); first | done | rfl | (simp only [List.length_drop,List.length_take]; rfl)) ?_; (refine (Xc.calls _ _ l0 _ _ ([] : List (S61)) _ _ l1 false _ ?side1 ?side2 ?side3 ?side4 ?side5 ?side6 A11.out).mono ?_); (case side1 => repeat (first | exact (Kd.ZO HR0.out HB.out) | (with_reducible refine Kd.ZA ?_ _) | (with_reducible refine Kd.Z9 ?_ _) | (with_reducible refine Kd.ZI ?_))); (case side2 => exact HC0.out); (case side3 => exact Kd.C_nil _ _); (case side4 => exact Nat.le_refl _); (case side5 => repeat (first | exact (Kd.ZO HR1.out HB.out) | (with_reducible refine Kd.ZA ?_ _) | (with_reducible refine Kd.Z9 ?_ _) | (with_reducible refine Kd.ZI ?_))); (case side6 => exact HC1.out); rintro e w' ⟨rfl,⟨nd,rfl⟩⟩; refine ⟨_,rfl,?_⟩))
          go_meet
          case rel => exact ⟨_,(true),(by first | rfl | (simp; done) | (simp [*]; done)),H',⟨by first | omega | exact Nat.le_refl _⟩,⟨by repeat (first | (with_reducible first | exact HB.out | apply Zd | apply Za | apply Zb) | exact HB.out)⟩⟩
        · rw [if_neg c14] at H
          have c14b0 : decide (a4 ≤ 4096) = false := decide_eq_false c14; clear c14; have H' := Zc.mk H; clear H
          go_wp2_with (first | ((with_reducible refine Z1 (f := 10) rfl ?_); refine ZQ (some 35) rfl rfl Try.func10 (by kernel_rfl) rfl #[.slice A0 l0.length c0,.slice none 0 0,.slice A1 l1.length c1] rfl (by (try simp only [List.map_toArray,List.map_cons,List.map_nil]); first | done | rfl | (simp only [List.length_drop,List.length_take]; rfl)) ?_; (refine (Xc.calls _ _ l0 _ _ ([] : List (S61)) _ _ l1 false _ ?side1 ?side2 ?side3 ?side4 ?side5 ?side6 A11.out).mono ?_); (case side1 => repeat (first | exact (Kd.ZO HR0.out HB.out) | (with_reducible refine Kd.ZA ?_ _) | (with_reducible refine Kd.Z9 ?_ _) | (with_reducible refine Kd.ZI ?_))); (case side2 => exact HC0.out); (case side3 => exact Kd.C_nil _ _); (case side4 => exact Nat.le_refl _); (case side5 => repeat (first | exact (Kd.ZO HR1.out HB.out) | (with_reducible refine Kd.ZA ?_ _) | (with_reducible refine Kd.Z9 ?_ _) | (with_reducible refine Kd.ZI ?_))); (case side6 => exact HC1.out); rintro e w' ⟨rfl,⟨nd,rfl⟩⟩; refine ⟨_,rfl,?_⟩))
          go_meet
          case rel => exact ⟨_,(decide (a5 < 0)),(by first | rfl | (simp; done) | (simp [*]; done)),H',⟨by first | omega | exact Nat.le_refl _⟩,⟨by repeat (first | (with_reducible first | exact HB.out | apply Zd | apply Za | apply Zb) | exact HB.out)⟩⟩
      · rw [if_neg c13] at H
        have c13b0 : decide (1000 < a4) = false := decide_eq_false c13; clear c13
        (first | rw [c13b0] | (simp only [i64_w,i32_w]; rw [c13b0]) | skip)
        have H' := Zc.mk H; clear H
        go_wp2_with (first | ((with_reducible refine Z1 (f := 10) rfl ?_); refine ZQ (some 35) rfl rfl Try.func10 (by kernel_rfl) rfl #[.slice A0 l0.length c0,.slice none 0 0,.slice A1 l1.length c1] rfl (by (try simp only [List.map_toArray,List.map_cons,List.map_nil]); first | done | rfl | (simp only [List.length_drop,List.length_take]; rfl)) ?_; (refine (Xc.calls _ _ l0 _ _ ([] : List (S61)) _ _ l1 false _ ?side1 ?side2 ?side3 ?side4 ?side5 ?side6 A11.out).mono ?_); (case side1 => repeat (first | exact (Kd.ZO HR0.out HB.out) | (with_reducible refine Kd.ZA ?_ _) | (with_reducible refine Kd.Z9 ?_ _) | (with_reducible refine Kd.ZI ?_))); (case side2 => exact HC0.out); (case side3 => exact Kd.C_nil _ _); (case side4 => exact Nat.le_refl _); (case side5 => repeat (first | exact (Kd.ZO HR1.out HB.out) | (with_reducible refine Kd.ZA ?_ _) | (with_reducible refine Kd.Z9 ?_ _) | (with_reducible refine Kd.ZI ?_))); (case side6 => exact HC1.out); rintro e w' ⟨rfl,⟨nd,rfl⟩⟩; refine ⟨_,rfl,?_⟩))
        go_meet
        case rel => exact ⟨_,(decide (a5 < 0)),(by first | rfl | (simp; done) | (simp [*]; done)),H',⟨by first | omega | exact Nat.le_refl _⟩,⟨by repeat (first | (with_reducible first | exact HB.out | apply Zd | apply Za | apply Zb) | exact HB.out)⟩⟩
   case rest => as_aux_lemma =>
    clear HC9
    (try clear c1); (try clear p2); (try clear c7); (try clear c8); (try clear c9); (try clear c10); (try clear c12); (try clear c13); (try clear c13b0); (try clear c14); (try clear c14b0)
    obtain ⟨kq,x47_8,rfl,HA,HJ8,HB⟩ := hcut
    cases kq with
    | zero => exact absurd HA.out (by simp [Ze.j0])
    | succ kj8 =>
     have H := HA.out; clear HA; simp only [Ze.j0] at H
     by_cases c15 : x47_8 = true
     · subst c15
       have H1 : (some true) = some r := by rw [if_pos rfl] at H; exact H
       clear H; have H := H1; clear H1; obtain rfl := Option.some.inj H
       go_wp2
       go_ret; exact ⟨by first | rfl | (simp [Zv,Zu] <;> rfl) | (simp [*,Zv,Zu] <;> rfl),by repeat (first | (with_reducible first | exact HB.out | apply Zd | apply Za | apply Zb) | exact HB.out)⟩
     · replace c15 := Bool.eq_false_iff.mpr c15
       subst c15
       have H1 : ((Z4.f kj8 l0 a2 a3 a4).bind fun bt402 => ((Zi.f kj8 l0 a2 a3 a4).bind fun bt409 => ((Zw.f kj8 bt402.1 bt409.1).bind fun t416 => (if t416 = true then ((Zw.f kj8 bt402.2.1 bt409.2.1).bind fun t417 => (if t417 = true then (Ze.j1 kj8 l0 l1 a2 a3 a4 a5 bt402.1 bt402.2.1 bt402.2.2 (bt402.2.2 != bt409.2.2)) else (Ze.j1 kj8 l0 l1 a2 a3 a4 a5 bt402.1 bt402.2.1 bt402.2.2 true))) else (Ze.j1 kj8 l0 l1 a2 a3 a4 a5 bt402.1 bt402.2.1 bt402.2.2 true))))) = some r := by rw [if_neg (show ¬ (false = true) by decide)] at H; exact H
       clear H; have H := H1; clear H1; replace H := Option.bind_eq_some_iff.mp H; obtain ⟨⟨t402,t403,t404⟩,A160,H⟩ := H; replace H : ((Zi.f kj8 l0 a2 a3 a4).bind fun bt409 => ((Zw.f kj8 t402 bt409.1).bind fun t416 => (if t416 = true then ((Zw.f kj8 t403 bt409.2.1).bind fun t417 => (if t417 = true then (Ze.j1 kj8 l0 l1 a2 a3 a4 a5 t402 t403 t404 (t404 != bt409.2.2)) else (Ze.j1 kj8 l0 l1 a2 a3 a4 a5 t402 t403 t404 true))) else (Ze.j1 kj8 l0 l1 a2 a3 a4 a5 t402 t403 t404 true)))) = some r := H; have A16 := Zc.mk A160; clear A160; replace H := Option.bind_eq_some_iff.mp H; obtain ⟨⟨t409,t410,t411⟩,A170,H⟩ := H; replace H : ((Zw.f kj8 t402 t409).bind fun t416 => (if t416 = true then ((Zw.f kj8 t403 t410).bind fun t417 => (if t417 = true then (Ze.j1 kj8 l0 l1 a2 a3 a4 a5 t402 t403 t404 (t404 != t411)) else (Ze.j1 kj8 l0 l1 a2 a3 a4 a5 t402 t403 t404 true))) else (Ze.j1 kj8 l0 l1 a2 a3 a4 a5 t402 t403 t404 true))) = some r := H; have A17 := Zc.mk A170; clear A170; have HC18 := Zc.mk H; clear H
       go_upto_region 7 with (first | ((with_reducible refine Z1 (f := 29) rfl ?_); refine ZQ (some 53) rfl rfl Try.func29 (by kernel_rfl) rfl #[.slice A0 l0.length c0,.int .i64 a2,.int .i64 a3,.int .i64 a4] rfl (by (try simp only [List.map_toArray,List.map_cons,List.map_nil]); first | done | rfl | (simp only [List.length_drop,List.length_take]; rfl)) ?_; (with_reducible refine (Z4.calls kj8 _ _ l0 a2 a3 a4 t402 t403 t404 _ ?side1 ?side2 A16.out).mono ?_); (case side1 => repeat (first | exact (Kd.ZO HR0.out HB.out) | (with_reducible refine Kd.ZA ?_ _) | (with_reducible refine Kd.Z9 ?_ _) | (with_reducible refine Kd.ZI ?_))); (case side2 => exact HC0.out); rintro e w19 ⟨v405,v407,rfl,ho0,ho1,hb⟩; refine ⟨_,rfl,?_⟩; have n0_ := Zc.mk (Kd.Xs ho0 (ZH (by repeat (first | (with_reducible first | exact HB.out | apply Zd | apply Za | apply Zb) | exact HB.out)))); have n1_ := Zc.mk (Kd.Xs ho1 (ZH (by repeat (first | (with_reducible first | exact HB.out | apply Zd | apply Za | apply Zb) | exact HB.out)))); have n2_ := Zc.mk (Z3 (by repeat (first | (with_reducible first | exact HB.out | apply Zd | apply Za | apply Zb) | exact HB.out)) hb); clear HB; have HO406 := n0_; have HO408 := n1_; have HB := n2_; clear n0_ n1_ n2_; (try clear hb); (try clear hb2); (try clear hk); (try clear hi); (try clear ho0); (try clear ho1)) | ((with_reducible refine Z1 (f := 30) rfl ?_); refine ZQ (some 62) rfl rfl Try.func30 (by kernel_rfl) rfl #[.slice A0 l0.length c0,.int .i64 a2,.int .i64 a3,.int .i64 a4] rfl (by (try simp only [List.map_toArray,List.map_cons,List.map_nil]); first | done | rfl | (simp only [List.length_drop,List.length_take]; rfl)) ?_; (with_reducible refine (Zi.calls kj8 _ _ l0 a2 a3 a4 t409 t410 t411 _ ?side1 ?side2 A17.out).mono ?_); (case side1 => repeat (first | exact (Kd.ZO HR0.out HB.out) | (with_reducible refine Kd.ZA ?_ _) | (with_reducible refine Kd.Z9 ?_ _) | (with_reducible refine Kd.ZI ?_))); (case side2 => exact HC0.out); rintro e w20 ⟨v412,v414,rfl,ho0,ho1,hb⟩; refine ⟨_,rfl,?_⟩; have n0_ := Zc.mk (Kd.ZN (Kd.Xz (Kd.Xz (Kd.R_old (by (with_reducible repeat (first | apply Kd.Zl | apply Kd.Zk | apply Kd.Zs)); exact HO406.out) hb) (Kd.ZV ho0)) (Kd.ZV ho1)) (fun _ h_ => h_.1)); have n1_ := Zc.mk (Kd.ZN (Kd.Xz (Kd.Xz (Kd.R_old (by (with_reducible repeat (first | apply Kd.Zl | apply Kd.Zk | apply Kd.Zs)); exact HO408.out) hb) (Kd.ZV ho0)) (Kd.ZV ho1)) (fun _ h_ => h_.1)); have n2_ := Zc.mk (Kd.Xs (Kd.ZW (Kd.ZW ho0 (Kd.R_lt (by (with_reducible repeat (first | apply Kd.Zl | apply Kd.Zk | apply Kd.Zs)); exact HO406.out))) (Kd.R_lt (by (with_reducible repeat (first | apply Kd.Zl | apply Kd.Zk | apply Kd.Zs)); exact HO408.out))) (ZH (by repeat (first | (with_reducible first | exact HB.out | apply Zd | apply Za | apply Zb) | exact HB.out)))); have n3_ := Zc.mk (Kd.Xs (Kd.ZW (Kd.ZW ho1 (Kd.R_lt (by (with_reducible repeat (first | apply Kd.Zl | apply Kd.Zk | apply Kd.Zs)); exact HO406.out))) (Kd.R_lt (by (with_reducible repeat (first | apply Kd.Zl | apply Kd.Zk | apply Kd.Zs)); exact HO408.out))) (ZH (by repeat (first | (with_reducible first | exact HB.out | apply Zd | apply Za | apply Zb) | exact HB.out)))); have n4_ := Zc.mk (Z3 (by repeat (first | (with_reducible first | exact HB.out | apply Zd | apply Za | apply Zb) | exact HB.out)) hb); clear HO406; clear HO408; clear HB; have HO406 := n0_; have HO408 := n1_; have HO413 := n2_; have HO415 := n3_; have HB := n4_; clear n0_ n1_ n2_ n3_ n4_; (try clear hb); (try clear hb2); (try clear hk); (try clear hi); (try clear ho0); (try clear ho1)))
       (try simp only [Act.put,YD,YE,YF])
       go_cut [80] (fun v80 wc => ∃ (kq : Nat) (x80_17 : Bool),v80 = .bool x80_17 ∧ Zc (Ze.j1 kq l0 l1 a2 a3 a4 a5 t402 t403 t404 x80_17 = some r) ∧ Zc (kq ≤ kj8) ∧ Zc (Kd.R (Kd.int .i64) 3 wc w.heap.size (fun k_ => some k_ ≠ (v407 : Value).ownBlock) v405 t402) ∧ Zc (Kd.R (Kd.int .i64) 3 wc w.heap.size (fun k_ => some k_ ≠ (v405 : Value).ownBlock) v407 t403) ∧ Zc (Below w.heap.size w wc))
       case first => as_aux_lemma =>
        have H := HC18.out; clear HC18; replace H := Option.bind_eq_some_iff.mp H; obtain ⟨t416,A210,H⟩ := H; replace H : (if t416 = true then ((Zw.f kj8 t403 t410).bind fun t417 => (if t417 = true then (Ze.j1 kj8 l0 l1 a2 a3 a4 a5 t402 t403 t404 (t404 != t411)) else (Ze.j1 kj8 l0 l1 a2 a3 a4 a5 t402 t403 t404 true))) else (Ze.j1 kj8 l0 l1 a2 a3 a4 a5 t402 t403 t404 true)) = some r := H; have A21 := Zc.mk A210; clear A210
        by_cases c22 : t416 = true
        · subst c22
          have H1 : ((Zw.f kj8 t403 t410).bind fun t417 => (if t417 = true then (Ze.j1 kj8 l0 l1 a2 a3 a4 a5 t402 t403 t404 (t404 != t411)) else (Ze.j1 kj8 l0 l1 a2 a3 a4 a5 t402 t403 t404 true))) = some r := by rw [if_pos rfl] at H; exact H
          clear H; have H := H1; clear H1; replace H := Option.bind_eq_some_iff.mp H; obtain ⟨t417,A230,H⟩ := H; replace H : (if t417 = true then (Ze.j1 kj8 l0 l1 a2 a3 a4 a5 t402 t403 t404 (t404 != t411)) else (Ze.j1 kj8 l0 l1 a2 a3 a4 a5 t402 t403 t404 true)) = some r := H; have A23 := Zc.mk A230; clear A230
          by_cases c24 : t417 = true
          · subst c24
            have H1 : (Ze.j1 kj8 l0 l1 a2 a3 a4 a5 t402 t403 t404 (t404 != t411)) = some r := by rw [if_pos rfl] at H; exact H
            clear H; have H := H1; clear H1; have H' := Zc.mk H; clear H; obtain ⟨Ao25,co25,eo25⟩ := Kd.Xd HO406.out; subst eo25; obtain ⟨Ao26,co26,eo26⟩ := Kd.Xd HO413.out; subst eo26
            go_wp2_with (first | ((with_reducible refine Z1 (f := 31) rfl ?_); refine ZQ (some 68) rfl rfl Try.func31 (by kernel_rfl) rfl #[.slice Ao25 t402.length co25,.slice Ao26 t409.length co26] rfl (by (try simp only [List.map_toArray,List.map_cons,List.map_nil]); first | done | rfl | (simp only [List.length_drop,List.length_take]; rfl)) ?_; (with_reducible refine (Zw.calls kj8 _ _ t402 _ _ t409 true _ ?side1 ?side2 ?side3 ?side4 A21.out).mono ?_); (case side1 => repeat (first | exact (Kd.ZL HO406.out).2.2 | (with_reducible refine Kd.ZA ?_ _) | (with_reducible refine Kd.Z9 ?_ _) | (with_reducible refine Kd.ZI ?_))); (case side2 => exact (Kd.ZL HO406.out).2.1); (case side3 => repeat (first | exact (Kd.ZL HO413.out).2.2 | (with_reducible refine Kd.ZA ?_ _) | (with_reducible refine Kd.Z9 ?_ _) | (with_reducible refine Kd.ZI ?_))); (case side4 => exact (Kd.ZL HO413.out).2.1); rintro e w' ⟨rfl,⟨nd,rfl⟩⟩; refine ⟨_,rfl,?_⟩; obtain ⟨Ao27,co27,eo27⟩ := Kd.Xd HO408.out; subst eo27; obtain ⟨Ao28,co28,eo28⟩ := Kd.Xd HO415.out; subst eo28) | (go_at_call 31; (with_reducible refine (Zw.calls kj8 _ _ t403 _ _ t410 true _ ?side1 ?side2 ?side3 ?side4 A23.out).mono ?_); (case side1 => repeat (first | exact (Kd.ZL HO408.out).2.2 | (with_reducible refine Kd.ZA ?_ _) | (with_reducible refine Kd.Z9 ?_ _) | (with_reducible refine Kd.ZI ?_))); (case side2 => exact (Kd.ZL HO408.out).2.1); (case side3 => repeat (first | exact (Kd.ZL HO415.out).2.2 | (with_reducible refine Kd.ZA ?_ _) | (with_reducible refine Kd.Z9 ?_ _) | (with_reducible refine Kd.ZI ?_))); (case side4 => exact (Kd.ZL HO415.out).2.1); rintro e w' ⟨rfl,⟨nd,rfl⟩⟩))
            go_meet
            case rel => exact ⟨_,((t404 != t411)),(by first | rfl | (simp; done) | (simp [*]; done)),H',⟨by have := HJ8.out; first | omega | exact Nat.le_refl _⟩,⟨by (with_reducible repeat (first | apply Kd.Zl | apply Kd.Zk | apply Kd.Zs)); exact Kd.ZN HO406.out (fun _ hk => hk.1.1)⟩,⟨by (with_reducible repeat (first | apply Kd.Zl | apply Kd.Zk | apply Kd.Zs)); exact Kd.ZN HO408.out (fun _ hk => hk.1.1)⟩,⟨by repeat (first | (with_reducible first | exact HB.out | apply Zd | apply Za | apply Zb) | exact HB.out)⟩⟩
          · replace c24 := Bool.eq_false_iff.mpr c24
            subst c24
            have H1 : (Ze.j1 kj8 l0 l1 a2 a3 a4 a5 t402 t403 t404 true) = some r := by rw [if_neg (show ¬ (false = true) by decide)] at H; exact H
            clear H; have H := H1; clear H1; have H' := Zc.mk H; clear H; obtain ⟨Ao29,co29,eo29⟩ := Kd.Xd HO406.out; subst eo29; obtain ⟨Ao30,co30,eo30⟩ := Kd.Xd HO413.out; subst eo30
            go_wp2_with (first | ((with_reducible refine Z1 (f := 31) rfl ?_); refine ZQ (some 68) rfl rfl Try.func31 (by kernel_rfl) rfl #[.slice Ao29 t402.length co29,.slice Ao30 t409.length co30] rfl (by (try simp only [List.map_toArray,List.map_cons,List.map_nil]); first | done | rfl | (simp only [List.length_drop,List.length_take]; rfl)) ?_; (with_reducible refine (Zw.calls kj8 _ _ t402 _ _ t409 true _ ?side1 ?side2 ?side3 ?side4 A21.out).mono ?_); (case side1 => repeat (first | exact (Kd.ZL HO406.out).2.2 | (with_reducible refine Kd.ZA ?_ _) | (with_reducible refine Kd.Z9 ?_ _) | (with_reducible refine Kd.ZI ?_))); (case side2 => exact (Kd.ZL HO406.out).2.1); (case side3 => repeat (first | exact (Kd.ZL HO413.out).2.2 | (with_reducible refine Kd.ZA ?_ _) | (with_reducible refine Kd.Z9 ?_ _) | (with_reducible refine Kd.ZI ?_))); (case side4 => exact (Kd.ZL HO413.out).2.1); rintro e w' ⟨rfl,⟨nd,rfl⟩⟩; refine ⟨_,rfl,?_⟩; obtain ⟨Ao31,co31,eo31⟩ := Kd.Xd HO408.out; subst eo31; obtain ⟨Ao32,co32,eo32⟩ := Kd.Xd HO415.out; subst eo32) | (go_at_call 31; (with_reducible refine (Zw.calls kj8 _ _ t403 _ _ t410 false _ ?side1 ?side2 ?side3 ?side4 A23.out).mono ?_); (case side1 => repeat (first | exact (Kd.ZL HO408.out).2.2 | (with_reducible refine Kd.ZA ?_ _) | (with_reducible refine Kd.Z9 ?_ _) | (with_reducible refine Kd.ZI ?_))); (case side2 => exact (Kd.ZL HO408.out).2.1); (case side3 => repeat (first | exact (Kd.ZL HO415.out).2.2 | (with_reducible refine Kd.ZA ?_ _) | (with_reducible refine Kd.Z9 ?_ _) | (with_reducible refine Kd.ZI ?_))); (case side4 => exact (Kd.ZL HO415.out).2.1); rintro e w' ⟨rfl,⟨nd,rfl⟩⟩))
            go_meet
            case rel => exact ⟨_,(true),(by first | rfl | (simp; done) | (simp [*]; done)),H',⟨by have := HJ8.out; first | omega | exact Nat.le_refl _⟩,⟨by (with_reducible repeat (first | apply Kd.Zl | apply Kd.Zk | apply Kd.Zs)); exact Kd.ZN HO406.out (fun _ hk => hk.1.1)⟩,⟨by (with_reducible repeat (first | apply Kd.Zl | apply Kd.Zk | apply Kd.Zs)); exact Kd.ZN HO408.out (fun _ hk => hk.1.1)⟩,⟨by repeat (first | (with_reducible first | exact HB.out | apply Zd | apply Za | apply Zb) | exact HB.out)⟩⟩
        · replace c22 := Bool.eq_false_iff.mpr c22
          subst c22
          have H1 : (Ze.j1 kj8 l0 l1 a2 a3 a4 a5 t402 t403 t404 true) = some r := by rw [if_neg (show ¬ (false = true) by decide)] at H; exact H
          clear H; have H := H1; clear H1; have H' := Zc.mk H; clear H; obtain ⟨Ao33,co33,eo33⟩ := Kd.Xd HO406.out; subst eo33; obtain ⟨Ao34,co34,eo34⟩ := Kd.Xd HO413.out; subst eo34
          go_wp2_with (first | ((with_reducible refine Z1 (f := 31) rfl ?_); refine ZQ (some 68) rfl rfl Try.func31 (by kernel_rfl) rfl #[.slice Ao33 t402.length co33,.slice Ao34 t409.length co34] rfl (by (try simp only [List.map_toArray,List.map_cons,List.map_nil]); first | done | rfl | (simp only [List.length_drop,List.length_take]; rfl)) ?_; (with_reducible refine (Zw.calls kj8 _ _ t402 _ _ t409 false _ ?side1 ?side2 ?side3 ?side4 A21.out).mono ?_); (case side1 => repeat (first | exact (Kd.ZL HO406.out).2.2 | (with_reducible refine Kd.ZA ?_ _) | (with_reducible refine Kd.Z9 ?_ _) | (with_reducible refine Kd.ZI ?_))); (case side2 => exact (Kd.ZL HO406.out).2.1); (case side3 => repeat (first | exact (Kd.ZL HO413.out).2.2 | (with_reducible refine Kd.ZA ?_ _) | (with_reducible refine Kd.Z9 ?_ _) | (with_reducible refine Kd.ZI ?_))); (case side4 => exact (Kd.ZL HO413.out).2.1); rintro e w' ⟨rfl,⟨nd,rfl⟩⟩; refine ⟨_,rfl,?_⟩))
          go_meet
          case rel => exact ⟨_,(true),(by first | rfl | (simp; done) | (simp [*]; done)),H',⟨by have := HJ8.out; first | omega | exact Nat.le_refl _⟩,⟨by (with_reducible repeat (first | apply Kd.Zl | apply Kd.Zk | apply Kd.Zs)); exact Kd.ZN HO406.out (fun _ hk => hk.1.1)⟩,⟨by (with_reducible repeat (first | apply Kd.Zl | apply Kd.Zk | apply Kd.Zs)); exact Kd.ZN HO408.out (fun _ hk => hk.1.1)⟩,⟨by repeat (first | (with_reducible first | exact HB.out | apply Zd | apply Za | apply Zb) | exact HB.out)⟩⟩
       case rest => as_aux_lemma =>
        clear HC18
        (try clear c1); (try clear c2); (try clear p2); (try clear c3); (try clear c7); (try clear c8); (try clear c9); (try clear c10); (try clear c12); (try clear c13); (try clear c13b0); (try clear c14); (try clear c14b0); (try clear c15); (try clear c22); (try clear c24); (try clear c29); (try clear c30); (try clear c31); (try clear p2)
        obtain ⟨kq,x80_17,rfl,HA,HJ17,HO_13,HO_14,HB⟩ := hcut
        cases kq with
        | zero => exact absurd HA.out (by simp [Ze.j1])
        | succ kj17 =>
         have H := HA.out; clear HA; simp only [Ze.j1] at H
         by_cases c35 : x80_17 = true
         · subst c35
           have H1 : (some false) = some r := by rw [if_pos rfl] at H; exact H
           clear H; have H := H1; clear H1; obtain rfl := Option.some.inj H
           go_wp2
           go_ret; exact ⟨by first | rfl | (simp [Zv,Zu] <;> rfl) | (simp [*,Zv,Zu] <;> rfl),by repeat (first | (with_reducible first | exact HB.out | apply Zd | apply Za | apply Zb) | exact HB.out)⟩
         · replace c35 := Bool.eq_false_iff.mpr c35
           subst c35
           have H1 : ((ZG.f kj17 l1 l0 a2 a3 a4).bind fun bt418 => ((Zo.f kj17 l1 l0 a2 a3 a4).bind fun bt422 => ((Zw.f kj17 bt418.1 bt422.1).bind fun t426 => (if t426 = true then (Ze.j2 kj17 l0 l1 a2 a3 a4 a5 t402 t403 t404 bt418.2 bt422.1 (bt418.2 != bt422.2)) else (Ze.j2 kj17 l0 l1 a2 a3 a4 a5 t402 t403 t404 bt418.2 bt422.1 true))))) = some r := by rw [if_neg (show ¬ (false = true) by decide)] at H; exact H
           clear H; have H := H1; clear H1; replace H := Option.bind_eq_some_iff.mp H; obtain ⟨⟨t418,t419⟩,A360,H⟩ := H; replace H : ((Zo.f kj17 l1 l0 a2 a3 a4).bind fun bt422 => ((Zw.f kj17 t418 bt422.1).bind fun t426 => (if t426 = true then (Ze.j2 kj17 l0 l1 a2 a3 a4 a5 t402 t403 t404 t419 bt422.1 (t419 != bt422.2)) else (Ze.j2 kj17 l0 l1 a2 a3 a4 a5 t402 t403 t404 t419 bt422.1 true)))) = some r := H; have A36 := Zc.mk A360; clear A360; replace H := Option.bind_eq_some_iff.mp H; obtain ⟨⟨t422,t423⟩,A370,H⟩ := H; replace H : ((Zw.f kj17 t418 t422).bind fun t426 => (if t426 = true then (Ze.j2 kj17 l0 l1 a2 a3 a4 a5 t402 t403 t404 t419 t422 (t419 != t423)) else (Ze.j2 kj17 l0 l1 a2 a3 a4 a5 t402 t403 t404 t419 t422 true))) = some r := H; have A37 := Zc.mk A370; clear A370; have HC38 := Zc.mk H; clear H
           go_upto_region 11 with (first | ((with_reducible refine Z1 (f := 32) rfl ?_); refine ZQ (some 87) rfl rfl Try.func32 (by kernel_rfl) rfl #[.slice A1 l1.length c1,.slice A0 l0.length c0,.int .i64 a2,.int .i64 a3,.int .i64 a4] rfl (by (try simp only [List.map_toArray,List.map_cons,List.map_nil]); first | done | rfl | (simp only [List.length_drop,List.length_take]; rfl)) ?_; (with_reducible refine (ZG.calls kj17 _ _ l1 _ _ l0 a2 a3 a4 t418 t419 _ ?side1 ?side2 ?side3 ?side4 A36.out).mono ?_); (case side1 => repeat (first | exact (Kd.ZO HR1.out HB.out) | (with_reducible refine Kd.ZA ?_ _) | (with_reducible refine Kd.Z9 ?_ _) | (with_reducible refine Kd.ZI ?_))); (case side2 => exact HC1.out); (case side3 => repeat (first | exact (Kd.ZO HR0.out HB.out) | (with_reducible refine Kd.ZA ?_ _) | (with_reducible refine Kd.Z9 ?_ _) | (with_reducible refine Kd.ZI ?_))); (case side4 => exact HC0.out); rintro e w39 ⟨v420,rfl,ho0,hb⟩; refine ⟨_,rfl,?_⟩; have n0_ := Zc.mk (Kd.Xb (by (with_reducible repeat (first | apply Kd.Zl | apply Kd.Zk | apply Kd.Zs)); exact HO_13.out) (Kd.ZV ho0) hb); have n1_ := Zc.mk (Kd.Xb (by (with_reducible repeat (first | apply Kd.Zl | apply Kd.Zk | apply Kd.Zs)); exact HO_14.out) (Kd.ZV ho0) hb); have n2_ := Zc.mk (Kd.Xs (Kd.ZW (Kd.ZW ho0 (Kd.R_lt (by (with_reducible repeat (first | apply Kd.Zl | apply Kd.Zk | apply Kd.Zs)); exact HO_13.out))) (Kd.R_lt (by (with_reducible repeat (first | apply Kd.Zl | apply Kd.Zk | apply Kd.Zs)); exact HO_14.out))) (ZH (by repeat (first | (with_reducible first | exact HB.out | apply Zd | apply Za | apply Zb) | exact HB.out)))); have n3_ := Zc.mk (Z3 (by repeat (first | (with_reducible first | exact HB.out | apply Zd | apply Za | apply Zb) | exact HB.out)) hb); clear HO_13; clear HO_14; clear HB; have HO_13 := n0_; have HO_14 := n1_; have HO421 := n2_; have HB := n3_; clear n0_ n1_ n2_ n3_; (try clear hb); (try clear hb2); (try clear hk); (try clear hi); (try clear ho0)) | ((with_reducible refine Z1 (f := 33) rfl ?_); refine ZQ (some 96) rfl rfl Try.func33 (by kernel_rfl) rfl #[.slice A1 l1.length c1,.slice A0 l0.length c0,.int .i64 a2,.int .i64 a3,.int .i64 a4] rfl (by (try simp only [List.map_toArray,List.map_cons,List.map_nil]); first | done | rfl | (simp only [List.length_drop,List.length_take]; rfl)) ?_; (with_reducible refine (Zo.calls kj17 _ _ l1 _ _ l0 a2 a3 a4 t422 t423 _ ?side1 ?side2 ?side3 ?side4 A37.out).mono ?_); (case side1 => repeat (first | exact (Kd.ZO HR1.out HB.out) | (with_reducible refine Kd.ZA ?_ _) | (with_reducible refine Kd.Z9 ?_ _) | (with_reducible refine Kd.ZI ?_))); (case side2 => exact HC1.out); (case side3 => repeat (first | exact (Kd.ZO HR0.out HB.out) | (with_reducible refine Kd.ZA ?_ _) | (with_reducible refine Kd.Z9 ?_ _) | (with_reducible refine Kd.ZI ?_))); (case side4 => exact HC0.out); rintro e w40 ⟨v424,rfl,ho0,hb⟩; refine ⟨_,rfl,?_⟩; have n0_ := Zc.mk (Kd.Xb (by (with_reducible repeat (first | apply Kd.Zl | apply Kd.Zk | apply Kd.Zs)); exact HO_13.out) (Kd.ZV ho0) hb); have n1_ := Zc.mk (Kd.Xb (by (with_reducible repeat (first | apply Kd.Zl | apply Kd.Zk | apply Kd.Zs)); exact HO_14.out) (Kd.ZV ho0) hb); have n2_ := Zc.mk (Kd.Xb (by (with_reducible repeat (first | apply Kd.Zl | apply Kd.Zk | apply Kd.Zs)); exact HO421.out) (Kd.ZV ho0) hb); have n3_ := Zc.mk (Kd.Xs (Kd.ZW (Kd.ZW (Kd.ZW ho0 (Kd.R_lt (by (with_reducible repeat (first | apply Kd.Zl | apply Kd.Zk | apply Kd.Zs)); exact HO_13.out))) (Kd.R_lt (by (with_reducible repeat (first | apply Kd.Zl | apply Kd.Zk | apply Kd.Zs)); exact HO_14.out))) (Kd.R_lt (by (with_reducible repeat (first | apply Kd.Zl | apply Kd.Zk | apply Kd.Zs)); exact HO421.out))) (ZH (by repeat (first | (with_reducible first | exact HB.out | apply Zd | apply Za | apply Zb) | exact HB.out)))); have n4_ := Zc.mk (Z3 (by repeat (first | (with_reducible first | exact HB.out | apply Zd | apply Za | apply Zb) | exact HB.out)) hb); clear HO_13; clear HO_14; clear HO421; clear HB; have HO_13 := n0_; have HO_14 := n1_; have HO421 := n2_; have HO425 := n3_; have HB := n4_; clear n0_ n1_ n2_ n3_ n4_; (try clear hb); (try clear hb2); (try clear hk); (try clear hi); (try clear ho0)))
           (try simp only [Act.put,YD,YE,YF])
           go_cut [107] (fun v107 wc => ∃ (kq : Nat) (x107_37 : Bool),v107 = .bool x107_37 ∧ Zc (Ze.j2 kq l0 l1 a2 a3 a4 a5 t402 t403 t404 t419 t422 x107_37 = some r) ∧ Zc (kq ≤ kj17) ∧ Zc (Kd.R (Kd.int .i64) 3 wc w.heap.size (fun k_ => some k_ ≠ (v407 : Value).ownBlock ∧ some k_ ≠ (v424 : Value).ownBlock) v405 t402) ∧ Zc (Kd.R (Kd.int .i64) 3 wc w.heap.size (fun k_ => some k_ ≠ (v405 : Value).ownBlock ∧ some k_ ≠ (v424 : Value).ownBlock) v407 t403) ∧ Zc (Kd.R (Kd.int .i64) 3 wc w.heap.size (fun k_ => some k_ ≠ (v405 : Value).ownBlock ∧ some k_ ≠ (v407 : Value).ownBlock) v424 t422) ∧ Zc (Below w.heap.size w wc))
           case first => as_aux_lemma =>
            have H := HC38.out; clear HC38; replace H := Option.bind_eq_some_iff.mp H; obtain ⟨t426,A410,H⟩ := H; replace H : (if t426 = true then (Ze.j2 kj17 l0 l1 a2 a3 a4 a5 t402 t403 t404 t419 t422 (t419 != t423)) else (Ze.j2 kj17 l0 l1 a2 a3 a4 a5 t402 t403 t404 t419 t422 true)) = some r := H; have A41 := Zc.mk A410; clear A410
            by_cases c42 : t426 = true
            · subst c42
              have H1 : (Ze.j2 kj17 l0 l1 a2 a3 a4 a5 t402 t403 t404 t419 t422 (t419 != t423)) = some r := by rw [if_pos rfl] at H; exact H
              clear H; have H := H1; clear H1; have H' := Zc.mk H; clear H; obtain ⟨Ao43,co43,eo43⟩ := Kd.Xd HO421.out; subst eo43; obtain ⟨Ao44,co44,eo44⟩ := Kd.Xd HO425.out; subst eo44
              go_wp2_with (first | ((with_reducible refine Z1 (f := 31) rfl ?_); refine ZQ (some 101) rfl rfl Try.func31 (by kernel_rfl) rfl #[.slice Ao43 t418.length co43,.slice Ao44 t422.length co44] rfl (by (try simp only [List.map_toArray,List.map_cons,List.map_nil]); first | done | rfl | (simp only [List.length_drop,List.length_take]; rfl)) ?_; (with_reducible refine (Zw.calls kj17 _ _ t418 _ _ t422 true _ ?side1 ?side2 ?side3 ?side4 A41.out).mono ?_); (case side1 => repeat (first | exact (Kd.ZL HO421.out).2.2 | (with_reducible refine Kd.ZA ?_ _) | (with_reducible refine Kd.Z9 ?_ _) | (with_reducible refine Kd.ZI ?_))); (case side2 => exact (Kd.ZL HO421.out).2.1); (case side3 => repeat (first | exact (Kd.ZL HO425.out).2.2 | (with_reducible refine Kd.ZA ?_ _) | (with_reducible refine Kd.Z9 ?_ _) | (with_reducible refine Kd.ZI ?_))); (case side4 => exact (Kd.ZL HO425.out).2.1); rintro e w' ⟨rfl,⟨nd,rfl⟩⟩; refine ⟨_,rfl,?_⟩))
              go_meet
              case rel => exact ⟨_,((t419 != t423)),(by first | rfl | (simp; done) | (simp [*]; done)),H',⟨by have := HJ8.out; have := HJ17.out; first | omega | exact Nat.le_refl _⟩,⟨by (with_reducible repeat (first | apply Kd.Zl | apply Kd.Zk | apply Kd.Zs)); exact Kd.ZN HO_13.out (fun _ hk => ⟨hk.1.1,hk.2⟩)⟩,⟨by (with_reducible repeat (first | apply Kd.Zl | apply Kd.Zk | apply Kd.Zs)); exact Kd.ZN HO_14.out (fun _ hk => ⟨hk.1.1,hk.2⟩)⟩,⟨by (with_reducible repeat (first | apply Kd.Zl | apply Kd.Zk | apply Kd.Zs)); exact Kd.ZN HO425.out (fun _ hk => ⟨hk.1.1.2,hk.1.2⟩)⟩,⟨by repeat (first | (with_reducible first | exact HB.out | apply Zd | apply Za | apply Zb) | exact HB.out)⟩⟩
            · replace c42 := Bool.eq_false_iff.mpr c42
              subst c42
              have H1 : (Ze.j2 kj17 l0 l1 a2 a3 a4 a5 t402 t403 t404 t419 t422 true) = some r := by rw [if_neg (show ¬ (false = true) by decide)] at H; exact H
              clear H; have H := H1; clear H1; have H' := Zc.mk H; clear H; obtain ⟨Ao45,co45,eo45⟩ := Kd.Xd HO421.out; subst eo45; obtain ⟨Ao46,co46,eo46⟩ := Kd.Xd HO425.out; subst eo46
              go_wp2_with (first | ((with_reducible refine Z1 (f := 31) rfl ?_); refine ZQ (some 101) rfl rfl Try.func31 (by kernel_rfl) rfl #[.slice Ao45 t418.length co45,.slice Ao46 t422.length co46] rfl (by (try simp only [List.map_toArray,List.map_cons,List.map_nil]); first | done | rfl | (simp only [List.length_drop,List.length_take]; rfl)) ?_; (with_reducible refine (Zw.calls kj17 _ _ t418 _ _ t422 false _ ?side1 ?side2 ?side3 ?side4 A41.out).mono ?_); (case side1 => repeat (first | exact (Kd.ZL HO421.out).2.2 | (with_reducible refine Kd.ZA ?_ _) | (with_reducible refine Kd.Z9 ?_ _) | (with_reducible refine Kd.ZI ?_))); (case side2 => exact (Kd.ZL HO421.out).2.1); (case side3 => repeat (first | exact (Kd.ZL HO425.out).2.2 | (with_reducible refine Kd.ZA ?_ _) | (with_reducible refine Kd.Z9 ?_ _) | (with_reducible refine Kd.ZI ?_))); (case side4 => exact (Kd.ZL HO425.out).2.1); rintro e w' ⟨rfl,⟨nd,rfl⟩⟩; refine ⟨_,rfl,?_⟩))
              go_meet
              case rel => exact ⟨_,(true),(by first | rfl | (simp; done) | (simp [*]; done)),H',⟨by have := HJ8.out; have := HJ17.out; first | omega | exact Nat.le_refl _⟩,⟨by (with_reducible repeat (first | apply Kd.Zl | apply Kd.Zk | apply Kd.Zs)); exact Kd.ZN HO_13.out (fun _ hk => ⟨hk.1.1,hk.2⟩)⟩,⟨by (with_reducible repeat (first | apply Kd.Zl | apply Kd.Zk | apply Kd.Zs)); exact Kd.ZN HO_14.out (fun _ hk => ⟨hk.1.1,hk.2⟩)⟩,⟨by (with_reducible repeat (first | apply Kd.Zl | apply Kd.Zk | apply Kd.Zs)); exact Kd.ZN HO425.out (fun _ hk => ⟨hk.1.1.2,hk.1.2⟩)⟩,⟨by repeat (first | (with_reducible first | exact HB.out | apply Zd | apply Za | apply Zb) | exact HB.out)⟩⟩
           case rest => as_aux_lemma =>
            clear HC38
            (try clear c1); (try clear c2); (try clear p2); (try clear c3); (try clear c4); (try clear c7); (try clear c8); (try clear c9); (try clear c10); (try clear c12); (try clear c13); (try clear c13b0); (try clear c14); (try clear c14b0); (try clear c15); (try clear c22); (try clear c24); (try clear c29); (try clear c30); (try clear c31); (try clear c32); (try clear c33); (try clear c35); (try clear c42); (try clear p2)
            obtain ⟨kq,x107_37,rfl,HA,HJ37,HO_13,HO_14,HO_21,HB⟩ := hcut
            cases kq with
            | zero => exact absurd HA.out (by simp [Ze.j2])
            | succ kj37 =>
             have H := HA.out; clear HA; simp only [Ze.j2] at H
             by_cases c47 : x107_37 = true
             · subst c47
               have H1 : (some false) = some r := by rw [if_pos rfl] at H; exact H
               clear H; have H := H1; clear H1; obtain rfl := Option.some.inj H
               go_wp2
               go_ret; exact ⟨by first | rfl | (simp [Zv,Zu] <;> rfl) | (simp [*,Zv,Zu] <;> rfl),by repeat (first | (with_reducible first | exact HB.out | apply Zd | apply Za | apply Zb) | exact HB.out)⟩
             · replace c47 := Bool.eq_false_iff.mpr c47
               subst c47
               have H1 : (if a4 < 1 then (Ze.j3 kj37 l0 l1 a2 a3 a4 a5 t402 t403 t419 t422 true) else (Ze.j3 kj37 l0 l1 a2 a3 a4 a5 t402 t403 t419 t422 (t404 != 0))) = some r := by rw [if_neg (show ¬ (false = true) by decide)] at H; exact H
               clear H; have H := H1; clear H1; have HC48 := Zc.mk H; clear H
               go_upto_region 13 with (fail)
               go_cut [113] (fun v113 wc => ∃ (kq : Nat) (x113_47 : Bool),v113 = .bool x113_47 ∧ Zc (Ze.j3 kq l0 l1 a2 a3 a4 a5 t402 t403 t419 t422 x113_47 = some r) ∧ Zc (kq ≤ kj37) ∧ Zc (Kd.R (Kd.int .i64) 3 wc w.heap.size (fun k_ => some k_ ≠ (v407 : Value).ownBlock ∧ some k_ ≠ (v424 : Value).ownBlock) v405 t402) ∧ Zc (Kd.R (Kd.int .i64) 3 wc w.heap.size (fun k_ => some k_ ≠ (v405 : Value).ownBlock ∧ some k_ ≠ (v424 : Value).ownBlock) v407 t403) ∧ Zc (Kd.R (Kd.int .i64) 3 wc w.heap.size (fun k_ => some k_ ≠ (v405 : Value).ownBlock ∧ some k_ ≠ (v407 : Value).ownBlock) v424 t422) ∧ Zc (Below w.heap.size w wc))
               case first => as_aux_lemma =>
                have H := HC48.out; clear HC48
                by_cases c49 : a4 < 1
                · rw [if_pos c49] at H
                  have c49b0 : decide (a4 < 1) = true := decide_eq_true c49; clear c49
                  (first | rw [c49b0] | (simp only [i64_w,i32_w]; rw [c49b0]) | skip)
                  have H' := Zc.mk H; clear H
                  go_wp2
                  go_meet
                  case rel => exact ⟨_,(true),(by first | rfl | (simp; done) | (simp [*]; done)),H',⟨by have := HJ8.out; have := HJ17.out; have := HJ37.out; first | omega | exact Nat.le_refl _⟩,⟨by (with_reducible repeat (first | apply Kd.Zl | apply Kd.Zk | apply Kd.Zs)); exact HO_13.out⟩,⟨by (with_reducible repeat (first | apply Kd.Zl | apply Kd.Zk | apply Kd.Zs)); exact HO_14.out⟩,⟨by (with_reducible repeat (first | apply Kd.Zl | apply Kd.Zk | apply Kd.Zs)); exact HO_21.out⟩,⟨by repeat (first | (with_reducible first | exact HB.out | apply Zd | apply Za | apply Zb) | exact HB.out)⟩⟩
                · rw [if_neg c49] at H
                  have c49b0 : decide (a4 < 1) = false := decide_eq_false c49; clear c49
                  (first | rw [c49b0] | (simp only [i64_w,i32_w]; rw [c49b0]) | skip)
                  have H' := Zc.mk H; clear H
                  go_wp2
                  go_meet
                  case rel => exact ⟨_,((t404 != 0)),(by first | rfl | (simp; done) | (simp [*]; done)),H',⟨by have := HJ8.out; have := HJ17.out; have := HJ37.out; first | omega | exact Nat.le_refl _⟩,⟨by (with_reducible repeat (first | apply Kd.Zl | apply Kd.Zk | apply Kd.Zs)); exact HO_13.out⟩,⟨by (with_reducible repeat (first | apply Kd.Zl | apply Kd.Zk | apply Kd.Zs)); exact HO_14.out⟩,⟨by (with_reducible repeat (first | apply Kd.Zl | apply Kd.Zk | apply Kd.Zs)); exact HO_21.out⟩,⟨by repeat (first | (with_reducible first | exact HB.out | apply Zd | apply Za | apply Zb) | exact HB.out)⟩⟩
               case rest => as_aux_lemma =>
                clear HC48
                (try clear c1); (try clear c2); (try clear p2); (try clear c3); (try clear c4); (try clear c7); (try clear c8); (try clear c9); (try clear c10); (try clear c12); (try clear c13); (try clear c13b0); (try clear c14); (try clear c14b0); (try clear c15); (try clear c22); (try clear c24); (try clear c29); (try clear c30); (try clear c31); (try clear c32); (try clear c33); (try clear c35); (try clear c42); (try clear c47); (try clear c49); (try clear c49b0); (try clear p2)
                obtain ⟨kq,x113_47,rfl,HA,HJ47,HO_13,HO_14,HO_21,HB⟩ := hcut
                cases kq with
                | zero => exact absurd HA.out (by simp [Ze.j3])
                | succ kj47 =>
                 have H := HA.out; clear HA; simp only [Ze.j3] at H
                 by_cases c50 : x113_47 = true
                 · subst c50
                   have H1 : (some true) = some r := by rw [if_pos rfl] at H; exact H
                   clear H; have H := H1; clear H1; obtain rfl := Option.some.inj H
                   go_wp2
                   go_ret; exact ⟨by first | rfl | (simp [Zv,Zu] <;> rfl) | (simp [*,Zv,Zu] <;> rfl),by repeat (first | (with_reducible first | exact HB.out | apply Zd | apply Za | apply Zb) | exact HB.out)⟩
                 · replace c50 := Bool.eq_false_iff.mpr c50
                   subst c50
                   have H1 : (if (wrap64 (a4 + 1)) = 0 then (none) else ((Z4.f kj47 l0 a2 a3 (Int.tmod a5 (wrap64 (a4 + 1)))).bind fun bt427 => (if bt427.2.2 = 0 then (if (wrap64 (a3 + (Int.tmod a5 (wrap64 (a4 + 1))))) ≤ 1000000000 then ((Z4.f kj47 l0 a2 (wrap64 (a3 + (Int.tmod a5 (wrap64 (a4 + 1))))) (wrap64 (a4 - (Int.tmod a5 (wrap64 (a4 + 1)))))).bind fun bt434 => (if bt434.2.2 = 0 then (Ze.l0 kj47 l0 l1 a2 a3 a4 t402 t403 t419 t422 (Int.tmod a5 (wrap64 (a4 + 1))) bt427.1 bt427.2.1 bt434.1 bt434.2.1 0) else (some false))) else (Ze.j5 kj47 l0 l1 a2 a3 a4 t419 t422 (Int.tmod a5 (wrap64 (a4 + 1))))) else (some false)))) = some r := by rw [if_neg (show ¬ (false = true) by decide)] at H; exact H
                   clear H; have H := H1; clear H1
                   by_cases c51 : (wrap64 (a4 + 1)) = 0
                   · rw [if_pos c51] at H
                     exact absurd H (by simp)
                   · rw [if_neg c51] at H
                     have c51b0 : ((wrap64 (a4 + 1)) == 0) = false := beq_eq_false_iff_ne.mpr c51; have c51b1 : ((wrap64 (a4 + 1)) != 0) = true := bne_iff_ne.mpr c51; replace H := Option.bind_eq_some_iff.mp H; obtain ⟨⟨t427,t428,t429⟩,A520,H⟩ := H; replace H : (if t429 = 0 then (if (wrap64 (a3 + (Int.tmod a5 (wrap64 (a4 + 1))))) ≤ 1000000000 then ((Z4.f kj47 l0 a2 (wrap64 (a3 + (Int.tmod a5 (wrap64 (a4 + 1))))) (wrap64 (a4 - (Int.tmod a5 (wrap64 (a4 + 1)))))).bind fun bt434 => (if bt434.2.2 = 0 then (Ze.l0 kj47 l0 l1 a2 a3 a4 t402 t403 t419 t422 (Int.tmod a5 (wrap64 (a4 + 1))) t427 t428 bt434.1 bt434.2.1 0) else (some false))) else (Ze.j5 kj47 l0 l1 a2 a3 a4 t419 t422 (Int.tmod a5 (wrap64 (a4 + 1))))) else (some false)) = some r := H; have A52 := Zc.mk A520; clear A520
                     by_cases c53 : t429 = 0
                     · rw [if_pos c53] at H
                       have c53b0 : (t429 == 0) = true := beq_iff_eq.mpr c53; have c53b1 : (t429 != 0) = false := bne_eq_false_iff_eq.mpr c53; clear c53; have HC54 := Zc.mk H; clear H
                       go_upto_if 132 with (first | ((with_reducible refine Z1 (f := 29) rfl ?_); refine ZQ (some 123) rfl rfl Try.func29 (by kernel_rfl) rfl #[.slice A0 l0.length c0,.int .i64 a2,.int .i64 a3,.int .i64 (Int.tmod a5 (wrap64 (a4 + 1)))] rfl (by (try simp only [List.map_toArray,List.map_cons,List.map_nil]); first | done | rfl | (simp only [List.length_drop,List.length_take]; rfl)) ?_; (with_reducible refine (Z4.calls kj47 _ _ l0 a2 a3 (Int.tmod a5 (wrap64 (a4 + 1))) t427 t428 t429 _ ?side1 ?side2 A52.out).mono ?_); (case side1 => repeat (first | exact (Kd.ZO HR0.out HB.out) | (with_reducible refine Kd.ZA ?_ _) | (with_reducible refine Kd.Z9 ?_ _) | (with_reducible refine Kd.ZI ?_))); (case side2 => exact HC0.out); rintro e w55 ⟨v430,v432,rfl,ho0,ho1,hb⟩; refine ⟨_,rfl,?_⟩; have n0_ := Zc.mk (Kd.ZN (Kd.Xz (Kd.Xz (Kd.R_old (by (with_reducible repeat (first | apply Kd.Zl | apply Kd.Zk | apply Kd.Zs)); exact HO_13.out) hb) (Kd.ZV ho0)) (Kd.ZV ho1)) (fun _ h_ => h_.1)); have n1_ := Zc.mk (Kd.ZN (Kd.Xz (Kd.Xz (Kd.R_old (by (with_reducible repeat (first | apply Kd.Zl | apply Kd.Zk | apply Kd.Zs)); exact HO_14.out) hb) (Kd.ZV ho0)) (Kd.ZV ho1)) (fun _ h_ => h_.1)); have n2_ := Zc.mk (Kd.ZN (Kd.Xz (Kd.Xz (Kd.R_old (by (with_reducible repeat (first | apply Kd.Zl | apply Kd.Zk | apply Kd.Zs)); exact HO_21.out) hb) (Kd.ZV ho0)) (Kd.ZV ho1)) (fun _ h_ => h_.1)); have n3_ := Zc.mk (Kd.Xs (Kd.ZW (Kd.ZW (Kd.ZW ho0 (Kd.R_lt (by (with_reducible repeat (first | apply Kd.Zl | apply Kd.Zk | apply Kd.Zs)); exact HO_13.out))) (Kd.R_lt (by (with_reducible repeat (first | apply Kd.Zl | apply Kd.Zk | apply Kd.Zs)); exact HO_14.out))) (Kd.R_lt (by (with_reducible repeat (first | apply Kd.Zl | apply Kd.Zk | apply Kd.Zs)); exact HO_21.out))) (ZH (by repeat (first | (with_reducible first | exact HB.out | apply Zd | apply Za | apply Zb) | exact HB.out)))); have n4_ := Zc.mk (Kd.Xs (Kd.ZW (Kd.ZW (Kd.ZW ho1 (Kd.R_lt (by (with_reducible repeat (first | apply Kd.Zl | apply Kd.Zk | apply Kd.Zs)); exact HO_13.out))) (Kd.R_lt (by (with_reducible repeat (first | apply Kd.Zl | apply Kd.Zk | apply Kd.Zs)); exact HO_14.out))) (Kd.R_lt (by (with_reducible repeat (first | apply Kd.Zl | apply Kd.Zk | apply Kd.Zs)); exact HO_21.out))) (ZH (by repeat (first | (with_reducible first | exact HB.out | apply Zd | apply Za | apply Zb) | exact HB.out)))); have n5_ := Zc.mk (Z3 (by repeat (first | (with_reducible first | exact HB.out | apply Zd | apply Za | apply Zb) | exact HB.out)) hb); clear HO_13; clear HO_14; clear HO_21; clear HB; have HO_13 := n0_; have HO_14 := n1_; have HO_21 := n2_; have HO431 := n3_; have HO433 := n4_; have HB := n5_; clear n0_ n1_ n2_ n3_ n4_ n5_; (try clear hb); (try clear hb2); (try clear hk); (try clear hi); (try clear ho0); (try clear ho1)))
                       (try simp only [Act.put,YD,YE,YF])
                       go_cut [] (fun wc => ∃ (kq : Nat),Zc (Ze.j5 kq l0 l1 a2 a3 a4 t419 t422 (Int.tmod a5 (wrap64 (a4 + 1))) = some r) ∧ Zc (kq ≤ kj47) ∧ Zc (Kd.R (Kd.int .i64) 3 wc w.heap.size (fun _ => True) v424 t422) ∧ Zc (Below w.heap.size w wc))
                       case first => as_aux_lemma =>
                        have H := HC54.out; clear HC54
                        by_cases c56 : (wrap64 (a3 + (Int.tmod a5 (wrap64 (a4 + 1))))) ≤ 1000000000
                        · rw [if_pos c56] at H
                          have c56b0 : decide ((wrap64 (a3 + (Int.tmod a5 (wrap64 (a4 + 1))))) ≤ 1000000000) = true := decide_eq_true c56; clear c56
                          (first | rw [c56b0] | (simp only [i64_w,i32_w]; rw [c56b0]) | skip)
                          replace H := Option.bind_eq_some_iff.mp H; obtain ⟨⟨t434,t435,t436⟩,A570,H⟩ := H; replace H : (if t436 = 0 then (Ze.l0 kj47 l0 l1 a2 a3 a4 t402 t403 t419 t422 (Int.tmod a5 (wrap64 (a4 + 1))) t427 t428 t434 t435 0) else (some false)) = some r := H; have A57 := Zc.mk A570; clear A570
                          by_cases c58 : t436 = 0
                          · rw [if_pos c58] at H
                            have c58b0 : (t436 == 0) = true := beq_iff_eq.mpr c58; have c58b1 : (t436 != 0) = false := bne_eq_false_iff_eq.mpr c58; clear c58; have H' := Zc.mk H; clear H
                            go_wp2_with (first | ((with_reducible refine Z1 (f := 29) rfl ?_); refine ZQ (some 142) rfl rfl Try.func29 (by kernel_rfl) rfl #[.slice A0 l0.length c0,.int .i64 a2,.int .i64 (wrap64 (a3 + (Int.tmod a5 (wrap64 (a4 + 1))))),.int .i64 (wrap64 (a4 - (Int.tmod a5 (wrap64 (a4 + 1)))))] rfl (by (try simp only [List.map_toArray,List.map_cons,List.map_nil]); first | done | rfl | (simp only [List.length_drop,List.length_take]; rfl)) ?_; (with_reducible refine (Z4.calls kj47 _ _ l0 a2 (wrap64 (a3 + (Int.tmod a5 (wrap64 (a4 + 1))))) (wrap64 (a4 - (Int.tmod a5 (wrap64 (a4 + 1))))) t434 t435 t436 _ ?side1 ?side2 A57.out).mono ?_); (case side1 => repeat (first | exact (Kd.ZO HR0.out HB.out) | (with_reducible refine Kd.ZA ?_ _) | (with_reducible refine Kd.Z9 ?_ _) | (with_reducible refine Kd.ZI ?_))); (case side2 => exact HC0.out); rintro e w59 ⟨v437,v439,rfl,ho0,ho1,hb⟩; refine ⟨_,rfl,?_⟩; have n0_ := Zc.mk (Kd.ZN (Kd.Xz (Kd.Xz (Kd.R_old (by (with_reducible repeat (first | apply Kd.Zl | apply Kd.Zk | apply Kd.Zs)); exact HO_13.out) hb) (Kd.ZV ho0)) (Kd.ZV ho1)) (fun _ h_ => h_.1)); have n1_ := Zc.mk (Kd.ZN (Kd.Xz (Kd.Xz (Kd.R_old (by (with_reducible repeat (first | apply Kd.Zl | apply Kd.Zk | apply Kd.Zs)); exact HO_14.out) hb) (Kd.ZV ho0)) (Kd.ZV ho1)) (fun _ h_ => h_.1)); have n2_ := Zc.mk (Kd.ZN (Kd.Xz (Kd.Xz (Kd.R_old (by (with_reducible repeat (first | apply Kd.Zl | apply Kd.Zk | apply Kd.Zs)); exact HO_21.out) hb) (Kd.ZV ho0)) (Kd.ZV ho1)) (fun _ h_ => h_.1)); have n3_ := Zc.mk (Kd.ZN (Kd.Xz (Kd.Xz (Kd.R_old (by (with_reducible repeat (first | apply Kd.Zl | apply Kd.Zk | apply Kd.Zs)); exact HO431.out) hb) (Kd.ZV ho0)) (Kd.ZV ho1)) (fun _ h_ => h_.1)); have n4_ := Zc.mk (Kd.ZN (Kd.Xz (Kd.Xz (Kd.R_old (by (with_reducible repeat (first | apply Kd.Zl | apply Kd.Zk | apply Kd.Zs)); exact HO433.out) hb) (Kd.ZV ho0)) (Kd.ZV ho1)) (fun _ h_ => h_.1)); have n5_ := Zc.mk (Kd.Xs (Kd.ZW (Kd.ZW (Kd.ZW (Kd.ZW (Kd.ZW ho0 (Kd.R_lt (by (with_reducible repeat (first | apply Kd.Zl | apply Kd.Zk | apply Kd.Zs)); exact HO_13.out))) (Kd.R_lt (by (with_reducible repeat (first | apply Kd.Zl | apply Kd.Zk | apply Kd.Zs)); exact HO_14.out))) (Kd.R_lt (by (with_reducible repeat (first | apply Kd.Zl | apply Kd.Zk | apply Kd.Zs)); exact HO_21.out))) (Kd.R_lt (by (with_reducible repeat (first | apply Kd.Zl | apply Kd.Zk | apply Kd.Zs)); exact HO431.out))) (Kd.R_lt (by (with_reducible repeat (first | apply Kd.Zl | apply Kd.Zk | apply Kd.Zs)); exact HO433.out))) (ZH (by repeat (first | (with_reducible first | exact HB.out | apply Zd | apply Za | apply Zb) | exact HB.out)))); have n6_ := Zc.mk (Kd.Xs (Kd.ZW (Kd.ZW (Kd.ZW (Kd.ZW (Kd.ZW ho1 (Kd.R_lt (by (with_reducible repeat (first | apply Kd.Zl | apply Kd.Zk | apply Kd.Zs)); exact HO_13.out))) (Kd.R_lt (by (with_reducible repeat (first | apply Kd.Zl | apply Kd.Zk | apply Kd.Zs)); exact HO_14.out))) (Kd.R_lt (by (with_reducible repeat (first | apply Kd.Zl | apply Kd.Zk | apply Kd.Zs)); exact HO_21.out))) (Kd.R_lt (by (with_reducible repeat (first | apply Kd.Zl | apply Kd.Zk | apply Kd.Zs)); exact HO431.out))) (Kd.R_lt (by (with_reducible repeat (first | apply Kd.Zl | apply Kd.Zk | apply Kd.Zs)); exact HO433.out))) (ZH (by repeat (first | (with_reducible first | exact HB.out | apply Zd | apply Za | apply Zb) | exact HB.out)))); have n7_ := Zc.mk (Z3 (by repeat (first | (with_reducible first | exact HB.out | apply Zd | apply Za | apply Zb) | exact HB.out)) hb); clear HO_13; clear HO_14; clear HO_21; clear HO431; clear HO433; clear HB; have HO_13 := n0_; have HO_14 := n1_; have HO_21 := n2_; have HO431 := n3_; have HO433 := n4_; have HO438 := n5_; have HO440 := n6_; have HB := n7_; clear n0_ n1_ n2_ n3_ n4_ n5_ n6_ n7_; (try clear hb); (try clear hb2); (try clear hk); (try clear hi); (try clear ho0); (try clear ho1)))
                            go_loopg [24,25,29] kj47 (fun kq v24 v25 v29 w' => ∃ (x24_5 : List Int) (x25_5 : List Int) (x29_5 : Int),v29 = .int .i64 x29_5 ∧ Zc (Ze.l0 kq l0 l1 a2 a3 a4 t402 t403 t419 t422 (Int.tmod a5 (wrap64 (a4 + 1))) x24_5 x25_5 t434 t435 x29_5 = some r) ∧ Zc (kq ≤ kj47) ∧ Zc (Kd.R (Kd.int .i64) 3 w' w.heap.size (fun k_ => some k_ ≠ (v407 : Value).ownBlock ∧ some k_ ≠ (v424 : Value).ownBlock ∧ some k_ ≠ (v24 : Value).ownBlock ∧ some k_ ≠ (v25 : Value).ownBlock ∧ some k_ ≠ (v437 : Value).ownBlock ∧ some k_ ≠ (v439 : Value).ownBlock) v405 t402) ∧ Zc (Kd.R (Kd.int .i64) 3 w' w.heap.size (fun k_ => some k_ ≠ (v405 : Value).ownBlock ∧ some k_ ≠ (v424 : Value).ownBlock ∧ some k_ ≠ (v24 : Value).ownBlock ∧ some k_ ≠ (v25 : Value).ownBlock ∧ some k_ ≠ (v437 : Value).ownBlock ∧ some k_ ≠ (v439 : Value).ownBlock) v407 t403) ∧ Zc (Kd.R (Kd.int .i64) 3 w' w.heap.size (fun k_ => some k_ ≠ (v405 : Value).ownBlock ∧ some k_ ≠ (v407 : Value).ownBlock ∧ some k_ ≠ (v24 : Value).ownBlock ∧ some k_ ≠ (v25 : Value).ownBlock ∧ some k_ ≠ (v437 : Value).ownBlock ∧ some k_ ≠ (v439 : Value).ownBlock) v424 t422) ∧ Zc (Kd.R (Kd.int .i64) 3 w' w.heap.size (fun k_ => some k_ ≠ (v405 : Value).ownBlock ∧ some k_ ≠ (v407 : Value).ownBlock ∧ some k_ ≠ (v424 : Value).ownBlock ∧ some k_ ≠ (v25 : Value).ownBlock ∧ some k_ ≠ (v437 : Value).ownBlock ∧ some k_ ≠ (v439 : Value).ownBlock) v24 x24_5) ∧ Zc (Kd.R (Kd.int .i64) 3 w' w.heap.size (fun k_ => some k_ ≠ (v405 : Value).ownBlock ∧ some k_ ≠ (v407 : Value).ownBlock ∧ some k_ ≠ (v424 : Value).ownBlock ∧ some k_ ≠ (v24 : Value).ownBlock ∧ some k_ ≠ (v437 : Value).ownBlock ∧ some k_ ≠ (v439 : Value).ownBlock) v25 x25_5) ∧ Zc (Kd.R (Kd.int .i64) 3 w' w.heap.size (fun k_ => some k_ ≠ (v405 : Value).ownBlock ∧ some k_ ≠ (v407 : Value).ownBlock ∧ some k_ ≠ (v424 : Value).ownBlock ∧ some k_ ≠ (v24 : Value).ownBlock ∧ some k_ ≠ (v25 : Value).ownBlock ∧ some k_ ≠ (v439 : Value).ownBlock) v437 t434) ∧ Zc (Kd.R (Kd.int .i64) 3 w' w.heap.size (fun k_ => some k_ ≠ (v405 : Value).ownBlock ∧ some k_ ≠ (v407 : Value).ownBlock ∧ some k_ ≠ (v424 : Value).ownBlock ∧ some k_ ≠ (v24 : Value).ownBlock ∧ some k_ ≠ (v25 : Value).ownBlock ∧ some k_ ≠ (v437 : Value).ownBlock) v439 t435) ∧ Zc (Below w.heap.size w w'))
                            case atStart => exact ⟨(t427),(t428),(0),(by first | rfl | (simp; done) | (simp [*]; done)),H',⟨Nat.le_refl _⟩,⟨by (with_reducible repeat (first | apply Kd.Zl | apply Kd.Zk | apply Kd.Zs)); exact Kd.ZN HO_13.out (fun _ hk => ⟨hk.1.1.1.1.1,⟨hk.1.1.1.1.2,⟨hk.1.1.1.2,⟨hk.1.1.2,⟨hk.1.2,hk.2⟩⟩⟩⟩⟩)⟩,⟨by (with_reducible repeat (first | apply Kd.Zl | apply Kd.Zk | apply Kd.Zs)); exact Kd.ZN HO_14.out (fun _ hk => ⟨hk.1.1.1.1.1,⟨hk.1.1.1.1.2,⟨hk.1.1.1.2,⟨hk.1.1.2,⟨hk.1.2,hk.2⟩⟩⟩⟩⟩)⟩,⟨by (with_reducible repeat (first | apply Kd.Zl | apply Kd.Zk | apply Kd.Zs)); exact Kd.ZN HO_21.out (fun _ hk => ⟨hk.1.1.1.1.1,⟨hk.1.1.1.1.2,⟨hk.1.1.1.2,⟨hk.1.1.2,⟨hk.1.2,hk.2⟩⟩⟩⟩⟩)⟩,⟨by (with_reducible repeat (first | apply Kd.Zl | apply Kd.Zk | apply Kd.Zs)); exact Kd.ZN HO431.out (fun _ hk => ⟨hk.1.1.1.1.2,⟨hk.1.1.1.2,⟨hk.1.1.2,⟨hk.1.1.1.1.1,⟨hk.1.2,hk.2⟩⟩⟩⟩⟩)⟩,⟨by (with_reducible repeat (first | apply Kd.Zl | apply Kd.Zk | apply Kd.Zs)); exact Kd.ZN HO433.out (fun _ hk => ⟨hk.1.1.1.1.2,⟨hk.1.1.1.2,⟨hk.1.1.2,⟨hk.1.1.1.1.1,⟨hk.1.2,hk.2⟩⟩⟩⟩⟩)⟩,⟨by (with_reducible repeat (first | apply Kd.Zl | apply Kd.Zk | apply Kd.Zs)); exact Kd.ZN HO438.out (fun _ hk => ⟨hk.1.1.1.1.2,⟨hk.1.1.1.2,⟨hk.1.1.2,⟨hk.1.2,⟨hk.2,hk.1.1.1.1.1⟩⟩⟩⟩⟩)⟩,⟨by (with_reducible repeat (first | apply Kd.Zl | apply Kd.Zk | apply Kd.Zs)); exact Kd.ZN HO440.out (fun _ hk => ⟨hk.1.1.1.1.2,⟨hk.1.1.1.2,⟨hk.1.1.2,⟨hk.1.2,⟨hk.2,hk.1.1.1.1.1⟩⟩⟩⟩⟩)⟩,⟨by repeat (first | (with_reducible first | exact HB.out | apply Zd | apply Za | apply Zb) | exact HB.out)⟩⟩
                            case round =>
                             clear H'
                             (try clear c1); (try clear c2); (try clear p2); (try clear c3); (try clear c4); (try clear c5); (try clear p6); (try clear c7); (try clear c8); (try clear c9); (try clear c10); (try clear c12); (try clear c13); (try clear c13b0); (try clear c14); (try clear c14b0); (try clear c15); (try clear c22); (try clear c24); (try clear c29); (try clear c30); (try clear c31); (try clear c32); (try clear c33); (try clear c35); (try clear c42); (try clear c47); (try clear c49); (try clear c49b0); (try clear c50); (try clear c51); (try clear c51b0); (try clear c51b1); (try clear c53); (try clear c53b0); (try clear c53b1); (try clear c56); (try clear c56b0); (try clear c58); (try clear c58b0); (try clear c58b1); (try clear p2)
                             obtain ⟨x24_5,x25_5,x29_5,rfl,HA,HK5,HO_13,HO_14,HO_21,HO_24,HO_25,HO_26,HO_27,HB⟩ := hrel
                             cases gk with
                             | zero => exact absurd HA.out (by simp [Ze.l0])
                             | succ k5 =>
                              have H := HA.out; clear HA; simp only [Ze.l0] at H
                              by_cases c60 : x29_5 < (t435.length : Int)
                              · rw [if_pos c60] at H
                                have c60b0 : decide (x29_5 < (t435.length : Int)) = true := decide_eq_true c60; clear c60
                                by_cases c61 : 0 ≤ x29_5
                                · rw [if_pos c61] at H
                                  have c61b0 : decide (0 ≤ x29_5) = true := decide_eq_true c61; clear c61
                                  by_cases c62 : x29_5 < (t434.length : Int)
                                  · rw [if_pos c62] at H
                                    have c62b0 : decide (x29_5 < (t434.length : Int)) = true := decide_eq_true c62; clear c62
                                    obtain ⟨y442,hy442⟩ : ∃ y_ : List Int,y_ = (([rd t434 x29_5] : List Int)) := ⟨_,rfl⟩
                                    replace H : (if x24_5.length + y442.length < 17592186044416 then ((some (([wrap64 ((rd t435 x29_5) + (Int.tmod a5 (wrap64 (a4 + 1))))] : List Int) : List Int)).bind fun y449 => (if x25_5.length + y449.length < 17592186044416 then (Ze.l0 k5 l0 l1 a2 a3 a4 t402 t403 t419 t422 (Int.tmod a5 (wrap64 (a4 + 1))) (x24_5 ++ y442) (x25_5 ++ y449) t434 t435 (wrap64 (x29_5 + 1))) else (none))) else (none)) = some r := by first | (rw [hy442]; with_reducible exact H) | (have H2_ := (Option.bind_some _ _).symm.trans H; rw [hy442]; with_reducible exact H2_) | (have H2_ := (Option.bind_some _ _).symm.trans H; with_reducible exact H2_) | with_reducible exact H | (rw [hy442]; exact H) | exact H
                                    have Ny442 := Zc.mk hy442; clear hy442
                                    by_cases c63 : x24_5.length + y442.length < 17592186044416
                                    · rw [if_pos c63] at H
                                      have LMc63 := Zc.mk c63; clear c63
                                      obtain ⟨y445,hy445⟩ : ∃ y_ : List Int,y_ = (x24_5 ++ y442) := ⟨_,rfl⟩
                                      replace H : ((some (([wrap64 ((rd t435 x29_5) + (Int.tmod a5 (wrap64 (a4 + 1))))] : List Int) : List Int)).bind fun y449 => (if x25_5.length + y449.length < 17592186044416 then (Ze.l0 k5 l0 l1 a2 a3 a4 t402 t403 t419 t422 (Int.tmod a5 (wrap64 (a4 + 1))) y445 (x25_5 ++ y449) t434 t435 (wrap64 (x29_5 + 1))) else (none))) = some r := by first | (rw [hy445]; with_reducible exact H) | (have H2_ := (Option.bind_some _ _).symm.trans H; rw [hy445]; with_reducible exact H2_) | (have H2_ := (Option.bind_some _ _).symm.trans H; with_reducible exact H2_) | with_reducible exact H | (rw [hy445]; exact H) | exact H
                                      have Ny445 := Zc.mk hy445; clear hy445
                                      obtain ⟨y449,hy449⟩ : ∃ y_ : List Int,y_ = (([wrap64 ((rd t435 x29_5) + (Int.tmod a5 (wrap64 (a4 + 1))))] : List Int)) := ⟨_,rfl⟩
                                      replace H : (if x25_5.length + y449.length < 17592186044416 then (Ze.l0 k5 l0 l1 a2 a3 a4 t402 t403 t419 t422 (Int.tmod a5 (wrap64 (a4 + 1))) y445 (x25_5 ++ y449) t434 t435 (wrap64 (x29_5 + 1))) else (none)) = some r := by first | (rw [hy449]; with_reducible exact H) | (have H2_ := (Option.bind_some _ _).symm.trans H; rw [hy449]; with_reducible exact H2_) | (have H2_ := (Option.bind_some _ _).symm.trans H; with_reducible exact H2_) | with_reducible exact H | (rw [hy449]; exact H) | exact H
                                      have Ny449 := Zc.mk hy449; clear hy449
                                      by_cases c64 : x25_5.length + y449.length < 17592186044416
                                      · rw [if_pos c64] at H
                                        have LMc64 := Zc.mk c64; clear c64
                                        obtain ⟨y452,hy452⟩ : ∃ y_ : List Int,y_ = (x25_5 ++ y449) := ⟨_,rfl⟩
                                        replace H : (Ze.l0 k5 l0 l1 a2 a3 a4 t402 t403 t419 t422 (Int.tmod a5 (wrap64 (a4 + 1))) y445 y452 t434 t435 (wrap64 (x29_5 + 1))) = some r := by first | (rw [hy452]; with_reducible exact H) | (have H2_ := (Option.bind_some _ _).symm.trans H; rw [hy452]; with_reducible exact H2_) | (have H2_ := (Option.bind_some _ _).symm.trans H; with_reducible exact H2_) | with_reducible exact H | (rw [hy452]; exact H) | exact H
                                        have Ny452 := Zc.mk hy452; clear hy452; have H' := Zc.mk H; clear H; obtain ⟨Ao65,co65,eo65⟩ := Kd.Xd HO_27.out; subst eo65; obtain ⟨Ao66,co66,eo66⟩ := Kd.Xd HO_24.out; subst eo66; obtain ⟨Ao67,co67,eo67⟩ := Kd.Xd HO_25.out; subst eo67
                                        try go_wp2
                                        have n0_ := Zc.mk (Kd.Zs HO_13.out); have n1_ := Zc.mk (Kd.Zs HO_14.out); have n2_ := Zc.mk (Kd.Zs HO_21.out); have n3_ := Zc.mk (Kd.Zs HO_24.out); have n4_ := Zc.mk (Kd.Zs HO_25.out); have n5_ := Zc.mk (Kd.Zs HO_26.out); have n6_ := Zc.mk (Kd.Zs HO_27.out); have n7_ := Zc.mk (Zb HB.out); clear HO_13; clear HO_14; clear HO_21; clear HO_24; clear HO_25; clear HO_26; clear HO_27; clear HB; have HO_13 := n0_; have HO_14 := n1_; have HO_21 := n2_; have HO_24 := n3_; have HO_25 := n4_; have HO_26 := n5_; have HO_27 := n6_; have HB := n7_; clear n0_ n1_ n2_ n3_ n4_ n5_ n6_ n7_; obtain ⟨Ao69,co69,eo69⟩ := Kd.Xd HO_26.out
                                        (first | subst eo69 | (injection eo69 with f1_ f2_ f3_; have f4_ := f1_.symm; have f5_ := f3_.symm; clear f1_ f2_ f3_; subst f4_; subst f5_))
                                        have p441 : 0 ≤ (x29_5 : Int) := of_decide_eq_true (by first | (with_reducible assumption) | assumption); have q441 : x29_5 < (t434.length : Int) := of_decide_eq_true (by first | (with_reducible assumption) | assumption); obtain ⟨ad441,e441,hx441_0⟩ := Kd.Qv (Kd.ZL HO_26.out).2.2 x29_5 p441 q441
                                        cases e441
                                        replace p441 := eq_true p441; replace q441 := eq_true q441; have p448 : 0 ≤ (x29_5 : Int) := of_decide_eq_true (by first | (with_reducible assumption) | assumption); have q448 : x29_5 < (t435.length : Int) := of_decide_eq_true (by first | (with_reducible assumption) | assumption); obtain ⟨ad448,e448,hx448_0⟩ := Kd.Qv (Kd.ZL HO_27.out).2.2 x29_5 p448 q448
                                        cases e448
                                        replace p448 := eq_true p448; replace q448 := eq_true q448; refine XC (n := 18) (S := fun w' => w'.cell? (ad441.add (x29_5).toNat) = some (.int .i64 (rd t434 x29_5)) ∧ w'.cell? (ad448.add (x29_5).toNat) = some (.int .i64 (rd t435 x29_5))) (ds := []) #[G,G,G,G,G,G,G,G,G,G,G,G,G,G,G,G,G,G] (by kernel_rfl) rfl rfl ⟨hx441_0,hx448_0⟩ (fun hHeld => ?_); refine X1 Ze.tab26 Ze.bits26 (fun HT_ HW_ => ?_); generalize wr.drew = w68 at HO_13 HO_14 HO_21 HO_24 HO_25 HO_26 HO_27 HB hx441_0 hx448_0 hHeld ⊢; refine pure_ (i := 0) (N := some 154) (v := ?_) (a' := ?_) #[O,G,G,G,G,G,G,G,G,G,G,G,G,G,G,G,G,G] rfl rfl (Zp HT_.out (by kernel_rfl)) (fun _ _ _ h => h) (Or.inl ⟨by rfl,?_⟩) ?_ ?_; rotate_left
                                        · intro w'
                                          go_simp; with_reducible rfl
                                        rotate_left
                                        · simp only [Act.put,YD,YE,YF,i64_w,i32_w]
                                          rfl
                                        refine pure_ (i := 1) (N := some 155) (v := ?_) (a' := ?_) #[O,O,G,G,G,G,G,G,G,G,G,G,G,G,G,G,G,G] rfl rfl (Zp HT_.out (by kernel_rfl)) (fun _ _ _ h => h) (Or.inl ⟨by rfl,?_⟩) ?_ ?_; rotate_left
                                        · intro w'
                                          go_simp; with_reducible rfl
                                        rotate_left
                                        · simp only [Act.put,YD,YE,YF,i64_w,i32_w]
                                          rfl
                                        refine pure_ (i := 2) (N := some 156) (v := ?_) (a' := ?_) #[O,O,O,G,G,G,G,G,G,G,G,G,G,G,G,G,G,G] rfl rfl (Zp HT_.out (by kernel_rfl)) (fun _ _ _ h => h) (Or.inl ⟨by rfl,?_⟩) ?_ ?_; rotate_left
                                        · intro w'
                                          go_simp; with_reducible rfl
                                        rotate_left
                                        · simp only [Act.put,YD,YE,YF,i64_w,i32_w]
                                          rfl
                                        refine pure_ (i := 3) (N := some 157) (v := ?_) (a' := ?_) #[O,O,O,O,G,G,G,G,G,G,G,G,G,G,G,G,G,G] rfl rfl (Zp HT_.out (by kernel_rfl)) (fun _ _ _ h => h) (Or.inl ⟨by rfl,?_⟩) ?_ ?_; rotate_left
                                        · intro w'
                                          go_simp; with_reducible rfl
                                        rotate_left
                                        · simp only [Act.put,YD,YE,YF,i64_w,i32_w]
                                          rfl
                                        refine pure_ (i := 7) (N := some 161) (v := ?_) (a' := ?_) #[O,O,O,O,G,G,G,O,G,G,G,G,G,G,G,G,G,G] rfl rfl (Zp HT_.out (by kernel_rfl)) (fun _ _ _ h => h) (Or.inl ⟨by rfl,?_⟩) ?_ ?_; rotate_left
                                        · intro w'
                                          go_simp; with_reducible rfl
                                        rotate_left
                                        · simp only [Act.put,YD,YE,YF,i64_w,i32_w]
                                          rfl
                                        refine pure_ (i := 8) (N := some 162) (v := ?_) (a' := ?_) #[O,O,O,O,G,G,G,O,O,G,G,G,G,G,G,G,G,G] rfl rfl (Zp HT_.out (by kernel_rfl)) (fun _ _ _ h => h) (Or.inl ⟨by rfl,?_⟩) ?_ ?_; rotate_left
                                        · intro w'
                                          go_simp; with_reducible rfl
                                        rotate_left
                                        · simp only [Act.put,YD,YE,YF,i64_w,i32_w]
                                          rfl
                                        refine pure_ (i := 9) (N := some 163) (v := ?_) (a' := ?_) #[O,O,O,O,G,G,G,O,O,O,G,G,G,G,G,G,G,G] rfl rfl (Zp HT_.out (by kernel_rfl)) (fun _ _ _ h => h) (Or.inl ⟨by rfl,?_⟩) ?_ ?_; rotate_left
                                        · intro w'
                                          go_simp; with_reducible rfl
                                        rotate_left
                                        · simp only [Act.put,YD,YE,YF,i64_w,i32_w]
                                          rfl
                                        refine pure_ (i := 10) (N := some 164) (v := ?_) (a' := ?_) #[O,O,O,O,G,G,G,O,O,O,O,G,G,G,G,G,G,G] rfl rfl (Zp HT_.out (by kernel_rfl)) (fun _ _ _ h => h) (Or.inl ⟨by rfl,?_⟩) ?_ ?_; rotate_left
                                        · intro w'
                                          go_simp; with_reducible rfl
                                        rotate_left
                                        · simp only [Act.put,YD,YE,YF,i64_w,i32_w]
                                          rfl
                                        refine pure_ (i := 12) (N := some 166) (v := ?_) (a' := ?_) #[O,O,O,O,G,G,G,O,O,O,O,G,O,G,G,G,G,G] rfl rfl (Zp HT_.out (by kernel_rfl)) (fun _ _ _ h => h) (Or.inl ⟨by rfl,?_⟩) ?_ ?_; rotate_left
                                        · intro w'
                                          go_simp; with_reducible rfl
                                        rotate_left
                                        · simp only [Act.put,YD,YE,YF,i64_w,i32_w]
                                          rfl
                                        refine take_ (i := 4) (N := some 158) (v := ?_) (a' := ?_) #[O,O,O,O,O,G,G,O,O,O,O,G,O,G,G,G,G,G] rfl rfl (Xe HT_.out HW_.out (by kernel_rfl)) (fun _ _ _ h => h) (Or.inl ⟨by rfl,?_⟩) hHeld ?_ ?_; rotate_left
                                        · rintro w' ⟨s0,s1⟩
                                          go_simp; with_reducible rfl
                                        rotate_left
                                        · simp only [Act.put,YD,YE,YF,i64_w,i32_w]
                                          rfl
                                        refine take_ (i := 11) (N := some 165) (v := ?_) (a' := ?_) #[O,O,O,O,O,G,G,O,O,O,O,O,O,G,G,G,G,G] rfl rfl (Xe HT_.out HW_.out (by kernel_rfl)) (fun _ _ _ h => h) (Or.inl ⟨by rfl,?_⟩) hHeld ?_ ?_; rotate_left
                                        · rintro w' ⟨s0,s1⟩
                                          go_simp; with_reducible rfl
                                        rotate_left
                                        · simp only [Act.put,YD,YE,YF,i64_w,i32_w]
                                          rfl
                                        refine pure_ (i := 13) (N := some 167) (v := ?_) (a' := ?_) #[O,O,O,O,O,G,G,O,O,O,O,O,O,O,G,G,G,G] rfl rfl (Zp HT_.out (by kernel_rfl)) (fun _ _ _ h => h) (Or.inl ⟨by rfl,?_⟩) ?_ ?_; rotate_left
                                        · intro w'
                                          go_simp; with_reducible rfl
                                        rotate_left
                                        · simp only [Act.put,YD,YE,YF,i64_w,i32_w]
                                          rfl
                                        refine join_ (σ := Value × Value × Value) 3 #[O,O,O,O,O,O,O,O,O,O,O,O,O,O,O,G,G,G] (fun s_ => [(159,s_.1),(160,s_.2.1),(168,s_.2.2)]) (fun s_ w' => (w'.cell? (ad441.add (x29_5).toNat) = some (.int .i64 (rd t434 x29_5)) ∧ w'.cell? (ad448.add (x29_5).toNat) = some (.int .i64 (rd t435 x29_5))) ∧ (Kd.R (Kd.int .i64) 3 w' w.heap.size (fun k_ => some k_ ≠ (s_.2.1 : Value).ownBlock ∧ some k_ ≠ (s_.2.2 : Value).ownBlock ∧ some k_ ≠ (v405 : Value).ownBlock ∧ some k_ ≠ (v407 : Value).ownBlock ∧ some k_ ≠ (v424 : Value).ownBlock ∧ some k_ ≠ (.slice Ao67 x25_5.length co67 : Value).ownBlock ∧ some k_ ≠ (.slice (some ad441) t434.length co69 : Value).ownBlock ∧ some k_ ≠ (.slice (some ad448) t435.length co65 : Value).ownBlock) s_.1 y442) ∧ (Kd.R (Kd.int .i64) 3 w' w.heap.size (fun k_ => some k_ ≠ (s_.1 : Value).ownBlock ∧ some k_ ≠ (s_.2.2 : Value).ownBlock ∧ some k_ ≠ (v405 : Value).ownBlock ∧ some k_ ≠ (v407 : Value).ownBlock ∧ some k_ ≠ (v424 : Value).ownBlock ∧ some k_ ≠ (.slice Ao67 x25_5.length co67 : Value).ownBlock ∧ some k_ ≠ (.slice (some ad441) t434.length co69 : Value).ownBlock ∧ some k_ ≠ (.slice (some ad448) t435.length co65 : Value).ownBlock) s_.2.1 y445) ∧ (Kd.R (Kd.int .i64) 3 w' w.heap.size (fun k_ => some k_ ≠ (s_.1 : Value).ownBlock ∧ some k_ ≠ (s_.2.1 : Value).ownBlock ∧ some k_ ≠ (v405 : Value).ownBlock ∧ some k_ ≠ (v407 : Value).ownBlock ∧ some k_ ≠ (v424 : Value).ownBlock ∧ some k_ ≠ (.slice Ao67 x25_5.length co67 : Value).ownBlock ∧ some k_ ≠ (.slice (some ad441) t434.length co69 : Value).ownBlock ∧ some k_ ≠ (.slice (some ad448) t435.length co65 : Value).ownBlock) s_.2.2 y449) ∧ (Kd.R (Kd.int .i64) 3 w' w.heap.size (fun k_ => some k_ ≠ (s_.1 : Value).ownBlock ∧ some k_ ≠ (s_.2.1 : Value).ownBlock ∧ some k_ ≠ (s_.2.2 : Value).ownBlock ∧ some k_ ≠ (v407 : Value).ownBlock ∧ some k_ ≠ (v424 : Value).ownBlock ∧ some k_ ≠ (.slice Ao67 x25_5.length co67 : Value).ownBlock ∧ some k_ ≠ (.slice (some ad441) t434.length co69 : Value).ownBlock ∧ some k_ ≠ (.slice (some ad448) t435.length co65 : Value).ownBlock) v405 t402) ∧ (Kd.R (Kd.int .i64) 3 w' w.heap.size (fun k_ => some k_ ≠ (s_.1 : Value).ownBlock ∧ some k_ ≠ (s_.2.1 : Value).ownBlock ∧ some k_ ≠ (s_.2.2 : Value).ownBlock ∧ some k_ ≠ (v405 : Value).ownBlock ∧ some k_ ≠ (v424 : Value).ownBlock ∧ some k_ ≠ (.slice Ao67 x25_5.length co67 : Value).ownBlock ∧ some k_ ≠ (.slice (some ad441) t434.length co69 : Value).ownBlock ∧ some k_ ≠ (.slice (some ad448) t435.length co65 : Value).ownBlock) v407 t403) ∧ (Kd.R (Kd.int .i64) 3 w' w.heap.size (fun k_ => some k_ ≠ (s_.1 : Value).ownBlock ∧ some k_ ≠ (s_.2.1 : Value).ownBlock ∧ some k_ ≠ (s_.2.2 : Value).ownBlock ∧ some k_ ≠ (v405 : Value).ownBlock ∧ some k_ ≠ (v407 : Value).ownBlock ∧ some k_ ≠ (.slice Ao67 x25_5.length co67 : Value).ownBlock ∧ some k_ ≠ (.slice (some ad441) t434.length co69 : Value).ownBlock ∧ some k_ ≠ (.slice (some ad448) t435.length co65 : Value).ownBlock) v424 t422) ∧ (Kd.R (Kd.int .i64) 3 w' w.heap.size (fun k_ => some k_ ≠ (s_.1 : Value).ownBlock ∧ some k_ ≠ (s_.2.1 : Value).ownBlock ∧ some k_ ≠ (s_.2.2 : Value).ownBlock ∧ some k_ ≠ (v405 : Value).ownBlock ∧ some k_ ≠ (v407 : Value).ownBlock ∧ some k_ ≠ (v424 : Value).ownBlock ∧ some k_ ≠ (.slice (some ad441) t434.length co69 : Value).ownBlock ∧ some k_ ≠ (.slice (some ad448) t435.length co65 : Value).ownBlock) (.slice Ao67 x25_5.length co67) x25_5) ∧ (Kd.R (Kd.int .i64) 3 w' w.heap.size (fun k_ => some k_ ≠ (s_.1 : Value).ownBlock ∧ some k_ ≠ (s_.2.1 : Value).ownBlock ∧ some k_ ≠ (s_.2.2 : Value).ownBlock ∧ some k_ ≠ (v405 : Value).ownBlock ∧ some k_ ≠ (v407 : Value).ownBlock ∧ some k_ ≠ (v424 : Value).ownBlock ∧ some k_ ≠ (.slice Ao67 x25_5.length co67 : Value).ownBlock ∧ some k_ ≠ (.slice (some ad448) t435.length co65 : Value).ownBlock) (.slice (some ad441) t434.length co69) t434) ∧ (Kd.R (Kd.int .i64) 3 w' w.heap.size (fun k_ => some k_ ≠ (s_.1 : Value).ownBlock ∧ some k_ ≠ (s_.2.1 : Value).ownBlock ∧ some k_ ≠ (s_.2.2 : Value).ownBlock ∧ some k_ ≠ (v405 : Value).ownBlock ∧ some k_ ≠ (v407 : Value).ownBlock ∧ some k_ ≠ (v424 : Value).ownBlock ∧ some k_ ≠ (.slice Ao67 x25_5.length co67 : Value).ownBlock ∧ some k_ ≠ (.slice (some ad441) t434.length co69 : Value).ownBlock) (.slice (some ad448) t435.length co65) t435) ∧ (Below w.heap.size w w')) ?_ ?_; rotate_left
                                        · intro hCont
                                          refine two_ (i := 5) (j := 14) (Ni := some 159) (Nj := some 168) #[O,O,O,O,O,O,G,O,O,O,O,O,O,O,G,G,G,G] #[O,O,O,O,O,G,G,O,O,O,O,O,O,O,O,G,G,G] rfl rfl rfl rfl (YA HT_.out (by kernel_rfl)) (by decide) (by decide) (fun K hK => ?_) (fun K hK => ?_)
                                          · skip
                                            refine Kd.XW (Kd.int .i64) _ 3 ?hg (N := 159) ?hd (xs := ([rd t434 x29_5] : List Int)) (inner := [.int .i64 (rd t434 x29_5)]) (ok := fun _ => True) (okp := fun _ => True) ?hr ?hp (fun _ hk => hk) trivial (Below.refl _ _) (Nat.le_refl _) (by simp) ?_; (case hd => rfl); (case hg => rfl); (case hr => first | (go_simp; done) | (go_simp; rfl)); (case hp => exact (Reps.one (show Kd.M (Kd.int .i64) _ _ _ (rd t434 x29_5) [.int .i64 (rd t434 x29_5)] from rfl) (Reps.none _ _))); intro v443 w70 ho71 hb hg_ hnew_; have HS0_ := (hb.cell (World.block_lt_of_cell? _ _ (hHeld.1))).trans (hHeld.1); have HS1_ := (hb.cell (World.block_lt_of_cell? _ _ (hHeld.2))).trans (hHeld.2); clear hg_ hnew_
                                            (first | rw [← Ny442.out] at ho71 | (simp only [Int.reduceToNat] at ho71; rw [← Ny442.out] at ho71))
                                            have n0_ := Zc.mk (Kd.Xb (by (with_reducible repeat (first | apply Kd.Zl | apply Kd.Zk | apply Kd.Zs)); exact HO_13.out) (Kd.ZV ho71) hb); have n1_ := Zc.mk (Kd.Xb (by (with_reducible repeat (first | apply Kd.Zl | apply Kd.Zk | apply Kd.Zs)); exact HO_14.out) (Kd.ZV ho71) hb); have n2_ := Zc.mk (Kd.Xb (by (with_reducible repeat (first | apply Kd.Zl | apply Kd.Zk | apply Kd.Zs)); exact HO_21.out) (Kd.ZV ho71) hb); have n3_ := Zc.mk (Kd.Xb (by (with_reducible repeat (first | apply Kd.Zl | apply Kd.Zk | apply Kd.Zs)); exact HO_24.out) (Kd.ZV ho71) hb); have n4_ := Zc.mk (Kd.Xb (by (with_reducible repeat (first | apply Kd.Zl | apply Kd.Zk | apply Kd.Zs)); exact HO_25.out) (Kd.ZV ho71) hb); have n5_ := Zc.mk (Kd.Xb (by (with_reducible repeat (first | apply Kd.Zl | apply Kd.Zk | apply Kd.Zs)); exact HO_26.out) (Kd.ZV ho71) hb); have n6_ := Zc.mk (Kd.Xb (by (with_reducible repeat (first | apply Kd.Zl | apply Kd.Zk | apply Kd.Zs)); exact HO_27.out) (Kd.ZV ho71) hb); have n7_ := Zc.mk (Kd.Xs (Kd.ZW (Kd.ZW (Kd.ZW (Kd.ZW (Kd.ZW (Kd.ZW (Kd.ZW ho71 (Kd.R_lt (by (with_reducible repeat (first | apply Kd.Zl | apply Kd.Zk | apply Kd.Zs)); exact HO_13.out))) (Kd.R_lt (by (with_reducible repeat (first | apply Kd.Zl | apply Kd.Zk | apply Kd.Zs)); exact HO_14.out))) (Kd.R_lt (by (with_reducible repeat (first | apply Kd.Zl | apply Kd.Zk | apply Kd.Zs)); exact HO_21.out))) (Kd.R_lt (by (with_reducible repeat (first | apply Kd.Zl | apply Kd.Zk | apply Kd.Zs)); exact HO_24.out))) (Kd.R_lt (by (with_reducible repeat (first | apply Kd.Zl | apply Kd.Zk | apply Kd.Zs)); exact HO_25.out))) (Kd.R_lt (by (with_reducible repeat (first | apply Kd.Zl | apply Kd.Zk | apply Kd.Zs)); exact HO_26.out))) (Kd.R_lt (by (with_reducible repeat (first | apply Kd.Zl | apply Kd.Zk | apply Kd.Zs)); exact HO_27.out))) (ZH (by repeat (first | (with_reducible first | exact HB.out | apply Zd | apply Za | apply Zb) | exact HB.out)))); have n8_ := Zc.mk (Z3 (by repeat (first | (with_reducible first | exact HB.out | apply Zd | apply Za | apply Zb) | exact HB.out)) hb); clear HO_13; clear HO_14; clear HO_21; clear HO_24; clear HO_25; clear HO_26; clear HO_27; clear HB; have HO_13 := n0_; have HO_14 := n1_; have HO_21 := n2_; have HO_24 := n3_; have HO_25 := n4_; have HO_26 := n5_; have HO_27 := n6_; have HO444 := n7_; have HB := n8_; clear n0_ n1_ n2_ n3_ n4_ n5_ n6_ n7_ n8_; clear hb ho71; obtain ⟨Ao73,co73,eo73⟩ := Kd.Xd HO444.out
                                            (first | subst eo73 | (injection eo73 with f1_ f2_ f3_; have f4_ := f1_.symm; have f5_ := f3_.symm; clear f1_ f2_ f3_; subst f4_; subst f5_))
                                            refine hK.out _ _ ⟨HS0_,HS1_⟩ (fun hHeld => ?_); clear hK K; refine norm_ (a' := ?_) ?_ ?_; rotate_left
                                            · show Act.put _ (some 159) _ = _
                                              simp only [Act.put,YD,YE,YF,i64_w,i32_w]; rfl
                                            refine two_ (i := 6) (j := 14) (Ni := some 160) (Nj := some 168) #[O,O,O,O,O,O,O,O,O,O,O,O,O,O,G,G,G,G] #[O,O,O,O,O,O,G,O,O,O,O,O,O,O,O,G,G,G] rfl rfl rfl rfl (YA HT_.out (by kernel_rfl)) (by decide) (by decide) (fun K hK => ?_) (fun K hK => ?_)
                                            · skip
                                              refine Kd.XE (Kd.int .i64) (w0 := w) w.heap.size (by rfl) (.tmp 154) (.tmp 159) 46 3 (.int .i64 0) 8 rfl Try.underlying46 info3 rfl (by decide) (by omega) (.slice Ao66 x24_5.length co66) x24_5 y442 _ _ _ (fun k_ => some k_ ≠ (v405 : Value).ownBlock ∧ some k_ ≠ (v407 : Value).ownBlock ∧ some k_ ≠ (v424 : Value).ownBlock ∧ some k_ ≠ (.slice Ao67 x25_5.length co67 : Value).ownBlock ∧ some k_ ≠ (.slice (some ad441) t434.length co69 : Value).ownBlock ∧ some k_ ≠ (.slice (some ad448) t435.length co65 : Value).ownBlock ∧ some k_ ≠ (.slice Ao73 y442.length co73 : Value).ownBlock) (fun _ => False) rfl rfl ?aO ?aR (fun _ _ h => h) (fun _ h => h.elim) ?aF ?aB ?aS ?aL ?_
                                              (case aR => repeat (first | exact (Kd.ZL HO444.out).2.2 | (with_reducible refine Kd.ZA ?_ _) | (with_reducible refine Kd.Z9 ?_ _) | (with_reducible refine Kd.ZI ?_)))
                                              (case aB => exact (by repeat (first | (with_reducible first | exact HB.out | apply Zd | apply Za | apply Zb) | exact HB.out)))
                                              (case aF => exact (fun k_ hk => ⟨Kd.fresh' (Kd.R_lt (by (with_reducible repeat (first | apply Kd.Zl | apply Kd.Zk | apply Kd.Zs)); exact HO_13.out)) k_ hk,Kd.fresh' (Kd.R_lt (by (with_reducible repeat (first | apply Kd.Zl | apply Kd.Zk | apply Kd.Zs)); exact HO_14.out)) k_ hk,Kd.fresh' (Kd.R_lt (by (with_reducible repeat (first | apply Kd.Zl | apply Kd.Zk | apply Kd.Zs)); exact HO_21.out)) k_ hk,Kd.fresh' (Kd.R_lt (by (with_reducible repeat (first | apply Kd.Zl | apply Kd.Zk | apply Kd.Zs)); exact HO_25.out)) k_ hk,Kd.fresh' (Kd.R_lt (by (with_reducible repeat (first | apply Kd.Zl | apply Kd.Zk | apply Kd.Zs)); exact HO_26.out)) k_ hk,Kd.fresh' (Kd.R_lt (by (with_reducible repeat (first | apply Kd.Zl | apply Kd.Zk | apply Kd.Zs)); exact HO_27.out)) k_ hk,Kd.fresh' (Kd.R_lt (by (with_reducible repeat (first | apply Kd.Zl | apply Kd.Zk | apply Kd.Zs)); exact HO444.out)) k_ hk⟩))
                                              (case aO => exact (by (with_reducible repeat (first | apply Kd.Zl | apply Kd.Zk | apply Kd.Zs)); exact Kd.ZN HO_24.out (fun _ hk => ⟨hk.1.1,⟨hk.1.2.1,⟨hk.1.2.2.1,⟨hk.1.2.2.2.1,⟨hk.1.2.2.2.2.1,⟨hk.1.2.2.2.2.2,hk.2⟩⟩⟩⟩⟩⟩)))
                                              (case aS => exact (ZH (by repeat (first | (with_reducible first | exact HB.out | apply Zd | apply Za | apply Zb) | exact HB.out))))
                                              (case aL => have := LMc63.out; omega)
                                              intro v446 w72 ho hb hg hat
                                              have hne_HO_26 : some ad441.block ≠ (.slice Ao66 x24_5.length co66 : Value).ownBlock := (HO_26.out.1 _ rfl).1.2.2.2.1; have hne_HO_27 : some ad448.block ≠ (.slice Ao66 x24_5.length co66 : Value).ownBlock := (HO_27.out.1 _ rfl).1.2.2.2.1; have HS0_ := XF hg (hHeld.1) (by first | (rw [Zr]; exact hne_HO_26) | (show some (Addr.add _ _).block ≠ _; rw [Zr]; exact hne_HO_26) | exact hne_HO_26); have HS1_ := XF hg (hHeld.2) (by first | (rw [Zr]; exact hne_HO_27) | (show some (Addr.add _ _).block ≠ _; rw [Zr]; exact hne_HO_27) | exact hne_HO_27); rw [← Ny445.out] at ho; have n0_ := Zc.mk (Kd.Xt (ok := (fun k_ => some k_ ≠ (v407 : Value).ownBlock ∧ some k_ ≠ (v424 : Value).ownBlock ∧ some k_ ≠ (.slice Ao67 x25_5.length co67 : Value).ownBlock ∧ some k_ ≠ (.slice (some ad441) t434.length co69 : Value).ownBlock ∧ some k_ ≠ (.slice (some ad448) t435.length co65 : Value).ownBlock ∧ some k_ ≠ (.slice Ao73 y442.length co73 : Value).ownBlock)) (by (with_reducible repeat (first | apply Kd.Zl | apply Kd.Zk | apply Kd.Zs)); exact Kd.ZN HO_13.out (fun _ hk => ⟨⟨hk.1.1,⟨hk.1.2.1,⟨hk.1.2.2.2.1,⟨hk.1.2.2.2.2.1,⟨hk.1.2.2.2.2.2,hk.2⟩⟩⟩⟩⟩,hk.1.2.2.1⟩)) hg hat); have n1_ := Zc.mk (Kd.Xt (ok := (fun k_ => some k_ ≠ (v405 : Value).ownBlock ∧ some k_ ≠ (v424 : Value).ownBlock ∧ some k_ ≠ (.slice Ao67 x25_5.length co67 : Value).ownBlock ∧ some k_ ≠ (.slice (some ad441) t434.length co69 : Value).ownBlock ∧ some k_ ≠ (.slice (some ad448) t435.length co65 : Value).ownBlock ∧ some k_ ≠ (.slice Ao73 y442.length co73 : Value).ownBlock)) (by (with_reducible repeat (first | apply Kd.Zl | apply Kd.Zk | apply Kd.Zs)); exact Kd.ZN HO_14.out (fun _ hk => ⟨⟨hk.1.1,⟨hk.1.2.1,⟨hk.1.2.2.2.1,⟨hk.1.2.2.2.2.1,⟨hk.1.2.2.2.2.2,hk.2⟩⟩⟩⟩⟩,hk.1.2.2.1⟩)) hg hat); have n2_ := Zc.mk (Kd.Xt (ok := (fun k_ => some k_ ≠ (v405 : Value).ownBlock ∧ some k_ ≠ (v407 : Value).ownBlock ∧ some k_ ≠ (.slice Ao67 x25_5.length co67 : Value).ownBlock ∧ some k_ ≠ (.slice (some ad441) t434.length co69 : Value).ownBlock ∧ some k_ ≠ (.slice (some ad448) t435.length co65 : Value).ownBlock ∧ some k_ ≠ (.slice Ao73 y442.length co73 : Value).ownBlock)) (by (with_reducible repeat (first | apply Kd.Zl | apply Kd.Zk | apply Kd.Zs)); exact Kd.ZN HO_21.out (fun _ hk => ⟨⟨hk.1.1,⟨hk.1.2.1,⟨hk.1.2.2.2.1,⟨hk.1.2.2.2.2.1,⟨hk.1.2.2.2.2.2,hk.2⟩⟩⟩⟩⟩,hk.1.2.2.1⟩)) hg hat); have n3_ := Zc.mk (Kd.Xt (ok := (fun k_ => some k_ ≠ (v405 : Value).ownBlock ∧ some k_ ≠ (v407 : Value).ownBlock ∧ some k_ ≠ (v424 : Value).ownBlock ∧ some k_ ≠ (.slice (some ad441) t434.length co69 : Value).ownBlock ∧ some k_ ≠ (.slice (some ad448) t435.length co65 : Value).ownBlock ∧ some k_ ≠ (.slice Ao73 y442.length co73 : Value).ownBlock)) (by (with_reducible repeat (first | apply Kd.Zl | apply Kd.Zk | apply Kd.Zs)); exact Kd.ZN HO_25.out (fun _ hk => ⟨⟨hk.1.1,⟨hk.1.2.1,⟨hk.1.2.2.1,⟨hk.1.2.2.2.2.1,⟨hk.1.2.2.2.2.2,hk.2⟩⟩⟩⟩⟩,hk.1.2.2.2.1⟩)) hg hat); have n4_ := Zc.mk (Kd.Xt (ok := (fun k_ => some k_ ≠ (v405 : Value).ownBlock ∧ some k_ ≠ (v407 : Value).ownBlock ∧ some k_ ≠ (v424 : Value).ownBlock ∧ some k_ ≠ (.slice Ao67 x25_5.length co67 : Value).ownBlock ∧ some k_ ≠ (.slice (some ad448) t435.length co65 : Value).ownBlock ∧ some k_ ≠ (.slice Ao73 y442.length co73 : Value).ownBlock)) (by (with_reducible repeat (first | apply Kd.Zl | apply Kd.Zk | apply Kd.Zs)); exact Kd.ZN HO_26.out (fun _ hk => ⟨⟨hk.1.1,⟨hk.1.2.1,⟨hk.1.2.2.1,⟨hk.1.2.2.2.2.1,⟨hk.1.2.2.2.2.2,hk.2⟩⟩⟩⟩⟩,hk.1.2.2.2.1⟩)) hg hat); have n5_ := Zc.mk (Kd.Xt (ok := (fun k_ => some k_ ≠ (v405 : Value).ownBlock ∧ some k_ ≠ (v407 : Value).ownBlock ∧ some k_ ≠ (v424 : Value).ownBlock ∧ some k_ ≠ (.slice Ao67 x25_5.length co67 : Value).ownBlock ∧ some k_ ≠ (.slice (some ad441) t434.length co69 : Value).ownBlock ∧ some k_ ≠ (.slice Ao73 y442.length co73 : Value).ownBlock)) (by (with_reducible repeat (first | apply Kd.Zl | apply Kd.Zk | apply Kd.Zs)); exact Kd.ZN HO_27.out (fun _ hk => ⟨⟨hk.1.1,⟨hk.1.2.1,⟨hk.1.2.2.1,⟨hk.1.2.2.2.2.1,⟨hk.1.2.2.2.2.2,hk.2⟩⟩⟩⟩⟩,hk.1.2.2.2.1⟩)) hg hat); have n6_ := Zc.mk (Kd.Xt (ok := (fun k_ => some k_ ≠ (v405 : Value).ownBlock ∧ some k_ ≠ (v407 : Value).ownBlock ∧ some k_ ≠ (v424 : Value).ownBlock ∧ some k_ ≠ (.slice Ao67 x25_5.length co67 : Value).ownBlock ∧ some k_ ≠ (.slice (some ad441) t434.length co69 : Value).ownBlock ∧ some k_ ≠ (.slice (some ad448) t435.length co65 : Value).ownBlock)) (by (with_reducible repeat (first | apply Kd.Zl | apply Kd.Zk | apply Kd.Zs)); exact Kd.ZN HO444.out (fun _ hk => ⟨⟨hk.1.1.1.1.1.1.2,⟨hk.1.1.1.1.1.2,⟨hk.1.1.1.1.2,⟨hk.1.1.2,⟨hk.1.2,hk.2⟩⟩⟩⟩⟩,hk.1.1.1.2⟩)) hg hat); have n7_ := Zc.mk (hb); have n8_ := Zc.mk (ho); clear HO_13; clear HO_14; clear HO_21; clear HO_25; clear HO_26; clear HO_27; clear HO444; clear HB; clear HO_24; have HO_13 := n0_; have HO_14 := n1_; have HO_21 := n2_; have HO_25 := n3_; have HO_26 := n4_; have HO_27 := n5_; have HO444 := n6_; have HB := n7_; have HO447 := n8_; clear n0_ n1_ n2_ n3_ n4_ n5_ n6_ n7_ n8_
                                              clear ho hb hg hat
                                              refine hK.out _ _ ⟨HS0_,HS1_⟩ (fun hHeld => ?_); clear hK K; refine norm_ (a' := ?_) ?_ ?_; rotate_left
                                              · show Act.put _ (some 160) _ = _
                                                simp only [Act.put,YD,YE,YF,i64_w,i32_w]; rfl
                                              refine one_ (i := 14) (N := some 168) #[O,O,O,O,O,O,O,O,O,O,O,O,O,O,O,G,G,G] rfl rfl (X4 HT_.out (by kernel_rfl)) (by decide) (fun K hK => ?_); refine Kd.XW (Kd.int .i64) _ 3 ?hg (N := 168) ?hd (xs := ([wrap64 ((rd t435 x29_5) + (Int.tmod a5 (wrap64 (a4 + 1))))] : List Int)) (inner := [.int .i64 (wrap64 ((rd t435 x29_5) + (Int.tmod a5 (wrap64 (a4 + 1)))))]) (ok := fun _ => True) (okp := fun _ => True) ?hr ?hp (fun _ hk => hk) trivial (Below.refl _ _) (Nat.le_refl _) (by simp) ?_; (case hd => rfl); (case hg => rfl); (case hr => first | (go_simp; done) | (go_simp; rfl)); (case hp => exact (Reps.one (show Kd.M (Kd.int .i64) _ _ _ (wrap64 ((rd t435 x29_5) + (Int.tmod a5 (wrap64 (a4 + 1))))) [.int .i64 (wrap64 ((rd t435 x29_5) + (Int.tmod a5 (wrap64 (a4 + 1)))))] from rfl) (Reps.none _ _))); intro v450 w74 ho75 hb hg_ hnew_; have HS0_ := (hb.cell (World.block_lt_of_cell? _ _ (hHeld.1))).trans (hHeld.1); have HS1_ := (hb.cell (World.block_lt_of_cell? _ _ (hHeld.2))).trans (hHeld.2); clear hg_ hnew_
                                              (first | rw [← Ny449.out] at ho75 | (simp only [Int.reduceToNat] at ho75; rw [← Ny449.out] at ho75))
                                              have n0_ := Zc.mk (Kd.Xb (by (with_reducible repeat (first | apply Kd.Zl | apply Kd.Zk | apply Kd.Zs)); exact HO_13.out) (Kd.ZV ho75) hb); have n1_ := Zc.mk (Kd.Xb (by (with_reducible repeat (first | apply Kd.Zl | apply Kd.Zk | apply Kd.Zs)); exact HO_14.out) (Kd.ZV ho75) hb); have n2_ := Zc.mk (Kd.Xb (by (with_reducible repeat (first | apply Kd.Zl | apply Kd.Zk | apply Kd.Zs)); exact HO_21.out) (Kd.ZV ho75) hb); have n3_ := Zc.mk (Kd.Xb (by (with_reducible repeat (first | apply Kd.Zl | apply Kd.Zk | apply Kd.Zs)); exact HO_25.out) (Kd.ZV ho75) hb); have n4_ := Zc.mk (Kd.Xb (by (with_reducible repeat (first | apply Kd.Zl | apply Kd.Zk | apply Kd.Zs)); exact HO_26.out) (Kd.ZV ho75) hb); have n5_ := Zc.mk (Kd.Xb (by (with_reducible repeat (first | apply Kd.Zl | apply Kd.Zk | apply Kd.Zs)); exact HO_27.out) (Kd.ZV ho75) hb); have n6_ := Zc.mk (Kd.Xb (by (with_reducible repeat (first | apply Kd.Zl | apply Kd.Zk | apply Kd.Zs)); exact HO444.out) (Kd.ZV ho75) hb); have n7_ := Zc.mk (Kd.Xb (by (with_reducible repeat (first | apply Kd.Zl | apply Kd.Zk | apply Kd.Zs)); exact HO447.out) (Kd.ZV ho75) hb); have n8_ := Zc.mk (Kd.Xs (Kd.ZW (Kd.ZW (Kd.ZW (Kd.ZW (Kd.ZW (Kd.ZW (Kd.ZW (Kd.ZW ho75 (Kd.R_lt (by (with_reducible repeat (first | apply Kd.Zl | apply Kd.Zk | apply Kd.Zs)); exact HO_13.out))) (Kd.R_lt (by (with_reducible repeat (first | apply Kd.Zl | apply Kd.Zk | apply Kd.Zs)); exact HO_14.out))) (Kd.R_lt (by (with_reducible repeat (first | apply Kd.Zl | apply Kd.Zk | apply Kd.Zs)); exact HO_21.out))) (Kd.R_lt (by (with_reducible repeat (first | apply Kd.Zl | apply Kd.Zk | apply Kd.Zs)); exact HO_25.out))) (Kd.R_lt (by (with_reducible repeat (first | apply Kd.Zl | apply Kd.Zk | apply Kd.Zs)); exact HO_26.out))) (Kd.R_lt (by (with_reducible repeat (first | apply Kd.Zl | apply Kd.Zk | apply Kd.Zs)); exact HO_27.out))) (Kd.R_lt (by (with_reducible repeat (first | apply Kd.Zl | apply Kd.Zk | apply Kd.Zs)); exact HO444.out))) (Kd.R_lt (by (with_reducible repeat (first | apply Kd.Zl | apply Kd.Zk | apply Kd.Zs)); exact HO447.out))) (ZH (by repeat (first | (with_reducible first | exact HB.out | apply Zd | apply Za | apply Zb) | exact HB.out)))); have n9_ := Zc.mk (Z3 (by repeat (first | (with_reducible first | exact HB.out | apply Zd | apply Za | apply Zb) | exact HB.out)) hb); clear HO_13; clear HO_14; clear HO_21; clear HO_25; clear HO_26; clear HO_27; clear HO444; clear HO447; clear HB; have HO_13 := n0_; have HO_14 := n1_; have HO_21 := n2_; have HO_25 := n3_; have HO_26 := n4_; have HO_27 := n5_; have HO444 := n6_; have HO447 := n7_; have HO451 := n8_; have HB := n9_; clear n0_ n1_ n2_ n3_ n4_ n5_ n6_ n7_ n8_ n9_; clear hb ho75; refine hK.out _ _ ⟨HS0_,HS1_⟩ (fun hHeld => ?_); clear hK K; refine norm_ (a' := ?_) ?_ ?_; rotate_left
                                              · show Act.put _ (some 168) _ = _
                                                simp only [Act.put,YD,YE,YF,i64_w,i32_w]; rfl
                                              exact norm_ (by simp only [putAll,Act.put,List.setIfInBounds_toArray,List.set_cons_zero,List.set_cons_succ]) (hCont (.slice Ao73 y442.length co73,v446,v450) _ ⟨hHeld,(by (with_reducible repeat (first | apply Kd.Zl | apply Kd.Zk | apply Kd.Zs)); exact Kd.ZN HO444.out (fun _ hk => ⟨hk.1.2,⟨hk.2,⟨hk.1.1.1,⟨hk.1.1.2.1,⟨hk.1.1.2.2.1,⟨hk.1.1.2.2.2.1,⟨hk.1.1.2.2.2.2.1,hk.1.1.2.2.2.2.2⟩⟩⟩⟩⟩⟩⟩)),(by (with_reducible repeat (first | apply Kd.Zl | apply Kd.Zk | apply Kd.Zs)); exact Kd.ZN HO447.out (fun _ hk => ⟨hk.1.2.2.2.2.2.2,⟨hk.2,⟨hk.1.1,⟨hk.1.2.1,⟨hk.1.2.2.1,⟨hk.1.2.2.2.1,⟨hk.1.2.2.2.2.1,hk.1.2.2.2.2.2.1⟩⟩⟩⟩⟩⟩⟩)),(by (with_reducible repeat (first | apply Kd.Zl | apply Kd.Zk | apply Kd.Zs)); exact Kd.ZN HO451.out (fun _ hk => ⟨hk.1.2,⟨hk.2,⟨hk.1.1.1.1.1.1.1.2,⟨hk.1.1.1.1.1.1.2,⟨hk.1.1.1.1.1.2,⟨hk.1.1.1.1.2,⟨hk.1.1.1.2,hk.1.1.2⟩⟩⟩⟩⟩⟩⟩)),(by (with_reducible repeat (first | apply Kd.Zl | apply Kd.Zk | apply Kd.Zs)); exact Kd.ZN HO_13.out (fun _ hk => ⟨hk.1.1.2.2.2.2.2,⟨hk.1.2,⟨hk.2,⟨hk.1.1.1,⟨hk.1.1.2.1,⟨hk.1.1.2.2.1,⟨hk.1.1.2.2.2.1,hk.1.1.2.2.2.2.1⟩⟩⟩⟩⟩⟩⟩)),(by (with_reducible repeat (first | apply Kd.Zl | apply Kd.Zk | apply Kd.Zs)); exact Kd.ZN HO_14.out (fun _ hk => ⟨hk.1.1.2.2.2.2.2,⟨hk.1.2,⟨hk.2,⟨hk.1.1.1,⟨hk.1.1.2.1,⟨hk.1.1.2.2.1,⟨hk.1.1.2.2.2.1,hk.1.1.2.2.2.2.1⟩⟩⟩⟩⟩⟩⟩)),(by (with_reducible repeat (first | apply Kd.Zl | apply Kd.Zk | apply Kd.Zs)); exact Kd.ZN HO_21.out (fun _ hk => ⟨hk.1.1.2.2.2.2.2,⟨hk.1.2,⟨hk.2,⟨hk.1.1.1,⟨hk.1.1.2.1,⟨hk.1.1.2.2.1,⟨hk.1.1.2.2.2.1,hk.1.1.2.2.2.2.1⟩⟩⟩⟩⟩⟩⟩)),(by (with_reducible repeat (first | apply Kd.Zl | apply Kd.Zk | apply Kd.Zs)); exact Kd.ZN HO_25.out (fun _ hk => ⟨hk.1.1.2.2.2.2.2,⟨hk.1.2,⟨hk.2,⟨hk.1.1.1,⟨hk.1.1.2.1,⟨hk.1.1.2.2.1,⟨hk.1.1.2.2.2.1,hk.1.1.2.2.2.2.1⟩⟩⟩⟩⟩⟩⟩)),(by (with_reducible repeat (first | apply Kd.Zl | apply Kd.Zk | apply Kd.Zs)); exact Kd.ZN HO_26.out (fun _ hk => ⟨hk.1.1.2.2.2.2.2,⟨hk.1.2,⟨hk.2,⟨hk.1.1.1,⟨hk.1.1.2.1,⟨hk.1.1.2.2.1,⟨hk.1.1.2.2.2.1,hk.1.1.2.2.2.2.1⟩⟩⟩⟩⟩⟩⟩)),(by (with_reducible repeat (first | apply Kd.Zl | apply Kd.Zk | apply Kd.Zs)); exact Kd.ZN HO_27.out (fun _ hk => ⟨hk.1.1.2.2.2.2.2,⟨hk.1.2,⟨hk.2,⟨hk.1.1.1,⟨hk.1.1.2.1,⟨hk.1.1.2.2.1,⟨hk.1.1.2.2.2.1,hk.1.1.2.2.2.2.1⟩⟩⟩⟩⟩⟩⟩)),(by repeat (first | (with_reducible first | exact HB.out | apply Zd | apply Za | apply Zb) | exact HB.out))⟩)
                                            · skip
                                              refine Kd.XW (Kd.int .i64) _ 3 ?hg (N := 168) ?hd (xs := ([wrap64 ((rd t435 x29_5) + (Int.tmod a5 (wrap64 (a4 + 1))))] : List Int)) (inner := [.int .i64 (wrap64 ((rd t435 x29_5) + (Int.tmod a5 (wrap64 (a4 + 1)))))]) (ok := fun _ => True) (okp := fun _ => True) ?hr ?hp (fun _ hk => hk) trivial (Below.refl _ _) (Nat.le_refl _) (by simp) ?_; (case hd => rfl); (case hg => rfl); (case hr => first | (go_simp; done) | (go_simp; rfl)); (case hp => exact (Reps.one (show Kd.M (Kd.int .i64) _ _ _ (wrap64 ((rd t435 x29_5) + (Int.tmod a5 (wrap64 (a4 + 1))))) [.int .i64 (wrap64 ((rd t435 x29_5) + (Int.tmod a5 (wrap64 (a4 + 1)))))] from rfl) (Reps.none _ _))); intro v450 w72 ho73 hb hg_ hnew_; have HS0_ := (hb.cell (World.block_lt_of_cell? _ _ (hHeld.1))).trans (hHeld.1); have HS1_ := (hb.cell (World.block_lt_of_cell? _ _ (hHeld.2))).trans (hHeld.2); clear hg_ hnew_
                                              (first | rw [← Ny449.out] at ho73 | (simp only [Int.reduceToNat] at ho73; rw [← Ny449.out] at ho73))
                                              have n0_ := Zc.mk (Kd.Xb (by (with_reducible repeat (first | apply Kd.Zl | apply Kd.Zk | apply Kd.Zs)); exact HO_13.out) (Kd.ZV ho73) hb); have n1_ := Zc.mk (Kd.Xb (by (with_reducible repeat (first | apply Kd.Zl | apply Kd.Zk | apply Kd.Zs)); exact HO_14.out) (Kd.ZV ho73) hb); have n2_ := Zc.mk (Kd.Xb (by (with_reducible repeat (first | apply Kd.Zl | apply Kd.Zk | apply Kd.Zs)); exact HO_21.out) (Kd.ZV ho73) hb); have n3_ := Zc.mk (Kd.Xb (by (with_reducible repeat (first | apply Kd.Zl | apply Kd.Zk | apply Kd.Zs)); exact HO_24.out) (Kd.ZV ho73) hb); have n4_ := Zc.mk (Kd.Xb (by (with_reducible repeat (first | apply Kd.Zl | apply Kd.Zk | apply Kd.Zs)); exact HO_25.out) (Kd.ZV ho73) hb); have n5_ := Zc.mk (Kd.Xb (by (with_reducible repeat (first | apply Kd.Zl | apply Kd.Zk | apply Kd.Zs)); exact HO_26.out) (Kd.ZV ho73) hb); have n6_ := Zc.mk (Kd.Xb (by (with_reducible repeat (first | apply Kd.Zl | apply Kd.Zk | apply Kd.Zs)); exact HO_27.out) (Kd.ZV ho73) hb); have n7_ := Zc.mk (Kd.Xb (by (with_reducible repeat (first | apply Kd.Zl | apply Kd.Zk | apply Kd.Zs)); exact HO444.out) (Kd.ZV ho73) hb); have n8_ := Zc.mk (Kd.Xs (Kd.ZW (Kd.ZW (Kd.ZW (Kd.ZW (Kd.ZW (Kd.ZW (Kd.ZW (Kd.ZW ho73 (Kd.R_lt (by (with_reducible repeat (first | apply Kd.Zl | apply Kd.Zk | apply Kd.Zs)); exact HO_13.out))) (Kd.R_lt (by (with_reducible repeat (first | apply Kd.Zl | apply Kd.Zk | apply Kd.Zs)); exact HO_14.out))) (Kd.R_lt (by (with_reducible repeat (first | apply Kd.Zl | apply Kd.Zk | apply Kd.Zs)); exact HO_21.out))) (Kd.R_lt (by (with_reducible repeat (first | apply Kd.Zl | apply Kd.Zk | apply Kd.Zs)); exact HO_24.out))) (Kd.R_lt (by (with_reducible repeat (first | apply Kd.Zl | apply Kd.Zk | apply Kd.Zs)); exact HO_25.out))) (Kd.R_lt (by (with_reducible repeat (first | apply Kd.Zl | apply Kd.Zk | apply Kd.Zs)); exact HO_26.out))) (Kd.R_lt (by (with_reducible repeat (first | apply Kd.Zl | apply Kd.Zk | apply Kd.Zs)); exact HO_27.out))) (Kd.R_lt (by (with_reducible repeat (first | apply Kd.Zl | apply Kd.Zk | apply Kd.Zs)); exact HO444.out))) (ZH (by repeat (first | (with_reducible first | exact HB.out | apply Zd | apply Za | apply Zb) | exact HB.out)))); have n9_ := Zc.mk (Z3 (by repeat (first | (with_reducible first | exact HB.out | apply Zd | apply Za | apply Zb) | exact HB.out)) hb); clear HO_13; clear HO_14; clear HO_21; clear HO_24; clear HO_25; clear HO_26; clear HO_27; clear HO444; clear HB; have HO_13 := n0_; have HO_14 := n1_; have HO_21 := n2_; have HO_24 := n3_; have HO_25 := n4_; have HO_26 := n5_; have HO_27 := n6_; have HO444 := n7_; have HO451 := n8_; have HB := n9_; clear n0_ n1_ n2_ n3_ n4_ n5_ n6_ n7_ n8_ n9_; clear hb ho73; obtain ⟨Ao75,co75,eo75⟩ := Kd.Xd HO444.out
                                              (first | subst eo75 | (injection eo75 with f1_ f2_ f3_; have f4_ := f1_.symm; have f5_ := f3_.symm; clear f1_ f2_ f3_; subst f4_; subst f5_))
                                              refine hK.out _ _ ⟨HS0_,HS1_⟩ (fun hHeld => ?_); clear hK K; refine norm_ (a' := ?_) ?_ ?_; rotate_left
                                              · show Act.put _ (some 168) _ = _
                                                simp only [Act.put,YD,YE,YF,i64_w,i32_w]; rfl
                                              refine one_ (i := 6) (N := some 160) #[O,O,O,O,O,O,O,O,O,O,O,O,O,O,O,G,G,G] rfl rfl (X4 HT_.out (by kernel_rfl)) (by decide) (fun K hK => ?_); refine Kd.XE (Kd.int .i64) (w0 := w) w.heap.size (by rfl) (.tmp 154) (.tmp 159) 46 3 (.int .i64 0) 8 rfl Try.underlying46 info3 rfl (by decide) (by omega) (.slice Ao66 x24_5.length co66) x24_5 y442 _ _ _ (fun k_ => some k_ ≠ (v405 : Value).ownBlock ∧ some k_ ≠ (v407 : Value).ownBlock ∧ some k_ ≠ (v424 : Value).ownBlock ∧ some k_ ≠ (.slice Ao67 x25_5.length co67 : Value).ownBlock ∧ some k_ ≠ (.slice (some ad441) t434.length co69 : Value).ownBlock ∧ some k_ ≠ (.slice (some ad448) t435.length co65 : Value).ownBlock ∧ some k_ ≠ (.slice Ao75 y442.length co75 : Value).ownBlock ∧ some k_ ≠ (v450 : Value).ownBlock) (fun _ => False) rfl rfl ?aO ?aR (fun _ _ h => h) (fun _ h => h.elim) ?aF ?aB ?aS ?aL ?_
                                              (case aR => repeat (first | exact (Kd.ZL HO444.out).2.2 | (with_reducible refine Kd.ZA ?_ _) | (with_reducible refine Kd.Z9 ?_ _) | (with_reducible refine Kd.ZI ?_)))
                                              (case aB => exact (by repeat (first | (with_reducible first | exact HB.out | apply Zd | apply Za | apply Zb) | exact HB.out)))
                                              (case aF => exact (fun k_ hk => ⟨Kd.fresh' (Kd.R_lt (by (with_reducible repeat (first | apply Kd.Zl | apply Kd.Zk | apply Kd.Zs)); exact HO_13.out)) k_ hk,Kd.fresh' (Kd.R_lt (by (with_reducible repeat (first | apply Kd.Zl | apply Kd.Zk | apply Kd.Zs)); exact HO_14.out)) k_ hk,Kd.fresh' (Kd.R_lt (by (with_reducible repeat (first | apply Kd.Zl | apply Kd.Zk | apply Kd.Zs)); exact HO_21.out)) k_ hk,Kd.fresh' (Kd.R_lt (by (with_reducible repeat (first | apply Kd.Zl | apply Kd.Zk | apply Kd.Zs)); exact HO_25.out)) k_ hk,Kd.fresh' (Kd.R_lt (by (with_reducible repeat (first | apply Kd.Zl | apply Kd.Zk | apply Kd.Zs)); exact HO_26.out)) k_ hk,Kd.fresh' (Kd.R_lt (by (with_reducible repeat (first | apply Kd.Zl | apply Kd.Zk | apply Kd.Zs)); exact HO_27.out)) k_ hk,Kd.fresh' (Kd.R_lt (by (with_reducible repeat (first | apply Kd.Zl | apply Kd.Zk | apply Kd.Zs)); exact HO444.out)) k_ hk,Kd.fresh' (Kd.R_lt (by (with_reducible repeat (first | apply Kd.Zl | apply Kd.Zk | apply Kd.Zs)); exact HO451.out)) k_ hk⟩))
                                              (case aO => exact (by (with_reducible repeat (first | apply Kd.Zl | apply Kd.Zk | apply Kd.Zs)); exact Kd.ZN HO_24.out (fun _ hk => ⟨hk.1.1.1,⟨hk.1.1.2.1,⟨hk.1.1.2.2.1,⟨hk.1.1.2.2.2.1,⟨hk.1.1.2.2.2.2.1,⟨hk.1.1.2.2.2.2.2,⟨hk.1.2,hk.2⟩⟩⟩⟩⟩⟩⟩)))
                                              (case aS => exact (ZH (by repeat (first | (with_reducible first | exact HB.out | apply Zd | apply Za | apply Zb) | exact HB.out))))
                                              (case aL => have := LMc63.out; omega)
                                              intro v446 w74 ho hb hg hat
                                              have hne_HO_26 : some ad441.block ≠ (.slice Ao66 x24_5.length co66 : Value).ownBlock := (HO_26.out.1 _ rfl).1.1.2.2.2.1; have hne_HO_27 : some ad448.block ≠ (.slice Ao66 x24_5.length co66 : Value).ownBlock := (HO_27.out.1 _ rfl).1.1.2.2.2.1; have HS0_ := XF hg (hHeld.1) (by first | (rw [Zr]; exact hne_HO_26) | (show some (Addr.add _ _).block ≠ _; rw [Zr]; exact hne_HO_26) | exact hne_HO_26); have HS1_ := XF hg (hHeld.2) (by first | (rw [Zr]; exact hne_HO_27) | (show some (Addr.add _ _).block ≠ _; rw [Zr]; exact hne_HO_27) | exact hne_HO_27); rw [← Ny445.out] at ho; have n0_ := Zc.mk (Kd.Xt (ok := (fun k_ => some k_ ≠ (v407 : Value).ownBlock ∧ some k_ ≠ (v424 : Value).ownBlock ∧ some k_ ≠ (.slice Ao67 x25_5.length co67 : Value).ownBlock ∧ some k_ ≠ (.slice (some ad441) t434.length co69 : Value).ownBlock ∧ some k_ ≠ (.slice (some ad448) t435.length co65 : Value).ownBlock ∧ some k_ ≠ (.slice Ao75 y442.length co75 : Value).ownBlock ∧ some k_ ≠ (v450 : Value).ownBlock)) (by (with_reducible repeat (first | apply Kd.Zl | apply Kd.Zk | apply Kd.Zs)); exact Kd.ZN HO_13.out (fun _ hk => ⟨⟨hk.1.1.1,⟨hk.1.1.2.1,⟨hk.1.1.2.2.2.1,⟨hk.1.1.2.2.2.2.1,⟨hk.1.1.2.2.2.2.2,⟨hk.1.2,hk.2⟩⟩⟩⟩⟩⟩,hk.1.1.2.2.1⟩)) hg hat); have n1_ := Zc.mk (Kd.Xt (ok := (fun k_ => some k_ ≠ (v405 : Value).ownBlock ∧ some k_ ≠ (v424 : Value).ownBlock ∧ some k_ ≠ (.slice Ao67 x25_5.length co67 : Value).ownBlock ∧ some k_ ≠ (.slice (some ad441) t434.length co69 : Value).ownBlock ∧ some k_ ≠ (.slice (some ad448) t435.length co65 : Value).ownBlock ∧ some k_ ≠ (.slice Ao75 y442.length co75 : Value).ownBlock ∧ some k_ ≠ (v450 : Value).ownBlock)) (by (with_reducible repeat (first | apply Kd.Zl | apply Kd.Zk | apply Kd.Zs)); exact Kd.ZN HO_14.out (fun _ hk => ⟨⟨hk.1.1.1,⟨hk.1.1.2.1,⟨hk.1.1.2.2.2.1,⟨hk.1.1.2.2.2.2.1,⟨hk.1.1.2.2.2.2.2,⟨hk.1.2,hk.2⟩⟩⟩⟩⟩⟩,hk.1.1.2.2.1⟩)) hg hat); have n2_ := Zc.mk (Kd.Xt (ok := (fun k_ => some k_ ≠ (v405 : Value).ownBlock ∧ some k_ ≠ (v407 : Value).ownBlock ∧ some k_ ≠ (.slice Ao67 x25_5.length co67 : Value).ownBlock ∧ some k_ ≠ (.slice (some ad441) t434.length co69 : Value).ownBlock ∧ some k_ ≠ (.slice (some ad448) t435.length co65 : Value).ownBlock ∧ some k_ ≠ (.slice Ao75 y442.length co75 : Value).ownBlock ∧ some k_ ≠ (v450 : Value).ownBlock)) (by (with_reducible repeat (first | apply Kd.Zl | apply Kd.Zk | apply Kd.Zs)); exact Kd.ZN HO_21.out (fun _ hk => ⟨⟨hk.1.1.1,⟨hk.1.1.2.1,⟨hk.1.1.2.2.2.1,⟨hk.1.1.2.2.2.2.1,⟨hk.1.1.2.2.2.2.2,⟨hk.1.2,hk.2⟩⟩⟩⟩⟩⟩,hk.1.1.2.2.1⟩)) hg hat); have n3_ := Zc.mk (Kd.Xt (ok := (fun k_ => some k_ ≠ (v405 : Value).ownBlock ∧ some k_ ≠ (v407 : Value).ownBlock ∧ some k_ ≠ (v424 : Value).ownBlock ∧ some k_ ≠ (.slice (some ad441) t434.length co69 : Value).ownBlock ∧ some k_ ≠ (.slice (some ad448) t435.length co65 : Value).ownBlock ∧ some k_ ≠ (.slice Ao75 y442.length co75 : Value).ownBlock ∧ some k_ ≠ (v450 : Value).ownBlock)) (by (with_reducible repeat (first | apply Kd.Zl | apply Kd.Zk | apply Kd.Zs)); exact Kd.ZN HO_25.out (fun _ hk => ⟨⟨hk.1.1.1,⟨hk.1.1.2.1,⟨hk.1.1.2.2.1,⟨hk.1.1.2.2.2.2.1,⟨hk.1.1.2.2.2.2.2,⟨hk.1.2,hk.2⟩⟩⟩⟩⟩⟩,hk.1.1.2.2.2.1⟩)) hg hat); have n4_ := Zc.mk (Kd.Xt (ok := (fun k_ => some k_ ≠ (v405 : Value).ownBlock ∧ some k_ ≠ (v407 : Value).ownBlock ∧ some k_ ≠ (v424 : Value).ownBlock ∧ some k_ ≠ (.slice Ao67 x25_5.length co67 : Value).ownBlock ∧ some k_ ≠ (.slice (some ad448) t435.length co65 : Value).ownBlock ∧ some k_ ≠ (.slice Ao75 y442.length co75 : Value).ownBlock ∧ some k_ ≠ (v450 : Value).ownBlock)) (by (with_reducible repeat (first | apply Kd.Zl | apply Kd.Zk | apply Kd.Zs)); exact Kd.ZN HO_26.out (fun _ hk => ⟨⟨hk.1.1.1,⟨hk.1.1.2.1,⟨hk.1.1.2.2.1,⟨hk.1.1.2.2.2.2.1,⟨hk.1.1.2.2.2.2.2,⟨hk.1.2,hk.2⟩⟩⟩⟩⟩⟩,hk.1.1.2.2.2.1⟩)) hg hat); have n5_ := Zc.mk (Kd.Xt (ok := (fun k_ => some k_ ≠ (v405 : Value).ownBlock ∧ some k_ ≠ (v407 : Value).ownBlock ∧ some k_ ≠ (v424 : Value).ownBlock ∧ some k_ ≠ (.slice Ao67 x25_5.length co67 : Value).ownBlock ∧ some k_ ≠ (.slice (some ad441) t434.length co69 : Value).ownBlock ∧ some k_ ≠ (.slice Ao75 y442.length co75 : Value).ownBlock ∧ some k_ ≠ (v450 : Value).ownBlock)) (by (with_reducible repeat (first | apply Kd.Zl | apply Kd.Zk | apply Kd.Zs)); exact Kd.ZN HO_27.out (fun _ hk => ⟨⟨hk.1.1.1,⟨hk.1.1.2.1,⟨hk.1.1.2.2.1,⟨hk.1.1.2.2.2.2.1,⟨hk.1.1.2.2.2.2.2,⟨hk.1.2,hk.2⟩⟩⟩⟩⟩⟩,hk.1.1.2.2.2.1⟩)) hg hat); have n6_ := Zc.mk (Kd.Xt (ok := (fun k_ => some k_ ≠ (v405 : Value).ownBlock ∧ some k_ ≠ (v407 : Value).ownBlock ∧ some k_ ≠ (v424 : Value).ownBlock ∧ some k_ ≠ (.slice Ao67 x25_5.length co67 : Value).ownBlock ∧ some k_ ≠ (.slice (some ad441) t434.length co69 : Value).ownBlock ∧ some k_ ≠ (.slice (some ad448) t435.length co65 : Value).ownBlock ∧ some k_ ≠ (v450 : Value).ownBlock)) (by (with_reducible repeat (first | apply Kd.Zl | apply Kd.Zk | apply Kd.Zs)); exact Kd.ZN HO444.out (fun _ hk => ⟨⟨hk.1.1.1.1.1.1.1.2,⟨hk.1.1.1.1.1.1.2,⟨hk.1.1.1.1.1.2,⟨hk.1.1.1.2,⟨hk.1.1.2,⟨hk.1.2,hk.2⟩⟩⟩⟩⟩⟩,hk.1.1.1.1.2⟩)) hg hat); have n7_ := Zc.mk (Kd.Xt (ok := (fun k_ => some k_ ≠ (v405 : Value).ownBlock ∧ some k_ ≠ (v407 : Value).ownBlock ∧ some k_ ≠ (v424 : Value).ownBlock ∧ some k_ ≠ (.slice Ao67 x25_5.length co67 : Value).ownBlock ∧ some k_ ≠ (.slice (some ad441) t434.length co69 : Value).ownBlock ∧ some k_ ≠ (.slice (some ad448) t435.length co65 : Value).ownBlock ∧ some k_ ≠ (.slice Ao75 y442.length co75 : Value).ownBlock)) (by (with_reducible repeat (first | apply Kd.Zl | apply Kd.Zk | apply Kd.Zs)); exact Kd.ZN HO451.out (fun _ hk => ⟨⟨hk.1.1.1.1.1.1.1.2,⟨hk.1.1.1.1.1.1.2,⟨hk.1.1.1.1.1.2,⟨hk.1.1.1.2,⟨hk.1.1.2,⟨hk.1.2,hk.2⟩⟩⟩⟩⟩⟩,hk.1.1.1.1.2⟩)) hg hat); have n8_ := Zc.mk (hb); have n9_ := Zc.mk (ho); clear HO_13; clear HO_14; clear HO_21; clear HO_25; clear HO_26; clear HO_27; clear HO444; clear HO451; clear HB; clear HO_24; have HO_13 := n0_; have HO_14 := n1_; have HO_21 := n2_; have HO_25 := n3_; have HO_26 := n4_; have HO_27 := n5_; have HO444 := n6_; have HO451 := n7_; have HB := n8_; have HO447 := n9_; clear n0_ n1_ n2_ n3_ n4_ n5_ n6_ n7_ n8_ n9_
                                              clear ho hb hg hat
                                              refine hK.out _ _ ⟨HS0_,HS1_⟩ (fun hHeld => ?_); clear hK K; refine norm_ (a' := ?_) ?_ ?_; rotate_left
                                              · show Act.put _ (some 160) _ = _
                                                simp only [Act.put,YD,YE,YF,i64_w,i32_w]; rfl
                                              exact norm_ (by simp only [putAll,Act.put,List.setIfInBounds_toArray,List.set_cons_zero,List.set_cons_succ]) (hCont (.slice Ao75 y442.length co75,v446,v450) _ ⟨hHeld,(by (with_reducible repeat (first | apply Kd.Zl | apply Kd.Zk | apply Kd.Zs)); exact Kd.ZN HO444.out (fun _ hk => ⟨hk.2,⟨hk.1.2.2.2.2.2.2,⟨hk.1.1,⟨hk.1.2.1,⟨hk.1.2.2.1,⟨hk.1.2.2.2.1,⟨hk.1.2.2.2.2.1,hk.1.2.2.2.2.2.1⟩⟩⟩⟩⟩⟩⟩)),(by (with_reducible repeat (first | apply Kd.Zl | apply Kd.Zk | apply Kd.Zs)); exact Kd.ZN HO447.out (fun _ hk => ⟨hk.2.2.2.2.2.2.1,⟨hk.2.2.2.2.2.2.2,⟨hk.1,⟨hk.2.1,⟨hk.2.2.1,⟨hk.2.2.2.1,⟨hk.2.2.2.2.1,hk.2.2.2.2.2.1⟩⟩⟩⟩⟩⟩⟩)),(by (with_reducible repeat (first | apply Kd.Zl | apply Kd.Zk | apply Kd.Zs)); exact Kd.ZN HO451.out (fun _ hk => ⟨hk.1.2.2.2.2.2.2,⟨hk.2,⟨hk.1.1,⟨hk.1.2.1,⟨hk.1.2.2.1,⟨hk.1.2.2.2.1,⟨hk.1.2.2.2.2.1,hk.1.2.2.2.2.2.1⟩⟩⟩⟩⟩⟩⟩)),(by (with_reducible repeat (first | apply Kd.Zl | apply Kd.Zk | apply Kd.Zs)); exact Kd.ZN HO_13.out (fun _ hk => ⟨hk.1.2.2.2.2.2.1,⟨hk.2,⟨hk.1.2.2.2.2.2.2,⟨hk.1.1,⟨hk.1.2.1,⟨hk.1.2.2.1,⟨hk.1.2.2.2.1,hk.1.2.2.2.2.1⟩⟩⟩⟩⟩⟩⟩)),(by (with_reducible repeat (first | apply Kd.Zl | apply Kd.Zk | apply Kd.Zs)); exact Kd.ZN HO_14.out (fun _ hk => ⟨hk.1.2.2.2.2.2.1,⟨hk.2,⟨hk.1.2.2.2.2.2.2,⟨hk.1.1,⟨hk.1.2.1,⟨hk.1.2.2.1,⟨hk.1.2.2.2.1,hk.1.2.2.2.2.1⟩⟩⟩⟩⟩⟩⟩)),(by (with_reducible repeat (first | apply Kd.Zl | apply Kd.Zk | apply Kd.Zs)); exact Kd.ZN HO_21.out (fun _ hk => ⟨hk.1.2.2.2.2.2.1,⟨hk.2,⟨hk.1.2.2.2.2.2.2,⟨hk.1.1,⟨hk.1.2.1,⟨hk.1.2.2.1,⟨hk.1.2.2.2.1,hk.1.2.2.2.2.1⟩⟩⟩⟩⟩⟩⟩)),(by (with_reducible repeat (first | apply Kd.Zl | apply Kd.Zk | apply Kd.Zs)); exact Kd.ZN HO_25.out (fun _ hk => ⟨hk.1.2.2.2.2.2.1,⟨hk.2,⟨hk.1.2.2.2.2.2.2,⟨hk.1.1,⟨hk.1.2.1,⟨hk.1.2.2.1,⟨hk.1.2.2.2.1,hk.1.2.2.2.2.1⟩⟩⟩⟩⟩⟩⟩)),(by (with_reducible repeat (first | apply Kd.Zl | apply Kd.Zk | apply Kd.Zs)); exact Kd.ZN HO_26.out (fun _ hk => ⟨hk.1.2.2.2.2.2.1,⟨hk.2,⟨hk.1.2.2.2.2.2.2,⟨hk.1.1,⟨hk.1.2.1,⟨hk.1.2.2.1,⟨hk.1.2.2.2.1,hk.1.2.2.2.2.1⟩⟩⟩⟩⟩⟩⟩)),(by (with_reducible repeat (first | apply Kd.Zl | apply Kd.Zk | apply Kd.Zs)); exact Kd.ZN HO_27.out (fun _ hk => ⟨hk.1.2.2.2.2.2.1,⟨hk.2,⟨hk.1.2.2.2.2.2.2,⟨hk.1.1,⟨hk.1.2.1,⟨hk.1.2.2.1,⟨hk.1.2.2.2.1,hk.1.2.2.2.2.1⟩⟩⟩⟩⟩⟩⟩)),(by repeat (first | (with_reducible first | exact HB.out | apply Zd | apply Za | apply Zb) | exact HB.out))⟩)
                                          · skip
                                            refine Kd.XW (Kd.int .i64) _ 3 ?hg (N := 168) ?hd (xs := ([wrap64 ((rd t435 x29_5) + (Int.tmod a5 (wrap64 (a4 + 1))))] : List Int)) (inner := [.int .i64 (wrap64 ((rd t435 x29_5) + (Int.tmod a5 (wrap64 (a4 + 1)))))]) (ok := fun _ => True) (okp := fun _ => True) ?hr ?hp (fun _ hk => hk) trivial (Below.refl _ _) (Nat.le_refl _) (by simp) ?_; (case hd => rfl); (case hg => rfl); (case hr => first | (go_simp; done) | (go_simp; rfl)); (case hp => exact (Reps.one (show Kd.M (Kd.int .i64) _ _ _ (wrap64 ((rd t435 x29_5) + (Int.tmod a5 (wrap64 (a4 + 1))))) [.int .i64 (wrap64 ((rd t435 x29_5) + (Int.tmod a5 (wrap64 (a4 + 1)))))] from rfl) (Reps.none _ _))); intro v450 w70 ho71 hb hg_ hnew_; have HS0_ := (hb.cell (World.block_lt_of_cell? _ _ (hHeld.1))).trans (hHeld.1); have HS1_ := (hb.cell (World.block_lt_of_cell? _ _ (hHeld.2))).trans (hHeld.2); clear hg_ hnew_
                                            (first | rw [← Ny449.out] at ho71 | (simp only [Int.reduceToNat] at ho71; rw [← Ny449.out] at ho71))
                                            have n0_ := Zc.mk (Kd.Xb (by (with_reducible repeat (first | apply Kd.Zl | apply Kd.Zk | apply Kd.Zs)); exact HO_13.out) (Kd.ZV ho71) hb); have n1_ := Zc.mk (Kd.Xb (by (with_reducible repeat (first | apply Kd.Zl | apply Kd.Zk | apply Kd.Zs)); exact HO_14.out) (Kd.ZV ho71) hb); have n2_ := Zc.mk (Kd.Xb (by (with_reducible repeat (first | apply Kd.Zl | apply Kd.Zk | apply Kd.Zs)); exact HO_21.out) (Kd.ZV ho71) hb); have n3_ := Zc.mk (Kd.Xb (by (with_reducible repeat (first | apply Kd.Zl | apply Kd.Zk | apply Kd.Zs)); exact HO_24.out) (Kd.ZV ho71) hb); have n4_ := Zc.mk (Kd.Xb (by (with_reducible repeat (first | apply Kd.Zl | apply Kd.Zk | apply Kd.Zs)); exact HO_25.out) (Kd.ZV ho71) hb); have n5_ := Zc.mk (Kd.Xb (by (with_reducible repeat (first | apply Kd.Zl | apply Kd.Zk | apply Kd.Zs)); exact HO_26.out) (Kd.ZV ho71) hb); have n6_ := Zc.mk (Kd.Xb (by (with_reducible repeat (first | apply Kd.Zl | apply Kd.Zk | apply Kd.Zs)); exact HO_27.out) (Kd.ZV ho71) hb); have n7_ := Zc.mk (Kd.Xs (Kd.ZW (Kd.ZW (Kd.ZW (Kd.ZW (Kd.ZW (Kd.ZW (Kd.ZW ho71 (Kd.R_lt (by (with_reducible repeat (first | apply Kd.Zl | apply Kd.Zk | apply Kd.Zs)); exact HO_13.out))) (Kd.R_lt (by (with_reducible repeat (first | apply Kd.Zl | apply Kd.Zk | apply Kd.Zs)); exact HO_14.out))) (Kd.R_lt (by (with_reducible repeat (first | apply Kd.Zl | apply Kd.Zk | apply Kd.Zs)); exact HO_21.out))) (Kd.R_lt (by (with_reducible repeat (first | apply Kd.Zl | apply Kd.Zk | apply Kd.Zs)); exact HO_24.out))) (Kd.R_lt (by (with_reducible repeat (first | apply Kd.Zl | apply Kd.Zk | apply Kd.Zs)); exact HO_25.out))) (Kd.R_lt (by (with_reducible repeat (first | apply Kd.Zl | apply Kd.Zk | apply Kd.Zs)); exact HO_26.out))) (Kd.R_lt (by (with_reducible repeat (first | apply Kd.Zl | apply Kd.Zk | apply Kd.Zs)); exact HO_27.out))) (ZH (by repeat (first | (with_reducible first | exact HB.out | apply Zd | apply Za | apply Zb) | exact HB.out)))); have n8_ := Zc.mk (Z3 (by repeat (first | (with_reducible first | exact HB.out | apply Zd | apply Za | apply Zb) | exact HB.out)) hb); clear HO_13; clear HO_14; clear HO_21; clear HO_24; clear HO_25; clear HO_26; clear HO_27; clear HB; have HO_13 := n0_; have HO_14 := n1_; have HO_21 := n2_; have HO_24 := n3_; have HO_25 := n4_; have HO_26 := n5_; have HO_27 := n6_; have HO451 := n7_; have HB := n8_; clear n0_ n1_ n2_ n3_ n4_ n5_ n6_ n7_ n8_; clear hb ho71; refine hK.out _ _ ⟨HS0_,HS1_⟩ (fun hHeld => ?_); clear hK K; refine norm_ (a' := ?_) ?_ ?_; rotate_left
                                            · show Act.put _ (some 168) _ = _
                                              simp only [Act.put,YD,YE,YF,i64_w,i32_w]; rfl
                                            refine one_ (i := 5) (N := some 159) #[O,O,O,O,O,O,G,O,O,O,O,O,O,O,O,G,G,G] rfl rfl (X4 HT_.out (by kernel_rfl)) (by decide) (fun K hK => ?_); refine Kd.XW (Kd.int .i64) _ 3 ?hg (N := 159) ?hd (xs := ([rd t434 x29_5] : List Int)) (inner := [.int .i64 (rd t434 x29_5)]) (ok := fun _ => True) (okp := fun _ => True) ?hr ?hp (fun _ hk => hk) trivial (Below.refl _ _) (Nat.le_refl _) (by simp) ?_; (case hd => rfl); (case hg => rfl); (case hr => first | (go_simp; done) | (go_simp; rfl)); (case hp => exact (Reps.one (show Kd.M (Kd.int .i64) _ _ _ (rd t434 x29_5) [.int .i64 (rd t434 x29_5)] from rfl) (Reps.none _ _))); intro v443 w72 ho73 hb hg_ hnew_; have HS0_ := (hb.cell (World.block_lt_of_cell? _ _ (hHeld.1))).trans (hHeld.1); have HS1_ := (hb.cell (World.block_lt_of_cell? _ _ (hHeld.2))).trans (hHeld.2); clear hg_ hnew_
                                            (first | rw [← Ny442.out] at ho73 | (simp only [Int.reduceToNat] at ho73; rw [← Ny442.out] at ho73))
                                            have n0_ := Zc.mk (Kd.Xb (by (with_reducible repeat (first | apply Kd.Zl | apply Kd.Zk | apply Kd.Zs)); exact HO_13.out) (Kd.ZV ho73) hb); have n1_ := Zc.mk (Kd.Xb (by (with_reducible repeat (first | apply Kd.Zl | apply Kd.Zk | apply Kd.Zs)); exact HO_14.out) (Kd.ZV ho73) hb); have n2_ := Zc.mk (Kd.Xb (by (with_reducible repeat (first | apply Kd.Zl | apply Kd.Zk | apply Kd.Zs)); exact HO_21.out) (Kd.ZV ho73) hb); have n3_ := Zc.mk (Kd.Xb (by (with_reducible repeat (first | apply Kd.Zl | apply Kd.Zk | apply Kd.Zs)); exact HO_24.out) (Kd.ZV ho73) hb); have n4_ := Zc.mk (Kd.Xb (by (with_reducible repeat (first | apply Kd.Zl | apply Kd.Zk | apply Kd.Zs)); exact HO_25.out) (Kd.ZV ho73) hb); have n5_ := Zc.mk (Kd.Xb (by (with_reducible repeat (first | apply Kd.Zl | apply Kd.Zk | apply Kd.Zs)); exact HO_26.out) (Kd.ZV ho73) hb); have n6_ := Zc.mk (Kd.Xb (by (with_reducible repeat (first | apply Kd.Zl | apply Kd.Zk | apply Kd.Zs)); exact HO_27.out) (Kd.ZV ho73) hb); have n7_ := Zc.mk (Kd.Xb (by (with_reducible repeat (first | apply Kd.Zl | apply Kd.Zk | apply Kd.Zs)); exact HO451.out) (Kd.ZV ho73) hb); have n8_ := Zc.mk (Kd.Xs (Kd.ZW (Kd.ZW (Kd.ZW (Kd.ZW (Kd.ZW (Kd.ZW (Kd.ZW (Kd.ZW ho73 (Kd.R_lt (by (with_reducible repeat (first | apply Kd.Zl | apply Kd.Zk | apply Kd.Zs)); exact HO_13.out))) (Kd.R_lt (by (with_reducible repeat (first | apply Kd.Zl | apply Kd.Zk | apply Kd.Zs)); exact HO_14.out))) (Kd.R_lt (by (with_reducible repeat (first | apply Kd.Zl | apply Kd.Zk | apply Kd.Zs)); exact HO_21.out))) (Kd.R_lt (by (with_reducible repeat (first | apply Kd.Zl | apply Kd.Zk | apply Kd.Zs)); exact HO_24.out))) (Kd.R_lt (by (with_reducible repeat (first | apply Kd.Zl | apply Kd.Zk | apply Kd.Zs)); exact HO_25.out))) (Kd.R_lt (by (with_reducible repeat (first | apply Kd.Zl | apply Kd.Zk | apply Kd.Zs)); exact HO_26.out))) (Kd.R_lt (by (with_reducible repeat (first | apply Kd.Zl | apply Kd.Zk | apply Kd.Zs)); exact HO_27.out))) (Kd.R_lt (by (with_reducible repeat (first | apply Kd.Zl | apply Kd.Zk | apply Kd.Zs)); exact HO451.out))) (ZH (by repeat (first | (with_reducible first | exact HB.out | apply Zd | apply Za | apply Zb) | exact HB.out)))); have n9_ := Zc.mk (Z3 (by repeat (first | (with_reducible first | exact HB.out | apply Zd | apply Za | apply Zb) | exact HB.out)) hb); clear HO_13; clear HO_14; clear HO_21; clear HO_24; clear HO_25; clear HO_26; clear HO_27; clear HO451; clear HB; have HO_13 := n0_; have HO_14 := n1_; have HO_21 := n2_; have HO_24 := n3_; have HO_25 := n4_; have HO_26 := n5_; have HO_27 := n6_; have HO451 := n7_; have HO444 := n8_; have HB := n9_; clear n0_ n1_ n2_ n3_ n4_ n5_ n6_ n7_ n8_ n9_; clear hb ho73; obtain ⟨Ao75,co75,eo75⟩ := Kd.Xd HO444.out
                                            (first | subst eo75 | (injection eo75 with f1_ f2_ f3_; have f4_ := f1_.symm; have f5_ := f3_.symm; clear f1_ f2_ f3_; subst f4_; subst f5_))
                                            refine hK.out _ _ ⟨HS0_,HS1_⟩ (fun hHeld => ?_); clear hK K; refine norm_ (a' := ?_) ?_ ?_; rotate_left
                                            · show Act.put _ (some 159) _ = _
                                              simp only [Act.put,YD,YE,YF,i64_w,i32_w]; rfl
                                            refine one_ (i := 6) (N := some 160) #[O,O,O,O,O,O,O,O,O,O,O,O,O,O,O,G,G,G] rfl rfl (X4 HT_.out (by kernel_rfl)) (by decide) (fun K hK => ?_); refine Kd.XE (Kd.int .i64) (w0 := w) w.heap.size (by rfl) (.tmp 154) (.tmp 159) 46 3 (.int .i64 0) 8 rfl Try.underlying46 info3 rfl (by decide) (by omega) (.slice Ao66 x24_5.length co66) x24_5 y442 _ _ _ (fun k_ => some k_ ≠ (v405 : Value).ownBlock ∧ some k_ ≠ (v407 : Value).ownBlock ∧ some k_ ≠ (v424 : Value).ownBlock ∧ some k_ ≠ (.slice Ao67 x25_5.length co67 : Value).ownBlock ∧ some k_ ≠ (.slice (some ad441) t434.length co69 : Value).ownBlock ∧ some k_ ≠ (.slice (some ad448) t435.length co65 : Value).ownBlock ∧ some k_ ≠ (v450 : Value).ownBlock ∧ some k_ ≠ (.slice Ao75 y442.length co75 : Value).ownBlock) (fun _ => False) rfl rfl ?aO ?aR (fun _ _ h => h) (fun _ h => h.elim) ?aF ?aB ?aS ?aL ?_
                                            (case aR => repeat (first | exact (Kd.ZL HO444.out).2.2 | (with_reducible refine Kd.ZA ?_ _) | (with_reducible refine Kd.Z9 ?_ _) | (with_reducible refine Kd.ZI ?_)))
                                            (case aB => exact (by repeat (first | (with_reducible first | exact HB.out | apply Zd | apply Za | apply Zb) | exact HB.out)))
                                            (case aF => exact (fun k_ hk => ⟨Kd.fresh' (Kd.R_lt (by (with_reducible repeat (first | apply Kd.Zl | apply Kd.Zk | apply Kd.Zs)); exact HO_13.out)) k_ hk,Kd.fresh' (Kd.R_lt (by (with_reducible repeat (first | apply Kd.Zl | apply Kd.Zk | apply Kd.Zs)); exact HO_14.out)) k_ hk,Kd.fresh' (Kd.R_lt (by (with_reducible repeat (first | apply Kd.Zl | apply Kd.Zk | apply Kd.Zs)); exact HO_21.out)) k_ hk,Kd.fresh' (Kd.R_lt (by (with_reducible repeat (first | apply Kd.Zl | apply Kd.Zk | apply Kd.Zs)); exact HO_25.out)) k_ hk,Kd.fresh' (Kd.R_lt (by (with_reducible repeat (first | apply Kd.Zl | apply Kd.Zk | apply Kd.Zs)); exact HO_26.out)) k_ hk,Kd.fresh' (Kd.R_lt (by (with_reducible repeat (first | apply Kd.Zl | apply Kd.Zk | apply Kd.Zs)); exact HO_27.out)) k_ hk,Kd.fresh' (Kd.R_lt (by (with_reducible repeat (first | apply Kd.Zl | apply Kd.Zk | apply Kd.Zs)); exact HO451.out)) k_ hk,Kd.fresh' (Kd.R_lt (by (with_reducible repeat (first | apply Kd.Zl | apply Kd.Zk | apply Kd.Zs)); exact HO444.out)) k_ hk⟩))
                                            (case aO => exact (by (with_reducible repeat (first | apply Kd.Zl | apply Kd.Zk | apply Kd.Zs)); exact Kd.ZN HO_24.out (fun _ hk => ⟨hk.1.1.1,⟨hk.1.1.2.1,⟨hk.1.1.2.2.1,⟨hk.1.1.2.2.2.1,⟨hk.1.1.2.2.2.2.1,⟨hk.1.1.2.2.2.2.2,⟨hk.1.2,hk.2⟩⟩⟩⟩⟩⟩⟩)))
                                            (case aS => exact (ZH (by repeat (first | (with_reducible first | exact HB.out | apply Zd | apply Za | apply Zb) | exact HB.out))))
                                            (case aL => have := LMc63.out; omega)
                                            intro v446 w74 ho hb hg hat
                                            have hne_HO_26 : some ad441.block ≠ (.slice Ao66 x24_5.length co66 : Value).ownBlock := (HO_26.out.1 _ rfl).1.1.2.2.2.1; have hne_HO_27 : some ad448.block ≠ (.slice Ao66 x24_5.length co66 : Value).ownBlock := (HO_27.out.1 _ rfl).1.1.2.2.2.1; have HS0_ := XF hg (hHeld.1) (by first | (rw [Zr]; exact hne_HO_26) | (show some (Addr.add _ _).block ≠ _; rw [Zr]; exact hne_HO_26) | exact hne_HO_26); have HS1_ := XF hg (hHeld.2) (by first | (rw [Zr]; exact hne_HO_27) | (show some (Addr.add _ _).block ≠ _; rw [Zr]; exact hne_HO_27) | exact hne_HO_27); rw [← Ny445.out] at ho; have n0_ := Zc.mk (Kd.Xt (ok := (fun k_ => some k_ ≠ (v407 : Value).ownBlock ∧ some k_ ≠ (v424 : Value).ownBlock ∧ some k_ ≠ (.slice Ao67 x25_5.length co67 : Value).ownBlock ∧ some k_ ≠ (.slice (some ad441) t434.length co69 : Value).ownBlock ∧ some k_ ≠ (.slice (some ad448) t435.length co65 : Value).ownBlock ∧ some k_ ≠ (v450 : Value).ownBlock ∧ some k_ ≠ (.slice Ao75 y442.length co75 : Value).ownBlock)) (by (with_reducible repeat (first | apply Kd.Zl | apply Kd.Zk | apply Kd.Zs)); exact Kd.ZN HO_13.out (fun _ hk => ⟨⟨hk.1.1.1,⟨hk.1.1.2.1,⟨hk.1.1.2.2.2.1,⟨hk.1.1.2.2.2.2.1,⟨hk.1.1.2.2.2.2.2,⟨hk.1.2,hk.2⟩⟩⟩⟩⟩⟩,hk.1.1.2.2.1⟩)) hg hat); have n1_ := Zc.mk (Kd.Xt (ok := (fun k_ => some k_ ≠ (v405 : Value).ownBlock ∧ some k_ ≠ (v424 : Value).ownBlock ∧ some k_ ≠ (.slice Ao67 x25_5.length co67 : Value).ownBlock ∧ some k_ ≠ (.slice (some ad441) t434.length co69 : Value).ownBlock ∧ some k_ ≠ (.slice (some ad448) t435.length co65 : Value).ownBlock ∧ some k_ ≠ (v450 : Value).ownBlock ∧ some k_ ≠ (.slice Ao75 y442.length co75 : Value).ownBlock)) (by (with_reducible repeat (first | apply Kd.Zl | apply Kd.Zk | apply Kd.Zs)); exact Kd.ZN HO_14.out (fun _ hk => ⟨⟨hk.1.1.1,⟨hk.1.1.2.1,⟨hk.1.1.2.2.2.1,⟨hk.1.1.2.2.2.2.1,⟨hk.1.1.2.2.2.2.2,⟨hk.1.2,hk.2⟩⟩⟩⟩⟩⟩,hk.1.1.2.2.1⟩)) hg hat); have n2_ := Zc.mk (Kd.Xt (ok := (fun k_ => some k_ ≠ (v405 : Value).ownBlock ∧ some k_ ≠ (v407 : Value).ownBlock ∧ some k_ ≠ (.slice Ao67 x25_5.length co67 : Value).ownBlock ∧ some k_ ≠ (.slice (some ad441) t434.length co69 : Value).ownBlock ∧ some k_ ≠ (.slice (some ad448) t435.length co65 : Value).ownBlock ∧ some k_ ≠ (v450 : Value).ownBlock ∧ some k_ ≠ (.slice Ao75 y442.length co75 : Value).ownBlock)) (by (with_reducible repeat (first | apply Kd.Zl | apply Kd.Zk | apply Kd.Zs)); exact Kd.ZN HO_21.out (fun _ hk => ⟨⟨hk.1.1.1,⟨hk.1.1.2.1,⟨hk.1.1.2.2.2.1,⟨hk.1.1.2.2.2.2.1,⟨hk.1.1.2.2.2.2.2,⟨hk.1.2,hk.2⟩⟩⟩⟩⟩⟩,hk.1.1.2.2.1⟩)) hg hat); have n3_ := Zc.mk (Kd.Xt (ok := (fun k_ => some k_ ≠ (v405 : Value).ownBlock ∧ some k_ ≠ (v407 : Value).ownBlock ∧ some k_ ≠ (v424 : Value).ownBlock ∧ some k_ ≠ (.slice (some ad441) t434.length co69 : Value).ownBlock ∧ some k_ ≠ (.slice (some ad448) t435.length co65 : Value).ownBlock ∧ some k_ ≠ (v450 : Value).ownBlock ∧ some k_ ≠ (.slice Ao75 y442.length co75 : Value).ownBlock)) (by (with_reducible repeat (first | apply Kd.Zl | apply Kd.Zk | apply Kd.Zs)); exact Kd.ZN HO_25.out (fun _ hk => ⟨⟨hk.1.1.1,⟨hk.1.1.2.1,⟨hk.1.1.2.2.1,⟨hk.1.1.2.2.2.2.1,⟨hk.1.1.2.2.2.2.2,⟨hk.1.2,hk.2⟩⟩⟩⟩⟩⟩,hk.1.1.2.2.2.1⟩)) hg hat); have n4_ := Zc.mk (Kd.Xt (ok := (fun k_ => some k_ ≠ (v405 : Value).ownBlock ∧ some k_ ≠ (v407 : Value).ownBlock ∧ some k_ ≠ (v424 : Value).ownBlock ∧ some k_ ≠ (.slice Ao67 x25_5.length co67 : Value).ownBlock ∧ some k_ ≠ (.slice (some ad448) t435.length co65 : Value).ownBlock ∧ some k_ ≠ (v450 : Value).ownBlock ∧ some k_ ≠ (.slice Ao75 y442.length co75 : Value).ownBlock)) (by (with_reducible repeat (first | apply Kd.Zl | apply Kd.Zk | apply Kd.Zs)); exact Kd.ZN HO_26.out (fun _ hk => ⟨⟨hk.1.1.1,⟨hk.1.1.2.1,⟨hk.1.1.2.2.1,⟨hk.1.1.2.2.2.2.1,⟨hk.1.1.2.2.2.2.2,⟨hk.1.2,hk.2⟩⟩⟩⟩⟩⟩,hk.1.1.2.2.2.1⟩)) hg hat); have n5_ := Zc.mk (Kd.Xt (ok := (fun k_ => some k_ ≠ (v405 : Value).ownBlock ∧ some k_ ≠ (v407 : Value).ownBlock ∧ some k_ ≠ (v424 : Value).ownBlock ∧ some k_ ≠ (.slice Ao67 x25_5.length co67 : Value).ownBlock ∧ some k_ ≠ (.slice (some ad441) t434.length co69 : Value).ownBlock ∧ some k_ ≠ (v450 : Value).ownBlock ∧ some k_ ≠ (.slice Ao75 y442.length co75 : Value).ownBlock)) (by (with_reducible repeat (first | apply Kd.Zl | apply Kd.Zk | apply Kd.Zs)); exact Kd.ZN HO_27.out (fun _ hk => ⟨⟨hk.1.1.1,⟨hk.1.1.2.1,⟨hk.1.1.2.2.1,⟨hk.1.1.2.2.2.2.1,⟨hk.1.1.2.2.2.2.2,⟨hk.1.2,hk.2⟩⟩⟩⟩⟩⟩,hk.1.1.2.2.2.1⟩)) hg hat); have n6_ := Zc.mk (Kd.Xt (ok := (fun k_ => some k_ ≠ (v405 : Value).ownBlock ∧ some k_ ≠ (v407 : Value).ownBlock ∧ some k_ ≠ (v424 : Value).ownBlock ∧ some k_ ≠ (.slice Ao67 x25_5.length co67 : Value).ownBlock ∧ some k_ ≠ (.slice (some ad441) t434.length co69 : Value).ownBlock ∧ some k_ ≠ (.slice (some ad448) t435.length co65 : Value).ownBlock ∧ some k_ ≠ (.slice Ao75 y442.length co75 : Value).ownBlock)) (by (with_reducible repeat (first | apply Kd.Zl | apply Kd.Zk | apply Kd.Zs)); exact Kd.ZN HO451.out (fun _ hk => ⟨⟨hk.1.1.1.1.1.1.1.2,⟨hk.1.1.1.1.1.1.2,⟨hk.1.1.1.1.1.2,⟨hk.1.1.1.2,⟨hk.1.1.2,⟨hk.1.2,hk.2⟩⟩⟩⟩⟩⟩,hk.1.1.1.1.2⟩)) hg hat); have n7_ := Zc.mk (Kd.Xt (ok := (fun k_ => some k_ ≠ (v405 : Value).ownBlock ∧ some k_ ≠ (v407 : Value).ownBlock ∧ some k_ ≠ (v424 : Value).ownBlock ∧ some k_ ≠ (.slice Ao67 x25_5.length co67 : Value).ownBlock ∧ some k_ ≠ (.slice (some ad441) t434.length co69 : Value).ownBlock ∧ some k_ ≠ (.slice (some ad448) t435.length co65 : Value).ownBlock ∧ some k_ ≠ (v450 : Value).ownBlock)) (by (with_reducible repeat (first | apply Kd.Zl | apply Kd.Zk | apply Kd.Zs)); exact Kd.ZN HO444.out (fun _ hk => ⟨⟨hk.1.1.1.1.1.1.1.2,⟨hk.1.1.1.1.1.1.2,⟨hk.1.1.1.1.1.2,⟨hk.1.1.1.2,⟨hk.1.1.2,⟨hk.1.2,hk.2⟩⟩⟩⟩⟩⟩,hk.1.1.1.1.2⟩)) hg hat); have n8_ := Zc.mk (hb); have n9_ := Zc.mk (ho); clear HO_13; clear HO_14; clear HO_21; clear HO_25; clear HO_26; clear HO_27; clear HO451; clear HO444; clear HB; clear HO_24; have HO_13 := n0_; have HO_14 := n1_; have HO_21 := n2_; have HO_25 := n3_; have HO_26 := n4_; have HO_27 := n5_; have HO451 := n6_; have HO444 := n7_; have HB := n8_; have HO447 := n9_; clear n0_ n1_ n2_ n3_ n4_ n5_ n6_ n7_ n8_ n9_
                                            clear ho hb hg hat
                                            refine hK.out _ _ ⟨HS0_,HS1_⟩ (fun hHeld => ?_); clear hK K; refine norm_ (a' := ?_) ?_ ?_; rotate_left
                                            · show Act.put _ (some 160) _ = _
                                              simp only [Act.put,YD,YE,YF,i64_w,i32_w]; rfl
                                            exact norm_ (by simp only [putAll,Act.put,List.setIfInBounds_toArray,List.set_cons_zero,List.set_cons_succ]) (hCont (.slice Ao75 y442.length co75,v446,v450) _ ⟨hHeld,(by (with_reducible repeat (first | apply Kd.Zl | apply Kd.Zk | apply Kd.Zs)); exact Kd.ZN HO444.out (fun _ hk => ⟨hk.2,⟨hk.1.2.2.2.2.2.2,⟨hk.1.1,⟨hk.1.2.1,⟨hk.1.2.2.1,⟨hk.1.2.2.2.1,⟨hk.1.2.2.2.2.1,hk.1.2.2.2.2.2.1⟩⟩⟩⟩⟩⟩⟩)),(by (with_reducible repeat (first | apply Kd.Zl | apply Kd.Zk | apply Kd.Zs)); exact Kd.ZN HO447.out (fun _ hk => ⟨hk.2.2.2.2.2.2.2,⟨hk.2.2.2.2.2.2.1,⟨hk.1,⟨hk.2.1,⟨hk.2.2.1,⟨hk.2.2.2.1,⟨hk.2.2.2.2.1,hk.2.2.2.2.2.1⟩⟩⟩⟩⟩⟩⟩)),(by (with_reducible repeat (first | apply Kd.Zl | apply Kd.Zk | apply Kd.Zs)); exact Kd.ZN HO451.out (fun _ hk => ⟨hk.1.2.2.2.2.2.2,⟨hk.2,⟨hk.1.1,⟨hk.1.2.1,⟨hk.1.2.2.1,⟨hk.1.2.2.2.1,⟨hk.1.2.2.2.2.1,hk.1.2.2.2.2.2.1⟩⟩⟩⟩⟩⟩⟩)),(by (with_reducible repeat (first | apply Kd.Zl | apply Kd.Zk | apply Kd.Zs)); exact Kd.ZN HO_13.out (fun _ hk => ⟨hk.1.2.2.2.2.2.2,⟨hk.2,⟨hk.1.2.2.2.2.2.1,⟨hk.1.1,⟨hk.1.2.1,⟨hk.1.2.2.1,⟨hk.1.2.2.2.1,hk.1.2.2.2.2.1⟩⟩⟩⟩⟩⟩⟩)),(by (with_reducible repeat (first | apply Kd.Zl | apply Kd.Zk | apply Kd.Zs)); exact Kd.ZN HO_14.out (fun _ hk => ⟨hk.1.2.2.2.2.2.2,⟨hk.2,⟨hk.1.2.2.2.2.2.1,⟨hk.1.1,⟨hk.1.2.1,⟨hk.1.2.2.1,⟨hk.1.2.2.2.1,hk.1.2.2.2.2.1⟩⟩⟩⟩⟩⟩⟩)),(by (with_reducible repeat (first | apply Kd.Zl | apply Kd.Zk | apply Kd.Zs)); exact Kd.ZN HO_21.out (fun _ hk => ⟨hk.1.2.2.2.2.2.2,⟨hk.2,⟨hk.1.2.2.2.2.2.1,⟨hk.1.1,⟨hk.1.2.1,⟨hk.1.2.2.1,⟨hk.1.2.2.2.1,hk.1.2.2.2.2.1⟩⟩⟩⟩⟩⟩⟩)),(by (with_reducible repeat (first | apply Kd.Zl | apply Kd.Zk | apply Kd.Zs)); exact Kd.ZN HO_25.out (fun _ hk => ⟨hk.1.2.2.2.2.2.2,⟨hk.2,⟨hk.1.2.2.2.2.2.1,⟨hk.1.1,⟨hk.1.2.1,⟨hk.1.2.2.1,⟨hk.1.2.2.2.1,hk.1.2.2.2.2.1⟩⟩⟩⟩⟩⟩⟩)),(by (with_reducible repeat (first | apply Kd.Zl | apply Kd.Zk | apply Kd.Zs)); exact Kd.ZN HO_26.out (fun _ hk => ⟨hk.1.2.2.2.2.2.2,⟨hk.2,⟨hk.1.2.2.2.2.2.1,⟨hk.1.1,⟨hk.1.2.1,⟨hk.1.2.2.1,⟨hk.1.2.2.2.1,hk.1.2.2.2.2.1⟩⟩⟩⟩⟩⟩⟩)),(by (with_reducible repeat (first | apply Kd.Zl | apply Kd.Zk | apply Kd.Zs)); exact Kd.ZN HO_27.out (fun _ hk => ⟨hk.1.2.2.2.2.2.2,⟨hk.2,⟨hk.1.2.2.2.2.2.1,⟨hk.1.1,⟨hk.1.2.1,⟨hk.1.2.2.1,⟨hk.1.2.2.2.1,hk.1.2.2.2.2.1⟩⟩⟩⟩⟩⟩⟩)),(by repeat (first | (with_reducible first | exact HB.out | apply Zd | apply Za | apply Zb) | exact HB.out))⟩)
                                        rintro ⟨v443,v446,v450⟩ w76 ⟨hS_,h0_,h1_,h2_,h3_,h4_,h5_,h6_,h7_,h8_,h9_⟩
                                        have n0_ : Zc (Kd.R (Kd.int .i64) 3 w76 w.heap.size (fun k_ => some k_ ≠ (v446 : Value).ownBlock ∧ some k_ ≠ (v450 : Value).ownBlock ∧ some k_ ≠ (v405 : Value).ownBlock ∧ some k_ ≠ (v407 : Value).ownBlock ∧ some k_ ≠ (v424 : Value).ownBlock ∧ some k_ ≠ (.slice Ao67 x25_5.length co67 : Value).ownBlock ∧ some k_ ≠ (.slice (some ad441) t434.length co69 : Value).ownBlock ∧ some k_ ≠ (.slice (some ad448) t435.length co65 : Value).ownBlock) v443 y442) := ⟨h0_⟩
                                        have n1_ : Zc (Kd.R (Kd.int .i64) 3 w76 w.heap.size (fun k_ => some k_ ≠ (v443 : Value).ownBlock ∧ some k_ ≠ (v450 : Value).ownBlock ∧ some k_ ≠ (v405 : Value).ownBlock ∧ some k_ ≠ (v407 : Value).ownBlock ∧ some k_ ≠ (v424 : Value).ownBlock ∧ some k_ ≠ (.slice Ao67 x25_5.length co67 : Value).ownBlock ∧ some k_ ≠ (.slice (some ad441) t434.length co69 : Value).ownBlock ∧ some k_ ≠ (.slice (some ad448) t435.length co65 : Value).ownBlock) v446 y445) := ⟨h1_⟩
                                        have n2_ : Zc (Kd.R (Kd.int .i64) 3 w76 w.heap.size (fun k_ => some k_ ≠ (v443 : Value).ownBlock ∧ some k_ ≠ (v446 : Value).ownBlock ∧ some k_ ≠ (v405 : Value).ownBlock ∧ some k_ ≠ (v407 : Value).ownBlock ∧ some k_ ≠ (v424 : Value).ownBlock ∧ some k_ ≠ (.slice Ao67 x25_5.length co67 : Value).ownBlock ∧ some k_ ≠ (.slice (some ad441) t434.length co69 : Value).ownBlock ∧ some k_ ≠ (.slice (some ad448) t435.length co65 : Value).ownBlock) v450 y449) := ⟨h2_⟩
                                        have n3_ : Zc (Kd.R (Kd.int .i64) 3 w76 w.heap.size (fun k_ => some k_ ≠ (v443 : Value).ownBlock ∧ some k_ ≠ (v446 : Value).ownBlock ∧ some k_ ≠ (v450 : Value).ownBlock ∧ some k_ ≠ (v407 : Value).ownBlock ∧ some k_ ≠ (v424 : Value).ownBlock ∧ some k_ ≠ (.slice Ao67 x25_5.length co67 : Value).ownBlock ∧ some k_ ≠ (.slice (some ad441) t434.length co69 : Value).ownBlock ∧ some k_ ≠ (.slice (some ad448) t435.length co65 : Value).ownBlock) v405 t402) := ⟨h3_⟩
                                        have n4_ : Zc (Kd.R (Kd.int .i64) 3 w76 w.heap.size (fun k_ => some k_ ≠ (v443 : Value).ownBlock ∧ some k_ ≠ (v446 : Value).ownBlock ∧ some k_ ≠ (v450 : Value).ownBlock ∧ some k_ ≠ (v405 : Value).ownBlock ∧ some k_ ≠ (v424 : Value).ownBlock ∧ some k_ ≠ (.slice Ao67 x25_5.length co67 : Value).ownBlock ∧ some k_ ≠ (.slice (some ad441) t434.length co69 : Value).ownBlock ∧ some k_ ≠ (.slice (some ad448) t435.length co65 : Value).ownBlock) v407 t403) := ⟨h4_⟩
                                        have n5_ : Zc (Kd.R (Kd.int .i64) 3 w76 w.heap.size (fun k_ => some k_ ≠ (v443 : Value).ownBlock ∧ some k_ ≠ (v446 : Value).ownBlock ∧ some k_ ≠ (v450 : Value).ownBlock ∧ some k_ ≠ (v405 : Value).ownBlock ∧ some k_ ≠ (v407 : Value).ownBlock ∧ some k_ ≠ (.slice Ao67 x25_5.length co67 : Value).ownBlock ∧ some k_ ≠ (.slice (some ad441) t434.length co69 : Value).ownBlock ∧ some k_ ≠ (.slice (some ad448) t435.length co65 : Value).ownBlock) v424 t422) := ⟨h5_⟩
                                        have n6_ : Zc (Kd.R (Kd.int .i64) 3 w76 w.heap.size (fun k_ => some k_ ≠ (v443 : Value).ownBlock ∧ some k_ ≠ (v446 : Value).ownBlock ∧ some k_ ≠ (v450 : Value).ownBlock ∧ some k_ ≠ (v405 : Value).ownBlock ∧ some k_ ≠ (v407 : Value).ownBlock ∧ some k_ ≠ (v424 : Value).ownBlock ∧ some k_ ≠ (.slice (some ad441) t434.length co69 : Value).ownBlock ∧ some k_ ≠ (.slice (some ad448) t435.length co65 : Value).ownBlock) (.slice Ao67 x25_5.length co67) x25_5) := ⟨h6_⟩
                                        have n7_ : Zc (Kd.R (Kd.int .i64) 3 w76 w.heap.size (fun k_ => some k_ ≠ (v443 : Value).ownBlock ∧ some k_ ≠ (v446 : Value).ownBlock ∧ some k_ ≠ (v450 : Value).ownBlock ∧ some k_ ≠ (v405 : Value).ownBlock ∧ some k_ ≠ (v407 : Value).ownBlock ∧ some k_ ≠ (v424 : Value).ownBlock ∧ some k_ ≠ (.slice Ao67 x25_5.length co67 : Value).ownBlock ∧ some k_ ≠ (.slice (some ad448) t435.length co65 : Value).ownBlock) (.slice (some ad441) t434.length co69) t434) := ⟨h7_⟩
                                        have n8_ : Zc (Kd.R (Kd.int .i64) 3 w76 w.heap.size (fun k_ => some k_ ≠ (v443 : Value).ownBlock ∧ some k_ ≠ (v446 : Value).ownBlock ∧ some k_ ≠ (v450 : Value).ownBlock ∧ some k_ ≠ (v405 : Value).ownBlock ∧ some k_ ≠ (v407 : Value).ownBlock ∧ some k_ ≠ (v424 : Value).ownBlock ∧ some k_ ≠ (.slice Ao67 x25_5.length co67 : Value).ownBlock ∧ some k_ ≠ (.slice (some ad441) t434.length co69 : Value).ownBlock) (.slice (some ad448) t435.length co65) t435) := ⟨h8_⟩
                                        have n9_ : Zc (Below w.heap.size w w76) := ⟨h9_⟩
                                        clear HO_13; clear HO_14; clear HO_21; clear HO_24; clear HO_25; clear HO_26; clear HO_27; clear HB; clear h0_ h1_ h2_ h3_ h4_ h5_ h6_ h7_ h8_ h9_; have HO444 := n0_; have HO447 := n1_; have HO451 := n2_; have HO_13 := n3_; have HO_14 := n4_; have HO_21 := n5_; have HO_25 := n6_; have HO_26 := n7_; have HO_27 := n8_; have HB := n9_; clear n0_ n1_ n2_ n3_ n4_ n5_ n6_ n7_ n8_ n9_; have hHeld : w76.cell? (ad441.add (x29_5).toNat) = some (.int .i64 (rd t434 x29_5)) ∧ w76.cell? (ad448.add (x29_5).toNat) = some (.int .i64 (rd t435 x29_5)) := hS_; obtain ⟨Ao78,co78,eo78⟩ := Kd.Xd HO451.out
                                        (first | subst eo78 | (injection eo78 with f1_ f2_ f3_; have f4_ := f1_.symm; have f5_ := f3_.symm; clear f1_ f2_ f3_; subst f4_; subst f5_))
                                        refine norm_ (a' := ?_) ?_ ?_; rotate_left
                                        · simp only [putAll,Act.put,List.setIfInBounds_toArray,List.set_cons_zero,List.set_cons_succ]
                                          rfl
                                        refine one_ (i := 15) (N := some 169) #[O,O,O,O,O,O,O,O,O,O,O,O,O,O,O,O,G,G] rfl rfl (X4 HT_.out (by kernel_rfl)) (by decide) (fun K hK => ?_); refine Kd.XE (Kd.int .i64) (w0 := w) w.heap.size (by rfl) (.tmp 161) (.tmp 168) 46 3 (.int .i64 0) 8 rfl Try.underlying46 info3 rfl (by decide) (by omega) (.slice Ao67 x25_5.length co67) x25_5 y449 _ _ _ (fun k_ => some k_ ≠ (v405 : Value).ownBlock ∧ some k_ ≠ (v407 : Value).ownBlock ∧ some k_ ≠ (v424 : Value).ownBlock ∧ some k_ ≠ (.slice (some ad441) t434.length co69 : Value).ownBlock ∧ some k_ ≠ (.slice (some ad448) t435.length co65 : Value).ownBlock ∧ some k_ ≠ (v443 : Value).ownBlock ∧ some k_ ≠ (v446 : Value).ownBlock ∧ some k_ ≠ (.slice Ao78 y449.length co78 : Value).ownBlock) (fun _ => False) rfl rfl ?aO ?aR (fun _ _ h => h) (fun _ h => h.elim) ?aF ?aB ?aS ?aL ?_
                                        (case aR => repeat (first | exact (Kd.ZL HO451.out).2.2 | (with_reducible refine Kd.ZA ?_ _) | (with_reducible refine Kd.Z9 ?_ _) | (with_reducible refine Kd.ZI ?_)))
                                        (case aB => exact (by repeat (first | (with_reducible first | exact HB.out | apply Zd | apply Za | apply Zb) | exact HB.out)))
                                        (case aF => exact (fun k_ hk => ⟨Kd.fresh' (Kd.R_lt (by (with_reducible repeat (first | apply Kd.Zl | apply Kd.Zk | apply Kd.Zs)); exact HO_13.out)) k_ hk,Kd.fresh' (Kd.R_lt (by (with_reducible repeat (first | apply Kd.Zl | apply Kd.Zk | apply Kd.Zs)); exact HO_14.out)) k_ hk,Kd.fresh' (Kd.R_lt (by (with_reducible repeat (first | apply Kd.Zl | apply Kd.Zk | apply Kd.Zs)); exact HO_21.out)) k_ hk,Kd.fresh' (Kd.R_lt (by (with_reducible repeat (first | apply Kd.Zl | apply Kd.Zk | apply Kd.Zs)); exact HO_26.out)) k_ hk,Kd.fresh' (Kd.R_lt (by (with_reducible repeat (first | apply Kd.Zl | apply Kd.Zk | apply Kd.Zs)); exact HO_27.out)) k_ hk,Kd.fresh' (Kd.R_lt (by (with_reducible repeat (first | apply Kd.Zl | apply Kd.Zk | apply Kd.Zs)); exact HO444.out)) k_ hk,Kd.fresh' (Kd.R_lt (by (with_reducible repeat (first | apply Kd.Zl | apply Kd.Zk | apply Kd.Zs)); exact HO447.out)) k_ hk,Kd.fresh' (Kd.R_lt (by (with_reducible repeat (first | apply Kd.Zl | apply Kd.Zk | apply Kd.Zs)); exact HO451.out)) k_ hk⟩))
                                        (case aO => exact (by (with_reducible repeat (first | apply Kd.Zl | apply Kd.Zk | apply Kd.Zs)); exact Kd.ZN HO_25.out (fun _ hk => ⟨hk.2.2.2.1,⟨hk.2.2.2.2.1,⟨hk.2.2.2.2.2.1,⟨hk.2.2.2.2.2.2.1,⟨hk.2.2.2.2.2.2.2,⟨hk.1,⟨hk.2.1,hk.2.2.1⟩⟩⟩⟩⟩⟩⟩)))
                                        (case aS => exact (ZH (by repeat (first | (with_reducible first | exact HB.out | apply Zd | apply Za | apply Zb) | exact HB.out))))
                                        (case aL => have := LMc64.out; omega)
                                        intro v453 w77 ho hb hg hat
                                        have hne_HO_26 : some ad441.block ≠ (.slice Ao67 x25_5.length co67 : Value).ownBlock := (HO_26.out.1 _ rfl).2.2.2.2.2.2.1; have hne_HO_27 : some ad448.block ≠ (.slice Ao67 x25_5.length co67 : Value).ownBlock := (HO_27.out.1 _ rfl).2.2.2.2.2.2.1; have HS0_ := XF hg (hHeld.1) (by first | (rw [Zr]; exact hne_HO_26) | (show some (Addr.add _ _).block ≠ _; rw [Zr]; exact hne_HO_26) | exact hne_HO_26); have HS1_ := XF hg (hHeld.2) (by first | (rw [Zr]; exact hne_HO_27) | (show some (Addr.add _ _).block ≠ _; rw [Zr]; exact hne_HO_27) | exact hne_HO_27); rw [← Ny452.out] at ho; have n0_ := Zc.mk (Kd.Xt (ok := (fun k_ => some k_ ≠ (v407 : Value).ownBlock ∧ some k_ ≠ (v424 : Value).ownBlock ∧ some k_ ≠ (.slice (some ad441) t434.length co69 : Value).ownBlock ∧ some k_ ≠ (.slice (some ad448) t435.length co65 : Value).ownBlock ∧ some k_ ≠ (v443 : Value).ownBlock ∧ some k_ ≠ (v446 : Value).ownBlock ∧ some k_ ≠ (.slice Ao78 y449.length co78 : Value).ownBlock)) (by (with_reducible repeat (first | apply Kd.Zl | apply Kd.Zk | apply Kd.Zs)); exact Kd.ZN HO_13.out (fun _ hk => ⟨⟨hk.2.2.2.1,⟨hk.2.2.2.2.1,⟨hk.2.2.2.2.2.2.1,⟨hk.2.2.2.2.2.2.2,⟨hk.1,⟨hk.2.1,hk.2.2.1⟩⟩⟩⟩⟩⟩,hk.2.2.2.2.2.1⟩)) hg hat); have n1_ := Zc.mk (Kd.Xt (ok := (fun k_ => some k_ ≠ (v405 : Value).ownBlock ∧ some k_ ≠ (v424 : Value).ownBlock ∧ some k_ ≠ (.slice (some ad441) t434.length co69 : Value).ownBlock ∧ some k_ ≠ (.slice (some ad448) t435.length co65 : Value).ownBlock ∧ some k_ ≠ (v443 : Value).ownBlock ∧ some k_ ≠ (v446 : Value).ownBlock ∧ some k_ ≠ (.slice Ao78 y449.length co78 : Value).ownBlock)) (by (with_reducible repeat (first | apply Kd.Zl | apply Kd.Zk | apply Kd.Zs)); exact Kd.ZN HO_14.out (fun _ hk => ⟨⟨hk.2.2.2.1,⟨hk.2.2.2.2.1,⟨hk.2.2.2.2.2.2.1,⟨hk.2.2.2.2.2.2.2,⟨hk.1,⟨hk.2.1,hk.2.2.1⟩⟩⟩⟩⟩⟩,hk.2.2.2.2.2.1⟩)) hg hat); have n2_ := Zc.mk (Kd.Xt (ok := (fun k_ => some k_ ≠ (v405 : Value).ownBlock ∧ some k_ ≠ (v407 : Value).ownBlock ∧ some k_ ≠ (.slice (some ad441) t434.length co69 : Value).ownBlock ∧ some k_ ≠ (.slice (some ad448) t435.length co65 : Value).ownBlock ∧ some k_ ≠ (v443 : Value).ownBlock ∧ some k_ ≠ (v446 : Value).ownBlock ∧ some k_ ≠ (.slice Ao78 y449.length co78 : Value).ownBlock)) (by (with_reducible repeat (first | apply Kd.Zl | apply Kd.Zk | apply Kd.Zs)); exact Kd.ZN HO_21.out (fun _ hk => ⟨⟨hk.2.2.2.1,⟨hk.2.2.2.2.1,⟨hk.2.2.2.2.2.2.1,⟨hk.2.2.2.2.2.2.2,⟨hk.1,⟨hk.2.1,hk.2.2.1⟩⟩⟩⟩⟩⟩,hk.2.2.2.2.2.1⟩)) hg hat); have n3_ := Zc.mk (Kd.Xt (ok := (fun k_ => some k_ ≠ (v405 : Value).ownBlock ∧ some k_ ≠ (v407 : Value).ownBlock ∧ some k_ ≠ (v424 : Value).ownBlock ∧ some k_ ≠ (.slice (some ad448) t435.length co65 : Value).ownBlock ∧ some k_ ≠ (v443 : Value).ownBlock ∧ some k_ ≠ (v446 : Value).ownBlock ∧ some k_ ≠ (.slice Ao78 y449.length co78 : Value).ownBlock)) (by (with_reducible repeat (first | apply Kd.Zl | apply Kd.Zk | apply Kd.Zs)); exact Kd.ZN HO_26.out (fun _ hk => ⟨⟨hk.2.2.2.1,⟨hk.2.2.2.2.1,⟨hk.2.2.2.2.2.1,⟨hk.2.2.2.2.2.2.2,⟨hk.1,⟨hk.2.1,hk.2.2.1⟩⟩⟩⟩⟩⟩,hk.2.2.2.2.2.2.1⟩)) hg hat); have n4_ := Zc.mk (Kd.Xt (ok := (fun k_ => some k_ ≠ (v405 : Value).ownBlock ∧ some k_ ≠ (v407 : Value).ownBlock ∧ some k_ ≠ (v424 : Value).ownBlock ∧ some k_ ≠ (.slice (some ad441) t434.length co69 : Value).ownBlock ∧ some k_ ≠ (v443 : Value).ownBlock ∧ some k_ ≠ (v446 : Value).ownBlock ∧ some k_ ≠ (.slice Ao78 y449.length co78 : Value).ownBlock)) (by (with_reducible repeat (first | apply Kd.Zl | apply Kd.Zk | apply Kd.Zs)); exact Kd.ZN HO_27.out (fun _ hk => ⟨⟨hk.2.2.2.1,⟨hk.2.2.2.2.1,⟨hk.2.2.2.2.2.1,⟨hk.2.2.2.2.2.2.2,⟨hk.1,⟨hk.2.1,hk.2.2.1⟩⟩⟩⟩⟩⟩,hk.2.2.2.2.2.2.1⟩)) hg hat); have n5_ := Zc.mk (Kd.Xt (ok := (fun k_ => some k_ ≠ (v405 : Value).ownBlock ∧ some k_ ≠ (v407 : Value).ownBlock ∧ some k_ ≠ (v424 : Value).ownBlock ∧ some k_ ≠ (.slice (some ad441) t434.length co69 : Value).ownBlock ∧ some k_ ≠ (.slice (some ad448) t435.length co65 : Value).ownBlock ∧ some k_ ≠ (v446 : Value).ownBlock ∧ some k_ ≠ (.slice Ao78 y449.length co78 : Value).ownBlock)) (by (with_reducible repeat (first | apply Kd.Zl | apply Kd.Zk | apply Kd.Zs)); exact Kd.ZN HO444.out (fun _ hk => ⟨⟨hk.2.2.1,⟨hk.2.2.2.1,⟨hk.2.2.2.2.1,⟨hk.2.2.2.2.2.2.1,⟨hk.2.2.2.2.2.2.2,⟨hk.1,hk.2.1⟩⟩⟩⟩⟩⟩,hk.2.2.2.2.2.1⟩)) hg hat); have n6_ := Zc.mk (Kd.Xt (ok := (fun k_ => some k_ ≠ (v405 : Value).ownBlock ∧ some k_ ≠ (v407 : Value).ownBlock ∧ some k_ ≠ (v424 : Value).ownBlock ∧ some k_ ≠ (.slice (some ad441) t434.length co69 : Value).ownBlock ∧ some k_ ≠ (.slice (some ad448) t435.length co65 : Value).ownBlock ∧ some k_ ≠ (v443 : Value).ownBlock ∧ some k_ ≠ (.slice Ao78 y449.length co78 : Value).ownBlock)) (by (with_reducible repeat (first | apply Kd.Zl | apply Kd.Zk | apply Kd.Zs)); exact Kd.ZN HO447.out (fun _ hk => ⟨⟨hk.2.2.1,⟨hk.2.2.2.1,⟨hk.2.2.2.2.1,⟨hk.2.2.2.2.2.2.1,⟨hk.2.2.2.2.2.2.2,⟨hk.1,hk.2.1⟩⟩⟩⟩⟩⟩,hk.2.2.2.2.2.1⟩)) hg hat); have n7_ := Zc.mk (Kd.Xt (ok := (fun k_ => some k_ ≠ (v405 : Value).ownBlock ∧ some k_ ≠ (v407 : Value).ownBlock ∧ some k_ ≠ (v424 : Value).ownBlock ∧ some k_ ≠ (.slice (some ad441) t434.length co69 : Value).ownBlock ∧ some k_ ≠ (.slice (some ad448) t435.length co65 : Value).ownBlock ∧ some k_ ≠ (v443 : Value).ownBlock ∧ some k_ ≠ (v446 : Value).ownBlock)) (by (with_reducible repeat (first | apply Kd.Zl | apply Kd.Zk | apply Kd.Zs)); exact Kd.ZN HO451.out (fun _ hk => ⟨⟨hk.2.2.1,⟨hk.2.2.2.1,⟨hk.2.2.2.2.1,⟨hk.2.2.2.2.2.2.1,⟨hk.2.2.2.2.2.2.2,⟨hk.1,hk.2.1⟩⟩⟩⟩⟩⟩,hk.2.2.2.2.2.1⟩)) hg hat); have n8_ := Zc.mk (hb); have n9_ := Zc.mk (ho); clear HO_13; clear HO_14; clear HO_21; clear HO_26; clear HO_27; clear HO444; clear HO447; clear HO451; clear HB; clear HO_25; have HO_13 := n0_; have HO_14 := n1_; have HO_21 := n2_; have HO_26 := n3_; have HO_27 := n4_; have HO444 := n5_; have HO447 := n6_; have HO451 := n7_; have HB := n8_; have HO454 := n9_; clear n0_ n1_ n2_ n3_ n4_ n5_ n6_ n7_ n8_ n9_
                                        clear ho hb hg hat
                                        refine hK.out _ _ ⟨HS0_,HS1_⟩ (fun hHeld => ?_); clear hK K; refine norm_ (a' := ?_) ?_ ?_; rotate_left
                                        · show Act.put _ (some 169) _ = _
                                          simp only [Act.put,YD,YE,YF,i64_w,i32_w]; rfl
                                        refine pure_ (i := 16) (N := some 24) (v := ?_) (a' := ?_) #[O,O,O,O,O,O,O,O,O,O,O,O,O,O,O,O,O,G] rfl rfl (Zp HT_.out (by kernel_rfl)) (fun _ _ _ h => h) (Or.inl ⟨by rfl,?_⟩) ?_ ?_; rotate_left
                                        · intro w'
                                          go_simp; with_reducible rfl
                                        rotate_left
                                        · simp only [Act.put,YD,YE,YF,i64_w,i32_w]
                                          rfl
                                        refine pure_ (i := 17) (N := some 25) (v := ?_) (a' := ?_) #[O,O,O,O,O,O,O,O,O,O,O,O,O,O,O,O,O,O] rfl rfl (Zp HT_.out (by kernel_rfl)) (fun _ _ _ h => h) (Or.inl ⟨by rfl,?_⟩) ?_ ?_; rotate_left
                                        · intro w'
                                          go_simp; with_reducible rfl
                                        rotate_left
                                        · simp only [Act.put,YD,YE,YF,i64_w,i32_w]
                                          rfl
                                        refine done_ (X7 HT_.out (by kernel_rfl)) ?_
                                        try go_wp2
                                        go_roundg k5
                                        case measure => have := HJ8.out; have := HJ17.out; have := HJ37.out; have := HJ47.out; have := HK5.out; omega
                                        case rel => exact ⟨(y445),(y452),(wrap64 (x29_5 + 1)),(by first | rfl | (simp; done) | (simp [*]; done)),H',⟨by have := HJ8.out; have := HJ17.out; have := HJ37.out; have := HJ47.out; have := HK5.out; omega⟩,⟨by (with_reducible repeat (first | apply Kd.Zl | apply Kd.Zk | apply Kd.Zs)); exact Kd.ZN HO_13.out (fun _ hk => ⟨hk.1.1,⟨hk.1.2.1,⟨hk.1.2.2.2.2.2.1,⟨hk.2,⟨hk.1.2.2.1,hk.1.2.2.2.1⟩⟩⟩⟩⟩)⟩,⟨by (with_reducible repeat (first | apply Kd.Zl | apply Kd.Zk | apply Kd.Zs)); exact Kd.ZN HO_14.out (fun _ hk => ⟨hk.1.1,⟨hk.1.2.1,⟨hk.1.2.2.2.2.2.1,⟨hk.2,⟨hk.1.2.2.1,hk.1.2.2.2.1⟩⟩⟩⟩⟩)⟩,⟨by (with_reducible repeat (first | apply Kd.Zl | apply Kd.Zk | apply Kd.Zs)); exact Kd.ZN HO_21.out (fun _ hk => ⟨hk.1.1,⟨hk.1.2.1,⟨hk.1.2.2.2.2.2.1,⟨hk.2,⟨hk.1.2.2.1,hk.1.2.2.2.1⟩⟩⟩⟩⟩)⟩,⟨by (with_reducible repeat (first | apply Kd.Zl | apply Kd.Zk | apply Kd.Zs)); exact Kd.ZN HO447.out (fun _ hk => ⟨hk.1.1,⟨hk.1.2.1,⟨hk.1.2.2.1,⟨hk.2,⟨hk.1.2.2.2.1,hk.1.2.2.2.2.1⟩⟩⟩⟩⟩)⟩,⟨by (with_reducible repeat (first | apply Kd.Zl | apply Kd.Zk | apply Kd.Zs)); exact Kd.ZN HO454.out (fun _ hk => ⟨hk.1,⟨hk.2.1,⟨hk.2.2.1,⟨hk.2.2.2.2.2.2.1,⟨hk.2.2.2.1,hk.2.2.2.2.1⟩⟩⟩⟩⟩)⟩,⟨by (with_reducible repeat (first | apply Kd.Zl | apply Kd.Zk | apply Kd.Zs)); exact Kd.ZN HO_26.out (fun _ hk => ⟨hk.1.1,⟨hk.1.2.1,⟨hk.1.2.2.1,⟨hk.1.2.2.2.2.2.1,⟨hk.2,hk.1.2.2.2.1⟩⟩⟩⟩⟩)⟩,⟨by (with_reducible repeat (first | apply Kd.Zl | apply Kd.Zk | apply Kd.Zs)); exact Kd.ZN HO_27.out (fun _ hk => ⟨hk.1.1,⟨hk.1.2.1,⟨hk.1.2.2.1,⟨hk.1.2.2.2.2.2.1,⟨hk.2,hk.1.2.2.2.1⟩⟩⟩⟩⟩)⟩,⟨by repeat (first | (with_reducible first | exact HB.out | apply Zd | apply Za | apply Zb) | exact HB.out)⟩⟩
                                      · rw [if_neg c64] at H
                                        exact absurd H (by simp)
                                    · rw [if_neg c63] at H
                                      exact absurd H (by simp)
                                  · rw [if_neg c62] at H
                                    exact absurd H (by simp)
                                · rw [if_neg c61] at H
                                  exact absurd H (by simp)
                              · rw [if_neg c60] at H
                                have c60b0 : decide (x29_5 < (t435.length : Int)) = false := decide_eq_false c60; clear c60; replace H := Option.bind_eq_some_iff.mp H; obtain ⟨t455,A790,H⟩ := H; replace H : (if t455 = true then ((Zw.f k5 x25_5 t403).bind fun t456 => (if t456 = true then (Ze.j5 k5 l0 l1 a2 a3 a4 t419 t422 (Int.tmod a5 (wrap64 (a4 + 1)))) else (some false))) else (some false)) = some r := H; have A79 := Zc.mk A790; clear A790
                                by_cases c80 : t455 = true
                                · subst c80
                                  have H1 : ((Zw.f k5 x25_5 t403).bind fun t456 => (if t456 = true then (Ze.j5 k5 l0 l1 a2 a3 a4 t419 t422 (Int.tmod a5 (wrap64 (a4 + 1)))) else (some false))) = some r := by rw [if_pos rfl] at H; exact H
                                  clear H; have H := H1; clear H1; replace H := Option.bind_eq_some_iff.mp H; obtain ⟨t456,A810,H⟩ := H; replace H : (if t456 = true then (Ze.j5 k5 l0 l1 a2 a3 a4 t419 t422 (Int.tmod a5 (wrap64 (a4 + 1)))) else (some false)) = some r := H; have A81 := Zc.mk A810; clear A810
                                  by_cases c82 : t456 = true
                                  · subst c82
                                    have H1 : (Ze.j5 k5 l0 l1 a2 a3 a4 t419 t422 (Int.tmod a5 (wrap64 (a4 + 1)))) = some r := by rw [if_pos rfl] at H; exact H
                                    clear H; have H := H1; clear H1; have H' := Zc.mk H; clear H; obtain ⟨Ao83,co83,eo83⟩ := Kd.Xd HO_27.out; subst eo83; obtain ⟨Ao84,co84,eo84⟩ := Kd.Xd HO_24.out; subst eo84; obtain ⟨Ao85,co85,eo85⟩ := Kd.Xd HO_13.out; subst eo85
                                    go_wp2_with (first | ((with_reducible refine Z1 (f := 31) rfl ?_); refine ZQ (some 172) rfl rfl Try.func31 (by kernel_rfl) rfl #[.slice Ao84 x24_5.length co84,.slice Ao85 t402.length co85] rfl (by (try simp only [List.map_toArray,List.map_cons,List.map_nil]); first | done | rfl | (simp only [List.length_drop,List.length_take]; rfl)) ?_; (with_reducible refine (Zw.calls k5 _ _ x24_5 _ _ t402 true _ ?side1 ?side2 ?side3 ?side4 A79.out).mono ?_); (case side1 => repeat (first | exact (Kd.ZL HO_24.out).2.2 | (with_reducible refine Kd.ZA ?_ _) | (with_reducible refine Kd.Z9 ?_ _) | (with_reducible refine Kd.ZI ?_))); (case side2 => exact (Kd.ZL HO_24.out).2.1); (case side3 => repeat (first | exact (Kd.ZL HO_13.out).2.2 | (with_reducible refine Kd.ZA ?_ _) | (with_reducible refine Kd.Z9 ?_ _) | (with_reducible refine Kd.ZI ?_))); (case side4 => exact (Kd.ZL HO_13.out).2.1); rintro e w' ⟨rfl,⟨nd,rfl⟩⟩; refine ⟨_,rfl,?_⟩; obtain ⟨Ao86,co86,eo86⟩ := Kd.Xd HO_25.out; subst eo86; obtain ⟨Ao87,co87,eo87⟩ := Kd.Xd HO_14.out; subst eo87) | (go_at_call 31; (with_reducible refine (Zw.calls k5 _ _ x25_5 _ _ t403 true _ ?side1 ?side2 ?side3 ?side4 A81.out).mono ?_); (case side1 => repeat (first | exact (Kd.ZL HO_25.out).2.2 | (with_reducible refine Kd.ZA ?_ _) | (with_reducible refine Kd.Z9 ?_ _) | (with_reducible refine Kd.ZI ?_))); (case side2 => exact (Kd.ZL HO_25.out).2.1); (case side3 => repeat (first | exact (Kd.ZL HO_14.out).2.2 | (with_reducible refine Kd.ZA ?_ _) | (with_reducible refine Kd.Z9 ?_ _) | (with_reducible refine Kd.ZI ?_))); (case side4 => exact (Kd.ZL HO_14.out).2.1); rintro e w' ⟨rfl,⟨nd,rfl⟩⟩))
                                    go_meet
                                    case rel => exact ⟨_,H',⟨by have := HJ8.out; have := HJ17.out; have := HJ37.out; have := HJ47.out; have := HK5.out; first | omega | exact Nat.le_refl _⟩,⟨by (with_reducible repeat (first | apply Kd.Zl | apply Kd.Zk | apply Kd.Zs)); exact Kd.ZN HO_21.out (fun _ hk => trivial)⟩,⟨by repeat (first | (with_reducible first | exact HB.out | apply Zd | apply Za | apply Zb) | exact HB.out)⟩⟩
                                  · replace c82 := Bool.eq_false_iff.mpr c82
                                    subst c82
                                    have H1 : (some false) = some r := by rw [if_neg (show ¬ (false = true) by decide)] at H; exact H
                                    clear H; have H := H1; clear H1; obtain rfl := Option.some.inj H; obtain ⟨Ao88,co88,eo88⟩ := Kd.Xd HO_27.out; subst eo88; obtain ⟨Ao89,co89,eo89⟩ := Kd.Xd HO_24.out; subst eo89; obtain ⟨Ao90,co90,eo90⟩ := Kd.Xd HO_13.out; subst eo90
                                    go_wp2_with (first | ((with_reducible refine Z1 (f := 31) rfl ?_); refine ZQ (some 172) rfl rfl Try.func31 (by kernel_rfl) rfl #[.slice Ao89 x24_5.length co89,.slice Ao90 t402.length co90] rfl (by (try simp only [List.map_toArray,List.map_cons,List.map_nil]); first | done | rfl | (simp only [List.length_drop,List.length_take]; rfl)) ?_; (with_reducible refine (Zw.calls k5 _ _ x24_5 _ _ t402 true _ ?side1 ?side2 ?side3 ?side4 A79.out).mono ?_); (case side1 => repeat (first | exact (Kd.ZL HO_24.out).2.2 | (with_reducible refine Kd.ZA ?_ _) | (with_reducible refine Kd.Z9 ?_ _) | (with_reducible refine Kd.ZI ?_))); (case side2 => exact (Kd.ZL HO_24.out).2.1); (case side3 => repeat (first | exact (Kd.ZL HO_13.out).2.2 | (with_reducible refine Kd.ZA ?_ _) | (with_reducible refine Kd.Z9 ?_ _) | (with_reducible refine Kd.ZI ?_))); (case side4 => exact (Kd.ZL HO_13.out).2.1); rintro e w' ⟨rfl,⟨nd,rfl⟩⟩; refine ⟨_,rfl,?_⟩; obtain ⟨Ao91,co91,eo91⟩ := Kd.Xd HO_25.out; subst eo91; obtain ⟨Ao92,co92,eo92⟩ := Kd.Xd HO_14.out; subst eo92) | (go_at_call 31; (with_reducible refine (Zw.calls k5 _ _ x25_5 _ _ t403 false _ ?side1 ?side2 ?side3 ?side4 A81.out).mono ?_); (case side1 => repeat (first | exact (Kd.ZL HO_25.out).2.2 | (with_reducible refine Kd.ZA ?_ _) | (with_reducible refine Kd.Z9 ?_ _) | (with_reducible refine Kd.ZI ?_))); (case side2 => exact (Kd.ZL HO_25.out).2.1); (case side3 => repeat (first | exact (Kd.ZL HO_14.out).2.2 | (with_reducible refine Kd.ZA ?_ _) | (with_reducible refine Kd.Z9 ?_ _) | (with_reducible refine Kd.ZI ?_))); (case side4 => exact (Kd.ZL HO_14.out).2.1); rintro e w' ⟨rfl,⟨nd,rfl⟩⟩))
                                    go_ret; exact ⟨by first | rfl | (simp [Zv,Zu] <;> rfl) | (simp [*,Zv,Zu] <;> rfl),by repeat (first | (with_reducible first | exact HB.out | apply Zd | apply Za | apply Zb) | exact HB.out)⟩
                                · replace c80 := Bool.eq_false_iff.mpr c80
                                  subst c80
                                  have H1 : (some false) = some r := by rw [if_neg (show ¬ (false = true) by decide)] at H; exact H
                                  clear H; have H := H1; clear H1; obtain rfl := Option.some.inj H; obtain ⟨Ao93,co93,eo93⟩ := Kd.Xd HO_27.out; subst eo93; obtain ⟨Ao94,co94,eo94⟩ := Kd.Xd HO_24.out; subst eo94; obtain ⟨Ao95,co95,eo95⟩ := Kd.Xd HO_13.out; subst eo95
                                  go_wp2_with (first | ((with_reducible refine Z1 (f := 31) rfl ?_); refine ZQ (some 172) rfl rfl Try.func31 (by kernel_rfl) rfl #[.slice Ao94 x24_5.length co94,.slice Ao95 t402.length co95] rfl (by (try simp only [List.map_toArray,List.map_cons,List.map_nil]); first | done | rfl | (simp only [List.length_drop,List.length_take]; rfl)) ?_; (with_reducible refine (Zw.calls k5 _ _ x24_5 _ _ t402 false _ ?side1 ?side2 ?side3 ?side4 A79.out).mono ?_); (case side1 => repeat (first | exact (Kd.ZL HO_24.out).2.2 | (with_reducible refine Kd.ZA ?_ _) | (with_reducible refine Kd.Z9 ?_ _) | (with_reducible refine Kd.ZI ?_))); (case side2 => exact (Kd.ZL HO_24.out).2.1); (case side3 => repeat (first | exact (Kd.ZL HO_13.out).2.2 | (with_reducible refine Kd.ZA ?_ _) | (with_reducible refine Kd.Z9 ?_ _) | (with_reducible refine Kd.ZI ?_))); (case side4 => exact (Kd.ZL HO_13.out).2.1); rintro e w' ⟨rfl,⟨nd,rfl⟩⟩; refine ⟨_,rfl,?_⟩))
                                  go_ret; exact ⟨by first | rfl | (simp [Zv,Zu] <;> rfl) | (simp [*,Zv,Zu] <;> rfl),by repeat (first | (with_reducible first | exact HB.out | apply Zd | apply Za | apply Zb) | exact HB.out)⟩
                          · rw [if_neg c58] at H
                            have c58b0 : (t436 == 0) = false := beq_eq_false_iff_ne.mpr c58; have c58b1 : (t436 != 0) = true := bne_iff_ne.mpr c58; obtain rfl := Option.some.inj H
                            go_wp2_with (first | ((with_reducible refine Z1 (f := 29) rfl ?_); refine ZQ (some 142) rfl rfl Try.func29 (by kernel_rfl) rfl #[.slice A0 l0.length c0,.int .i64 a2,.int .i64 (wrap64 (a3 + (Int.tmod a5 (wrap64 (a4 + 1))))),.int .i64 (wrap64 (a4 - (Int.tmod a5 (wrap64 (a4 + 1)))))] rfl (by (try simp only [List.map_toArray,List.map_cons,List.map_nil]); first | done | rfl | (simp only [List.length_drop,List.length_take]; rfl)) ?_; (with_reducible refine (Z4.calls kj47 _ _ l0 a2 (wrap64 (a3 + (Int.tmod a5 (wrap64 (a4 + 1))))) (wrap64 (a4 - (Int.tmod a5 (wrap64 (a4 + 1))))) t434 t435 t436 _ ?side1 ?side2 A57.out).mono ?_); (case side1 => repeat (first | exact (Kd.ZO HR0.out HB.out) | (with_reducible refine Kd.ZA ?_ _) | (with_reducible refine Kd.Z9 ?_ _) | (with_reducible refine Kd.ZI ?_))); (case side2 => exact HC0.out); rintro e w96 ⟨v437,v439,rfl,ho0,ho1,hb⟩; refine ⟨_,rfl,?_⟩; have n0_ := Zc.mk (Kd.ZN (Kd.Xz (Kd.Xz (Kd.R_old (by (with_reducible repeat (first | apply Kd.Zl | apply Kd.Zk | apply Kd.Zs)); exact HO_13.out) hb) (Kd.ZV ho0)) (Kd.ZV ho1)) (fun _ h_ => h_.1)); have n1_ := Zc.mk (Kd.ZN (Kd.Xz (Kd.Xz (Kd.R_old (by (with_reducible repeat (first | apply Kd.Zl | apply Kd.Zk | apply Kd.Zs)); exact HO_14.out) hb) (Kd.ZV ho0)) (Kd.ZV ho1)) (fun _ h_ => h_.1)); have n2_ := Zc.mk (Kd.ZN (Kd.Xz (Kd.Xz (Kd.R_old (by (with_reducible repeat (first | apply Kd.Zl | apply Kd.Zk | apply Kd.Zs)); exact HO_21.out) hb) (Kd.ZV ho0)) (Kd.ZV ho1)) (fun _ h_ => h_.1)); have n3_ := Zc.mk (Kd.ZN (Kd.Xz (Kd.Xz (Kd.R_old (by (with_reducible repeat (first | apply Kd.Zl | apply Kd.Zk | apply Kd.Zs)); exact HO431.out) hb) (Kd.ZV ho0)) (Kd.ZV ho1)) (fun _ h_ => h_.1)); have n4_ := Zc.mk (Kd.ZN (Kd.Xz (Kd.Xz (Kd.R_old (by (with_reducible repeat (first | apply Kd.Zl | apply Kd.Zk | apply Kd.Zs)); exact HO433.out) hb) (Kd.ZV ho0)) (Kd.ZV ho1)) (fun _ h_ => h_.1)); have n5_ := Zc.mk (Kd.Xs (Kd.ZW (Kd.ZW (Kd.ZW (Kd.ZW (Kd.ZW ho0 (Kd.R_lt (by (with_reducible repeat (first | apply Kd.Zl | apply Kd.Zk | apply Kd.Zs)); exact HO_13.out))) (Kd.R_lt (by (with_reducible repeat (first | apply Kd.Zl | apply Kd.Zk | apply Kd.Zs)); exact HO_14.out))) (Kd.R_lt (by (with_reducible repeat (first | apply Kd.Zl | apply Kd.Zk | apply Kd.Zs)); exact HO_21.out))) (Kd.R_lt (by (with_reducible repeat (first | apply Kd.Zl | apply Kd.Zk | apply Kd.Zs)); exact HO431.out))) (Kd.R_lt (by (with_reducible repeat (first | apply Kd.Zl | apply Kd.Zk | apply Kd.Zs)); exact HO433.out))) (ZH (by repeat (first | (with_reducible first | exact HB.out | apply Zd | apply Za | apply Zb) | exact HB.out)))); have n6_ := Zc.mk (Kd.Xs (Kd.ZW (Kd.ZW (Kd.ZW (Kd.ZW (Kd.ZW ho1 (Kd.R_lt (by (with_reducible repeat (first | apply Kd.Zl | apply Kd.Zk | apply Kd.Zs)); exact HO_13.out))) (Kd.R_lt (by (with_reducible repeat (first | apply Kd.Zl | apply Kd.Zk | apply Kd.Zs)); exact HO_14.out))) (Kd.R_lt (by (with_reducible repeat (first | apply Kd.Zl | apply Kd.Zk | apply Kd.Zs)); exact HO_21.out))) (Kd.R_lt (by (with_reducible repeat (first | apply Kd.Zl | apply Kd.Zk | apply Kd.Zs)); exact HO431.out))) (Kd.R_lt (by (with_reducible repeat (first | apply Kd.Zl | apply Kd.Zk | apply Kd.Zs)); exact HO433.out))) (ZH (by repeat (first | (with_reducible first | exact HB.out | apply Zd | apply Za | apply Zb) | exact HB.out)))); have n7_ := Zc.mk (Z3 (by repeat (first | (with_reducible first | exact HB.out | apply Zd | apply Za | apply Zb) | exact HB.out)) hb); clear HO_13; clear HO_14; clear HO_21; clear HO431; clear HO433; clear HB; have HO_13 := n0_; have HO_14 := n1_; have HO_21 := n2_; have HO431 := n3_; have HO433 := n4_; have HO438 := n5_; have HO440 := n6_; have HB := n7_; clear n0_ n1_ n2_ n3_ n4_ n5_ n6_ n7_; (try clear hb); (try clear hb2); (try clear hk); (try clear hi); (try clear ho0); (try clear ho1)))
                            go_ret; exact ⟨by first | rfl | (simp [Zv,Zu] <;> rfl) | (simp [*,Zv,Zu] <;> rfl),by repeat (first | (with_reducible first | exact HB.out | apply Zd | apply Za | apply Zb) | exact HB.out)⟩
                        · rw [if_neg c56] at H
                          have c56b0 : decide ((wrap64 (a3 + (Int.tmod a5 (wrap64 (a4 + 1))))) ≤ 1000000000) = false := decide_eq_false c56; clear c56
                          (first | rw [c56b0] | (simp only [i64_w,i32_w]; rw [c56b0]) | skip)
                          have H' := Zc.mk H; clear H
                          go_wp2
                          go_meet
                          case rel => exact ⟨_,H',⟨by have := HJ8.out; have := HJ17.out; have := HJ37.out; have := HJ47.out; first | omega | exact Nat.le_refl _⟩,⟨by (with_reducible repeat (first | apply Kd.Zl | apply Kd.Zk | apply Kd.Zs)); exact Kd.ZN HO_21.out (fun _ hk => trivial)⟩,⟨by repeat (first | (with_reducible first | exact HB.out | apply Zd | apply Za | apply Zb) | exact HB.out)⟩⟩
                       case rest => as_aux_lemma =>
                        clear HC54
                        (try clear c2); (try clear p2); (try clear c3); (try clear c5); (try clear c6); (try clear p6); (try clear c8); (try clear c29); (try clear c31); (try clear c56); (try clear c56b0); (try clear c58); (try clear c58b0); (try clear c58b1); (try clear c60); (try clear c60b0); (try clear c61); (try clear c62); (try clear c63); (try clear c64); (try clear p64); (try clear c80); (try clear c82)
                        obtain ⟨kq,HA,HJ53,HO_21,HB⟩ := hcut
                        cases kq with
                        | zero => exact absurd HA.out (by simp [Ze.j5])
                        | succ kj53 =>
                         have H := HA.out; clear HA; simp only [Ze.j5] at H; have HC97 := Zc.mk H; clear H
                         go_upto_region 29 with (fail)
                         go_cut [187] (fun v187 wc => ∃ (kq : Nat) (x187_96 : Bool),v187 = .bool x187_96 ∧ Zc (Ze.j6 kq l0 l1 a2 a3 a4 t422 (Int.tmod a5 (wrap64 (a4 + 1))) x187_96 = some r) ∧ Zc (kq ≤ kj53) ∧ Zc (Kd.R (Kd.int .i64) 3 wc w.heap.size (fun _ => True) v424 t422) ∧ Zc (Below w.heap.size w wc))
                         case first => as_aux_lemma =>
                          have H := HC97.out; clear HC97
                          by_cases c98 : t419 = 0
                          · rw [if_pos c98] at H
                            have c98b0 : (t419 == 0) = true := beq_iff_eq.mpr c98; have c98b1 : (t419 != 0) = false := bne_eq_false_iff_eq.mpr c98; clear c98
                            (first | rw [c98b0] | (simp only [i64_w,i32_w]; rw [c98b0]) | skip)
                            have H' := Zc.mk H; clear H
                            go_wp2
                            go_meet
                            case rel => exact ⟨_,(decide ((wrap64 (a3 + (Int.tmod a5 (wrap64 (a4 + 1))))) > 1000000000)),(by first | rfl | (simp; done) | (simp [*]; done)),H',⟨by have := HJ8.out; have := HJ17.out; have := HJ37.out; have := HJ47.out; have := HJ53.out; first | omega | exact Nat.le_refl _⟩,⟨by (with_reducible repeat (first | apply Kd.Zl | apply Kd.Zk | apply Kd.Zs)); exact HO_21.out⟩,⟨by repeat (first | (with_reducible first | exact HB.out | apply Zd | apply Za | apply Zb) | exact HB.out)⟩⟩
                          · rw [if_neg c98] at H
                            have c98b0 : (t419 == 0) = false := beq_eq_false_iff_ne.mpr c98; have c98b1 : (t419 != 0) = true := bne_iff_ne.mpr c98
                            (first | rw [c98b0] | (simp only [i64_w,i32_w]; rw [c98b0]) | skip)
                            have H' := Zc.mk H; clear H
                            go_wp2
                            go_meet
                            case rel => exact ⟨_,(true),(by first | rfl | (simp; done) | (simp [*]; done)),H',⟨by have := HJ8.out; have := HJ17.out; have := HJ37.out; have := HJ47.out; have := HJ53.out; first | omega | exact Nat.le_refl _⟩,⟨by (with_reducible repeat (first | apply Kd.Zl | apply Kd.Zk | apply Kd.Zs)); exact HO_21.out⟩,⟨by repeat (first | (with_reducible first | exact HB.out | apply Zd | apply Za | apply Zb) | exact HB.out)⟩⟩
                         case rest => as_aux_lemma =>
                          clear HC97
                          (try clear c2); (try clear p2); (try clear c3); (try clear c5); (try clear c6); (try clear p6); (try clear c8); (try clear c9); (try clear c29); (try clear c31); (try clear c56); (try clear c56b0); (try clear c58); (try clear c58b0); (try clear c58b1); (try clear c60); (try clear c60b0); (try clear c61); (try clear c62); (try clear c63); (try clear c64); (try clear p64); (try clear c80); (try clear c82); (try clear c98); (try clear c98b0); (try clear c98b1); (try clear p2); (try clear p6); (try clear p64)
                          obtain ⟨kq,x187_96,rfl,HA,HJ96,HO_21,HB⟩ := hcut
                          cases kq with
                          | zero => exact absurd HA.out (by simp [Ze.j6])
                          | succ kj96 =>
                           have H := HA.out; clear HA; simp only [Ze.j6] at H
                           by_cases c99 : x187_96 = true
                           · subst c99
                             have H1 : (some true) = some r := by rw [if_pos rfl] at H; exact H
                             clear H; have H := H1; clear H1; obtain rfl := Option.some.inj H
                             go_wp2
                             go_ret; exact ⟨by first | rfl | (simp [Zv,Zu] <;> rfl) | (simp [*,Zv,Zu] <;> rfl),by repeat (first | (with_reducible first | exact HB.out | apply Zd | apply Za | apply Zb) | exact HB.out)⟩
                           · replace c99 := Bool.eq_false_iff.mpr c99
                             subst c99
                             have H1 : ((ZG.f kj96 l1 l0 a2 a3 (Int.tmod a5 (wrap64 (a4 + 1)))).bind fun bt457 => (if bt457.2 = 0 then ((ZG.f kj96 l1 l0 a2 (wrap64 (a3 + (Int.tmod a5 (wrap64 (a4 + 1))))) (wrap64 (a4 - (Int.tmod a5 (wrap64 (a4 + 1)))))).bind fun bt461 => (if bt461.2 = 0 then (if bt457.1.length + bt461.1.length < 17592186044416 then ((Zw.f kj96 (bt457.1 ++ bt461.1) t422).bind fun t468 => (some t468)) else (none)) else (some false))) else (some false))) = some r := by rw [if_neg (show ¬ (false = true) by decide)] at H; exact H
                             clear H; have H := H1; clear H1; replace H := Option.bind_eq_some_iff.mp H; obtain ⟨⟨t457,t458⟩,A1000,H⟩ := H; replace H : (if t458 = 0 then ((ZG.f kj96 l1 l0 a2 (wrap64 (a3 + (Int.tmod a5 (wrap64 (a4 + 1))))) (wrap64 (a4 - (Int.tmod a5 (wrap64 (a4 + 1)))))).bind fun bt461 => (if bt461.2 = 0 then (if t457.length + bt461.1.length < 17592186044416 then ((Zw.f kj96 (t457 ++ bt461.1) t422).bind fun t468 => (some t468)) else (none)) else (some false))) else (some false)) = some r := H; have A100 := Zc.mk A1000; clear A1000
                             by_cases c101 : t458 = 0
                             · rw [if_pos c101] at H
                               have c101b0 : (t458 == 0) = true := beq_iff_eq.mpr c101; have c101b1 : (t458 != 0) = false := bne_eq_false_iff_eq.mpr c101; clear c101; replace H := Option.bind_eq_some_iff.mp H; obtain ⟨⟨t461,t462⟩,A1020,H⟩ := H; replace H : (if t462 = 0 then (if t457.length + t461.length < 17592186044416 then ((Zw.f kj96 (t457 ++ t461) t422).bind fun t468 => (some t468)) else (none)) else (some false)) = some r := H; have A102 := Zc.mk A1020; clear A1020
                               by_cases c103 : t462 = 0
                               · rw [if_pos c103] at H
                                 have c103b0 : (t462 == 0) = true := beq_iff_eq.mpr c103; have c103b1 : (t462 != 0) = false := bne_eq_false_iff_eq.mpr c103; clear c103
                                 by_cases c104 : t457.length + t461.length < 17592186044416
                                 · rw [if_pos c104] at H
                                   have LMc104 := Zc.mk c104; clear c104
                                   obtain ⟨y465,hy465⟩ : ∃ y_ : List Int,y_ = (t457 ++ t461) := ⟨_,rfl⟩
                                   replace H : ((Zw.f kj96 y465 t422).bind fun t468 => (some t468)) = some r := by first | (rw [hy465]; with_reducible exact H) | (have H2_ := (Option.bind_some _ _).symm.trans H; rw [hy465]; with_reducible exact H2_) | (have H2_ := (Option.bind_some _ _).symm.trans H; with_reducible exact H2_) | with_reducible exact H | (rw [hy465]; exact H) | exact H
                                   have Ny465 := Zc.mk hy465; clear hy465; replace H := Option.bind_eq_some_iff.mp H; obtain ⟨t468,A1050,H⟩ := H; replace H : (some t468) = some r := H; have A105 := Zc.mk A1050; clear A1050; obtain rfl := Option.some.inj H
                                   go_wp2_with (first | ((with_reducible refine Z1 (f := 32) rfl ?_); refine ZQ (some 194) rfl rfl Try.func32 (by kernel_rfl) rfl #[.slice A1 l1.length c1,.slice A0 l0.length c0,.int .i64 a2,.int .i64 a3,.int .i64 (Int.tmod a5 (wrap64 (a4 + 1)))] rfl (by (try simp only [List.map_toArray,List.map_cons,List.map_nil]); first | done | rfl | (simp only [List.length_drop,List.length_take]; rfl)) ?_; (with_reducible refine (ZG.calls kj96 _ _ l1 _ _ l0 a2 a3 (Int.tmod a5 (wrap64 (a4 + 1))) t457 t458 _ ?side1 ?side2 ?side3 ?side4 A100.out).mono ?_); (case side1 => repeat (first | exact (Kd.ZO HR1.out HB.out) | (with_reducible refine Kd.ZA ?_ _) | (with_reducible refine Kd.Z9 ?_ _) | (with_reducible refine Kd.ZI ?_))); (case side2 => exact HC1.out); (case side3 => repeat (first | exact (Kd.ZO HR0.out HB.out) | (with_reducible refine Kd.ZA ?_ _) | (with_reducible refine Kd.Z9 ?_ _) | (with_reducible refine Kd.ZI ?_))); (case side4 => exact HC0.out); rintro e w106 ⟨v459,rfl,ho0,hb⟩; refine ⟨_,rfl,?_⟩; have n0_ := Zc.mk (Kd.Xb (by (with_reducible repeat (first | apply Kd.Zl | apply Kd.Zk | apply Kd.Zs)); exact HO_21.out) (Kd.ZV ho0) hb); have n1_ := Zc.mk (Kd.Xs (Kd.ZW ho0 (Kd.R_lt (by (with_reducible repeat (first | apply Kd.Zl | apply Kd.Zk | apply Kd.Zs)); exact HO_21.out))) (ZH (by repeat (first | (with_reducible first | exact HB.out | apply Zd | apply Za | apply Zb) | exact HB.out)))); have n2_ := Zc.mk (Z3 (by repeat (first | (with_reducible first | exact HB.out | apply Zd | apply Za | apply Zb) | exact HB.out)) hb); clear HO_21; clear HB; have HO_21 := n0_; have HO460 := n1_; have HB := n2_; clear n0_ n1_ n2_; (try clear hb); (try clear hb2); (try clear hk); (try clear hi); (try clear ho0)) | ((with_reducible refine Z1 (f := 32) rfl ?_); refine ZQ (some 209) rfl rfl Try.func32 (by kernel_rfl) rfl #[.slice A1 l1.length c1,.slice A0 l0.length c0,.int .i64 a2,.int .i64 (wrap64 (a3 + (Int.tmod a5 (wrap64 (a4 + 1))))),.int .i64 (wrap64 (a4 - (Int.tmod a5 (wrap64 (a4 + 1)))))] rfl (by (try simp only [List.map_toArray,List.map_cons,List.map_nil]); first | done | rfl | (simp only [List.length_drop,List.length_take]; rfl)) ?_; (with_reducible refine (ZG.calls kj96 _ _ l1 _ _ l0 a2 (wrap64 (a3 + (Int.tmod a5 (wrap64 (a4 + 1))))) (wrap64 (a4 - (Int.tmod a5 (wrap64 (a4 + 1))))) t461 t462 _ ?side1 ?side2 ?side3 ?side4 A102.out).mono ?_); (case side1 => repeat (first | exact (Kd.ZO HR1.out HB.out) | (with_reducible refine Kd.ZA ?_ _) | (with_reducible refine Kd.Z9 ?_ _) | (with_reducible refine Kd.ZI ?_))); (case side2 => exact HC1.out); (case side3 => repeat (first | exact (Kd.ZO HR0.out HB.out) | (with_reducible refine Kd.ZA ?_ _) | (with_reducible refine Kd.Z9 ?_ _) | (with_reducible refine Kd.ZI ?_))); (case side4 => exact HC0.out); rintro e w107 ⟨v463,rfl,ho0,hb⟩; refine ⟨_,rfl,?_⟩; have n0_ := Zc.mk (Kd.Xb (by (with_reducible repeat (first | apply Kd.Zl | apply Kd.Zk | apply Kd.Zs)); exact HO_21.out) (Kd.ZV ho0) hb); have n1_ := Zc.mk (Kd.Xb (by (with_reducible repeat (first | apply Kd.Zl | apply Kd.Zk | apply Kd.Zs)); exact HO460.out) (Kd.ZV ho0) hb); have n2_ := Zc.mk (Kd.Xs (Kd.ZW (Kd.ZW ho0 (Kd.R_lt (by (with_reducible repeat (first | apply Kd.Zl | apply Kd.Zk | apply Kd.Zs)); exact HO_21.out))) (Kd.R_lt (by (with_reducible repeat (first | apply Kd.Zl | apply Kd.Zk | apply Kd.Zs)); exact HO460.out))) (ZH (by repeat (first | (with_reducible first | exact HB.out | apply Zd | apply Za | apply Zb) | exact HB.out)))); have n3_ := Zc.mk (Z3 (by repeat (first | (with_reducible first | exact HB.out | apply Zd | apply Za | apply Zb) | exact HB.out)) hb); clear HO_21; clear HO460; clear HB; have HO_21 := n0_; have HO460 := n1_; have HO464 := n2_; have HB := n3_; clear n0_ n1_ n2_ n3_; (try clear hb); (try clear hb2); (try clear hk); (try clear hi); (try clear ho0); obtain ⟨Ao109,co109,eo109⟩ := Kd.Xd HO464.out; subst eo109) | ((with_reducible refine X8 (b := .append) (xs := #[.tmp 215,.tmp 216]) rfl ?_); (try (refine XD (by rfl) ?_; dsimp only)); at_builtin; refine Kd.R_append_rows (Kd.int .i64) (w0 := w) w.heap.size rfl (.tmp 215) (.tmp 216) 46 3 (.int .i64 0) 8 rfl Try.underlying46 info3 rfl (by decide) (by omega) v459 t457 t461 _ _ _ (fun k_ => some k_ ≠ (v424 : Value).ownBlock ∧ some k_ ≠ (.slice Ao109 t461.length co109 : Value).ownBlock) (fun _ => False) rfl rfl ?aO ?aR (fun _ _ h => h) (fun _ h => h.elim) ?aF ?aB ?aS ?aL ?_; (case aR => repeat (first | exact (Kd.ZL HO464.out).2.2 | (with_reducible refine Kd.ZA ?_ _) | (with_reducible refine Kd.Z9 ?_ _) | (with_reducible refine Kd.ZI ?_))); (case aB => exact (by repeat (first | (with_reducible first | exact HB.out | apply Zd | apply Za | apply Zb) | exact HB.out))); (case aF => exact (fun k_ hk => ⟨Kd.fresh' (Kd.R_lt (by (with_reducible repeat (first | apply Kd.Zl | apply Kd.Zk | apply Kd.Zs)); exact HO_21.out)) k_ hk,Kd.fresh' (Kd.R_lt (by (with_reducible repeat (first | apply Kd.Zl | apply Kd.Zk | apply Kd.Zs)); exact HO464.out)) k_ hk⟩)); (case aO => exact (by (with_reducible repeat (first | apply Kd.Zl | apply Kd.Zk | apply Kd.Zs)); exact Kd.ZN HO460.out (fun _ hk => ⟨hk.1.2,hk.2⟩))); (case aS => exact (ZH (by repeat (first | (with_reducible first | exact HB.out | apply Zd | apply Za | apply Zb) | exact HB.out)))); (case aL => have := LMc104.out; omega); intro v466 w108 ho hb hg hat; rw [← Ny465.out] at ho; have n0_ := Zc.mk (Kd.Xt (ok := (fun k_ => some k_ ≠ (.slice Ao109 t461.length co109 : Value).ownBlock)) (by (with_reducible repeat (first | apply Kd.Zl | apply Kd.Zk | apply Kd.Zs)); exact Kd.ZN HO_21.out (fun _ hk => ⟨hk.2,hk.1.2⟩)) hg hat); have n1_ := Zc.mk (Kd.Xt (ok := (fun k_ => some k_ ≠ (v424 : Value).ownBlock)) (by (with_reducible repeat (first | apply Kd.Zl | apply Kd.Zk | apply Kd.Zs)); exact Kd.ZN HO464.out (fun _ hk => ⟨hk.1.2,hk.2⟩)) hg hat); have n2_ := Zc.mk (hb); have n3_ := Zc.mk (ho); clear HO_21; clear HO464; clear HB; clear HO460; have HO_21 := n0_; have HO464 := n1_; have HB := n2_; have HO467 := n3_; clear n0_ n1_ n2_ n3_; clear ho hb hg hat; obtain ⟨Ao110,co110,eo110⟩ := Kd.Xd HO467.out; subst eo110; obtain ⟨Ao111,co111,eo111⟩ := Kd.Xd HO_21.out; subst eo111) | (go_at_call 31; (with_reducible refine (Zw.calls kj96 _ _ y465 _ _ t422 t468 _ ?side1 ?side2 ?side3 ?side4 A105.out).mono ?_); (case side1 => repeat (first | exact (Kd.ZL HO467.out).2.2 | (with_reducible refine Kd.ZA ?_ _) | (with_reducible refine Kd.Z9 ?_ _) | (with_reducible refine Kd.ZI ?_))); (case side2 => exact (Kd.ZL HO467.out).2.1); (case side3 => repeat (first | exact (Kd.ZL HO_21.out).2.2 | (with_reducible refine Kd.ZA ?_ _) | (with_reducible refine Kd.Z9 ?_ _) | (with_reducible refine Kd.ZI ?_))); (case side4 => exact (Kd.ZL HO_21.out).2.1); rintro e w' ⟨rfl,⟨nd,rfl⟩⟩))
                                   go_ret; exact ⟨by first | rfl | (simp [Zv,Zu] <;> rfl) | (simp [*,Zv,Zu] <;> rfl),by repeat (first | (with_reducible first | exact HB.out | apply Zd | apply Za | apply Zb) | exact HB.out)⟩
                                 · rw [if_neg c104] at H
                                   exact absurd H (by simp)
                               · rw [if_neg c103] at H
                                 have c103b0 : (t462 == 0) = false := beq_eq_false_iff_ne.mpr c103; have c103b1 : (t462 != 0) = true := bne_iff_ne.mpr c103; obtain rfl := Option.some.inj H
                                 go_wp2_with (first | ((with_reducible refine Z1 (f := 32) rfl ?_); refine ZQ (some 194) rfl rfl Try.func32 (by kernel_rfl) rfl #[.slice A1 l1.length c1,.slice A0 l0.length c0,.int .i64 a2,.int .i64 a3,.int .i64 (Int.tmod a5 (wrap64 (a4 + 1)))] rfl (by (try simp only [List.map_toArray,List.map_cons,List.map_nil]); first | done | rfl | (simp only [List.length_drop,List.length_take]; rfl)) ?_; (with_reducible refine (ZG.calls kj96 _ _ l1 _ _ l0 a2 a3 (Int.tmod a5 (wrap64 (a4 + 1))) t457 t458 _ ?side1 ?side2 ?side3 ?side4 A100.out).mono ?_); (case side1 => repeat (first | exact (Kd.ZO HR1.out HB.out) | (with_reducible refine Kd.ZA ?_ _) | (with_reducible refine Kd.Z9 ?_ _) | (with_reducible refine Kd.ZI ?_))); (case side2 => exact HC1.out); (case side3 => repeat (first | exact (Kd.ZO HR0.out HB.out) | (with_reducible refine Kd.ZA ?_ _) | (with_reducible refine Kd.Z9 ?_ _) | (with_reducible refine Kd.ZI ?_))); (case side4 => exact HC0.out); rintro e w112 ⟨v459,rfl,ho0,hb⟩; refine ⟨_,rfl,?_⟩; have n0_ := Zc.mk (Kd.Xb (by (with_reducible repeat (first | apply Kd.Zl | apply Kd.Zk | apply Kd.Zs)); exact HO_21.out) (Kd.ZV ho0) hb); have n1_ := Zc.mk (Kd.Xs (Kd.ZW ho0 (Kd.R_lt (by (with_reducible repeat (first | apply Kd.Zl | apply Kd.Zk | apply Kd.Zs)); exact HO_21.out))) (ZH (by repeat (first | (with_reducible first | exact HB.out | apply Zd | apply Za | apply Zb) | exact HB.out)))); have n2_ := Zc.mk (Z3 (by repeat (first | (with_reducible first | exact HB.out | apply Zd | apply Za | apply Zb) | exact HB.out)) hb); clear HO_21; clear HB; have HO_21 := n0_; have HO460 := n1_; have HB := n2_; clear n0_ n1_ n2_; (try clear hb); (try clear hb2); (try clear hk); (try clear hi); (try clear ho0)) | ((with_reducible refine Z1 (f := 32) rfl ?_); refine ZQ (some 209) rfl rfl Try.func32 (by kernel_rfl) rfl #[.slice A1 l1.length c1,.slice A0 l0.length c0,.int .i64 a2,.int .i64 (wrap64 (a3 + (Int.tmod a5 (wrap64 (a4 + 1))))),.int .i64 (wrap64 (a4 - (Int.tmod a5 (wrap64 (a4 + 1)))))] rfl (by (try simp only [List.map_toArray,List.map_cons,List.map_nil]); first | done | rfl | (simp only [List.length_drop,List.length_take]; rfl)) ?_; (with_reducible refine (ZG.calls kj96 _ _ l1 _ _ l0 a2 (wrap64 (a3 + (Int.tmod a5 (wrap64 (a4 + 1))))) (wrap64 (a4 - (Int.tmod a5 (wrap64 (a4 + 1))))) t461 t462 _ ?side1 ?side2 ?side3 ?side4 A102.out).mono ?_); (case side1 => repeat (first | exact (Kd.ZO HR1.out HB.out) | (with_reducible refine Kd.ZA ?_ _) | (with_reducible refine Kd.Z9 ?_ _) | (with_reducible refine Kd.ZI ?_))); (case side2 => exact HC1.out); (case side3 => repeat (first | exact (Kd.ZO HR0.out HB.out) | (with_reducible refine Kd.ZA ?_ _) | (with_reducible refine Kd.Z9 ?_ _) | (with_reducible refine Kd.ZI ?_))); (case side4 => exact HC0.out); rintro e w113 ⟨v463,rfl,ho0,hb⟩; refine ⟨_,rfl,?_⟩; have n0_ := Zc.mk (Kd.Xb (by (with_reducible repeat (first | apply Kd.Zl | apply Kd.Zk | apply Kd.Zs)); exact HO_21.out) (Kd.ZV ho0) hb); have n1_ := Zc.mk (Kd.Xb (by (with_reducible repeat (first | apply Kd.Zl | apply Kd.Zk | apply Kd.Zs)); exact HO460.out) (Kd.ZV ho0) hb); have n2_ := Zc.mk (Kd.Xs (Kd.ZW (Kd.ZW ho0 (Kd.R_lt (by (with_reducible repeat (first | apply Kd.Zl | apply Kd.Zk | apply Kd.Zs)); exact HO_21.out))) (Kd.R_lt (by (with_reducible repeat (first | apply Kd.Zl | apply Kd.Zk | apply Kd.Zs)); exact HO460.out))) (ZH (by repeat (first | (with_reducible first | exact HB.out | apply Zd | apply Za | apply Zb) | exact HB.out)))); have n3_ := Zc.mk (Z3 (by repeat (first | (with_reducible first | exact HB.out | apply Zd | apply Za | apply Zb) | exact HB.out)) hb); clear HO_21; clear HO460; clear HB; have HO_21 := n0_; have HO460 := n1_; have HO464 := n2_; have HB := n3_; clear n0_ n1_ n2_ n3_; (try clear hb); (try clear hb2); (try clear hk); (try clear hi); (try clear ho0)))
                                 go_ret; exact ⟨by first | rfl | (simp [Zv,Zu] <;> rfl) | (simp [*,Zv,Zu] <;> rfl),by repeat (first | (with_reducible first | exact HB.out | apply Zd | apply Za | apply Zb) | exact HB.out)⟩
                             · rw [if_neg c101] at H
                               have c101b0 : (t458 == 0) = false := beq_eq_false_iff_ne.mpr c101; have c101b1 : (t458 != 0) = true := bne_iff_ne.mpr c101; obtain rfl := Option.some.inj H
                               go_wp2_with (first | ((with_reducible refine Z1 (f := 32) rfl ?_); refine ZQ (some 194) rfl rfl Try.func32 (by kernel_rfl) rfl #[.slice A1 l1.length c1,.slice A0 l0.length c0,.int .i64 a2,.int .i64 a3,.int .i64 (Int.tmod a5 (wrap64 (a4 + 1)))] rfl (by (try simp only [List.map_toArray,List.map_cons,List.map_nil]); first | done | rfl | (simp only [List.length_drop,List.length_take]; rfl)) ?_; (with_reducible refine (ZG.calls kj96 _ _ l1 _ _ l0 a2 a3 (Int.tmod a5 (wrap64 (a4 + 1))) t457 t458 _ ?side1 ?side2 ?side3 ?side4 A100.out).mono ?_); (case side1 => repeat (first | exact (Kd.ZO HR1.out HB.out) | (with_reducible refine Kd.ZA ?_ _) | (with_reducible refine Kd.Z9 ?_ _) | (with_reducible refine Kd.ZI ?_))); (case side2 => exact HC1.out); (case side3 => repeat (first | exact (Kd.ZO HR0.out HB.out) | (with_reducible refine Kd.ZA ?_ _) | (with_reducible refine Kd.Z9 ?_ _) | (with_reducible refine Kd.ZI ?_))); (case side4 => exact HC0.out); rintro e w114 ⟨v459,rfl,ho0,hb⟩; refine ⟨_,rfl,?_⟩; have n0_ := Zc.mk (Kd.Xb (by (with_reducible repeat (first | apply Kd.Zl | apply Kd.Zk | apply Kd.Zs)); exact HO_21.out) (Kd.ZV ho0) hb); have n1_ := Zc.mk (Kd.Xs (Kd.ZW ho0 (Kd.R_lt (by (with_reducible repeat (first | apply Kd.Zl | apply Kd.Zk | apply Kd.Zs)); exact HO_21.out))) (ZH (by repeat (first | (with_reducible first | exact HB.out | apply Zd | apply Za | apply Zb) | exact HB.out)))); have n2_ := Zc.mk (Z3 (by repeat (first | (with_reducible first | exact HB.out | apply Zd | apply Za | apply Zb) | exact HB.out)) hb); clear HO_21; clear HB; have HO_21 := n0_; have HO460 := n1_; have HB := n2_; clear n0_ n1_ n2_; (try clear hb); (try clear hb2); (try clear hk); (try clear hi); (try clear ho0)))
                               go_ret; exact ⟨by first | rfl | (simp [Zv,Zu] <;> rfl) | (simp [*,Zv,Zu] <;> rfl),by repeat (first | (with_reducible first | exact HB.out | apply Zd | apply Za | apply Zb) | exact HB.out)⟩
                     · rw [if_neg c53] at H
                       have c53b0 : (t429 == 0) = false := beq_eq_false_iff_ne.mpr c53; have c53b1 : (t429 != 0) = true := bne_iff_ne.mpr c53; obtain rfl := Option.some.inj H
                       go_wp2_with (first | ((with_reducible refine Z1 (f := 29) rfl ?_); refine ZQ (some 123) rfl rfl Try.func29 (by kernel_rfl) rfl #[.slice A0 l0.length c0,.int .i64 a2,.int .i64 a3,.int .i64 (Int.tmod a5 (wrap64 (a4 + 1)))] rfl (by (try simp only [List.map_toArray,List.map_cons,List.map_nil]); first | done | rfl | (simp only [List.length_drop,List.length_take]; rfl)) ?_; (with_reducible refine (Z4.calls kj47 _ _ l0 a2 a3 (Int.tmod a5 (wrap64 (a4 + 1))) t427 t428 t429 _ ?side1 ?side2 A52.out).mono ?_); (case side1 => repeat (first | exact (Kd.ZO HR0.out HB.out) | (with_reducible refine Kd.ZA ?_ _) | (with_reducible refine Kd.Z9 ?_ _) | (with_reducible refine Kd.ZI ?_))); (case side2 => exact HC0.out); rintro e w115 ⟨v430,v432,rfl,ho0,ho1,hb⟩; refine ⟨_,rfl,?_⟩; have n0_ := Zc.mk (Kd.ZN (Kd.Xz (Kd.Xz (Kd.R_old (by (with_reducible repeat (first | apply Kd.Zl | apply Kd.Zk | apply Kd.Zs)); exact HO_13.out) hb) (Kd.ZV ho0)) (Kd.ZV ho1)) (fun _ h_ => h_.1)); have n1_ := Zc.mk (Kd.ZN (Kd.Xz (Kd.Xz (Kd.R_old (by (with_reducible repeat (first | apply Kd.Zl | apply Kd.Zk | apply Kd.Zs)); exact HO_14.out) hb) (Kd.ZV ho0)) (Kd.ZV ho1)) (fun _ h_ => h_.1)); have n2_ := Zc.mk (Kd.ZN (Kd.Xz (Kd.Xz (Kd.R_old (by (with_reducible repeat (first | apply Kd.Zl | apply Kd.Zk | apply Kd.Zs)); exact HO_21.out) hb) (Kd.ZV ho0)) (Kd.ZV ho1)) (fun _ h_ => h_.1)); have n3_ := Zc.mk (Kd.Xs (Kd.ZW (Kd.ZW (Kd.ZW ho0 (Kd.R_lt (by (with_reducible repeat (first | apply Kd.Zl | apply Kd.Zk | apply Kd.Zs)); exact HO_13.out))) (Kd.R_lt (by (with_reducible repeat (first | apply Kd.Zl | apply Kd.Zk | apply Kd.Zs)); exact HO_14.out))) (Kd.R_lt (by (with_reducible repeat (first | apply Kd.Zl | apply Kd.Zk | apply Kd.Zs)); exact HO_21.out))) (ZH (by repeat (first | (with_reducible first | exact HB.out | apply Zd | apply Za | apply Zb) | exact HB.out)))); have n4_ := Zc.mk (Kd.Xs (Kd.ZW (Kd.ZW (Kd.ZW ho1 (Kd.R_lt (by (with_reducible repeat (first | apply Kd.Zl | apply Kd.Zk | apply Kd.Zs)); exact HO_13.out))) (Kd.R_lt (by (with_reducible repeat (first | apply Kd.Zl | apply Kd.Zk | apply Kd.Zs)); exact HO_14.out))) (Kd.R_lt (by (with_reducible repeat (first | apply Kd.Zl | apply Kd.Zk | apply Kd.Zs)); exact HO_21.out))) (ZH (by repeat (first | (with_reducible first | exact HB.out | apply Zd | apply Za | apply Zb) | exact HB.out)))); have n5_ := Zc.mk (Z3 (by repeat (first | (with_reducible first | exact HB.out | apply Zd | apply Za | apply Zb) | exact HB.out)) hb); clear HO_13; clear HO_14; clear HO_21; clear HB; have HO_13 := n0_; have HO_14 := n1_; have HO_21 := n2_; have HO431 := n3_; have HO433 := n4_; have HB := n5_; clear n0_ n1_ n2_ n3_ n4_ n5_; (try clear hb); (try clear hb2); (try clear hk); (try clear hi); (try clear ho0); (try clear ho1)))
                       go_ret; exact ⟨by first | rfl | (simp [Zv,Zu] <;> rfl) | (simp [*,Zv,Zu] <;> rfl),by repeat (first | (with_reducible first | exact HB.out | apply Zd | apply Za | apply Zb) | exact HB.out)⟩
 · replace c8 := Bool.eq_false_iff.mpr c8
   subst c8
   have H1 : (some false) = some r := by rw [if_neg (show ¬ (false = true) by decide)] at H; exact H
   clear H; have H := H1; clear H1; obtain rfl := Option.some.inj H
   go_enter Try.func7,Try.ntmps7
   go_wp2_with (first | ((with_reducible refine Z1 (f := 9) rfl ?_); refine ZQ (some 31) rfl rfl Try.func9 (by kernel_rfl) rfl #[] rfl (by (try simp only [List.map_toArray,List.map_cons,List.map_nil]); first | done | rfl | (simp only [List.length_drop,List.length_take]; rfl)) ?_; (with_reducible refine (ZE.calls k  false _ A7.out).mono ?_); rintro e w116 ⟨rfl,hb⟩; refine ⟨_,rfl,?_⟩; have n0_ := Zc.mk (Z3 (by repeat (first | (with_reducible first | exact HB.out | apply Zd | apply Za | apply Zb) | exact HB.out)) hb); clear HB; have HB := n0_; clear n0_; (try clear hb); (try clear hb2); (try clear hk); (try clear hi)))
   go_ret; exact ⟨by first | rfl | (simp [Zv,Zu] <;> rfl) | (simp [*,Zv,Zu] <;> rfl),by repeat (first | (with_reducible first | exact HB.out | apply Zd | apply Za | apply Zb) | exact HB.out)⟩
end Go.Proofs.Ytomlfbmfdoallaa.PA

namespace Go.Proofs.Ytomlfbmfdoallaa.PA
open Go.RowKit Go.Proofs.YtomlfbmfdoallaaW.PrintWords Go.Proofs.YtomlfbmfdoallaaW.PrintLast Go.Proofs.YtomlfbmfdoallaaW.PrintMore
set_option linter.unusedVariables false
set_option linter.unusedSimpArgs false
theorem method_evenp : ∀ p w,(method 244 104 (.agg #[.int .i64 p]) "continuo/tempo.period").run Try.prog w = .ok (117,.agg #[.int .i64 p]) w := fun _ _ => by kernel_rfl
theorem method_changingp : ∀ p q l w,(method 244 106 (.agg #[.int .i64 p,.int .i64 q,.int .i64 l]) "continuo/tempo.period").run Try.prog w = .ok (119,.agg #[.int .i64 p,.int .i64 q,.int .i64 l]) w := fun _ _ _ _ => by kernel_rfl
theorem evenp_calls (p n : Int) (w : World) : Calls Try.prog 117 #[.agg #[.int .i64 p],.int .i64 n] w fun e w' => e = .returned (.int .i64 p) ∧ Below w.heap.size w w' := XM.calls p n p w rfl
theorem Kd_one (W : World) (b : Nat) (x : Int) (h : W.cell? ⟨b,0,none⟩ = some (.int .i64 x)) : Kd.C (Kd.int .i64) W (some ⟨b,0,none⟩) 1 [x] := by
 refine ⟨rfl,by omega,fun _ => ⟨_,rfl,fun j p hj => ?_⟩⟩
 match j with
 | 0 =>
  simp at hj; subst hj; refine ⟨[.int .i64 x],rfl,rfl,fun i u hi => ?_⟩
  match i with
  | 0 =>
   simp at hi; subst hi
   simpa [Addr.add] using h
  | i + 1 => simp at hi
 | j + 1 => simp at hj
theorem Xp.mono : ∀ a0 a1 k,LeO (Xp.f k a0 a1) (Xp.f (k + 1) a0 a1) := by
 intro a0 a1 k; unfold Xp.f; exact LeO.bind (ZP.mono _ _ _) (fun _ => LeO.refl _)
set_option maxRecDepth 100000 in
set_option maxHeartbeats 2000000 in
theorem Xp.calls (k : Nat) (A0 : Option Addr) (c0 : Nat) (l0 : List (S27)) (a1 : Int) (r1 r2 : Int) (w : World) (hr0 : Kd.C k27 w A0 l0.length l0) (hc0 : l0.length ≤ c0) (h : Xp.f k l0 a1 = some (r1,r2)) :
 Calls Try.prog 12 #[.slice A0 l0.length c0,.int .i64 a1] w fun e w' => e = .returned (.tuple #[.int .i64 r1,.int .i64 r2]) ∧ Below w.heap.size w w' := by
 unfold Xp.f at h; obtain ⟨e,he,h'⟩ := Option.bind_eq_some_iff.mp h; clear h; have k0 := Blk.new w #[.int .i64 a1] 3; have hb0 := (Below.refl _ w).alloc (Nat.le_refl _) (.cells #[.int .i64 a1] 3); have HA := Lib.hid (ZP.calls k A0 c0 l0 (some ⟨w.heap.size,0,none⟩) 1 [a1] e (w.alloc (.cells #[.int .i64 a1] 3)) (Kd.ZO hr0 hb0) hc0 (Kd_one _ _ _ (k0.cell 0 rfl)) (by simp) he); clear he k0
 by_cases h0 : e = 0
 · subst h0
   rw [if_pos rfl] at h'
   have hg : mapOkB l0 = true ∧ 0 ≤ a1 ∧ a1 ≤ 1000000000 := by
    apply Classical.byContradiction; intro hn; rw [if_neg hn] at h'
    cases h'
   rw [if_pos hg] at h'; obtain ⟨hok,t0,t1⟩ := hg; rw [X9] at hok; simp only [Option.some.injEq,Prod.mk.injEq] at h'; obtain ⟨rfl,rfl⟩ := h'; obtain ⟨x,p1,p2,p3,p4,p5,p6,p7,p8⟩ := Q7 a1 t1 l0 0 hok.2.2.2 (by intro e; subst e; have := hok.1; simp at this) (fun t e => by rw [hok.2.2.1 t e]; exact t0)
   have HO := fun w1 (hb : Below w.heap.size w w1) => Ys A0 c0 l0 0 a1 w1 hok (by omega) (by omega) (Kd.ZO hr0 hb)
   rw [p1] at HO; have HO' := Lib.hid HO; clear HO hr0 p1 p2 hok; rw [← p3]; clear p3; obtain ⟨c,tk,fm,fn⟩ := x; dsimp only [prtCells] at HO' p4 p5 p6 p7 p8 ⊢
   cases c with
   | even p =>
    dsimp only [Crv.val] at HO'; have hme := method_evenp p
    have HC := fun w => Lib.hid (evenp_calls p (a1 - tk) w)
    go_enter Try.func12,Try.ntmps12
    go_wp2_with (fail)
    refine HA.out.mono ?_; rintro e w1 ⟨rfl,hb1⟩; replace hb0 := hb0.trans (hb1.mono hb0.size); clear hb1
    go_wp2_with (fail)
    refine (HO'.out _ hb0).mono ?_; rintro e w2 ⟨rfl,hb1⟩; replace hb0 := hb0.trans (hb1.mono hb0.size); clear hb1
    go_wp2_with (fail)
    refine (HC _).out.mono ?_; rintro e w3 ⟨rfl,hb1⟩; have hb2 : Below w.heap.size w w3 := (hb0.alloc hb0.size _).trans (hb1.mono (by have := hb0.size; simp; omega)); clear hb1
    go_wp2_with (fail)
    go_ret2
    exact ⟨rfl,hb2⟩
   | changing p q L =>
    dsimp only [Crv.val] at HO'; obtain ⟨g1,g2,g3,g4,g5,g6,g7,g8⟩ := p4; have hme := method_changingp p q L
    have HC := fun w => Lib.hid (X5.calls p q L (a1 - tk) _ w (changing_period_eq p q L (a1 - tk) g7 g8 g5 g6 g1 g2 g3 g4))
    go_enter Try.func12,Try.ntmps12
    go_wp2_with (fail)
    refine HA.out.mono ?_; rintro e w1 ⟨rfl,hb1⟩; replace hb0 := hb0.trans (hb1.mono hb0.size); clear hb1
    go_wp2_with (fail)
    refine (HO'.out _ hb0).mono ?_; rintro e w2 ⟨rfl,hb1⟩; replace hb0 := hb0.trans (hb1.mono hb0.size); clear hb1
    go_wp2_with (fail)
    refine (HC _).out.mono ?_; rintro e w3 ⟨rfl,hb1⟩; have hb2 : Below w.heap.size w w3 := (hb0.alloc hb0.size _).trans (hb1.mono (by have := hb0.size; simp; omega)); clear hb1
    go_wp2_with (fail)
    go_ret2
    exact ⟨rfl,hb2⟩
 · rw [if_neg h0] at h'
   simp only [Option.some.injEq,Prod.mk.injEq] at h'; obtain ⟨rfl,rfl⟩ := h'
   have h1 : (e != 0) = true := by simpa using h0
   clear hr0
   go_enter Try.func12,Try.ntmps12
   go_wp2_with (fail)
   refine HA.out.mono ?_; rintro e w1 ⟨rfl,hb1⟩; replace hb0 := hb0.trans (hb1.mono hb0.size); clear hb1
   go_wp2_with (fail)
   go_ret2
   exact ⟨rfl,hb0⟩
end Go.Proofs.Ytomlfbmfdoallaa.PA

namespace Go.Proofs.Ytomlfbmfdoallaa.Pure
open Go.RowKit Go.Proofs.Ytomlfbmfdoallaa.PA Go.Proofs.YtomlfbmfdoallaaW.PrintWords Go.Proofs.YtomlfbmfdoallaaW.PrintLast
set_option linter.unusedVariables false
set_option linter.unusedSimpArgs false
theorem rd27 (l : List S27) (i : Nat) (h : i < l.length) : Zf l (i : Int) = l[i] := by simp [Zf,h]
def okT (t : S27) : Bool := decide (0 ≤ t.f0) && decide (t.f0 ≤ 1000000000) && (decide (1 ≤ t.f1) && decide (t.f1 ≤ 67108864)) && (decide (0 ≤ t.f2) && decide (t.f2 ≤ 1))
def mvL : Option S27 → List S27 → Bool
 | _,[] => true
 | p,t :: r => okT t && (match p with | none => true | some q => decide (q.f0 < t.f0)) && (match r.head? with | none => decide (t.f2 ≠ 1) | some t2 => decide (t.f2 ≠ 1) || decide (wrap64 (t2.f0 - t.f0) ≤ 10000)) && mvL (some t) r
theorem QB (l : List S27) (i : Nat) (h : i < l.length) : (if i + 1 = 0 then none else l[i + 1 - 1]?) = some l[i] := by simp [h]
theorem Yc (l : List S27) (i : Nat) : (l.drop i).head? = l[i]? := by simp
theorem refv_loop (l : List S27) (hl : l.length ≤ 100) : ∀ (d k i : Nat),l.length - i = d → i ≤ l.length → 2 * d < k → Zh.l0 k l (i : Int) = some (mvL (if i = 0 then none else l[i - 1]?) (l.drop i)) := by
 intro d
 induction d with
 | zero =>
  intro k i hd hi hk
  obtain ⟨k,rfl⟩ : ∃ m,k = m + 1 := ⟨k - 1,by omega⟩
  rw [Zh.l0.eq_2]; rw [if_neg (by omega),List.drop_eq_nil_of_le (by omega)]; rfl
 | succ d ih =>
  intro k i hd hi hk
  obtain ⟨k,rfl⟩ : ∃ m,k = m + 1 + 1 := ⟨k - 2,by omega⟩
  have hlt : i < l.length := by omega
  have hih := ih k (i + 1) (by omega) (by omega) (by omega); rw [QB l i hlt] at hih
  have hw : wrap64 ((i : Int) + 1) = ((i + 1 : Nat) : Int) := by rw [w64 (by omega) (by omega)]; omega
  have hwl : wrap64 ((l.length : Int) - 1) = (l.length : Int) - 1 := w64 (by omega) (by omega)
  have hj : ∀ b : Bool,Zh.j2 (k + 1) l (i : Int) b l[i].f0 l[i].f1 l[i].f2 = some (!b && ((match (l.drop (i + 1)).head? with | none => decide (l[i].f2 ≠ 1) | some t2 => decide (l[i].f2 ≠ 1) || decide (wrap64 (t2.f0 - l[i].f0) ≤ 10000)) && mvL (some l[i]) (l.drop (i + 1)))) := by
   intro b; rw [Zh.j2.eq_2,hw,hih,hwl,Yc]
   cases b with
   | true => rfl
   | false =>
    rw [if_neg (by simp)]
    by_cases h1 : l[i].f2 = 1
    · rw [if_pos h1]
      by_cases h2 : i + 1 < l.length
      · rw [if_neg (by omega),if_pos (by omega),if_pos (by omega),rd27 l (i + 1) h2,List.getElem?_eq_getElem h2]
        by_cases h3 : wrap64 (l[i + 1].f0 - l[i].f0) ≤ 10000
        · rw [if_neg (by omega)]; simp [h1,h3]
        · rw [if_pos (by omega)]; simp [h1,h3]
      · rw [if_pos (by omega),List.getElem?_eq_none (by omega)]
        simp [h1]
    · rw [if_neg h1]
      by_cases h2 : i + 1 < l.length
      · rw [List.getElem?_eq_getElem h2]; simp [h1]
      · rw [List.getElem?_eq_none (by omega)]; simp [h1]
  rw [Zh.l0.eq_2]; rw [if_pos (by omega),if_pos (by omega),rd27 l i hlt]; simp only [hj]; rw [List.drop_eq_getElem_cons hlt]; simp only [mvL]; generalize hM : ((match (l.drop (i + 1)).head? with | none => decide (l[i].f2 ≠ 1) | some t2 => decide (l[i].f2 ≠ 1) || decide (wrap64 (t2.f0 - l[i].f0) ≤ 10000))) = M; generalize hR : mvL (some l[i]) (l.drop (i + 1)) = R
  by_cases h0 : i = 0
  · subst h0
    rw [if_neg (show ¬ (((0 : Nat) : Int) > 0) by omega)]; simp only [okT,if_true]; clear hM hR hj hih ih; generalize l[0] = m
    repeat' split
    all_goals (first | (simp_all; done) | (simp_all; omega) | (simp_all; intros; exfalso; omega) | (congr 1; rw [Bool.eq_iff_iff]; simp only [Bool.and_eq_true,decide_eq_true_eq] at *; cases M <;> cases R <;> simp <;> omega))
  · have hw2 : wrap64 ((i : Int) - 1) = ((i - 1 : Nat) : Int) := by rw [w64 (by omega) (by omega)]; omega
    rw [if_pos (show (i : Int) > 0 by omega),hw2,if_pos (show (0 : Int) ≤ ((i - 1 : Nat) : Int) by omega),if_pos (show ((i - 1 : Nat) : Int) < (l.length : Int) by omega),rd27 l (i - 1) (by omega)]; rw [if_neg h0,List.getElem?_eq_getElem (show i - 1 < l.length by omega)]; simp only [okT]; clear hM hR hj hih ih; generalize l[i - 1] = q; generalize l[i] = m
    repeat' split
    all_goals (first | (simp_all; done) | (simp_all; omega) | (simp_all; intros; exfalso; omega) | (congr 1; rw [Bool.eq_iff_iff]; simp only [Bool.and_eq_true,decide_eq_true_eq] at *; cases M <;> cases R <;> simp <;> omega))
theorem v_loop (l : List S27) (hl : l.length ≤ 100) (hz : ∀ h : l.length - 1 < l.length,l[l.length - 1].f2 = 0) : ∀ (d k i : Nat),l.length - i = d → i ≤ l.length → 2 * d < k → Zt.l0 k l l (l.length : Int) (i : Int) = some (mvL (if i = 0 then none else l[i - 1]?) (l.drop i)) := by
 intro d
 induction d with
 | zero =>
  intro k i hd hi hk
  obtain ⟨k,rfl⟩ : ∃ m,k = m + 1 := ⟨k - 1,by omega⟩
  rw [Zt.l0.eq_2]; rw [if_neg (by omega),List.drop_eq_nil_of_le (by omega)]; rfl
 | succ d ih =>
  intro k i hd hi hk
  obtain ⟨k,rfl⟩ : ∃ m,k = m + 1 + 1 := ⟨k - 2,by omega⟩
  have hlt : i < l.length := by omega
  have hih := ih k (i + 1) (by omega) (by omega) (by omega); rw [QB l i hlt] at hih
  have hw : wrap64 ((i : Int) + 1) = ((i + 1 : Nat) : Int) := by rw [w64 (by omega) (by omega)]; omega
  have hj : ∀ b : Bool,Zt.j2 (k + 1) l (i : Int) l (l.length : Int) (i : Int) b l[i].f0 l[i].f1 l[i].f2 = some (!b && ((match (l.drop (i + 1)).head? with | none => decide (l[i].f2 ≠ 1) | some t2 => decide (l[i].f2 ≠ 1) || decide (wrap64 (t2.f0 - l[i].f0) ≤ 10000)) && mvL (some l[i]) (l.drop (i + 1)))) := by
   intro b; rw [Zt.j2.eq_2,hw,hih,Yc]
   cases b with
   | true => rfl
   | false =>
    rw [if_neg (by simp)]
    by_cases h1 : l[i].f2 = 1
    · rw [if_pos h1]
      by_cases h2 : i + 1 < l.length
      · rw [if_pos (by omega),if_pos (by omega),rd27 l (i + 1) h2,List.getElem?_eq_getElem h2]
        by_cases h3 : wrap64 (l[i + 1].f0 - l[i].f0) ≤ 10000
        · rw [if_neg (by omega)]; simp [h1,h3]
        · rw [if_pos (by omega)]; simp [h1,h3]
      · exfalso
        have := hz (by omega)
        have e : l.length - 1 = i := by omega
        simp only [e] at this; omega
    · rw [if_neg h1]
      by_cases h2 : i + 1 < l.length
      · rw [List.getElem?_eq_getElem h2]; simp [h1]
      · rw [List.getElem?_eq_none (by omega)]; simp [h1]
  rw [Zt.l0.eq_2]; rw [if_pos (by omega),if_pos (by omega),if_pos (by omega),rd27 l i hlt]; simp only [hj]; rw [List.drop_eq_getElem_cons hlt]; simp only [mvL,Z6.eq,Option.bind_some]; generalize hM : ((match (l.drop (i + 1)).head? with | none => decide (l[i].f2 ≠ 1) | some t2 => decide (l[i].f2 ≠ 1) || decide (wrap64 (t2.f0 - l[i].f0) ≤ 10000))) = M; generalize hR : mvL (some l[i]) (l.drop (i + 1)) = R
  by_cases h0 : i = 0
  · subst h0
    rw [if_neg (show ¬ (((0 : Nat) : Int) > 0) by omega)]; simp only [okT,if_true]; clear hM hR hj hih ih; generalize l[0] = m
    repeat' split
    all_goals (first | (simp_all; done) | (simp_all; omega) | (simp_all; intros; exfalso; omega) | (congr 1; rw [Bool.eq_iff_iff]; simp only [Bool.and_eq_true,decide_eq_true_eq] at *; cases M <;> cases R <;> simp <;> omega))
  · have hw2 : wrap64 ((i : Int) - 1) = ((i - 1 : Nat) : Int) := by rw [w64 (by omega) (by omega)]; omega
    rw [if_pos (show (i : Int) > 0 by omega),hw2,if_pos (show (0 : Int) ≤ ((i - 1 : Nat) : Int) by omega),if_pos (show ((i - 1 : Nat) : Int) < (l.length : Int) by omega),rd27 l (i - 1) (by omega)]; rw [if_neg h0,List.getElem?_eq_getElem (show i - 1 < l.length by omega)]; simp only [okT]; clear hM hR hj hih ih; generalize l[i - 1] = q; generalize l[i] = m
    repeat' split
    all_goals (first | (simp_all; done) | (simp_all; omega) | (simp_all; intros; exfalso; omega) | (congr 1; rw [Bool.eq_iff_iff]; simp only [Bool.and_eq_true,decide_eq_true_eq] at *; cases M <;> cases R <;> simp <;> omega))
theorem Y0 : ∀ (l : List S27) (p : Option S27),mvL p l = true ↔ MapFrom l ∧ (∀ q t,p = some q → l.head? = some t → q.f0 < t.f0)
 | [],p => by simp [mvL,MapFrom]
 | [t],p => by
  cases p <;> simp [mvL,MapFrom,okT] <;> omega
 | t :: t2 :: r,p => by
  have ih := Y0 (t2 :: r) (some t); have e : mvL p (t :: t2 :: r) = (okT t && (match p with | none => true | some q => decide (q.f0 < t.f0)) && (decide (t.f2 ≠ 1) || decide (wrap64 (t2.f0 - t.f0) ≤ 10000)) && mvL (some t) (t2 :: r)) := rfl; rw [e]; simp only [Bool.and_eq_true,ih,MapFrom,okT,decide_eq_true_eq,Bool.or_eq_true]; generalize hP : (match p with | none => true | some q => decide (q.f0 < t.f0)) = P
  have hp : (∀ q x,p = some q → (t :: t2 :: r).head? = some x → q.f0 < x.f0) ↔ P = true := by
   rw [← hP]
   cases p <;> simp
  rw [hp]
  have hh : (∀ q x,some t = some q → (t2 :: r).head? = some x → q.f0 < x.f0) ↔ t.f0 < t2.f0 := by simp
  rw [hh]; constructor
  · rintro ⟨⟨⟨⟨⟨⟨a,b⟩,⟨c,d⟩⟩,⟨f,g⟩⟩,hq⟩,hx⟩,⟨hm,hlt⟩⟩
    have hd : 0 ≤ t2.f0 ∧ t2.f0 ≤ 1000000000 := by
     cases r with
     | nil => exact ⟨hm.1,hm.2.1⟩
     | cons t3 r => exact ⟨hm.1,hm.2.1⟩
    rw [w64 (by omega) (by omega)] at hx; exact ⟨⟨a,b,c,d,f,g,hlt,fun h1 => hx.resolve_left (fun n => n h1),hm⟩,hq⟩
  · rintro ⟨⟨a,b,c,d,f,g,hlt,hx,hm⟩,hq⟩
    have hd : 0 ≤ t2.f0 ∧ t2.f0 ≤ 1000000000 := by
     cases r with
     | nil => exact ⟨hm.1,hm.2.1⟩
     | cons t3 r => exact ⟨hm.1,hm.2.1⟩
    rw [w64 (by omega) (by omega)]; exact ⟨⟨⟨⟨⟨⟨a,b⟩,⟨c,d⟩⟩,⟨f,g⟩⟩,hq⟩,(Classical.em (t.f2 = 1)).elim (fun k => .inr (hx k)) .inl⟩,⟨hm,hlt⟩⟩
theorem Yt (l : List S27) : mvL none l = mapFromB l := by
 rw [Bool.eq_iff_iff,Y0,XQ]; simp
theorem Q2 : ∀ (l : List S27) (h : l ≠ []),MapFrom l → (l.getLast h).f2 = 0
 | [t],_,hm => hm.2.2.2.2
 | t :: t2 :: r,_,hm => by
  rw [List.getLast_cons (by simp)]; exact Q2 (t2 :: r) (by simp) hm.2.2.2.2.2.2.2.2
theorem refv_eq (l : List S27) (hl : l.length ≤ 100) : Zh.f 210 l = some (mapOkB l) := by
 unfold Zh.f mapOkB
 by_cases h : 1 ≤ l.length ∧ l.length ≤ 50
 · rw [if_neg (by omega),if_neg (by omega),if_pos (by omega)]
   rw [show Zh.j0 210 l ((Zf l 0).f0 != 0) = if ((Zf l 0).f0 != 0) = true then some false else Zh.l0 209 l 0 from rfl]; have := refv_loop l hl l.length 209 0 (by omega) (by omega) (by omega); simp only [if_true,List.drop_zero] at this; rw [show ((0 : Nat) : Int) = 0 from rfl] at this; rw [this,Yt]; have h0 : Zf l 0 = l[0]'(by omega) := rd27 l 0 (by omega); rw [h0]
   cases l with
   | nil => simp at h
   | cons m r =>
    simp only [List.getElem_cons_zero,List.head?_cons]
    by_cases e : m.f0 = 0
    · simp [e,h.1,h.2]; simp at h; omega
    · simp [e]
 · have e : Zh.j0 210 l true = some false := rfl
   by_cases h1 : 1 ≤ l.length
   · rw [if_neg (by omega),if_pos (by omega),e]
     simp [h1,show ¬ l.length ≤ 50 by omega]
   · rw [if_pos (by omega),e]
     simp [h1]
theorem v_eq (l : List S27) (hl : l.length ≤ 100) : Zt.f 210 l = some (mapOkB l) := by
 unfold Zt.f mapOkB; simp only [Z6.eq,Option.bind_some]; have ej : Zt.j0 210 l true = some false := rfl
 by_cases h : 1 ≤ l.length ∧ l.length ≤ 50
 · have hw : wrap64 ((l.length : Int) - 1) = ((l.length - 1 : Nat) : Int) := by rw [w64 (by omega) (by omega)]; omega
   rw [if_pos (by simp; omega),if_pos (by omega)]; have h0 : Zf l 0 = l[0]'(by omega) := rd27 l 0 (by omega); rw [h0,hw,if_pos (show (0 : Int) ≤ ((l.length - 1 : Nat) : Int) by omega),if_pos (show ((l.length - 1 : Nat) : Int) < (l.length : Int) by omega),rd27 l (l.length - 1) (by omega)]; rw [show ∀ b,Zt.j0 210 l b = if b = true then some false else Zt.l0 209 l l (l.length : Int) 0 from fun _ => rfl]
   have hh : l.head? = some (l[0]'(by omega)) := by
    cases l with
    | nil => simp at h
    | cons m r => rfl
   rw [hh]
   by_cases e : (l[0]'(by omega)).f0 = 0
   · rw [if_pos e]
     by_cases hz : (l[l.length - 1]'(by omega)).f2 = 0
     · have := v_loop l hl (fun _ => hz) l.length 209 0 (by omega) (by omega) (by omega)
       simp only [if_true,List.drop_zero] at this; rw [show ((0 : Nat) : Int) = 0 from rfl] at this; rw [if_neg (by simp [hz]),this,Yt]; simp [e,h.1,h.2]
     · rw [if_pos (by simpa using hz)]
       have : mapFromB l = false := by
        rw [Bool.eq_false_iff]; intro hc; rw [XQ] at hc
        have hne : l ≠ [] := by intro e; subst e; simp at h
        have := Q2 l hne hc; rw [List.getLast_eq_getElem] at this; exact hz this
       simp [this]
   · rw [if_neg e,ej]
     simp [e]
 · rw [if_neg (by simp; omega),ej]
   congr 1
   by_cases h1 : 1 ≤ l.length
   · simp [h1,show ¬ l.length ≤ 50 by omega]
   · simp [h1]
end Go.Proofs.Ytomlfbmfdoallaa.Pure
