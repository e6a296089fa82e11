/- TempoCurves, part 8: what the row is built on. -/
import Derived.Test.YtomlfbmfdoallaaCTempoCurves7
import Derived.Deep.Slices
import Derived.Deep.Fields
import Derived.ChangeSame
import Derived.Lib.SmallJoins
namespace Go.Proofs.Ytomlfbmfdoallaa.PA
open Go.RowKit Go.Proofs.YtomlfbmfdoallaaW.PrintWords Go.Proofs.YtomlfbmfdoallaaW.PrintLast Go.Proofs.YtomlfbmfdoallaaW.PrintMore
attribute [local go_sem] Xf Xe Xj Xk ZV ZU Xd Xc
set_option linter.unusedVariables false
set_option linter.unusedSimpArgs false
mutual
def Zl.j0 : Nat → List (S27) → Int → Int → Int → Int → Int → Bool → Option (Bool)
 | 0,_,_,_,_,_,_,_ => none
 | k + 1,x0,x1,x2,x3,x9,x10,x49 => if x49 = true then (some false) else (if x10 = 0 then ((Xu.f k x0 x1 x9).bind fun bt297 => (if bt297.2 = 0 then (Zl.j1 k x0 x1 x2 x3 x9 bt297.1 (decide (bt297.1 < x2))) else (Zl.j1 k x0 x1 x2 x3 x9 bt297.1 true))) else (Zl.j2 k x0 x1 x2 x3))
def Zl.j2 : Nat → List (S27) → Int → Int → Int → Option (Bool)
 | 0,_,_,_,_ => none
 | k + 1,x0,x1,x2,x3 => (Xu.f k x0 x1 x3).bind fun bt301 => ((Xb.f k x0 x1 x3).bind fun bt303 => (if bt301.1 = bt303.1 then (Zl.j3 k x0 x2 (bt301.2 != bt303.2)) else (Zl.j3 k x0 x2 true)))
def Zl.j3 : Nat → List (S27) → Int → Bool → Option (Bool)
 | 0,_,_,_ => none
 | k + 1,x0,x2,x101 => if x101 = true then (some false) else ((Xr.f k x0 x2).bind fun bt305 => ((ZT.f k x0 x2).bind fun bt307 => (if bt305.1 = bt307.1 then (some (bt305.2 == bt307.2)) else (some false))))
def Zl.j1 : Nat → List (S27) → Int → Int → Int → Int → Int → Bool → Option (Bool)
 | 0,_,_,_,_,_,_,_ => none
 | k + 1,x0,x1,x2,x3,x9,x13,x65 => if x65 = true then (some false) else ((ZY.f k x0 x1 x13).bind fun bt299 => (if bt299.2 = 0 then (if bt299.1 = x9 then (Zl.j2 k x0 x1 x2 x3) else (some false)) else (some false)))
end
def Zl.f (k : Nat) (l0 : List (S27)) (a1 : Int) (a2 : Int) (a3 : Int) : Option (Bool) := (Z6.f k).bind fun t289 => (if t289 = true then ((Xa.f l0 ([] : List (S61)) ([] : List (S56))).bind fun t290 => (if t290 = true then (some true) else ((ZY.f k l0 a1 a2).bind fun bt291 => ((Z5.f k l0 a1 a2).bind fun bt293 => (if bt291.1 = bt293.1 then (if bt291.2 = bt293.2 then ((Zy.f k l0).bind fun t295 => ((Zi.f k l0).bind fun t296 => (Zl.j0 k l0 a1 a2 a3 bt291.1 bt291.2 (t295 != t296)))) else (Zl.j0 k l0 a1 a2 a3 bt291.1 bt291.2 true)) else (Zl.j0 k l0 a1 a2 a3 bt291.1 bt291.2 true)))))) else (some false))
theorem Zl.Xm : ∀ k,(∀ y0 y1 y2 y3 y4 y5 y6,LeO (Zl.j0 k y0 y1 y2 y3 y4 y5 y6) (Zl.j0 (k + 1) y0 y1 y2 y3 y4 y5 y6)) ∧ (∀ y0 y1 y2 y3,LeO (Zl.j2 k y0 y1 y2 y3) (Zl.j2 (k + 1) y0 y1 y2 y3)) ∧ (∀ y0 y1 y2,LeO (Zl.j3 k y0 y1 y2) (Zl.j3 (k + 1) y0 y1 y2)) ∧ (∀ y0 y1 y2 y3 y4 y5 y6,LeO (Zl.j1 k y0 y1 y2 y3 y4 y5 y6) (Zl.j1 (k + 1) y0 y1 y2 y3 y4 y5 y6))
 | 0 => ⟨fun _ _ _ _ _ _ _ r h => by simp [Zl.j0] at h,fun _ _ _ _ r h => by simp [Zl.j2] at h,fun _ _ _ r h => by simp [Zl.j3] at h,fun _ _ _ _ _ _ _ r h => by simp [Zl.j1] at h⟩
 | k + 1 => by
  obtain ⟨ih0,ih1,ih2,ih3⟩ := Zl.Xm k;refine ⟨?_,?_,?_,?_⟩
  · intro y0 y1 y2 y3 y4 y5 y6
    unfold Zl.j0
    repeat' first
    | (with_reducible exact ih0 _ _ _ _ _ _ _)
    | (with_reducible exact ih1 _ _ _ _)
    | (with_reducible exact ih2 _ _ _)
    | (with_reducible exact ih3 _ _ _ _ _ _ _)
    | (with_reducible exact Z6.mono _)
    | (with_reducible exact Z5.mono _ _ _ _)
    | (with_reducible exact ZT.mono _ _ _)
    | (with_reducible exact Xb.mono _ _ _ _)
    | (with_reducible exact Zi.mono _ _)
    | (with_reducible exact ZY.mono _ _ _ _)
    | (with_reducible exact Xr.mono _ _ _)
    | (with_reducible exact Xu.mono _ _ _ _)
    | (with_reducible exact Zy.mono _ _)
    | (with_reducible exact LeO.refl _)
    | (with_reducible exact LeO.none _)
    | (with_reducible refine LeO.ite ?_ ?_)
    | (with_reducible refine LeO.bind ?_ (fun _ => ?_))
    | exact ih0 _ _ _ _ _ _ _
    | exact ih1 _ _ _ _
    | exact ih2 _ _ _
    | exact ih3 _ _ _ _ _ _ _
    | exact Z6.mono _
    | exact Z5.mono _ _ _ _
    | exact ZT.mono _ _ _
    | exact Xb.mono _ _ _ _
    | exact Zi.mono _ _
    | exact ZY.mono _ _ _ _
    | exact Xr.mono _ _ _
    | exact Xu.mono _ _ _ _
    | exact Zy.mono _ _
    | exact LeO.none _
    | refine LeO.ite ?_ ?_
    | refine LeO.bind ?_ (fun _ => ?_)
  · intro y0 y1 y2 y3
    unfold Zl.j2
    repeat' first
    | (with_reducible exact ih0 _ _ _ _ _ _ _)
    | (with_reducible exact ih1 _ _ _ _)
    | (with_reducible exact ih2 _ _ _)
    | (with_reducible exact ih3 _ _ _ _ _ _ _)
    | (with_reducible exact Z6.mono _)
    | (with_reducible exact Z5.mono _ _ _ _)
    | (with_reducible exact ZT.mono _ _ _)
    | (with_reducible exact Xb.mono _ _ _ _)
    | (with_reducible exact Zi.mono _ _)
    | (with_reducible exact ZY.mono _ _ _ _)
    | (with_reducible exact Xr.mono _ _ _)
    | (with_reducible exact Xu.mono _ _ _ _)
    | (with_reducible exact Zy.mono _ _)
    | (with_reducible exact LeO.refl _)
    | (with_reducible exact LeO.none _)
    | (with_reducible refine LeO.ite ?_ ?_)
    | (with_reducible refine LeO.bind ?_ (fun _ => ?_))
    | exact ih0 _ _ _ _ _ _ _
    | exact ih1 _ _ _ _
    | exact ih2 _ _ _
    | exact ih3 _ _ _ _ _ _ _
    | exact Z6.mono _
    | exact Z5.mono _ _ _ _
    | exact ZT.mono _ _ _
    | exact Xb.mono _ _ _ _
    | exact Zi.mono _ _
    | exact ZY.mono _ _ _ _
    | exact Xr.mono _ _ _
    | exact Xu.mono _ _ _ _
    | exact Zy.mono _ _
    | exact LeO.none _
    | refine LeO.ite ?_ ?_
    | refine LeO.bind ?_ (fun _ => ?_)
  · intro y0 y1 y2
    unfold Zl.j3
    repeat' first
    | (with_reducible exact ih0 _ _ _ _ _ _ _)
    | (with_reducible exact ih1 _ _ _ _)
    | (with_reducible exact ih2 _ _ _)
    | (with_reducible exact ih3 _ _ _ _ _ _ _)
    | (with_reducible exact Z6.mono _)
    | (with_reducible exact Z5.mono _ _ _ _)
    | (with_reducible exact ZT.mono _ _ _)
    | (with_reducible exact Xb.mono _ _ _ _)
    | (with_reducible exact Zi.mono _ _)
    | (with_reducible exact ZY.mono _ _ _ _)
    | (with_reducible exact Xr.mono _ _ _)
    | (with_reducible exact Xu.mono _ _ _ _)
    | (with_reducible exact Zy.mono _ _)
    | (with_reducible exact LeO.refl _)
    | (with_reducible exact LeO.none _)
    | (with_reducible refine LeO.ite ?_ ?_)
    | (with_reducible refine LeO.bind ?_ (fun _ => ?_))
    | exact ih0 _ _ _ _ _ _ _
    | exact ih1 _ _ _ _
    | exact ih2 _ _ _
    | exact ih3 _ _ _ _ _ _ _
    | exact Z6.mono _
    | exact Z5.mono _ _ _ _
    | exact ZT.mono _ _ _
    | exact Xb.mono _ _ _ _
    | exact Zi.mono _ _
    | exact ZY.mono _ _ _ _
    | exact Xr.mono _ _ _
    | exact Xu.mono _ _ _ _
    | exact Zy.mono _ _
    | exact LeO.none _
    | refine LeO.ite ?_ ?_
    | refine LeO.bind ?_ (fun _ => ?_)
  · intro y0 y1 y2 y3 y4 y5 y6
    unfold Zl.j1
    repeat' first
    | (with_reducible exact ih0 _ _ _ _ _ _ _)
    | (with_reducible exact ih1 _ _ _ _)
    | (with_reducible exact ih2 _ _ _)
    | (with_reducible exact ih3 _ _ _ _ _ _ _)
    | (with_reducible exact Z6.mono _)
    | (with_reducible exact Z5.mono _ _ _ _)
    | (with_reducible exact ZT.mono _ _ _)
    | (with_reducible exact Xb.mono _ _ _ _)
    | (with_reducible exact Zi.mono _ _)
    | (with_reducible exact ZY.mono _ _ _ _)
    | (with_reducible exact Xr.mono _ _ _)
    | (with_reducible exact Xu.mono _ _ _ _)
    | (with_reducible exact Zy.mono _ _)
    | (with_reducible exact LeO.refl _)
    | (with_reducible exact LeO.none _)
    | (with_reducible refine LeO.ite ?_ ?_)
    | (with_reducible refine LeO.bind ?_ (fun _ => ?_))
    | exact ih0 _ _ _ _ _ _ _
    | exact ih1 _ _ _ _
    | exact ih2 _ _ _
    | exact ih3 _ _ _ _ _ _ _
    | exact Z6.mono _
    | exact Z5.mono _ _ _ _
    | exact ZT.mono _ _ _
    | exact Xb.mono _ _ _ _
    | exact Zi.mono _ _
    | exact ZY.mono _ _ _ _
    | exact Xr.mono _ _ _
    | exact Xu.mono _ _ _ _
    | exact Zy.mono _ _
    | exact LeO.none _
    | refine LeO.ite ?_ ?_
    | refine LeO.bind ?_ (fun _ => ?_)
theorem Zl.mono : ∀ a0 a1 a2 a3 k,LeO (Zl.f k a0 a1 a2 a3) (Zl.f (k + 1) a0 a1 a2 a3) := by
 intro a0 a1 a2 a3 k;obtain ⟨ih0,ih1,ih2,ih3⟩ := Zl.Xm k;unfold Zl.f
 repeat' first
  | (with_reducible exact ih0 _ _ _ _ _ _ _)
  | (with_reducible exact ih1 _ _ _ _)
  | (with_reducible exact ih2 _ _ _)
  | (with_reducible exact ih3 _ _ _ _ _ _ _)
  | (with_reducible exact Z6.mono _)
  | (with_reducible exact Z5.mono _ _ _ _)
  | (with_reducible exact ZT.mono _ _ _)
  | (with_reducible exact Xb.mono _ _ _ _)
  | (with_reducible exact Zi.mono _ _)
  | (with_reducible exact ZY.mono _ _ _ _)
  | (with_reducible exact Xr.mono _ _ _)
  | (with_reducible exact Xu.mono _ _ _ _)
  | (with_reducible exact Zy.mono _ _)
  | (with_reducible exact LeO.refl _)
  | (with_reducible exact LeO.none _)
  | (with_reducible refine LeO.ite ?_ ?_)
  | (with_reducible refine LeO.bind ?_ (fun _ => ?_))
  | exact ih0 _ _ _ _ _ _ _
  | exact ih1 _ _ _ _
  | exact ih2 _ _ _
  | exact ih3 _ _ _ _ _ _ _
  | exact Z6.mono _
  | exact Z5.mono _ _ _ _
  | exact ZT.mono _ _ _
  | exact Xb.mono _ _ _ _
  | exact Zi.mono _ _
  | exact ZY.mono _ _ _ _
  | exact Xr.mono _ _ _
  | exact Xu.mono _ _ _ _
  | exact Zy.mono _ _
  | exact LeO.none _
  | refine LeO.ite ?_ ?_
  | refine LeO.bind ?_ (fun _ => ?_)
set_option maxHeartbeats 8000000 in
set_option maxRecDepth 100000 in
theorem Zl.calls (k : Nat) (A0 : Option Addr) (c0 : Nat) (l0 : List (S27)) (a1 : Int) (a2 : Int) (a3 : Int) (r : Bool) (w : World) (hr0 : Kd.C k27 w A0 l0.length l0) (hc0 : l0.length ≤ c0) (h : Zl.f k l0 a1 a2 a3 = some r) :
 Calls Try.prog 6 #[.slice A0 l0.length c0,.int .i64 a1,.int .i64 a2,.int .i64 a3] w fun e w' => e = .returned (.bool r) ∧ Below w.heap.size w w' := by
 have HR0 := Zd.mk hr0;have HC0 := Zd.mk hc0;clear hr0 hc0;have HB := Zd.mk (Below.refl w.heap.size w);have H : ((Z6.f k).bind fun t289 => (if t289 = true then ((Xa.f l0 ([] : List (S61)) ([] : List (S56))).bind fun t290 => (if t290 = true then (some true) else ((ZY.f k l0 a1 a2).bind fun bt291 => ((Z5.f k l0 a1 a2).bind fun bt293 => (if bt291.1 = bt293.1 then (if bt291.2 = bt293.2 then ((Zy.f k l0).bind fun t295 => ((Zi.f k l0).bind fun t296 => (Zl.j0 k l0 a1 a2 a3 bt291.1 bt291.2 (t295 != t296)))) else (Zl.j0 k l0 a1 a2 a3 bt291.1 bt291.2 true)) else (Zl.j0 k l0 a1 a2 a3 bt291.1 bt291.2 true)))))) else (some false))) = some r := h;clear h;replace H := Option.bind_eq_some_iff.mp H;obtain ⟨t289,A50,H⟩ := H;replace H : (if t289 = true then ((Xa.f l0 ([] : List (S61)) ([] : List (S56))).bind fun t290 => (if t290 = true then (some true) else ((ZY.f k l0 a1 a2).bind fun bt291 => ((Z5.f k l0 a1 a2).bind fun bt293 => (if bt291.1 = bt293.1 then (if bt291.2 = bt293.2 then ((Zy.f k l0).bind fun t295 => ((Zi.f k l0).bind fun t296 => (Zl.j0 k l0 a1 a2 a3 bt291.1 bt291.2 (t295 != t296)))) else (Zl.j0 k l0 a1 a2 a3 bt291.1 bt291.2 true)) else (Zl.j0 k l0 a1 a2 a3 bt291.1 bt291.2 true)))))) else (some false)) = some r := H;have A5 := Zd.mk A50;clear A50
 by_cases c6 : t289 = true
 · subst c6
   have H1 : ((Xa.f l0 ([] : List (S61)) ([] : List (S56))).bind fun t290 => (if t290 = true then (some true) else ((ZY.f k l0 a1 a2).bind fun bt291 => ((Z5.f k l0 a1 a2).bind fun bt293 => (if bt291.1 = bt293.1 then (if bt291.2 = bt293.2 then ((Zy.f k l0).bind fun t295 => ((Zi.f k l0).bind fun t296 => (Zl.j0 k l0 a1 a2 a3 bt291.1 bt291.2 (t295 != t296)))) else (Zl.j0 k l0 a1 a2 a3 bt291.1 bt291.2 true)) else (Zl.j0 k l0 a1 a2 a3 bt291.1 bt291.2 true)))))) = some r := by rw [if_pos rfl] at H;exact H
   clear H;have H := H1;clear H1;replace H := Option.bind_eq_some_iff.mp H;obtain ⟨t290,A70,H⟩ := H;replace H : (if t290 = true then (some true) else ((ZY.f k l0 a1 a2).bind fun bt291 => ((Z5.f k l0 a1 a2).bind fun bt293 => (if bt291.1 = bt293.1 then (if bt291.2 = bt293.2 then ((Zy.f k l0).bind fun t295 => ((Zi.f k l0).bind fun t296 => (Zl.j0 k l0 a1 a2 a3 bt291.1 bt291.2 (t295 != t296)))) else (Zl.j0 k l0 a1 a2 a3 bt291.1 bt291.2 true)) else (Zl.j0 k l0 a1 a2 a3 bt291.1 bt291.2 true))))) = some r := H;have A7 := Zd.mk A70;clear A70
   by_cases c8 : t290 = true
   · subst c8
     have H1 : (some true) = some r := by rw [if_pos rfl] at H;exact H
     clear H;have H := H1;clear H1;obtain rfl := Option.some.inj H
     go_enter Try.func6,Try.ntmps6
     go_wp2_with (first | ((with_reducible refine Z2 (f := 9) rfl ?_);refine ZP (some 17) rfl rfl Try.func9 (by kernel_rfl) rfl #[] rfl (by (try simp only [List.map_toArray,List.map_cons,List.map_nil]);first | done | rfl | (simp only [List.length_drop,List.length_take];rfl)) ?_;(with_reducible refine (Z6.calls k  true _ A5.out).mono ?_);rintro e w9 ⟨rfl,hb⟩;refine ⟨_,rfl,?_⟩;have n0_ := Zd.mk (Z0 (by repeat (first | (with_reducible first | exact HB.out | apply Zc | apply Za | apply Zb) | exact HB.out)) hb);clear HB;have HB := n0_;clear n0_;(try clear hb);(try clear hb2);(try clear hk);(try clear hi)) | ((with_reducible refine Z2 (f := 10) rfl ?_);refine ZP (some 20) rfl rfl Try.func10 (by kernel_rfl) rfl #[.slice A0 l0.length c0,.slice none 0 0,.slice none 0 0] rfl (by (try simp only [List.map_toArray,List.map_cons,List.map_nil]);first | done | rfl | (simp only [List.length_drop,List.length_take];rfl)) ?_;(refine (Xa.calls _ _ l0 _ _ ([] : List (S61)) _ _ ([] : List (S56)) true _ ?side1 ?side2 ?side3 ?side4 ?side5 ?side6 A7.out).mono ?_);(case side1 => repeat (first | exact (Kd.ZK HR0.out HB.out) | (with_reducible refine Kd.Z8 ?_ _) | (with_reducible refine Kd.ZB ?_ _) | (with_reducible refine Kd.ZI ?_)));(case side2 => exact HC0.out);(case side3 => exact Kd.C_nil _ _);(case side4 => exact Nat.le_refl _);(case side5 => exact Kd.C_nil _ _);(case side6 => exact Nat.le_refl _);rintro e w' ⟨rfl,⟨nd,rfl⟩⟩;refine ⟨_,rfl,?_⟩))
     go_ret;exact ⟨by first | rfl | (simp [Zt,Zv] <;> rfl) | (simp [*,Zt,Zv] <;> rfl),by repeat (first | (with_reducible first | exact HB.out | apply Zc | apply Za | apply Zb) | exact HB.out)⟩
   · replace c8 := Bool.eq_false_iff.mpr c8
     subst c8
     have H1 : ((ZY.f k l0 a1 a2).bind fun bt291 => ((Z5.f k l0 a1 a2).bind fun bt293 => (if bt291.1 = bt293.1 then (if bt291.2 = bt293.2 then ((Zy.f k l0).bind fun t295 => ((Zi.f k l0).bind fun t296 => (Zl.j0 k l0 a1 a2 a3 bt291.1 bt291.2 (t295 != t296)))) else (Zl.j0 k l0 a1 a2 a3 bt291.1 bt291.2 true)) else (Zl.j0 k l0 a1 a2 a3 bt291.1 bt291.2 true)))) = some r := by rw [if_neg (show ¬ (false = true) by decide)] at H;exact H
     clear H;have H := H1;clear H1;replace H := Option.bind_eq_some_iff.mp H;obtain ⟨⟨t291,t292⟩,A100,H⟩ := H;replace H : ((Z5.f k l0 a1 a2).bind fun bt293 => (if t291 = bt293.1 then (if t292 = bt293.2 then ((Zy.f k l0).bind fun t295 => ((Zi.f k l0).bind fun t296 => (Zl.j0 k l0 a1 a2 a3 t291 t292 (t295 != t296)))) else (Zl.j0 k l0 a1 a2 a3 t291 t292 true)) else (Zl.j0 k l0 a1 a2 a3 t291 t292 true))) = some r := H;have A10 := Zd.mk A100;clear A100;replace H := Option.bind_eq_some_iff.mp H;obtain ⟨⟨t293,t294⟩,A110,H⟩ := H;replace H : (if t291 = t293 then (if t292 = t294 then ((Zy.f k l0).bind fun t295 => ((Zi.f k l0).bind fun t296 => (Zl.j0 k l0 a1 a2 a3 t291 t292 (t295 != t296)))) else (Zl.j0 k l0 a1 a2 a3 t291 t292 true)) else (Zl.j0 k l0 a1 a2 a3 t291 t292 true)) = some r := H;have A11 := Zd.mk A110;clear A110;have HC12 := Zd.mk H;clear H
     go_enter Try.func6,Try.ntmps6
     go_upto_region 7 with (first | ((with_reducible refine Z2 (f := 9) rfl ?_);refine ZP (some 17) rfl rfl Try.func9 (by kernel_rfl) rfl #[] rfl (by (try simp only [List.map_toArray,List.map_cons,List.map_nil]);first | done | rfl | (simp only [List.length_drop,List.length_take];rfl)) ?_;(with_reducible refine (Z6.calls k  true _ A5.out).mono ?_);rintro e w13 ⟨rfl,hb⟩;refine ⟨_,rfl,?_⟩;have n0_ := Zd.mk (Z0 (by repeat (first | (with_reducible first | exact HB.out | apply Zc | apply Za | apply Zb) | exact HB.out)) hb);clear HB;have HB := n0_;clear n0_;(try clear hb);(try clear hb2);(try clear hk);(try clear hi)) | ((with_reducible refine Z2 (f := 10) rfl ?_);refine ZP (some 20) rfl rfl Try.func10 (by kernel_rfl) rfl #[.slice A0 l0.length c0,.slice none 0 0,.slice none 0 0] rfl (by (try simp only [List.map_toArray,List.map_cons,List.map_nil]);first | done | rfl | (simp only [List.length_drop,List.length_take];rfl)) ?_;(refine (Xa.calls _ _ l0 _ _ ([] : List (S61)) _ _ ([] : List (S56)) false _ ?side1 ?side2 ?side3 ?side4 ?side5 ?side6 A7.out).mono ?_);(case side1 => repeat (first | exact (Kd.ZK HR0.out HB.out) | (with_reducible refine Kd.Z8 ?_ _) | (with_reducible refine Kd.ZB ?_ _) | (with_reducible refine Kd.ZI ?_)));(case side2 => exact HC0.out);(case side3 => exact Kd.C_nil _ _);(case side4 => exact Nat.le_refl _);(case side5 => exact Kd.C_nil _ _);(case side6 => exact Nat.le_refl _);rintro e w' ⟨rfl,⟨nd,rfl⟩⟩;refine ⟨_,rfl,?_⟩) | ((with_reducible refine Z2 (f := 13) rfl ?_);refine ZP (some 25) rfl rfl Try.func13 (by kernel_rfl) rfl #[.slice A0 l0.length c0,.int .i64 a1,.int .i64 a2] rfl (by (try simp only [List.map_toArray,List.map_cons,List.map_nil]);first | done | rfl | (simp only [List.length_drop,List.length_take];rfl)) ?_;(with_reducible refine (ZY.calls k _ _ l0 a1 a2 t291 t292 _ ?side1 ?side2 A10.out).mono ?_);(case side1 => repeat (first | exact (Kd.ZK HR0.out (by repeat (first | (with_reducible first | exact HB.out | apply Zc | apply Za | apply Zb) | exact HB.out))) | (with_reducible refine Kd.Z8 ?_ _) | (with_reducible refine Kd.ZB ?_ _) | (with_reducible refine Kd.ZI ?_)));(case side2 => exact HC0.out);rintro e w14 ⟨rfl,hb⟩;refine ⟨_,rfl,?_⟩;have n0_ := Zd.mk (Z0 (by repeat (first | (with_reducible first | exact HB.out | apply Zc | apply Za | apply Zb) | exact HB.out)) hb);clear HB;have HB := n0_;clear n0_;(try clear hb);(try clear hb2);(try clear hk);(try clear hi)) | ((with_reducible refine Z2 (f := 24) rfl ?_);refine ZP (some 32) rfl rfl Try.func24 (by kernel_rfl) rfl #[.slice A0 l0.length c0,.int .i64 a1,.int .i64 a2] rfl (by (try simp only [List.map_toArray,List.map_cons,List.map_nil]);first | done | rfl | (simp only [List.length_drop,List.length_take];rfl)) ?_;(with_reducible refine (Z5.calls k _ _ l0 a1 a2 t293 t294 _ ?side1 ?side2 A11.out).mono ?_);(case side1 => repeat (first | exact (Kd.ZK HR0.out HB.out) | (with_reducible refine Kd.Z8 ?_ _) | (with_reducible refine Kd.ZB ?_ _) | (with_reducible refine Kd.ZI ?_)));(case side2 => exact HC0.out);rintro e w15 ⟨rfl,hb⟩;refine ⟨_,rfl,?_⟩;have n0_ := Zd.mk (Z0 (by repeat (first | (with_reducible first | exact HB.out | apply Zc | apply Za | apply Zb) | exact HB.out)) hb);clear HB;have HB := n0_;clear n0_;(try clear hb);(try clear hb2);(try clear hk);(try clear hi)))
     (try simp only [Act.put,YV,YW,YX])
     go_cut [49] (fun v49 wc => ∃ (kq : Nat) (x49_11 : Bool),v49 = .bool x49_11 ∧ Zd (Zl.j0 kq l0 a1 a2 a3 t291 t292 x49_11 = some r) ∧ Zd (kq ≤ k) ∧ Zd (Below w.heap.size w wc))
     case first =>
      have H := HC12.out;clear HC12
      by_cases c16 : t291 = t293
      · rw [if_pos c16] at H
        have c16b0 : (t291 == t293) = true := beq_iff_eq.mpr c16;have c16b1 : (t291 != t293) = false := bne_eq_false_iff_eq.mpr c16;clear c16
        (first | rw [c16b0] | (simp only [i64_w,i32_w];rw [c16b0]) | skip)
        by_cases c17 : t292 = t294
        · rw [if_pos c17] at H
          have c17b0 : (t292 == t294) = true := beq_iff_eq.mpr c17;have c17b1 : (t292 != t294) = false := bne_eq_false_iff_eq.mpr c17;clear c17;replace H := Option.bind_eq_some_iff.mp H;obtain ⟨t295,A180,H⟩ := H;replace H : ((Zi.f k l0).bind fun t296 => (Zl.j0 k l0 a1 a2 a3 t291 t292 (t295 != t296))) = some r := H;have A18 := Zd.mk A180;clear A180;replace H := Option.bind_eq_some_iff.mp H;obtain ⟨t296,A190,H⟩ := H;replace H : (Zl.j0 k l0 a1 a2 a3 t291 t292 (t295 != t296)) = some r := H;have A19 := Zd.mk A190;clear A190;have H' := Zd.mk H;clear H
          go_wp2_with (first | (go_at_call 25;(with_reducible refine (Zy.calls k _ _ l0 t295 _ ?side1 ?side2 A18.out).mono ?_);(case side1 => repeat (first | exact (Kd.ZK HR0.out HB.out) | (with_reducible refine Kd.Z8 ?_ _) | (with_reducible refine Kd.ZB ?_ _) | (with_reducible refine Kd.ZI ?_)));(case side2 => exact HC0.out);rintro e w20 ⟨rfl,hb⟩;have n0_ := Zd.mk (Z0 (by repeat (first | (with_reducible first | exact HB.out | apply Zc | apply Za | apply Zb) | exact HB.out)) hb);clear HB;have HB := n0_;clear n0_;(try clear hb);(try clear hb2);(try clear hk);(try clear hi)) | (go_at_call 11;(with_reducible refine (Zi.calls k _ _ l0 t296 _ ?side1 ?side2 A19.out).mono ?_);(case side1 => repeat (first | exact (Kd.ZK HR0.out HB.out) | (with_reducible refine Kd.Z8 ?_ _) | (with_reducible refine Kd.ZB ?_ _) | (with_reducible refine Kd.ZI ?_)));(case side2 => exact HC0.out);rintro e w21 ⟨rfl,hb⟩;have n0_ := Zd.mk (Z0 (by repeat (first | (with_reducible first | exact HB.out | apply Zc | apply Za | apply Zb) | exact HB.out)) hb);clear HB;have HB := n0_;clear n0_;(try clear hb);(try clear hb2);(try clear hk);(try clear hi)))
          go_meet
          case rel => exact ⟨_,((t295 != t296)),(by first | rfl | (simp;done) | (simp [*];done)),H',⟨by first | omega | exact Nat.le_refl _⟩,⟨by repeat (first | (with_reducible first | exact HB.out | apply Zc | apply Za | apply Zb) | exact HB.out)⟩⟩
        · rw [if_neg c17] at H
          have c17b0 : (t292 == t294) = false := beq_eq_false_iff_ne.mpr c17;have c17b1 : (t292 != t294) = true := bne_iff_ne.mpr c17;have H' := Zd.mk H;clear H
          go_wp2
          go_meet
          case rel => exact ⟨_,(true),(by first | rfl | (simp;done) | (simp [*];done)),H',⟨by first | omega | exact Nat.le_refl _⟩,⟨by repeat (first | (with_reducible first | exact HB.out | apply Zc | apply Za | apply Zb) | exact HB.out)⟩⟩
      · rw [if_neg c16] at H
        have c16b0 : (t291 == t293) = false := beq_eq_false_iff_ne.mpr c16;have c16b1 : (t291 != t293) = true := bne_iff_ne.mpr c16
        (first | rw [c16b0] | (simp only [i64_w,i32_w];rw [c16b0]) | skip)
        have H' := Zd.mk H;clear H
        go_wp2
        go_meet
        case rel => exact ⟨_,(true),(by first | rfl | (simp;done) | (simp [*];done)),H',⟨by first | omega | exact Nat.le_refl _⟩,⟨by repeat (first | (with_reducible first | exact HB.out | apply Zc | apply Za | apply Zb) | exact HB.out)⟩⟩
     case rest =>
      clear HC12
      (try clear c1); (try clear c2); (try clear p2); (try clear c6); (try clear c8); (try clear c9); (try clear c10); (try clear c13); (try clear c16); (try clear c16b0); (try clear c16b1); (try clear c17); (try clear c17b0); (try clear c17b1)
      obtain ⟨kq,x49_11,rfl,HA,HJ11,HB⟩ := hcut
      cases kq with
      | zero => exact absurd HA.out (by simp [Zl.j0])
      | succ kj11 =>
       have H := HA.out;clear HA;simp only [Zl.j0] at H
       by_cases c22 : x49_11 = true
       · subst c22
         have H1 : (some false) = some r := by rw [if_pos rfl] at H;exact H
         clear H;have H := H1;clear H1;obtain rfl := Option.some.inj H
         go_wp2
         go_ret;exact ⟨by first | rfl | (simp [Zt,Zv] <;> rfl) | (simp [*,Zt,Zv] <;> rfl),by repeat (first | (with_reducible first | exact HB.out | apply Zc | apply Za | apply Zb) | exact HB.out)⟩
       · replace c22 := Bool.eq_false_iff.mpr c22
         subst c22
         have H1 : (if t292 = 0 then ((Xu.f kj11 l0 a1 t291).bind fun bt297 => (if bt297.2 = 0 then (Zl.j1 kj11 l0 a1 a2 a3 t291 bt297.1 (decide (bt297.1 < a2))) else (Zl.j1 kj11 l0 a1 a2 a3 t291 bt297.1 true))) else (Zl.j2 kj11 l0 a1 a2 a3)) = some r := by rw [if_neg (show ¬ (false = true) by decide)] at H;exact H
         clear H;have H := H1;clear H1;have HC23 := Zd.mk H;clear H
         go_upto_if 51 with (fail)
         go_cut [] (fun wc => ∃ (kq : Nat),Zd (Zl.j2 kq l0 a1 a2 a3 = some r) ∧ Zd (kq ≤ kj11) ∧ Zd (Below w.heap.size w wc))
         case first =>
          have H := HC23.out;clear HC23
          by_cases c24 : t292 = 0
          · rw [if_pos c24] at H
            have c24b0 : (t292 == 0) = true := beq_iff_eq.mpr c24;have c24b1 : (t292 != 0) = false := bne_eq_false_iff_eq.mpr c24;clear c24
            (first | rw [c24b0] | (simp only [i64_w,i32_w];rw [c24b0]) | skip)
            replace H := Option.bind_eq_some_iff.mp H;obtain ⟨⟨t297,t298⟩,A250,H⟩ := H;replace H : (if t298 = 0 then (Zl.j1 kj11 l0 a1 a2 a3 t291 t297 (decide (t297 < a2))) else (Zl.j1 kj11 l0 a1 a2 a3 t291 t297 true)) = some r := H;have A25 := Zd.mk A250;clear A250;have HC26 := Zd.mk H;clear H
            go_upto_region 11 with (first | ((with_reducible refine Z2 (f := 26) rfl ?_);refine ZP (some 56) rfl rfl Try.func26 (by kernel_rfl) rfl #[.slice A0 l0.length c0,.int .i64 a1,.int .i64 t291] rfl (by (try simp only [List.map_toArray,List.map_cons,List.map_nil]);first | done | rfl | (simp only [List.length_drop,List.length_take];rfl)) ?_;(with_reducible refine (Xu.calls kj11 _ _ l0 a1 t291 t297 t298 _ ?side1 ?side2 A25.out).mono ?_);(case side1 => repeat (first | exact (Kd.ZK HR0.out HB.out) | (with_reducible refine Kd.Z8 ?_ _) | (with_reducible refine Kd.ZB ?_ _) | (with_reducible refine Kd.ZI ?_)));(case side2 => exact HC0.out);rintro e w27 ⟨rfl,hb⟩;refine ⟨_,rfl,?_⟩;have n0_ := Zd.mk (Z0 (by repeat (first | (with_reducible first | exact HB.out | apply Zc | apply Za | apply Zb) | exact HB.out)) hb);clear HB;have HB := n0_;clear n0_;(try clear hb);(try clear hb2);(try clear hk);(try clear hi)))
            (try simp only [Act.put,YV,YW,YX])
            go_cut [65] (fun v65 wc => ∃ (kq : Nat) (x65_25 : Bool),v65 = .bool x65_25 ∧ Zd (Zl.j1 kq l0 a1 a2 a3 t291 t297 x65_25 = some r) ∧ Zd (kq ≤ kj11) ∧ Zd (Below w.heap.size w wc))
            case first =>
             have H := HC26.out;clear HC26
             by_cases c28 : t298 = 0
             · rw [if_pos c28] at H
               have c28b0 : (t298 == 0) = true := beq_iff_eq.mpr c28;have c28b1 : (t298 != 0) = false := bne_eq_false_iff_eq.mpr c28;clear c28
               (first | rw [c28b0] | (simp only [i64_w,i32_w];rw [c28b0]) | skip)
               have H' := Zd.mk H;clear H
               go_wp2
               go_meet
               case rel => exact ⟨_,(decide (t297 < a2)),(by first | rfl | (simp;done) | (simp [*];done)),H',⟨by have := HJ11.out;first | omega | exact Nat.le_refl _⟩,⟨by repeat (first | (with_reducible first | exact HB.out | apply Zc | apply Za | apply Zb) | exact HB.out)⟩⟩
             · rw [if_neg c28] at H
               have c28b0 : (t298 == 0) = false := beq_eq_false_iff_ne.mpr c28;have c28b1 : (t298 != 0) = true := bne_iff_ne.mpr c28
               (first | rw [c28b0] | (simp only [i64_w,i32_w];rw [c28b0]) | skip)
               have H' := Zd.mk H;clear H
               go_wp2
               go_meet
               case rel => exact ⟨_,(true),(by first | rfl | (simp;done) | (simp [*];done)),H',⟨by have := HJ11.out;first | omega | exact Nat.le_refl _⟩,⟨by repeat (first | (with_reducible first | exact HB.out | apply Zc | apply Za | apply Zb) | exact HB.out)⟩⟩
            case rest =>
             clear HC26
             (try clear c1); (try clear c2); (try clear p2); (try clear c6); (try clear c8); (try clear c9); (try clear c10); (try clear c13); (try clear c16); (try clear c16b0); (try clear c16b1); (try clear c17); (try clear c17b0); (try clear c17b1); (try clear c22); (try clear c24); (try clear c24b0); (try clear c24b1); (try clear c26); (try clear c28); (try clear c28b0); (try clear c28b1); (try clear p2)
             obtain ⟨kq,x65_25,rfl,HA,HJ25,HB⟩ := hcut
             cases kq with
             | zero => exact absurd HA.out (by simp [Zl.j1])
             | succ kj25 =>
              have H := HA.out;clear HA;simp only [Zl.j1] at H
              by_cases c29 : x65_25 = true
              · subst c29
                have H1 : (some false) = some r := by rw [if_pos rfl] at H;exact H
                clear H;have H := H1;clear H1;obtain rfl := Option.some.inj H
                go_wp2
                go_ret;exact ⟨by first | rfl | (simp [Zt,Zv] <;> rfl) | (simp [*,Zt,Zv] <;> rfl),by repeat (first | (with_reducible first | exact HB.out | apply Zc | apply Za | apply Zb) | exact HB.out)⟩
              · replace c29 := Bool.eq_false_iff.mpr c29
                subst c29
                have H1 : ((ZY.f kj25 l0 a1 t297).bind fun bt299 => (if bt299.2 = 0 then (if bt299.1 = t291 then (Zl.j2 kj25 l0 a1 a2 a3) else (some false)) else (some false))) = some r := by rw [if_neg (show ¬ (false = true) by decide)] at H;exact H
                clear H;have H := H1;clear H1;replace H := Option.bind_eq_some_iff.mp H;obtain ⟨⟨t299,t300⟩,A300,H⟩ := H;replace H : (if t300 = 0 then (if t299 = t291 then (Zl.j2 kj25 l0 a1 a2 a3) else (some false)) else (some false)) = some r := H;have A30 := Zd.mk A300;clear A300
                by_cases c31 : t300 = 0
                · rw [if_pos c31] at H
                  have c31b0 : (t300 == 0) = true := beq_iff_eq.mpr c31;have c31b1 : (t300 != 0) = false := bne_eq_false_iff_eq.mpr c31;clear c31
                  by_cases c32 : t299 = t291
                  · rw [if_pos c32] at H
                    have c32b0 : (t299 == t291) = true := beq_iff_eq.mpr c32;have c32b1 : (t299 != t291) = false := bne_eq_false_iff_eq.mpr c32;clear c32;have H' := Zd.mk H;clear H
                    go_wp2_with (first | ((with_reducible refine Z2 (f := 13) rfl ?_);refine ZP (some 70) rfl rfl Try.func13 (by kernel_rfl) rfl #[.slice A0 l0.length c0,.int .i64 a1,.int .i64 t297] rfl (by (try simp only [List.map_toArray,List.map_cons,List.map_nil]);first | done | rfl | (simp only [List.length_drop,List.length_take];rfl)) ?_;(with_reducible refine (ZY.calls kj25 _ _ l0 a1 t297 t299 t300 _ ?side1 ?side2 A30.out).mono ?_);(case side1 => repeat (first | exact (Kd.ZK HR0.out HB.out) | (with_reducible refine Kd.Z8 ?_ _) | (with_reducible refine Kd.ZB ?_ _) | (with_reducible refine Kd.ZI ?_)));(case side2 => exact HC0.out);rintro e w33 ⟨rfl,hb⟩;refine ⟨_,rfl,?_⟩;have n0_ := Zd.mk (Z0 (by repeat (first | (with_reducible first | exact HB.out | apply Zc | apply Za | apply Zb) | exact HB.out)) hb);clear HB;have HB := n0_;clear n0_;(try clear hb);(try clear hb2);(try clear hk);(try clear hi)))
                    go_meet
                    case rel => exact ⟨_,H',⟨by have := HJ11.out;have := HJ25.out;first | omega | exact Nat.le_refl _⟩,⟨by repeat (first | (with_reducible first | exact HB.out | apply Zc | apply Za | apply Zb) | exact HB.out)⟩⟩
                  · rw [if_neg c32] at H
                    have c32b0 : (t299 == t291) = false := beq_eq_false_iff_ne.mpr c32;have c32b1 : (t299 != t291) = true := bne_iff_ne.mpr c32;obtain rfl := Option.some.inj H
                    go_wp2_with (first | ((with_reducible refine Z2 (f := 13) rfl ?_);refine ZP (some 70) rfl rfl Try.func13 (by kernel_rfl) rfl #[.slice A0 l0.length c0,.int .i64 a1,.int .i64 t297] rfl (by (try simp only [List.map_toArray,List.map_cons,List.map_nil]);first | done | rfl | (simp only [List.length_drop,List.length_take];rfl)) ?_;(with_reducible refine (ZY.calls kj25 _ _ l0 a1 t297 t299 t300 _ ?side1 ?side2 A30.out).mono ?_);(case side1 => repeat (first | exact (Kd.ZK HR0.out HB.out) | (with_reducible refine Kd.Z8 ?_ _) | (with_reducible refine Kd.ZB ?_ _) | (with_reducible refine Kd.ZI ?_)));(case side2 => exact HC0.out);rintro e w34 ⟨rfl,hb⟩;refine ⟨_,rfl,?_⟩;have n0_ := Zd.mk (Z0 (by repeat (first | (with_reducible first | exact HB.out | apply Zc | apply Za | apply Zb) | exact HB.out)) hb);clear HB;have HB := n0_;clear n0_;(try clear hb);(try clear hb2);(try clear hk);(try clear hi)))
                    go_ret;exact ⟨by first | rfl | (simp [Zt,Zv] <;> rfl) | (simp [*,Zt,Zv] <;> rfl),by repeat (first | (with_reducible first | exact HB.out | apply Zc | apply Za | apply Zb) | exact HB.out)⟩
                · rw [if_neg c31] at H
                  have c31b0 : (t300 == 0) = false := beq_eq_false_iff_ne.mpr c31;have c31b1 : (t300 != 0) = true := bne_iff_ne.mpr c31;obtain rfl := Option.some.inj H
                  go_wp2_with (first | ((with_reducible refine Z2 (f := 13) rfl ?_);refine ZP (some 70) rfl rfl Try.func13 (by kernel_rfl) rfl #[.slice A0 l0.length c0,.int .i64 a1,.int .i64 t297] rfl (by (try simp only [List.map_toArray,List.map_cons,List.map_nil]);first | done | rfl | (simp only [List.length_drop,List.length_take];rfl)) ?_;(with_reducible refine (ZY.calls kj25 _ _ l0 a1 t297 t299 t300 _ ?side1 ?side2 A30.out).mono ?_);(case side1 => repeat (first | exact (Kd.ZK HR0.out HB.out) | (with_reducible refine Kd.Z8 ?_ _) | (with_reducible refine Kd.ZB ?_ _) | (with_reducible refine Kd.ZI ?_)));(case side2 => exact HC0.out);rintro e w35 ⟨rfl,hb⟩;refine ⟨_,rfl,?_⟩;have n0_ := Zd.mk (Z0 (by repeat (first | (with_reducible first | exact HB.out | apply Zc | apply Za | apply Zb) | exact HB.out)) hb);clear HB;have HB := n0_;clear n0_;(try clear hb);(try clear hb2);(try clear hk);(try clear hi)))
                  go_ret;exact ⟨by first | rfl | (simp [Zt,Zv] <;> rfl) | (simp [*,Zt,Zv] <;> rfl),by repeat (first | (with_reducible first | exact HB.out | apply Zc | apply Za | apply Zb) | exact HB.out)⟩
          · rw [if_neg c24] at H
            have c24b0 : (t292 == 0) = false := beq_eq_false_iff_ne.mpr c24;have c24b1 : (t292 != 0) = true := bne_iff_ne.mpr c24
            (first | rw [c24b0] | (simp only [i64_w,i32_w];rw [c24b0]) | skip)
            have H' := Zd.mk H;clear H
            go_wp2
            go_meet
            case rel => exact ⟨_,H',⟨by have := HJ11.out;first | omega | exact Nat.le_refl _⟩,⟨by repeat (first | (with_reducible first | exact HB.out | apply Zc | apply Za | apply Zb) | exact HB.out)⟩⟩
         case rest =>
          clear HC23
          (try clear c1); (try clear c2); (try clear p2); (try clear c3); (try clear c6); (try clear c8); (try clear c9); (try clear c10); (try clear c13); (try clear c16); (try clear c16b0); (try clear c16b1); (try clear c17); (try clear c17b0); (try clear c17b1); (try clear c22); (try clear c24); (try clear c24b0); (try clear c24b1); (try clear c26); (try clear c28); (try clear c28b0); (try clear c28b1); (try clear c29); (try clear c31); (try clear c31b0); (try clear c31b1); (try clear c32); (try clear c32b0); (try clear c32b1); (try clear p2)
          obtain ⟨kq,HA,HJ22,HB⟩ := hcut
          cases kq with
          | zero => exact absurd HA.out (by simp [Zl.j2])
          | succ kj22 =>
           have H := HA.out;clear HA;simp only [Zl.j2] at H;replace H := Option.bind_eq_some_iff.mp H;obtain ⟨⟨t301,t302⟩,A360,H⟩ := H;replace H : ((Xb.f kj22 l0 a1 a3).bind fun bt303 => (if t301 = bt303.1 then (Zl.j3 kj22 l0 a2 (t302 != bt303.2)) else (Zl.j3 kj22 l0 a2 true))) = some r := H;have A36 := Zd.mk A360;clear A360;replace H := Option.bind_eq_some_iff.mp H;obtain ⟨⟨t303,t304⟩,A370,H⟩ := H;replace H : (if t301 = t303 then (Zl.j3 kj22 l0 a2 (t302 != t304)) else (Zl.j3 kj22 l0 a2 true)) = some r := H;have A37 := Zd.mk A370;clear A370;have HC38 := Zd.mk H;clear H
           go_upto_region 18 with (first | ((with_reducible refine Z2 (f := 26) rfl ?_);refine ZP (some 84) rfl rfl Try.func26 (by kernel_rfl) rfl #[.slice A0 l0.length c0,.int .i64 a1,.int .i64 a3] rfl (by (try simp only [List.map_toArray,List.map_cons,List.map_nil]);first | done | rfl | (simp only [List.length_drop,List.length_take];rfl)) ?_;(with_reducible refine (Xu.calls kj22 _ _ l0 a1 a3 t301 t302 _ ?side1 ?side2 A36.out).mono ?_);(case side1 => repeat (first | exact (Kd.ZK HR0.out HB.out) | (with_reducible refine Kd.Z8 ?_ _) | (with_reducible refine Kd.ZB ?_ _) | (with_reducible refine Kd.ZI ?_)));(case side2 => exact HC0.out);rintro e w39 ⟨rfl,hb⟩;refine ⟨_,rfl,?_⟩;have n0_ := Zd.mk (Z0 (by repeat (first | (with_reducible first | exact HB.out | apply Zc | apply Za | apply Zb) | exact HB.out)) hb);clear HB;have HB := n0_;clear n0_;(try clear hb);(try clear hb2);(try clear hk);(try clear hi)) | ((with_reducible refine Z2 (f := 27) rfl ?_);refine ZP (some 91) rfl rfl Try.func27 (by kernel_rfl) rfl #[.slice A0 l0.length c0,.int .i64 a1,.int .i64 a3] rfl (by (try simp only [List.map_toArray,List.map_cons,List.map_nil]);first | done | rfl | (simp only [List.length_drop,List.length_take];rfl)) ?_;(with_reducible refine (Xb.calls kj22 _ _ l0 a1 a3 t303 t304 _ ?side1 ?side2 A37.out).mono ?_);(case side1 => repeat (first | exact (Kd.ZK HR0.out HB.out) | (with_reducible refine Kd.Z8 ?_ _) | (with_reducible refine Kd.ZB ?_ _) | (with_reducible refine Kd.ZI ?_)));(case side2 => exact HC0.out);rintro e w40 ⟨rfl,hb⟩;refine ⟨_,rfl,?_⟩;have n0_ := Zd.mk (Z0 (by repeat (first | (with_reducible first | exact HB.out | apply Zc | apply Za | apply Zb) | exact HB.out)) hb);clear HB;have HB := n0_;clear n0_;(try clear hb);(try clear hb2);(try clear hk);(try clear hi)))
           (try simp only [Act.put,YV,YW,YX])
           go_cut [101] (fun v101 wc => ∃ (kq : Nat) (x101_37 : Bool),v101 = .bool x101_37 ∧ Zd (Zl.j3 kq l0 a2 x101_37 = some r) ∧ Zd (kq ≤ kj22) ∧ Zd (Below w.heap.size w wc))
           case first =>
            have H := HC38.out;clear HC38
            by_cases c41 : t301 = t303
            · rw [if_pos c41] at H
              have c41b0 : (t301 == t303) = true := beq_iff_eq.mpr c41;have c41b1 : (t301 != t303) = false := bne_eq_false_iff_eq.mpr c41;clear c41
              (first | rw [c41b0] | (simp only [i64_w,i32_w];rw [c41b0]) | skip)
              have H' := Zd.mk H;clear H
              go_wp2
              go_meet
              case rel => exact ⟨_,((t302 != t304)),(by first | rfl | (simp;done) | (simp [*];done)),H',⟨by have := HJ11.out;have := HJ22.out;first | omega | exact Nat.le_refl _⟩,⟨by repeat (first | (with_reducible first | exact HB.out | apply Zc | apply Za | apply Zb) | exact HB.out)⟩⟩
            · rw [if_neg c41] at H
              have c41b0 : (t301 == t303) = false := beq_eq_false_iff_ne.mpr c41;have c41b1 : (t301 != t303) = true := bne_iff_ne.mpr c41
              (first | rw [c41b0] | (simp only [i64_w,i32_w];rw [c41b0]) | skip)
              have H' := Zd.mk H;clear H
              go_wp2
              go_meet
              case rel => exact ⟨_,(true),(by first | rfl | (simp;done) | (simp [*];done)),H',⟨by have := HJ11.out;have := HJ22.out;first | omega | exact Nat.le_refl _⟩,⟨by repeat (first | (with_reducible first | exact HB.out | apply Zc | apply Za | apply Zb) | exact HB.out)⟩⟩
           case rest =>
            clear HC38
            (try clear c1); (try clear c2); (try clear p2); (try clear c3); (try clear c4); (try clear c6); (try clear c8); (try clear c9); (try clear c10); (try clear c13); (try clear c16); (try clear c16b0); (try clear c16b1); (try clear c17); (try clear c17b0); (try clear c17b1); (try clear c22); (try clear c24); (try clear c24b0); (try clear c24b1); (try clear c26); (try clear c27); (try clear c28); (try clear c28b0); (try clear c28b1); (try clear c29); (try clear c31); (try clear c31b0); (try clear c31b1); (try clear c32); (try clear c32b0); (try clear c32b1); (try clear c41); (try clear c41b0); (try clear c41b1); (try clear p2)
            obtain ⟨kq,x101_37,rfl,HA,HJ37,HB⟩ := hcut
            cases kq with
            | zero => exact absurd HA.out (by simp [Zl.j3])
            | succ kj37 =>
             have H := HA.out;clear HA;simp only [Zl.j3] at H
             by_cases c42 : x101_37 = true
             · subst c42
               have H1 : (some false) = some r := by rw [if_pos rfl] at H;exact H
               clear H;have H := H1;clear H1;obtain rfl := Option.some.inj H
               go_wp2
               go_ret;exact ⟨by first | rfl | (simp [Zt,Zv] <;> rfl) | (simp [*,Zt,Zv] <;> rfl),by repeat (first | (with_reducible first | exact HB.out | apply Zc | apply Za | apply Zb) | exact HB.out)⟩
             · replace c42 := Bool.eq_false_iff.mpr c42
               subst c42
               have H1 : ((Xr.f kj37 l0 a2).bind fun bt305 => ((ZT.f kj37 l0 a2).bind fun bt307 => (if bt305.1 = bt307.1 then (some (bt305.2 == bt307.2)) else (some false)))) = some r := by rw [if_neg (show ¬ (false = true) by decide)] at H;exact H
               clear H;have H := H1;clear H1;replace H := Option.bind_eq_some_iff.mp H;obtain ⟨⟨t305,t306⟩,A430,H⟩ := H;replace H : ((ZT.f kj37 l0 a2).bind fun bt307 => (if t305 = bt307.1 then (some (t306 == bt307.2)) else (some false))) = some r := H;have A43 := Zd.mk A430;clear A430;replace H := Option.bind_eq_some_iff.mp H;obtain ⟨⟨t307,t308⟩,A440,H⟩ := H;replace H : (if t305 = t307 then (some (t306 == t308)) else (some false)) = some r := H;have A44 := Zd.mk A440;clear A440
               by_cases c45 : t305 = t307
               · rw [if_pos c45] at H
                 have c45b0 : (t305 == t307) = true := beq_iff_eq.mpr c45;have c45b1 : (t305 != t307) = false := bne_eq_false_iff_eq.mpr c45;clear c45;obtain rfl := Option.some.inj H
                 go_wp2_with (first | ((with_reducible refine Z2 (f := 12) rfl ?_);refine ZP (some 105) rfl rfl Try.func12 (by kernel_rfl) rfl #[.slice A0 l0.length c0,.int .i64 a2] rfl (by (try simp only [List.map_toArray,List.map_cons,List.map_nil]);first | done | rfl | (simp only [List.length_drop,List.length_take];rfl)) ?_;(with_reducible refine (Xr.calls kj37 _ _ l0 a2 t305 t306 _ ?side1 ?side2 A43.out).mono ?_);(case side1 => repeat (first | exact (Kd.ZK HR0.out HB.out) | (with_reducible refine Kd.Z8 ?_ _) | (with_reducible refine Kd.ZB ?_ _) | (with_reducible refine Kd.ZI ?_)));(case side2 => exact HC0.out);rintro e w46 ⟨rfl,hb⟩;refine ⟨_,rfl,?_⟩;have n0_ := Zd.mk (Z0 (by repeat (first | (with_reducible first | exact HB.out | apply Zc | apply Za | apply Zb) | exact HB.out)) hb);clear HB;have HB := n0_;clear n0_;(try clear hb);(try clear hb2);(try clear hk);(try clear hi)) | ((with_reducible refine Z2 (f := 28) rfl ?_);refine ZP (some 111) rfl rfl Try.func28 (by kernel_rfl) rfl #[.slice A0 l0.length c0,.int .i64 a2] rfl (by (try simp only [List.map_toArray,List.map_cons,List.map_nil]);first | done | rfl | (simp only [List.length_drop,List.length_take];rfl)) ?_;(with_reducible refine (ZT.calls kj37 _ _ l0 a2 t307 t308 _ ?side1 ?side2 A44.out).mono ?_);(case side1 => repeat (first | exact (Kd.ZK HR0.out HB.out) | (with_reducible refine Kd.Z8 ?_ _) | (with_reducible refine Kd.ZB ?_ _) | (with_reducible refine Kd.ZI ?_)));(case side2 => exact HC0.out);rintro e w47 ⟨rfl,hb⟩;refine ⟨_,rfl,?_⟩;have n0_ := Zd.mk (Z0 (by repeat (first | (with_reducible first | exact HB.out | apply Zc | apply Za | apply Zb) | exact HB.out)) hb);clear HB;have HB := n0_;clear n0_;(try clear hb);(try clear hb2);(try clear hk);(try clear hi)))
                 go_ret;exact ⟨by first | rfl | (simp [Zt,Zv] <;> rfl) | (simp [*,Zt,Zv] <;> rfl),by repeat (first | (with_reducible first | exact HB.out | apply Zc | apply Za | apply Zb) | exact HB.out)⟩
               · rw [if_neg c45] at H
                 have c45b0 : (t305 == t307) = false := beq_eq_false_iff_ne.mpr c45;have c45b1 : (t305 != t307) = true := bne_iff_ne.mpr c45;obtain rfl := Option.some.inj H
                 go_wp2_with (first | ((with_reducible refine Z2 (f := 12) rfl ?_);refine ZP (some 105) rfl rfl Try.func12 (by kernel_rfl) rfl #[.slice A0 l0.length c0,.int .i64 a2] rfl (by (try simp only [List.map_toArray,List.map_cons,List.map_nil]);first | done | rfl | (simp only [List.length_drop,List.length_take];rfl)) ?_;(with_reducible refine (Xr.calls kj37 _ _ l0 a2 t305 t306 _ ?side1 ?side2 A43.out).mono ?_);(case side1 => repeat (first | exact (Kd.ZK HR0.out HB.out) | (with_reducible refine Kd.Z8 ?_ _) | (with_reducible refine Kd.ZB ?_ _) | (with_reducible refine Kd.ZI ?_)));(case side2 => exact HC0.out);rintro e w48 ⟨rfl,hb⟩;refine ⟨_,rfl,?_⟩;have n0_ := Zd.mk (Z0 (by repeat (first | (with_reducible first | exact HB.out | apply Zc | apply Za | apply Zb) | exact HB.out)) hb);clear HB;have HB := n0_;clear n0_;(try clear hb);(try clear hb2);(try clear hk);(try clear hi)) | ((with_reducible refine Z2 (f := 28) rfl ?_);refine ZP (some 111) rfl rfl Try.func28 (by kernel_rfl) rfl #[.slice A0 l0.length c0,.int .i64 a2] rfl (by (try simp only [List.map_toArray,List.map_cons,List.map_nil]);first | done | rfl | (simp only [List.length_drop,List.length_take];rfl)) ?_;(with_reducible refine (ZT.calls kj37 _ _ l0 a2 t307 t308 _ ?side1 ?side2 A44.out).mono ?_);(case side1 => repeat (first | exact (Kd.ZK HR0.out HB.out) | (with_reducible refine Kd.Z8 ?_ _) | (with_reducible refine Kd.ZB ?_ _) | (with_reducible refine Kd.ZI ?_)));(case side2 => exact HC0.out);rintro e w49 ⟨rfl,hb⟩;refine ⟨_,rfl,?_⟩;have n0_ := Zd.mk (Z0 (by repeat (first | (with_reducible first | exact HB.out | apply Zc | apply Za | apply Zb) | exact HB.out)) hb);clear HB;have HB := n0_;clear n0_;(try clear hb);(try clear hb2);(try clear hk);(try clear hi)))
                 go_ret;exact ⟨by first | rfl | (simp [Zt,Zv] <;> rfl) | (simp [*,Zt,Zv] <;> rfl),by repeat (first | (with_reducible first | exact HB.out | apply Zc | apply Za | apply Zb) | exact HB.out)⟩
 · replace c6 := Bool.eq_false_iff.mpr c6
   subst c6
   have H1 : (some false) = some r := by rw [if_neg (show ¬ (false = true) by decide)] at H;exact H
   clear H;have H := H1;clear H1;obtain rfl := Option.some.inj H
   go_enter Try.func6,Try.ntmps6
   go_wp2_with (first | ((with_reducible refine Z2 (f := 9) rfl ?_);refine ZP (some 17) rfl rfl Try.func9 (by kernel_rfl) rfl #[] rfl (by (try simp only [List.map_toArray,List.map_cons,List.map_nil]);first | done | rfl | (simp only [List.length_drop,List.length_take];rfl)) ?_;(with_reducible refine (Z6.calls k  false _ A5.out).mono ?_);rintro e w50 ⟨rfl,hb⟩;refine ⟨_,rfl,?_⟩;have n0_ := Zd.mk (Z0 (by repeat (first | (with_reducible first | exact HB.out | apply Zc | apply Za | apply Zb) | exact HB.out)) hb);clear HB;have HB := n0_;clear n0_;(try clear hb);(try clear hb2);(try clear hk);(try clear hi)))
   go_ret;exact ⟨by first | rfl | (simp [Zt,Zv] <;> rfl) | (simp [*,Zt,Zv] <;> rfl),by repeat (first | (with_reducible first | exact HB.out | apply Zc | apply Za | apply Zb) | exact HB.out)⟩
end Go.Proofs.Ytomlfbmfdoallaa.PA

namespace Go.Proofs.Ytomlfbmfdoallaa.Pure
open Go.RowKit Go.Proofs.Ytomlfbmfdoallaa.PA Go.Proofs.YtomlfbmfdoallaaW.PrintWords Go.Proofs.YtomlfbmfdoallaaW.PrintLast
set_option linter.unusedVariables false
set_option linter.unusedSimpArgs false
theorem upb {α : Type} {g : Nat → Option α} (hm : ∀ k,LeO (g k) (g (k + 1))) {b : Nat} {r : α} (h : g b = some r) : ∀ k,b ≤ k → g k = some r := by
 intro k hk
 obtain ⟨d,rfl⟩ : ∃ d,k = b + d := ⟨k - b,by omega⟩
 clear hk
 induction d with
 | zero => exact h
 | succ d ih => exact hm _ _ ih
section
variable {l : List S27} (hl : l.length ≤ 100) {k : Nat} (hk : 250 ≤ k)
include hl hk
end
theorem awake_ok : Z6.f 200 = some true := by decide +kernel
end Go.Proofs.Ytomlfbmfdoallaa.Pure

namespace Go.Proofs.Ytomlfbmfdoallaa.PA
open Go.RowKit Go.Proofs.YtomlfbmfdoallaaW.PrintWords Go.Proofs.YtomlfbmfdoallaaW.PrintLast Go.Proofs.YtomlfbmfdoallaaW.PrintMore
attribute [local go_sem] Xf Xe Xj Xk ZV ZU Xd Xc
set_option linter.unusedVariables false
set_option linter.unusedSimpArgs false
mutual
def ZH.j0 : Nat → List (S27) → Int → Int → Int → List Int → List Int → Bool → Option (List Int × List Int × Int)
 | 0,_,_,_,_,_,_,_ => none
 | k + 1,x0,x1,x2,x3,x8,x9,x31 => if x31 = true then (some (([] : List Int),([] : List Int),7)) else (if x2 > x1 then ((X4.f x0 x1 (wrap64 (x2 - 1))).bind fun t314 => ((Xs.f x0 x1 t314).bind fun t315 => (if t315 < x2 then (ZH.j1 k x0 x1 x2 x8 x9 (mn (wrap64 ((wrap64 (x2 + x3)) - 1)) 1000000000) (wrap64 (t314 + 1))) else (ZH.j1 k x0 x1 x2 x8 x9 (mn (wrap64 ((wrap64 (x2 + x3)) - 1)) 1000000000) t314)))) else (ZH.j1 k x0 x1 x2 x8 x9 (mn (wrap64 ((wrap64 (x2 + x3)) - 1)) 1000000000) 0))
def ZH.j1 : Nat → List (S27) → Int → Int → List Int → List Int → Int → Int → Option (List Int × List Int × Int)
 | 0,_,_,_,_,_,_,_ => none
 | k + 1,x0,x1,x2,x8,x9,x12,x13 => ZH.l0 k x0 x1 x2 x8 x9 x12 x13
def ZH.l0 : Nat → List (S27) → Int → Int → List Int → List Int → Int → Int → Option (List Int × List Int × Int)
 | 0,_,_,_,_,_,_,_ => none
 | k + 1,x0,x1,x2,x8,x9,x12,x14 => if x14 ≤ 1000000000 then ((Xs.f x0 x1 x14).bind fun t316 => (if t316 > x12 then (some (x8,x9,0)) else (if (x8.length : Int) = 4096 then (some (([] : List Int),([] : List Int),4)) else (if x8.length < 17592186044416 then (if x9.length < 17592186044416 then (ZH.l0 k x0 x1 x2 (x8 ++ [x14]) (x9 ++ [wrap64 (t316 - x2)]) x12 (wrap64 (x14 + 1))) else (none)) else (none))))) else (some (x8,x9,0))
end
def ZH.f (k : Nat) (l0 : List (S27)) (a1 : Int) (a2 : Int) (a3 : Int) : Option (List Int × List Int × Int) := (ZO.f k l0 (([a1,a2] : List Int))).bind fun t312 => (if t312 = 0 then (if a2 < a1 then (ZH.j0 k l0 a1 a2 a3 ([] : List Int) ([] : List Int) true) else ((Z1.f a3 0 4096).bind fun t313 => (ZH.j0 k l0 a1 a2 a3 ([] : List Int) ([] : List Int) (!t313)))) else (some (([] : List Int),([] : List Int),t312)))
theorem ZH.Xm : ∀ k,(∀ y0 y1 y2 y3 y4 y5 y6,LeO (ZH.j0 k y0 y1 y2 y3 y4 y5 y6) (ZH.j0 (k + 1) y0 y1 y2 y3 y4 y5 y6)) ∧ (∀ y0 y1 y2 y3 y4 y5 y6,LeO (ZH.j1 k y0 y1 y2 y3 y4 y5 y6) (ZH.j1 (k + 1) y0 y1 y2 y3 y4 y5 y6)) ∧ (∀ y0 y1 y2 y3 y4 y5 y6,LeO (ZH.l0 k y0 y1 y2 y3 y4 y5 y6) (ZH.l0 (k + 1) y0 y1 y2 y3 y4 y5 y6))
 | 0 => ⟨fun _ _ _ _ _ _ _ r h => by simp [ZH.j0] at h,fun _ _ _ _ _ _ _ r h => by simp [ZH.j1] at h,fun _ _ _ _ _ _ _ r h => by simp [ZH.l0] at h⟩
 | k + 1 => by
  obtain ⟨ih0,ih1,ih2⟩ := ZH.Xm k;refine ⟨?_,?_,?_⟩
  · intro y0 y1 y2 y3 y4 y5 y6
    unfold ZH.j0
    repeat' first
    | (with_reducible exact ih0 _ _ _ _ _ _ _)
    | (with_reducible exact ih1 _ _ _ _ _ _ _)
    | (with_reducible exact ih2 _ _ _ _ _ _ _)
    | (with_reducible exact ZO.mono _ _ _)
    | (with_reducible exact LeO.refl _)
    | (with_reducible exact LeO.none _)
    | (with_reducible refine LeO.ite ?_ ?_)
    | (with_reducible refine LeO.bind ?_ (fun _ => ?_))
    | exact ih0 _ _ _ _ _ _ _
    | exact ih1 _ _ _ _ _ _ _
    | exact ih2 _ _ _ _ _ _ _
    | exact ZO.mono _ _ _
    | exact LeO.none _
    | refine LeO.ite ?_ ?_
    | refine LeO.bind ?_ (fun _ => ?_)
  · intro y0 y1 y2 y3 y4 y5 y6
    unfold ZH.j1
    repeat' first
    | (with_reducible exact ih0 _ _ _ _ _ _ _)
    | (with_reducible exact ih1 _ _ _ _ _ _ _)
    | (with_reducible exact ih2 _ _ _ _ _ _ _)
    | (with_reducible exact ZO.mono _ _ _)
    | (with_reducible exact LeO.refl _)
    | (with_reducible exact LeO.none _)
    | (with_reducible refine LeO.ite ?_ ?_)
    | (with_reducible refine LeO.bind ?_ (fun _ => ?_))
    | exact ih0 _ _ _ _ _ _ _
    | exact ih1 _ _ _ _ _ _ _
    | exact ih2 _ _ _ _ _ _ _
    | exact ZO.mono _ _ _
    | exact LeO.none _
    | refine LeO.ite ?_ ?_
    | refine LeO.bind ?_ (fun _ => ?_)
  · intro y0 y1 y2 y3 y4 y5 y6
    unfold ZH.l0
    repeat' first
    | (with_reducible exact ih0 _ _ _ _ _ _ _)
    | (with_reducible exact ih1 _ _ _ _ _ _ _)
    | (with_reducible exact ih2 _ _ _ _ _ _ _)
    | (with_reducible exact ZO.mono _ _ _)
    | (with_reducible exact LeO.refl _)
    | (with_reducible exact LeO.none _)
    | (with_reducible refine LeO.ite ?_ ?_)
    | (with_reducible refine LeO.bind ?_ (fun _ => ?_))
    | exact ih0 _ _ _ _ _ _ _
    | exact ih1 _ _ _ _ _ _ _
    | exact ih2 _ _ _ _ _ _ _
    | exact ZO.mono _ _ _
    | exact LeO.none _
    | refine LeO.ite ?_ ?_
    | refine LeO.bind ?_ (fun _ => ?_)
theorem ZH.mono : ∀ a0 a1 a2 a3 k,LeO (ZH.f k a0 a1 a2 a3) (ZH.f (k + 1) a0 a1 a2 a3) := by
 intro a0 a1 a2 a3 k;obtain ⟨ih0,ih1,ih2⟩ := ZH.Xm k;unfold ZH.f
 repeat' first
  | (with_reducible exact ih0 _ _ _ _ _ _ _)
  | (with_reducible exact ih1 _ _ _ _ _ _ _)
  | (with_reducible exact ih2 _ _ _ _ _ _ _)
  | (with_reducible exact ZO.mono _ _ _)
  | (with_reducible exact LeO.refl _)
  | (with_reducible exact LeO.none _)
  | (with_reducible refine LeO.ite ?_ ?_)
  | (with_reducible refine LeO.bind ?_ (fun _ => ?_))
  | exact ih0 _ _ _ _ _ _ _
  | exact ih1 _ _ _ _ _ _ _
  | exact ih2 _ _ _ _ _ _ _
  | exact ZO.mono _ _ _
  | exact LeO.none _
  | refine LeO.ite ?_ ?_
  | refine LeO.bind ?_ (fun _ => ?_)
set_option maxHeartbeats 8000000 in
set_option maxRecDepth 100000 in
theorem ZH.calls (k : Nat) (A0 : Option Addr) (c0 : Nat) (l0 : List (S27)) (a1 : Int) (a2 : Int) (a3 : Int) (r1 : List Int) (r2 : List Int) (r3 : Int) (w : World) (hr0 : Kd.C k27 w A0 l0.length l0) (hc0 : l0.length ≤ c0) (h : ZH.f k l0 a1 a2 a3 = some (r1,r2,r3)) :
 Calls Try.prog 29 #[.slice A0 l0.length c0,.int .i64 a1,.int .i64 a2,.int .i64 a3] w fun e w' => ∃ v0_ v1_ : Value,e = .returned (.tuple #[v0_,v1_,.int .i64 r3]) ∧ Kd.R (Kd.int .i64) 3 w' w.heap.size (fun k_ => some k_ ≠ (v1_ : Value).ownBlock) v0_ r1 ∧ Kd.R (Kd.int .i64) 3 w' w.heap.size (fun k_ => some k_ ≠ (v0_ : Value).ownBlock) v1_ r2 ∧ Below w.heap.size w w' := by
 have HR0 := Zd.mk hr0;have HC0 := Zd.mk hc0;clear hr0 hc0;have HB := Zd.mk (Below.refl w.heap.size w);have H : ((ZO.f k l0 (([a1,a2] : List Int))).bind fun t312 => (if t312 = 0 then (if a2 < a1 then (ZH.j0 k l0 a1 a2 a3 ([] : List Int) ([] : List Int) true) else ((Z1.f a3 0 4096).bind fun t313 => (ZH.j0 k l0 a1 a2 a3 ([] : List Int) ([] : List Int) (!t313)))) else (some (([] : List Int),([] : List Int),t312)))) = some (r1,r2,r3) := h;clear h
 obtain ⟨y309,hy309⟩ : ∃ y_ : List Int,y_ = (([a1,a2] : List Int)) := ⟨_,rfl⟩
 replace H : ((ZO.f k l0 y309).bind fun t312 => (if t312 = 0 then (if a2 < a1 then (ZH.j0 k l0 a1 a2 a3 ([] : List Int) ([] : List Int) true) else ((Z1.f a3 0 4096).bind fun t313 => (ZH.j0 k l0 a1 a2 a3 ([] : List Int) ([] : List Int) (!t313)))) else (some (([] : List Int),([] : List Int),t312)))) = some (r1,r2,r3) := by first | (rw [hy309];with_reducible exact H) | (have H2_ := (Option.bind_some _ _).symm.trans H;rw [hy309];with_reducible exact H2_) | (have H2_ := (Option.bind_some _ _).symm.trans H;with_reducible exact H2_) | with_reducible exact H | (rw [hy309];exact H) | exact H
 have Ny309 := Zd.mk hy309;clear hy309;replace H := Option.bind_eq_some_iff.mp H;obtain ⟨t312,A50,H⟩ := H;replace H : (if t312 = 0 then (if a2 < a1 then (ZH.j0 k l0 a1 a2 a3 ([] : List Int) ([] : List Int) true) else ((Z1.f a3 0 4096).bind fun t313 => (ZH.j0 k l0 a1 a2 a3 ([] : List Int) ([] : List Int) (!t313)))) else (some (([] : List Int),([] : List Int),t312))) = some (r1,r2,r3) := H;have A5 := Zd.mk A50;clear A50
 by_cases c6 : t312 = 0
 · rw [if_pos c6] at H
   have c6b0 : (t312 == 0) = true := beq_iff_eq.mpr c6;have c6b1 : (t312 != 0) = false := bne_eq_false_iff_eq.mpr c6;clear c6;have HC7 := Zd.mk H;clear H
   go_enter Try.func29,Try.ntmps29
   go_upto_region 4 with (first | ((with_reducible refine Xq (N := 19) rfl ?_);refine Kd.R_lit (Kd.int .i64) _ 3 ?hg (N := 19) ?hd (xs := ([a1,a2] : List Int)) (inner := [.int .i64 a1,.int .i64 a2]) (ok := fun _ => True) (okp := fun _ => True) ?hr ?hp (fun _ hk => hk) trivial (Below.refl _ _) (Nat.le_refl _) (by simp) ?_;(case hd => rfl);(case hg => rfl);(case hr => first | (go_simp;done) | (go_simp;rfl));(case hp => exact (Reps.one (show Kd.M (Kd.int .i64) _ _ _ a1 [.int .i64 a1] from rfl) (Reps.one (show Kd.M (Kd.int .i64) _ _ _ a2 [.int .i64 a2] from rfl) (Reps.none _ _))));intro v310 w8 ho9 hb hg_ hnew_;clear hg_ hnew_;(first | rw [← Ny309.out] at ho9 | (simp only [Int.reduceToNat] at ho9;rw [← Ny309.out] at ho9));have n0_ := Zd.mk (Kd.X5 ho9 (ZJ (by repeat (first | (with_reducible first | exact HB.out | apply Zc | apply Za | apply Zb) | exact HB.out))));have n1_ := Zd.mk (Z0 (by repeat (first | (with_reducible first | exact HB.out | apply Zc | apply Za | apply Zb) | exact HB.out)) hb);clear HB;have HO311 := n0_;have HB := n1_;clear n0_ n1_;clear hb ho9;obtain ⟨Ao10,co10,eo10⟩ := Kd.Xw HO311.out;subst eo10) | ((with_reducible refine Z2 (f := 40) rfl ?_);refine ZP (some 20) rfl rfl Try.func40 (by kernel_rfl) rfl #[.slice A0 l0.length c0,.slice Ao10 y309.length co10] rfl (by (try simp only [List.map_toArray,List.map_cons,List.map_nil]);first | done | rfl | (simp only [List.length_drop,List.length_take];rfl)) ?_;(with_reducible refine (ZO.calls k _ _ l0 _ _ y309 t312 _ ?side1 ?side2 ?side3 ?side4 A5.out).mono ?_);(case side1 => repeat (first | exact (Kd.ZK HR0.out HB.out) | (with_reducible refine Kd.Z8 ?_ _) | (with_reducible refine Kd.ZB ?_ _) | (with_reducible refine Kd.ZI ?_)));(case side2 => exact HC0.out);(case side3 => repeat (first | exact (Kd.Xp HO311.out).2.2 | (with_reducible refine Kd.Z8 ?_ _) | (with_reducible refine Kd.ZB ?_ _) | (with_reducible refine Kd.ZI ?_)));(case side4 => exact (Kd.Xp HO311.out).2.1);rintro e w11 ⟨rfl,hb⟩;refine ⟨_,rfl,?_⟩;have n0_ := Zd.mk (Kd.Xn (by (with_reducible repeat (first | apply Kd.ZF | apply Kd.ZG | apply Kd.ZN));exact HO311.out) hb);have n1_ := Zd.mk (Z0 (by repeat (first | (with_reducible first | exact HB.out | apply Zc | apply Za | apply Zb) | exact HB.out)) hb);clear HO311;clear HB;have HO311 := n0_;have HB := n1_;clear n0_ n1_;(try clear hb);(try clear hb2);(try clear hk);(try clear hi)))
   (try simp only [Act.put,YV,YW,YX])
   go_cut [31] (fun v31 wc => ∃ (kq : Nat) (x31_6 : Bool),v31 = .bool x31_6 ∧ Zd (ZH.j0 kq l0 a1 a2 a3 ([] : List Int) ([] : List Int) x31_6 = some (r1,r2,r3)) ∧ Zd (kq ≤ k) ∧ Zd (Kd.R (Kd.int .i64) 3 wc w.heap.size (fun k_ => some k_ ≠ ((.slice none 0 0) : Value).ownBlock) (.slice none 0 0) ([] : List Int)) ∧ Zd (Kd.R (Kd.int .i64) 3 wc w.heap.size (fun k_ => some k_ ≠ ((.slice none 0 0) : Value).ownBlock) (.slice none 0 0) ([] : List Int)) ∧ Zd (Below w.heap.size w wc))
   case first =>
    have H := HC7.out;clear HC7
    by_cases c12 : a2 < a1
    · rw [if_pos c12] at H
      have c12b0 : decide (a2 < a1) = true := decide_eq_true c12;clear c12
      (first | rw [c12b0] | (simp only [i64_w,i32_w];rw [c12b0]) | skip)
      have H' := Zd.mk H;clear H
      go_wp2
      go_meet
      case rel => exact ⟨_,(true),(by first | rfl | (simp;done) | (simp [*];done)),H',⟨by first | omega | exact Nat.le_refl _⟩,⟨by first | exact Kd.R_nil _ _ _ _ _ | exact Kd.N_nil _ _ _ _ _ | exact Kd.V_nil _ _ _ _ _ | exact Kd.Q_nil _ _ _ _ _ | exact Kd.S_nil _ _ _ _ _⟩,⟨by first | exact Kd.R_nil _ _ _ _ _ | exact Kd.N_nil _ _ _ _ _ | exact Kd.V_nil _ _ _ _ _ | exact Kd.Q_nil _ _ _ _ _ | exact Kd.S_nil _ _ _ _ _⟩,⟨by repeat (first | (with_reducible first | exact HB.out | apply Zc | apply Za | apply Zb) | exact HB.out)⟩⟩
    · rw [if_neg c12] at H
      have c12b0 : decide (a2 < a1) = false := decide_eq_false c12;clear c12
      (first | rw [c12b0] | (simp only [i64_w,i32_w];rw [c12b0]) | skip)
      replace H := Option.bind_eq_some_iff.mp H;obtain ⟨t313,A130,H⟩ := H;replace H : (ZH.j0 k l0 a1 a2 a3 ([] : List Int) ([] : List Int) (!t313)) = some (r1,r2,r3) := H;have A13 := Zd.mk A130;clear A130;have H' := Zd.mk H;clear H
      go_wp2_with (first | (go_at_call 43;(with_reducible refine (Z1.calls a3 0 4096 t313 _ A13.out).mono ?_);rintro e w' ⟨rfl,⟨nd,rfl⟩⟩))
      go_meet
      case rel => exact ⟨_,(!t313),(by first | rfl | (simp;done) | (simp [*];done)),H',⟨by first | omega | exact Nat.le_refl _⟩,⟨by first | exact Kd.R_nil _ _ _ _ _ | exact Kd.N_nil _ _ _ _ _ | exact Kd.V_nil _ _ _ _ _ | exact Kd.Q_nil _ _ _ _ _ | exact Kd.S_nil _ _ _ _ _⟩,⟨by first | exact Kd.R_nil _ _ _ _ _ | exact Kd.N_nil _ _ _ _ _ | exact Kd.V_nil _ _ _ _ _ | exact Kd.Q_nil _ _ _ _ _ | exact Kd.S_nil _ _ _ _ _⟩,⟨by repeat (first | (with_reducible first | exact HB.out | apply Zc | apply Za | apply Zb) | exact HB.out)⟩⟩
   case rest =>
    clear HC7
    (try clear c1); (try clear c2); (try clear p2); (try clear c4); (try clear c6); (try clear c6b0); (try clear c6b1); (try clear c12); (try clear c12b0)
    obtain ⟨kq,x31_6,rfl,HA,HJ6,HO_8,HO_9,HB⟩ := hcut
    cases kq with
    | zero => exact absurd HA.out (by simp [ZH.j0])
    | succ kj6 =>
     have H := HA.out;clear HA;simp only [ZH.j0] at H
     by_cases c14 : x31_6 = true
     · subst c14
       have H1 : (some (([] : List Int),([] : List Int),7)) = some (r1,r2,r3) := by rw [if_pos rfl] at H;exact H
       clear H;have H := H1;clear H1;simp only [Option.some.injEq,Prod.mk.injEq] at H;obtain ⟨rfl,rfl,rfl⟩ := H
       go_wp2
       go_ret3
       exact ⟨_,_,by first | rfl | (simp [Zt,Zv] <;> rfl) | (simp [*,Zt,Zv] <;> rfl),by first | exact Kd.R_nil _ _ _ _ _ | exact Kd.N_nil _ _ _ _ _ | exact Kd.V_nil _ _ _ _ _ | exact Kd.Q_nil _ _ _ _ _ | exact Kd.S_nil _ _ _ _ _,by first | exact Kd.R_nil _ _ _ _ _ | exact Kd.N_nil _ _ _ _ _ | exact Kd.V_nil _ _ _ _ _ | exact Kd.Q_nil _ _ _ _ _ | exact Kd.S_nil _ _ _ _ _,by repeat (first | (with_reducible first | exact HB.out | apply Zc | apply Za | apply Zb) | exact HB.out)⟩
     · replace c14 := Bool.eq_false_iff.mpr c14
       subst c14
       have H1 : (if a2 > a1 then ((X4.f l0 a1 (wrap64 (a2 - 1))).bind fun t314 => ((Xs.f l0 a1 t314).bind fun t315 => (if t315 < a2 then (ZH.j1 kj6 l0 a1 a2 ([] : List Int) ([] : List Int) (mn (wrap64 ((wrap64 (a2 + a3)) - 1)) 1000000000) (wrap64 (t314 + 1))) else (ZH.j1 kj6 l0 a1 a2 ([] : List Int) ([] : List Int) (mn (wrap64 ((wrap64 (a2 + a3)) - 1)) 1000000000) t314)))) else (ZH.j1 kj6 l0 a1 a2 ([] : List Int) ([] : List Int) (mn (wrap64 ((wrap64 (a2 + a3)) - 1)) 1000000000) 0)) = some (r1,r2,r3) := by rw [if_neg (show ¬ (false = true) by decide)] at H;exact H
       clear H;have H := H1;clear H1
       obtain ⟨ji15,hji15⟩ : ∃ j_ : Int,(mn (wrap64 ((wrap64 (a2 + a3)) - 1)) 1000000000) = j_ := ⟨_,rfl⟩
       replace H : (if a2 > a1 then ((X4.f l0 a1 (wrap64 (a2 - 1))).bind fun t314 => ((Xs.f l0 a1 t314).bind fun t315 => (if t315 < a2 then (ZH.j1 kj6 l0 a1 a2 ([] : List Int) ([] : List Int) ji15 (wrap64 (t314 + 1))) else (ZH.j1 kj6 l0 a1 a2 ([] : List Int) ([] : List Int) ji15 t314)))) else (ZH.j1 kj6 l0 a1 a2 ([] : List Int) ([] : List Int) ji15 0)) = some (r1,r2,r3) := by first | (rw [hji15] at H;exact H) | (simp only [hji15] at H ⊢;exact H)
       have hji15_ : (if 1000000000 < (wrap64 ((wrap64 (a2 + a3)) - 1)) then 1000000000 else (wrap64 ((wrap64 (a2 + a3)) - 1))) = ji15 := hji15;have HC16 := Zd.mk H;clear H
       go_upto_if 39 with (fail)
       go_cut [13] (fun v13 wc => ∃ (kq : Nat) (x13_15 : Int),v13 = .int .i64 x13_15 ∧ Zd (ZH.j1 kq l0 a1 a2 ([] : List Int) ([] : List Int) ji15 x13_15 = some (r1,r2,r3)) ∧ Zd (kq ≤ kj6) ∧ Zd (Kd.R (Kd.int .i64) 3 wc w.heap.size (fun k_ => some k_ ≠ ((.slice none 0 0) : Value).ownBlock) (.slice none 0 0) ([] : List Int)) ∧ Zd (Kd.R (Kd.int .i64) 3 wc w.heap.size (fun k_ => some k_ ≠ ((.slice none 0 0) : Value).ownBlock) (.slice none 0 0) ([] : List Int)) ∧ Zd (Below w.heap.size w wc))
       case first =>
        have H := HC16.out;clear HC16
        by_cases c17 : a2 > a1
        · rw [if_pos c17] at H
          have c17b0 : decide (a1 < a2) = true := decide_eq_true c17;clear c17
          (first | rw [c17b0] | (simp only [i64_w,i32_w];rw [c17b0]) | skip)
          replace H := Option.bind_eq_some_iff.mp H;obtain ⟨t314,A180,H⟩ := H;replace H : ((Xs.f l0 a1 t314).bind fun t315 => (if t315 < a2 then (ZH.j1 kj6 l0 a1 a2 ([] : List Int) ([] : List Int) ji15 (wrap64 (t314 + 1))) else (ZH.j1 kj6 l0 a1 a2 ([] : List Int) ([] : List Int) ji15 t314))) = some (r1,r2,r3) := H;have A18 := Zd.mk A180;clear A180;replace H := Option.bind_eq_some_iff.mp H;obtain ⟨t315,A190,H⟩ := H;replace H : (if t315 < a2 then (ZH.j1 kj6 l0 a1 a2 ([] : List Int) ([] : List Int) ji15 (wrap64 (t314 + 1))) else (ZH.j1 kj6 l0 a1 a2 ([] : List Int) ([] : List Int) ji15 t314)) = some (r1,r2,r3) := H;have A19 := Zd.mk A190;clear A190
          by_cases c20 : t315 < a2
          · rw [if_pos c20] at H
            have c20b0 : decide (t315 < a2) = true := decide_eq_true c20;clear c20;have H' := Zd.mk H;clear H
            go_wp2_with (first | ((with_reducible refine Z2 (f := 54) rfl ?_);refine ZP (some 44) rfl rfl Try.func54 (by kernel_rfl) rfl #[.slice A0 l0.length c0,.int .i64 a1,.int .i64 (wrap64 (a2 - 1))] rfl (by (try simp only [List.map_toArray,List.map_cons,List.map_nil]);first | done | rfl | (simp only [List.length_drop,List.length_take];rfl)) ?_;(with_reducible refine (X4.calls _ _ l0 a1 (wrap64 (a2 - 1)) t314 _ ?side1 ?side2 A18.out).mono ?_);(case side1 => repeat (first | exact (Kd.ZK HR0.out HB.out) | (with_reducible refine Kd.Z8 ?_ _) | (with_reducible refine Kd.ZB ?_ _) | (with_reducible refine Kd.ZI ?_)));(case side2 => exact HC0.out);rintro e w21 ⟨rfl,hb⟩;refine ⟨_,rfl,?_⟩;have n0_ := Zd.mk (Kd.Xn (by (with_reducible repeat (first | apply Kd.ZF | apply Kd.ZG | apply Kd.ZN));exact HO_8.out) hb);have n1_ := Zd.mk (Kd.Xn (by (with_reducible repeat (first | apply Kd.ZF | apply Kd.ZG | apply Kd.ZN));exact HO_9.out) hb);have n2_ := Zd.mk (Z0 (by repeat (first | (with_reducible first | exact HB.out | apply Zc | apply Za | apply Zb) | exact HB.out)) hb);clear HO_8;clear HO_9;clear HB;have HO_8 := n0_;have HO_9 := n1_;have HB := n2_;clear n0_ n1_ n2_;(try clear hb);(try clear hb2);(try clear hk);(try clear hi)) | ((with_reducible refine Z2 (f := 42) rfl ?_);refine ZP (some 48) rfl rfl Try.func42 (by kernel_rfl) rfl #[.slice A0 l0.length c0,.int .i64 a1,.int .i64 t314] rfl (by (try simp only [List.map_toArray,List.map_cons,List.map_nil]);first | done | rfl | (simp only [List.length_drop,List.length_take];rfl)) ?_;(with_reducible refine (Xs.calls _ _ l0 a1 t314 t315 _ ?side1 ?side2 A19.out).mono ?_);(case side1 => repeat (first | exact (Kd.ZK HR0.out HB.out) | (with_reducible refine Kd.Z8 ?_ _) | (with_reducible refine Kd.ZB ?_ _) | (with_reducible refine Kd.ZI ?_)));(case side2 => exact HC0.out);rintro e w22 ⟨rfl,hb⟩;refine ⟨_,rfl,?_⟩;have n0_ := Zd.mk (Kd.Xn (by (with_reducible repeat (first | apply Kd.ZF | apply Kd.ZG | apply Kd.ZN));exact HO_8.out) hb);have n1_ := Zd.mk (Kd.Xn (by (with_reducible repeat (first | apply Kd.ZF | apply Kd.ZG | apply Kd.ZN));exact HO_9.out) hb);have n2_ := Zd.mk (Z0 (by repeat (first | (with_reducible first | exact HB.out | apply Zc | apply Za | apply Zb) | exact HB.out)) hb);clear HO_8;clear HO_9;clear HB;have HO_8 := n0_;have HO_9 := n1_;have HB := n2_;clear n0_ n1_ n2_;(try clear hb);(try clear hb2);(try clear hk);(try clear hi)))
            go_meet
            case rel => exact ⟨_,(wrap64 (t314 + 1)),(by first | rfl | (simp;done) | (simp [*];done)),H',⟨by have := HJ6.out;first | omega | exact Nat.le_refl _⟩,⟨by (with_reducible repeat (first | apply Kd.ZF | apply Kd.ZG | apply Kd.ZN));exact HO_8.out⟩,⟨by (with_reducible repeat (first | apply Kd.ZF | apply Kd.ZG | apply Kd.ZN));exact HO_9.out⟩,⟨by repeat (first | (with_reducible first | exact HB.out | apply Zc | apply Za | apply Zb) | exact HB.out)⟩⟩
          · rw [if_neg c20] at H
            have c20b0 : decide (t315 < a2) = false := decide_eq_false c20;clear c20;have H' := Zd.mk H;clear H
            go_wp2_with (first | ((with_reducible refine Z2 (f := 54) rfl ?_);refine ZP (some 44) rfl rfl Try.func54 (by kernel_rfl) rfl #[.slice A0 l0.length c0,.int .i64 a1,.int .i64 (wrap64 (a2 - 1))] rfl (by (try simp only [List.map_toArray,List.map_cons,List.map_nil]);first | done | rfl | (simp only [List.length_drop,List.length_take];rfl)) ?_;(with_reducible refine (X4.calls _ _ l0 a1 (wrap64 (a2 - 1)) t314 _ ?side1 ?side2 A18.out).mono ?_);(case side1 => repeat (first | exact (Kd.ZK HR0.out HB.out) | (with_reducible refine Kd.Z8 ?_ _) | (with_reducible refine Kd.ZB ?_ _) | (with_reducible refine Kd.ZI ?_)));(case side2 => exact HC0.out);rintro e w23 ⟨rfl,hb⟩;refine ⟨_,rfl,?_⟩;have n0_ := Zd.mk (Kd.Xn (by (with_reducible repeat (first | apply Kd.ZF | apply Kd.ZG | apply Kd.ZN));exact HO_8.out) hb);have n1_ := Zd.mk (Kd.Xn (by (with_reducible repeat (first | apply Kd.ZF | apply Kd.ZG | apply Kd.ZN));exact HO_9.out) hb);have n2_ := Zd.mk (Z0 (by repeat (first | (with_reducible first | exact HB.out | apply Zc | apply Za | apply Zb) | exact HB.out)) hb);clear HO_8;clear HO_9;clear HB;have HO_8 := n0_;have HO_9 := n1_;have HB := n2_;clear n0_ n1_ n2_;(try clear hb);(try clear hb2);(try clear hk);(try clear hi)) | ((with_reducible refine Z2 (f := 42) rfl ?_);refine ZP (some 48) rfl rfl Try.func42 (by kernel_rfl) rfl #[.slice A0 l0.length c0,.int .i64 a1,.int .i64 t314] rfl (by (try simp only [List.map_toArray,List.map_cons,List.map_nil]);first | done | rfl | (simp only [List.length_drop,List.length_take];rfl)) ?_;(with_reducible refine (Xs.calls _ _ l0 a1 t314 t315 _ ?side1 ?side2 A19.out).mono ?_);(case side1 => repeat (first | exact (Kd.ZK HR0.out HB.out) | (with_reducible refine Kd.Z8 ?_ _) | (with_reducible refine Kd.ZB ?_ _) | (with_reducible refine Kd.ZI ?_)));(case side2 => exact HC0.out);rintro e w24 ⟨rfl,hb⟩;refine ⟨_,rfl,?_⟩;have n0_ := Zd.mk (Kd.Xn (by (with_reducible repeat (first | apply Kd.ZF | apply Kd.ZG | apply Kd.ZN));exact HO_8.out) hb);have n1_ := Zd.mk (Kd.Xn (by (with_reducible repeat (first | apply Kd.ZF | apply Kd.ZG | apply Kd.ZN));exact HO_9.out) hb);have n2_ := Zd.mk (Z0 (by repeat (first | (with_reducible first | exact HB.out | apply Zc | apply Za | apply Zb) | exact HB.out)) hb);clear HO_8;clear HO_9;clear HB;have HO_8 := n0_;have HO_9 := n1_;have HB := n2_;clear n0_ n1_ n2_;(try clear hb);(try clear hb2);(try clear hk);(try clear hi)))
            go_meet
            case rel => exact ⟨_,(t314),(by first | rfl | (simp;done) | (simp [*];done)),H',⟨by have := HJ6.out;first | omega | exact Nat.le_refl _⟩,⟨by (with_reducible repeat (first | apply Kd.ZF | apply Kd.ZG | apply Kd.ZN));exact HO_8.out⟩,⟨by (with_reducible repeat (first | apply Kd.ZF | apply Kd.ZG | apply Kd.ZN));exact HO_9.out⟩,⟨by repeat (first | (with_reducible first | exact HB.out | apply Zc | apply Za | apply Zb) | exact HB.out)⟩⟩
        · rw [if_neg c17] at H
          have c17b0 : decide (a1 < a2) = false := decide_eq_false c17;clear c17
          (first | rw [c17b0] | (simp only [i64_w,i32_w];rw [c17b0]) | skip)
          have H' := Zd.mk H;clear H
          go_wp2
          go_meet
          case rel => exact ⟨_,(0),(by first | rfl | (simp;done) | (simp [*];done)),H',⟨by have := HJ6.out;first | omega | exact Nat.le_refl _⟩,⟨by (with_reducible repeat (first | apply Kd.ZF | apply Kd.ZG | apply Kd.ZN));exact HO_8.out⟩,⟨by (with_reducible repeat (first | apply Kd.ZF | apply Kd.ZG | apply Kd.ZN));exact HO_9.out⟩,⟨by repeat (first | (with_reducible first | exact HB.out | apply Zc | apply Za | apply Zb) | exact HB.out)⟩⟩
       case rest =>
        clear HC16
        (try clear c1); (try clear c2); (try clear p2); (try clear c4); (try clear c5); (try clear c6); (try clear c6b0); (try clear c6b1); (try clear p6); (try clear c12); (try clear c12b0); (try clear c14); (try clear c17); (try clear c17b0); (try clear c20); (try clear c20b0); (try clear p2)
        obtain ⟨kq,x13_15,rfl,HA,HJ15,HO_8,HO_9,HB⟩ := hcut
        cases kq with
        | zero => exact absurd HA.out (by simp [ZH.j1])
        | succ kj15 =>
         have H := HA.out;clear HA;simp only [ZH.j1] at H;have H' := Zd.mk H;clear H
         go_wp2
         go_loopg [8,9,14] kj15 (fun kq v8 v9 v14 w' => ∃ (x8_3 : List Int) (x9_3 : List Int) (x14_3 : Int),v14 = .int .i64 x14_3 ∧ Zd (ZH.l0 kq l0 a1 a2 x8_3 x9_3 ji15 x14_3 = some (r1,r2,r3)) ∧ Zd (kq ≤ kj15) ∧ Zd (Kd.R (Kd.int .i64) 3 w' w.heap.size (fun k_ => some k_ ≠ (v9 : Value).ownBlock) v8 x8_3) ∧ Zd (Kd.R (Kd.int .i64) 3 w' w.heap.size (fun k_ => some k_ ≠ (v8 : Value).ownBlock) v9 x9_3) ∧ Zd (Below w.heap.size w w'))
         case atStart => exact ⟨(([] : List Int)),(([] : List Int)),(x13_15),(by first | rfl | (simp;done) | (simp [*];done)),H',⟨Nat.le_refl _⟩,⟨by (with_reducible repeat (first | apply Kd.ZF | apply Kd.ZG | apply Kd.ZN));exact HO_8.out⟩,⟨by (with_reducible repeat (first | apply Kd.ZF | apply Kd.ZG | apply Kd.ZN));exact HO_9.out⟩,⟨by repeat (first | (with_reducible first | exact HB.out | apply Zc | apply Za | apply Zb) | exact HB.out)⟩⟩
         case round =>
          clear H'
          (try clear c1); (try clear c2); (try clear p2); (try clear c4); (try clear c5); (try clear c6); (try clear c6b0); (try clear c6b1); (try clear p6); (try clear c12); (try clear c12b0); (try clear c14); (try clear c17); (try clear c17b0); (try clear c20); (try clear c20b0); (try clear p2); (try clear p6)
          obtain ⟨x8_3,x9_3,x14_3,rfl,HA,HK3,HO_8,HO_9,HB⟩ := hrel
          cases gk with
          | zero => exact absurd HA.out (by simp [ZH.l0])
          | succ k3 =>
           have H := HA.out;clear HA;simp only [ZH.l0] at H
           by_cases c25 : x14_3 ≤ 1000000000
           · rw [if_pos c25] at H
             have c25b0 : decide (x14_3 ≤ 1000000000) = true := decide_eq_true c25;clear c25;replace H := Option.bind_eq_some_iff.mp H;obtain ⟨t316,A260,H⟩ := H;replace H : (if t316 > ji15 then (some (x8_3,x9_3,0)) else (if (x8_3.length : Int) = 4096 then (some (([] : List Int),([] : List Int),4)) else (if x8_3.length < 17592186044416 then (if x9_3.length < 17592186044416 then (ZH.l0 k3 l0 a1 a2 (x8_3 ++ [x14_3]) (x9_3 ++ [wrap64 (t316 - a2)]) ji15 (wrap64 (x14_3 + 1))) else (none)) else (none)))) = some (r1,r2,r3) := H;have A26 := Zd.mk A260;clear A260
             by_cases c27 : t316 > ji15
             · rw [if_pos c27] at H
               have c27b0 : decide (ji15 < t316) = true := decide_eq_true c27;clear c27;simp only [Option.some.injEq,Prod.mk.injEq] at H;obtain ⟨rfl,rfl,rfl⟩ := H
               go_wp2_with (first | ((with_reducible refine Z2 (f := 42) rfl ?_);refine ZP (some 61) rfl rfl Try.func42 (by kernel_rfl) rfl #[.slice A0 l0.length c0,.int .i64 a1,.int .i64 x14_3] rfl (by (try simp only [List.map_toArray,List.map_cons,List.map_nil]);first | done | rfl | (simp only [List.length_drop,List.length_take];rfl)) ?_;(with_reducible refine (Xs.calls _ _ l0 a1 x14_3 t316 _ ?side1 ?side2 A26.out).mono ?_);(case side1 => repeat (first | exact (Kd.ZK HR0.out HB.out) | (with_reducible refine Kd.Z8 ?_ _) | (with_reducible refine Kd.ZB ?_ _) | (with_reducible refine Kd.ZI ?_)));(case side2 => exact HC0.out);rintro e w28 ⟨rfl,hb⟩;refine ⟨_,rfl,?_⟩;have n0_ := Zd.mk (Kd.Xn (by (with_reducible repeat (first | apply Kd.ZF | apply Kd.ZG | apply Kd.ZN));exact HO_8.out) hb);have n1_ := Zd.mk (Kd.Xn (by (with_reducible repeat (first | apply Kd.ZF | apply Kd.ZG | apply Kd.ZN));exact HO_9.out) hb);have n2_ := Zd.mk (Z0 (by repeat (first | (with_reducible first | exact HB.out | apply Zc | apply Za | apply Zb) | exact HB.out)) hb);clear HO_8;clear HO_9;clear HB;have HO_8 := n0_;have HO_9 := n1_;have HB := n2_;clear n0_ n1_ n2_;(try clear hb);(try clear hb2);(try clear hk);(try clear hi)))
               go_ret3
               exact ⟨_,_,by first | rfl | (simp [Zt,Zv] <;> rfl) | (simp only [← hji15];first | rfl | (simp [Zt,Zv] <;> rfl)) | (simp [*,Zt,Zv] <;> rfl),by (with_reducible repeat (first | apply Kd.ZF | apply Kd.ZG | apply Kd.ZN));exact HO_8.out,by (with_reducible repeat (first | apply Kd.ZF | apply Kd.ZG | apply Kd.ZN));exact HO_9.out,by repeat (first | (with_reducible first | exact HB.out | apply Zc | apply Za | apply Zb) | exact HB.out)⟩
             · rw [if_neg c27] at H
               have c27b0 : decide (ji15 < t316) = false := decide_eq_false c27;clear c27
               by_cases c29 : (x8_3.length : Int) = 4096
               · rw [if_pos c29] at H
                 have c29b0 : ((x8_3.length : Int) == 4096) = true := beq_iff_eq.mpr c29;have c29b1 : ((x8_3.length : Int) != 4096) = false := bne_eq_false_iff_eq.mpr c29;clear c29;simp only [Option.some.injEq,Prod.mk.injEq] at H;obtain ⟨rfl,rfl,rfl⟩ := H
                 go_wp2_with (first | ((with_reducible refine Z2 (f := 42) rfl ?_);refine ZP (some 61) rfl rfl Try.func42 (by kernel_rfl) rfl #[.slice A0 l0.length c0,.int .i64 a1,.int .i64 x14_3] rfl (by (try simp only [List.map_toArray,List.map_cons,List.map_nil]);first | done | rfl | (simp only [List.length_drop,List.length_take];rfl)) ?_;(with_reducible refine (Xs.calls _ _ l0 a1 x14_3 t316 _ ?side1 ?side2 A26.out).mono ?_);(case side1 => repeat (first | exact (Kd.ZK HR0.out HB.out) | (with_reducible refine Kd.Z8 ?_ _) | (with_reducible refine Kd.ZB ?_ _) | (with_reducible refine Kd.ZI ?_)));(case side2 => exact HC0.out);rintro e w30 ⟨rfl,hb⟩;refine ⟨_,rfl,?_⟩;have n0_ := Zd.mk (Kd.Xn (by (with_reducible repeat (first | apply Kd.ZF | apply Kd.ZG | apply Kd.ZN));exact HO_8.out) hb);have n1_ := Zd.mk (Kd.Xn (by (with_reducible repeat (first | apply Kd.ZF | apply Kd.ZG | apply Kd.ZN));exact HO_9.out) hb);have n2_ := Zd.mk (Z0 (by repeat (first | (with_reducible first | exact HB.out | apply Zc | apply Za | apply Zb) | exact HB.out)) hb);clear HO_8;clear HO_9;clear HB;have HO_8 := n0_;have HO_9 := n1_;have HB := n2_;clear n0_ n1_ n2_;(try clear hb);(try clear hb2);(try clear hk);(try clear hi);obtain ⟨Ao31,co31,eo31⟩ := Kd.Xw HO_8.out;subst eo31))
                 go_ret3
                 exact ⟨_,_,by first | rfl | (simp [Zt,Zv] <;> rfl) | (simp only [← hji15];first | rfl | (simp [Zt,Zv] <;> rfl)) | (simp [*,Zt,Zv] <;> rfl),by first | exact Kd.R_nil _ _ _ _ _ | exact Kd.N_nil _ _ _ _ _ | exact Kd.V_nil _ _ _ _ _ | exact Kd.Q_nil _ _ _ _ _ | exact Kd.S_nil _ _ _ _ _,by first | exact Kd.R_nil _ _ _ _ _ | exact Kd.N_nil _ _ _ _ _ | exact Kd.V_nil _ _ _ _ _ | exact Kd.Q_nil _ _ _ _ _ | exact Kd.S_nil _ _ _ _ _,by repeat (first | (with_reducible first | exact HB.out | apply Zc | apply Za | apply Zb) | exact HB.out)⟩
               · rw [if_neg c29] at H
                 have c29b0 : ((x8_3.length : Int) == 4096) = false := beq_eq_false_iff_ne.mpr c29;have c29b1 : ((x8_3.length : Int) != 4096) = true := bne_iff_ne.mpr c29
                 by_cases c32 : x8_3.length < 17592186044416
                 · rw [if_pos c32] at H
                   have LMc32 := Zd.mk c32;clear c32
                   obtain ⟨y317,hy317⟩ : ∃ y_ : List Int,y_ = (x8_3 ++ [x14_3]) := ⟨_,rfl⟩
                   replace H : (if x9_3.length < 17592186044416 then (ZH.l0 k3 l0 a1 a2 y317 (x9_3 ++ [wrap64 (t316 - a2)]) ji15 (wrap64 (x14_3 + 1))) else (none)) = some (r1,r2,r3) := by first | (rw [hy317];with_reducible exact H) | (have H2_ := (Option.bind_some _ _).symm.trans H;rw [hy317];with_reducible exact H2_) | (have H2_ := (Option.bind_some _ _).symm.trans H;with_reducible exact H2_) | with_reducible exact H | (rw [hy317];exact H) | exact H
                   have Ny317 := Zd.mk hy317;clear hy317
                   by_cases c33 : x9_3.length < 17592186044416
                   · rw [if_pos c33] at H
                     have LMc33 := Zd.mk c33;clear c33
                     obtain ⟨y320,hy320⟩ : ∃ y_ : List Int,y_ = (x9_3 ++ [wrap64 (t316 - a2)]) := ⟨_,rfl⟩
                     replace H : (ZH.l0 k3 l0 a1 a2 y317 y320 ji15 (wrap64 (x14_3 + 1))) = some (r1,r2,r3) := by first | (rw [hy320];with_reducible exact H) | (have H2_ := (Option.bind_some _ _).symm.trans H;rw [hy320];with_reducible exact H2_) | (have H2_ := (Option.bind_some _ _).symm.trans H;with_reducible exact H2_) | with_reducible exact H | (rw [hy320];exact H) | exact H
                     have Ny320 := Zd.mk hy320;clear hy320;have H' := Zd.mk H;clear H
                     go_wp2_with (first | ((with_reducible refine Z2 (f := 42) rfl ?_);refine ZP (some 61) rfl rfl Try.func42 (by kernel_rfl) rfl #[.slice A0 l0.length c0,.int .i64 a1,.int .i64 x14_3] rfl (by (try simp only [List.map_toArray,List.map_cons,List.map_nil]);first | done | rfl | (simp only [List.length_drop,List.length_take];rfl)) ?_;(with_reducible refine (Xs.calls _ _ l0 a1 x14_3 t316 _ ?side1 ?side2 A26.out).mono ?_);(case side1 => repeat (first | exact (Kd.ZK HR0.out HB.out) | (with_reducible refine Kd.Z8 ?_ _) | (with_reducible refine Kd.ZB ?_ _) | (with_reducible refine Kd.ZI ?_)));(case side2 => exact HC0.out);rintro e w34 ⟨rfl,hb⟩;refine ⟨_,rfl,?_⟩;have n0_ := Zd.mk (Kd.Xn (by (with_reducible repeat (first | apply Kd.ZF | apply Kd.ZG | apply Kd.ZN));exact HO_8.out) hb);have n1_ := Zd.mk (Kd.Xn (by (with_reducible repeat (first | apply Kd.ZF | apply Kd.ZG | apply Kd.ZN));exact HO_9.out) hb);have n2_ := Zd.mk (Z0 (by repeat (first | (with_reducible first | exact HB.out | apply Zc | apply Za | apply Zb) | exact HB.out)) hb);clear HO_8;clear HO_9;clear HB;have HO_8 := n0_;have HO_9 := n1_;have HB := n2_;clear n0_ n1_ n2_;(try clear hb);(try clear hb2);(try clear hk);(try clear hi);obtain ⟨Ao35,co35,eo35⟩ := Kd.Xw HO_8.out;subst eo35) | ((with_reducible refine X8 (b := .append) (xs := #[.tmp 68,.tmp 70]) rfl ?_);at_builtin;refine Kd.XG (Kd.int .i64) (w0 := w) w.heap.size rfl (.tmp 68) (.tmp 70) 46 3 (.int .i64 0) 8 rfl Try.underlying46 info3 rfl (by decide) (by omega) (.slice Ao35 x8_3.length co35) x8_3 x14_3 [.int .i64 x14_3] (fun k_ => some k_ ≠ (u9 : Value).ownBlock) (fun _ => False) rfl rfl ?aP (fun _ hk => hk.elim) ?aF ?aO ?aB ?aS ?aL ?_;(case aP => exact rfl);(case aB => exact (by repeat (first | (with_reducible first | exact HB.out | apply Zc | apply Za | apply Zb) | exact HB.out)));(case aF => exact (fun k_ hk => Kd.fresh' (Kd.R_lt (by (with_reducible repeat (first | apply Kd.ZF | apply Kd.ZG | apply Kd.ZN));exact HO_9.out)) k_ hk));(case aO => exact (by (with_reducible repeat (first | apply Kd.ZF | apply Kd.ZG | apply Kd.ZN));exact HO_8.out));(case aS => exact (ZJ (by repeat (first | (with_reducible first | exact HB.out | apply Zc | apply Za | apply Zb) | exact HB.out))));(case aL => have := LMc32.out;omega);intro v318 w36 ho hb hg hat;rw [← Ny317.out] at ho;have n0_ := Zd.mk (Kd.QN (ok := (fun _ => True)) (by (with_reducible repeat (first | apply Kd.ZF | apply Kd.ZG | apply Kd.ZN));exact Kd.X1 HO_9.out (fun _ hk => ⟨trivial,hk⟩)) hg hat);have n1_ := Zd.mk (hb);have n2_ := Zd.mk (ho);clear HO_9;clear HB;clear HO_8;have HO_9 := n0_;have HB := n1_;have HO319 := n2_;clear n0_ n1_ n2_;clear ho hb hg hat) | ((with_reducible refine X8 (b := .append) (xs := #[.tmp 72,.tmp 76]) rfl ?_);at_builtin;refine Kd.XG (Kd.int .i64) (w0 := w) w.heap.size rfl (.tmp 72) (.tmp 76) 46 3 (.int .i64 0) 8 rfl Try.underlying46 info3 rfl (by decide) (by omega) u9 x9_3 (wrap64 (t316 - a2)) [.int .i64 (wrap64 (t316 - a2))] (fun k_ => some k_ ≠ (v318 : Value).ownBlock) (fun _ => False) rfl rfl ?aP (fun _ hk => hk.elim) ?aF ?aO ?aB ?aS ?aL ?_;(case aP => exact rfl);(case aB => exact (by repeat (first | (with_reducible first | exact HB.out | apply Zc | apply Za | apply Zb) | exact HB.out)));(case aF => exact (fun k_ hk => Kd.fresh' (Kd.R_lt (by (with_reducible repeat (first | apply Kd.ZF | apply Kd.ZG | apply Kd.ZN));exact HO319.out)) k_ hk));(case aO => exact (by (with_reducible repeat (first | apply Kd.ZF | apply Kd.ZG | apply Kd.ZN));exact Kd.X1 HO_9.out (fun _ hk => hk.2)));(case aS => exact (ZJ (by repeat (first | (with_reducible first | exact HB.out | apply Zc | apply Za | apply Zb) | exact HB.out))));(case aL => have := LMc33.out;omega);intro v321 w37 ho hb hg hat;rw [← Ny320.out] at ho;have n0_ := Zd.mk (Kd.QN (ok := (fun _ => True)) (by (with_reducible repeat (first | apply Kd.ZF | apply Kd.ZG | apply Kd.ZN));exact Kd.X1 HO319.out (fun _ hk => ⟨trivial,hk⟩)) hg hat);have n1_ := Zd.mk (hb);have n2_ := Zd.mk (ho);clear HO319;clear HB;clear HO_9;have HO319 := n0_;have HB := n1_;have HO322 := n2_;clear n0_ n1_ n2_;clear ho hb hg hat))
                     go_roundg k3
                     case measure => have := HJ6.out;have := HJ15.out;have := HK3.out;omega
                     case rel => exact ⟨(y317),(y320),(wrap64 (x14_3 + 1)),(by first | rfl | (simp;done) | (simp [*];done)),H',⟨by have := HJ6.out;have := HJ15.out;have := HK3.out;omega⟩,⟨by (with_reducible repeat (first | apply Kd.ZF | apply Kd.ZG | apply Kd.ZN));exact Kd.X1 HO319.out (fun _ hk => hk.2)⟩,⟨by (with_reducible repeat (first | apply Kd.ZF | apply Kd.ZG | apply Kd.ZN));exact HO322.out⟩,⟨by repeat (first | (with_reducible first | exact HB.out | apply Zc | apply Za | apply Zb) | exact HB.out)⟩⟩
                   · rw [if_neg c33] at H
                     exact absurd H (by simp)
                 · rw [if_neg c32] at H
                   exact absurd H (by simp)
           · rw [if_neg c25] at H
             have c25b0 : decide (x14_3 ≤ 1000000000) = false := decide_eq_false c25;clear c25;simp only [Option.some.injEq,Prod.mk.injEq] at H;obtain ⟨rfl,rfl,rfl⟩ := H
             go_wp2
             go_ret3
             exact ⟨_,_,by first | rfl | (simp [Zt,Zv] <;> rfl) | (simp only [← hji15];first | rfl | (simp [Zt,Zv] <;> rfl)) | (simp [*,Zt,Zv] <;> rfl),by (with_reducible repeat (first | apply Kd.ZF | apply Kd.ZG | apply Kd.ZN));exact HO_8.out,by (with_reducible repeat (first | apply Kd.ZF | apply Kd.ZG | apply Kd.ZN));exact HO_9.out,by repeat (first | (with_reducible first | exact HB.out | apply Zc | apply Za | apply Zb) | exact HB.out)⟩
 · rw [if_neg c6] at H
   have c6b0 : (t312 == 0) = false := beq_eq_false_iff_ne.mpr c6;have c6b1 : (t312 != 0) = true := bne_iff_ne.mpr c6;simp only [Option.some.injEq,Prod.mk.injEq] at H;obtain ⟨rfl,rfl,rfl⟩ := H
   go_enter Try.func29,Try.ntmps29
   go_wp2_with (first | ((with_reducible refine Xq (N := 19) rfl ?_);refine Kd.R_lit (Kd.int .i64) _ 3 ?hg (N := 19) ?hd (xs := ([a1,a2] : List Int)) (inner := [.int .i64 a1,.int .i64 a2]) (ok := fun _ => True) (okp := fun _ => True) ?hr ?hp (fun _ hk => hk) trivial (Below.refl _ _) (Nat.le_refl _) (by simp) ?_;(case hd => rfl);(case hg => rfl);(case hr => first | (go_simp;done) | (go_simp;rfl));(case hp => exact (Reps.one (show Kd.M (Kd.int .i64) _ _ _ a1 [.int .i64 a1] from rfl) (Reps.one (show Kd.M (Kd.int .i64) _ _ _ a2 [.int .i64 a2] from rfl) (Reps.none _ _))));intro v310 w38 ho39 hb hg_ hnew_;clear hg_ hnew_;(first | rw [← Ny309.out] at ho39 | (simp only [Int.reduceToNat] at ho39;rw [← Ny309.out] at ho39));have n0_ := Zd.mk (Kd.X5 ho39 (ZJ (by repeat (first | (with_reducible first | exact HB.out | apply Zc | apply Za | apply Zb) | exact HB.out))));have n1_ := Zd.mk (Z0 (by repeat (first | (with_reducible first | exact HB.out | apply Zc | apply Za | apply Zb) | exact HB.out)) hb);clear HB;have HO311 := n0_;have HB := n1_;clear n0_ n1_;clear hb ho39;obtain ⟨Ao40,co40,eo40⟩ := Kd.Xw HO311.out;subst eo40) | ((with_reducible refine Z2 (f := 40) rfl ?_);refine ZP (some 20) rfl rfl Try.func40 (by kernel_rfl) rfl #[.slice A0 l0.length c0,.slice Ao40 y309.length co40] rfl (by (try simp only [List.map_toArray,List.map_cons,List.map_nil]);first | done | rfl | (simp only [List.length_drop,List.length_take];rfl)) ?_;(with_reducible refine (ZO.calls k _ _ l0 _ _ y309 t312 _ ?side1 ?side2 ?side3 ?side4 A5.out).mono ?_);(case side1 => repeat (first | exact (Kd.ZK HR0.out HB.out) | (with_reducible refine Kd.Z8 ?_ _) | (with_reducible refine Kd.ZB ?_ _) | (with_reducible refine Kd.ZI ?_)));(case side2 => exact HC0.out);(case side3 => repeat (first | exact (Kd.Xp HO311.out).2.2 | (with_reducible refine Kd.Z8 ?_ _) | (with_reducible refine Kd.ZB ?_ _) | (with_reducible refine Kd.ZI ?_)));(case side4 => exact (Kd.Xp HO311.out).2.1);rintro e w41 ⟨rfl,hb⟩;refine ⟨_,rfl,?_⟩;have n0_ := Zd.mk (Kd.Xn (by (with_reducible repeat (first | apply Kd.ZF | apply Kd.ZG | apply Kd.ZN));exact HO311.out) hb);have n1_ := Zd.mk (Z0 (by repeat (first | (with_reducible first | exact HB.out | apply Zc | apply Za | apply Zb) | exact HB.out)) hb);clear HO311;clear HB;have HO311 := n0_;have HB := n1_;clear n0_ n1_;(try clear hb);(try clear hb2);(try clear hk);(try clear hi)))
   go_ret3
   exact ⟨_,_,by first | rfl | (simp [Zt,Zv] <;> rfl) | (simp [*,Zt,Zv] <;> rfl),by first | exact Kd.R_nil _ _ _ _ _ | exact Kd.N_nil _ _ _ _ _ | exact Kd.V_nil _ _ _ _ _ | exact Kd.Q_nil _ _ _ _ _ | exact Kd.S_nil _ _ _ _ _,by first | exact Kd.R_nil _ _ _ _ _ | exact Kd.N_nil _ _ _ _ _ | exact Kd.V_nil _ _ _ _ _ | exact Kd.Q_nil _ _ _ _ _ | exact Kd.S_nil _ _ _ _ _,by repeat (first | (with_reducible first | exact HB.out | apply Zc | apply Za | apply Zb) | exact HB.out)⟩
end Go.Proofs.Ytomlfbmfdoallaa.PA

namespace Go.Proofs.Ytomlfbmfdoallaa.PA
open Go.RowKit Go.Proofs.YtomlfbmfdoallaaW.PrintWords Go.Proofs.YtomlfbmfdoallaaW.PrintLast Go.Proofs.YtomlfbmfdoallaaW.PrintMore
attribute [local go_sem] Xf Xe Xj Xk ZV ZU Xd Xc
set_option linter.unusedVariables false
set_option linter.unusedSimpArgs false
mutual
def Zo.j0 : Nat → List (S27) → Int → Int → Int → Bool → Option (List Int × List Int × Int)
 | 0,_,_,_,_,_ => none
 | k + 1,x0,x1,x2,x3,x37 => if x37 = true then (some (([] : List Int),([] : List Int),7)) else (if x2 > x1 then ((Z3.f k x0 x1 (wrap64 (x2 - 1))).bind fun t325 => (Zo.j1 k x0 x1 x2 x3 (wrap64 (t325 + 1)))) else (Zo.j1 k x0 x1 x2 x3 0))
def Zo.j1 : Nat → List (S27) → Int → Int → Int → Int → Option (List Int × List Int × Int)
 | 0,_,_,_,_,_ => none
 | k + 1,x0,x1,x2,x3,x11 => Zo.l0 k x0 x1 x2 x3 x11 ([] : List Int) ([] : List Int)
def Zo.l0 : Nat → List (S27) → Int → Int → Int → Int → List Int → List Int → Option (List Int × List Int × Int)
 | 0,_,_,_,_,_,_,_ => none
 | k + 1,x0,x1,x2,x3,x11,x12,x13 => if x11 ≤ 1000000000 then ((Z4.f k x0 x1 x11).bind fun t326 => (if t326 ≥ (wrap64 (x2 + x3)) then (Zo.j3 k x0 x1 x2 x3 x11 x12 x13 t326 true) else (Zo.j3 k x0 x1 x2 x3 x11 x12 x13 t326 (decide (t326 > 1000000000))))) else (some (x12,x13,0))
def Zo.j3 : Nat → List (S27) → Int → Int → Int → Int → List Int → List Int → Int → Bool → Option (List Int × List Int × Int)
 | 0,_,_,_,_,_,_,_,_,_ => none
 | k + 1,x0,x1,x2,x3,x11,x12,x13,x14,x63 => if x63 = true then (some (x12,x13,0)) else (if (x12.length : Int) = 4096 then (some (([] : List Int),([] : List Int),4)) else (if x12.length < 17592186044416 then (if x13.length < 17592186044416 then (Zo.l0 k x0 x1 x2 x3 (wrap64 (x11 + 1)) (x12 ++ [x11]) (x13 ++ [wrap64 (x14 - x2)])) else (none)) else (none)))
end
def Zo.f (k : Nat) (l0 : List (S27)) (a1 : Int) (a2 : Int) (a3 : Int) : Option (List Int × List Int × Int) := (Zi.f k l0).bind fun t323 => (if t323 = true then ((Zx.f a1).bind fun t324 => (if t324 = true then (if a2 < a1 then (Zo.j0 k l0 a1 a2 a3 true) else (if a2 > 1000000000 then (Zo.j0 k l0 a1 a2 a3 true) else (if a3 < 0 then (Zo.j0 k l0 a1 a2 a3 true) else (Zo.j0 k l0 a1 a2 a3 (decide (a3 > 4096)))))) else (Zo.j0 k l0 a1 a2 a3 true))) else (some (([] : List Int),([] : List Int),1)))
theorem Zo.Xm : ∀ k,(∀ y0 y1 y2 y3 y4,LeO (Zo.j0 k y0 y1 y2 y3 y4) (Zo.j0 (k + 1) y0 y1 y2 y3 y4)) ∧ (∀ y0 y1 y2 y3 y4,LeO (Zo.j1 k y0 y1 y2 y3 y4) (Zo.j1 (k + 1) y0 y1 y2 y3 y4)) ∧ (∀ y0 y1 y2 y3 y4 y5 y6,LeO (Zo.l0 k y0 y1 y2 y3 y4 y5 y6) (Zo.l0 (k + 1) y0 y1 y2 y3 y4 y5 y6)) ∧ (∀ y0 y1 y2 y3 y4 y5 y6 y7 y8,LeO (Zo.j3 k y0 y1 y2 y3 y4 y5 y6 y7 y8) (Zo.j3 (k + 1) y0 y1 y2 y3 y4 y5 y6 y7 y8))
 | 0 => ⟨fun _ _ _ _ _ r h => by simp [Zo.j0] at h,fun _ _ _ _ _ r h => by simp [Zo.j1] at h,fun _ _ _ _ _ _ _ r h => by simp [Zo.l0] at h,fun _ _ _ _ _ _ _ _ _ r h => by simp [Zo.j3] at h⟩
 | k + 1 => by
  obtain ⟨ih0,ih1,ih2,ih3⟩ := Zo.Xm k;refine ⟨?_,?_,?_,?_⟩
  · intro y0 y1 y2 y3 y4
    unfold Zo.j0
    repeat' first
    | (with_reducible exact ih0 _ _ _ _ _)
    | (with_reducible exact ih1 _ _ _ _ _)
    | (with_reducible exact ih2 _ _ _ _ _ _ _)
    | (with_reducible exact ih3 _ _ _ _ _ _ _ _ _)
    | (with_reducible exact Zi.mono _ _)
    | (with_reducible exact Z4.mono _ _ _ _)
    | (with_reducible exact Z3.mono _ _ _ _)
    | (with_reducible exact LeO.refl _)
    | (with_reducible exact LeO.none _)
    | (with_reducible refine LeO.ite ?_ ?_)
    | (with_reducible refine LeO.bind ?_ (fun _ => ?_))
    | exact ih0 _ _ _ _ _
    | exact ih1 _ _ _ _ _
    | exact ih2 _ _ _ _ _ _ _
    | exact ih3 _ _ _ _ _ _ _ _ _
    | exact Zi.mono _ _
    | exact Z4.mono _ _ _ _
    | exact Z3.mono _ _ _ _
    | exact LeO.none _
    | refine LeO.ite ?_ ?_
    | refine LeO.bind ?_ (fun _ => ?_)
  · intro y0 y1 y2 y3 y4
    unfold Zo.j1
    repeat' first
    | (with_reducible exact ih0 _ _ _ _ _)
    | (with_reducible exact ih1 _ _ _ _ _)
    | (with_reducible exact ih2 _ _ _ _ _ _ _)
    | (with_reducible exact ih3 _ _ _ _ _ _ _ _ _)
    | (with_reducible exact Zi.mono _ _)
    | (with_reducible exact Z4.mono _ _ _ _)
    | (with_reducible exact Z3.mono _ _ _ _)
    | (with_reducible exact LeO.refl _)
    | (with_reducible exact LeO.none _)
    | (with_reducible refine LeO.ite ?_ ?_)
    | (with_reducible refine LeO.bind ?_ (fun _ => ?_))
    | exact ih0 _ _ _ _ _
    | exact ih1 _ _ _ _ _
    | exact ih2 _ _ _ _ _ _ _
    | exact ih3 _ _ _ _ _ _ _ _ _
    | exact Zi.mono _ _
    | exact Z4.mono _ _ _ _
    | exact Z3.mono _ _ _ _
    | exact LeO.none _
    | refine LeO.ite ?_ ?_
    | refine LeO.bind ?_ (fun _ => ?_)
  · intro y0 y1 y2 y3 y4 y5 y6
    unfold Zo.l0
    repeat' first
    | (with_reducible exact ih0 _ _ _ _ _)
    | (with_reducible exact ih1 _ _ _ _ _)
    | (with_reducible exact ih2 _ _ _ _ _ _ _)
    | (with_reducible exact ih3 _ _ _ _ _ _ _ _ _)
    | (with_reducible exact Zi.mono _ _)
    | (with_reducible exact Z4.mono _ _ _ _)
    | (with_reducible exact Z3.mono _ _ _ _)
    | (with_reducible exact LeO.refl _)
    | (with_reducible exact LeO.none _)
    | (with_reducible refine LeO.ite ?_ ?_)
    | (with_reducible refine LeO.bind ?_ (fun _ => ?_))
    | exact ih0 _ _ _ _ _
    | exact ih1 _ _ _ _ _
    | exact ih2 _ _ _ _ _ _ _
    | exact ih3 _ _ _ _ _ _ _ _ _
    | exact Zi.mono _ _
    | exact Z4.mono _ _ _ _
    | exact Z3.mono _ _ _ _
    | exact LeO.none _
    | refine LeO.ite ?_ ?_
    | refine LeO.bind ?_ (fun _ => ?_)
  · intro y0 y1 y2 y3 y4 y5 y6 y7 y8
    unfold Zo.j3
    repeat' first
    | (with_reducible exact ih0 _ _ _ _ _)
    | (with_reducible exact ih1 _ _ _ _ _)
    | (with_reducible exact ih2 _ _ _ _ _ _ _)
    | (with_reducible exact ih3 _ _ _ _ _ _ _ _ _)
    | (with_reducible exact Zi.mono _ _)
    | (with_reducible exact Z4.mono _ _ _ _)
    | (with_reducible exact Z3.mono _ _ _ _)
    | (with_reducible exact LeO.refl _)
    | (with_reducible exact LeO.none _)
    | (with_reducible refine LeO.ite ?_ ?_)
    | (with_reducible refine LeO.bind ?_ (fun _ => ?_))
    | exact ih0 _ _ _ _ _
    | exact ih1 _ _ _ _ _
    | exact ih2 _ _ _ _ _ _ _
    | exact ih3 _ _ _ _ _ _ _ _ _
    | exact Zi.mono _ _
    | exact Z4.mono _ _ _ _
    | exact Z3.mono _ _ _ _
    | exact LeO.none _
    | refine LeO.ite ?_ ?_
    | refine LeO.bind ?_ (fun _ => ?_)
theorem Zo.mono : ∀ a0 a1 a2 a3 k,LeO (Zo.f k a0 a1 a2 a3) (Zo.f (k + 1) a0 a1 a2 a3) := by
 intro a0 a1 a2 a3 k;obtain ⟨ih0,ih1,ih2,ih3⟩ := Zo.Xm k;unfold Zo.f
 repeat' first
  | (with_reducible exact ih0 _ _ _ _ _)
  | (with_reducible exact ih1 _ _ _ _ _)
  | (with_reducible exact ih2 _ _ _ _ _ _ _)
  | (with_reducible exact ih3 _ _ _ _ _ _ _ _ _)
  | (with_reducible exact Zi.mono _ _)
  | (with_reducible exact Z4.mono _ _ _ _)
  | (with_reducible exact Z3.mono _ _ _ _)
  | (with_reducible exact LeO.refl _)
  | (with_reducible exact LeO.none _)
  | (with_reducible refine LeO.ite ?_ ?_)
  | (with_reducible refine LeO.bind ?_ (fun _ => ?_))
  | exact ih0 _ _ _ _ _
  | exact ih1 _ _ _ _ _
  | exact ih2 _ _ _ _ _ _ _
  | exact ih3 _ _ _ _ _ _ _ _ _
  | exact Zi.mono _ _
  | exact Z4.mono _ _ _ _
  | exact Z3.mono _ _ _ _
  | exact LeO.none _
  | refine LeO.ite ?_ ?_
  | refine LeO.bind ?_ (fun _ => ?_)
set_option maxHeartbeats 8000000 in
set_option maxRecDepth 100000 in
theorem Zo.calls (k : Nat) (A0 : Option Addr) (c0 : Nat) (l0 : List (S27)) (a1 : Int) (a2 : Int) (a3 : Int) (r1 : List Int) (r2 : List Int) (r3 : Int) (w : World) (hr0 : Kd.C k27 w A0 l0.length l0) (hc0 : l0.length ≤ c0) (h : Zo.f k l0 a1 a2 a3 = some (r1,r2,r3)) :
 Calls Try.prog 30 #[.slice A0 l0.length c0,.int .i64 a1,.int .i64 a2,.int .i64 a3] w fun e w' => ∃ v0_ v1_ : Value,e = .returned (.tuple #[v0_,v1_,.int .i64 r3]) ∧ Kd.R (Kd.int .i64) 3 w' w.heap.size (fun k_ => some k_ ≠ (v1_ : Value).ownBlock) v0_ r1 ∧ Kd.R (Kd.int .i64) 3 w' w.heap.size (fun k_ => some k_ ≠ (v0_ : Value).ownBlock) v1_ r2 ∧ Below w.heap.size w w' := by
 have HR0 := Zd.mk hr0;have HC0 := Zd.mk hc0;clear hr0 hc0;have HB := Zd.mk (Below.refl w.heap.size w);have H : ((Zi.f k l0).bind fun t323 => (if t323 = true then ((Zx.f a1).bind fun t324 => (if t324 = true then (if a2 < a1 then (Zo.j0 k l0 a1 a2 a3 true) else (if a2 > 1000000000 then (Zo.j0 k l0 a1 a2 a3 true) else (if a3 < 0 then (Zo.j0 k l0 a1 a2 a3 true) else (Zo.j0 k l0 a1 a2 a3 (decide (a3 > 4096)))))) else (Zo.j0 k l0 a1 a2 a3 true))) else (some (([] : List Int),([] : List Int),1)))) = some (r1,r2,r3) := h;clear h;replace H := Option.bind_eq_some_iff.mp H;obtain ⟨t323,A50,H⟩ := H;replace H : (if t323 = true then ((Zx.f a1).bind fun t324 => (if t324 = true then (if a2 < a1 then (Zo.j0 k l0 a1 a2 a3 true) else (if a2 > 1000000000 then (Zo.j0 k l0 a1 a2 a3 true) else (if a3 < 0 then (Zo.j0 k l0 a1 a2 a3 true) else (Zo.j0 k l0 a1 a2 a3 (decide (a3 > 4096)))))) else (Zo.j0 k l0 a1 a2 a3 true))) else (some (([] : List Int),([] : List Int),1))) = some (r1,r2,r3) := H;have A5 := Zd.mk A50;clear A50
 by_cases c6 : t323 = true
 · subst c6
   have H1 : ((Zx.f a1).bind fun t324 => (if t324 = true then (if a2 < a1 then (Zo.j0 k l0 a1 a2 a3 true) else (if a2 > 1000000000 then (Zo.j0 k l0 a1 a2 a3 true) else (if a3 < 0 then (Zo.j0 k l0 a1 a2 a3 true) else (Zo.j0 k l0 a1 a2 a3 (decide (a3 > 4096)))))) else (Zo.j0 k l0 a1 a2 a3 true))) = some (r1,r2,r3) := by rw [if_pos rfl] at H;exact H
   clear H;have H := H1;clear H1;have HC7 := Zd.mk H;clear H
   go_enter Try.func30,Try.ntmps30
   go_upto_region 3 with (first | ((with_reducible refine Z2 (f := 11) rfl ?_);refine ZP (some 16) rfl rfl Try.func11 (by kernel_rfl) rfl #[.slice A0 l0.length c0] rfl (by (try simp only [List.map_toArray,List.map_cons,List.map_nil]);first | done | rfl | (simp only [List.length_drop,List.length_take];rfl)) ?_;(with_reducible refine (Zi.calls k _ _ l0 true _ ?side1 ?side2 A5.out).mono ?_);(case side1 => repeat (first | exact HR0.out | (with_reducible refine Kd.Z8 ?_ _) | (with_reducible refine Kd.ZB ?_ _) | (with_reducible refine Kd.ZI ?_)));(case side2 => exact HC0.out);rintro e w8 ⟨rfl,hb⟩;refine ⟨_,rfl,?_⟩;have n0_ := Zd.mk (Z0 (by repeat (first | (with_reducible first | exact HB.out | apply Zc | apply Za | apply Zb) | exact HB.out)) hb);clear HB;have HB := n0_;clear n0_;(try clear hb);(try clear hb2);(try clear hk);(try clear hi)))
   (try simp only [Act.put,YV,YW,YX])
   go_cut [37] (fun v37 wc => ∃ (kq : Nat) (x37_6 : Bool),v37 = .bool x37_6 ∧ Zd (Zo.j0 kq l0 a1 a2 a3 x37_6 = some (r1,r2,r3)) ∧ Zd (kq ≤ k) ∧ Zd (Below w.heap.size w wc))
   case first =>
    have H := HC7.out;clear HC7;replace H := Option.bind_eq_some_iff.mp H;obtain ⟨t324,A90,H⟩ := H;replace H : (if t324 = true then (if a2 < a1 then (Zo.j0 k l0 a1 a2 a3 true) else (if a2 > 1000000000 then (Zo.j0 k l0 a1 a2 a3 true) else (if a3 < 0 then (Zo.j0 k l0 a1 a2 a3 true) else (Zo.j0 k l0 a1 a2 a3 (decide (a3 > 4096)))))) else (Zo.j0 k l0 a1 a2 a3 true)) = some (r1,r2,r3) := H;have A9 := Zd.mk A90;clear A90
    by_cases c10 : t324 = true
    · subst c10
      have H1 : (if a2 < a1 then (Zo.j0 k l0 a1 a2 a3 true) else (if a2 > 1000000000 then (Zo.j0 k l0 a1 a2 a3 true) else (if a3 < 0 then (Zo.j0 k l0 a1 a2 a3 true) else (Zo.j0 k l0 a1 a2 a3 (decide (a3 > 4096)))))) = some (r1,r2,r3) := by rw [if_pos rfl] at H;exact H
      clear H;have H := H1;clear H1
      by_cases c11 : a2 < a1
      · rw [if_pos c11] at H
        have c11b0 : decide (a2 < a1) = true := decide_eq_true c11;clear c11
        (first | rw [c11b0] | (simp only [i64_w,i32_w];rw [c11b0]) | skip)
        have H' := Zd.mk H;clear H
        go_wp2_with (first | ((with_reducible refine Z2 (f := 50) rfl ?_);refine ZP (some 19) rfl rfl Try.func50 (by kernel_rfl) rfl #[.int .i64 a1] rfl (by (try simp only [List.map_toArray,List.map_cons,List.map_nil]);first | done | rfl | (simp only [List.length_drop,List.length_take];rfl)) ?_;(with_reducible refine (Zx.calls a1 true _ A9.out).mono ?_);rintro e w' ⟨rfl,⟨nd,rfl⟩⟩;refine ⟨_,rfl,?_⟩))
        go_meet
        case rel => exact ⟨_,(true),(by first | rfl | (simp;done) | (simp [*];done)),H',⟨by first | omega | exact Nat.le_refl _⟩,⟨by repeat (first | (with_reducible first | exact HB.out | apply Zc | apply Za | apply Zb) | exact HB.out)⟩⟩
      · rw [if_neg c11] at H
        have c11b0 : decide (a2 < a1) = false := decide_eq_false c11;clear c11
        (first | rw [c11b0] | (simp only [i64_w,i32_w];rw [c11b0]) | skip)
        by_cases c12 : a2 > 1000000000
        · rw [if_pos c12] at H
          have c12b0 : decide (1000000000 < a2) = true := decide_eq_true c12;clear c12;have H' := Zd.mk H;clear H
          go_wp2_with (first | ((with_reducible refine Z2 (f := 50) rfl ?_);refine ZP (some 19) rfl rfl Try.func50 (by kernel_rfl) rfl #[.int .i64 a1] rfl (by (try simp only [List.map_toArray,List.map_cons,List.map_nil]);first | done | rfl | (simp only [List.length_drop,List.length_take];rfl)) ?_;(with_reducible refine (Zx.calls a1 true _ A9.out).mono ?_);rintro e w' ⟨rfl,⟨nd,rfl⟩⟩;refine ⟨_,rfl,?_⟩))
          go_meet
          case rel => exact ⟨_,(true),(by first | rfl | (simp;done) | (simp [*];done)),H',⟨by first | omega | exact Nat.le_refl _⟩,⟨by repeat (first | (with_reducible first | exact HB.out | apply Zc | apply Za | apply Zb) | exact HB.out)⟩⟩
        · rw [if_neg c12] at H
          have c12b0 : decide (1000000000 < a2) = false := decide_eq_false c12;clear c12
          by_cases c13 : a3 < 0
          · rw [if_pos c13] at H
            have c13b0 : decide (a3 < 0) = true := decide_eq_true c13;clear c13;have H' := Zd.mk H;clear H
            go_wp2_with (first | ((with_reducible refine Z2 (f := 50) rfl ?_);refine ZP (some 19) rfl rfl Try.func50 (by kernel_rfl) rfl #[.int .i64 a1] rfl (by (try simp only [List.map_toArray,List.map_cons,List.map_nil]);first | done | rfl | (simp only [List.length_drop,List.length_take];rfl)) ?_;(with_reducible refine (Zx.calls a1 true _ A9.out).mono ?_);rintro e w' ⟨rfl,⟨nd,rfl⟩⟩;refine ⟨_,rfl,?_⟩))
            go_meet
            case rel => exact ⟨_,(true),(by first | rfl | (simp;done) | (simp [*];done)),H',⟨by first | omega | exact Nat.le_refl _⟩,⟨by repeat (first | (with_reducible first | exact HB.out | apply Zc | apply Za | apply Zb) | exact HB.out)⟩⟩
          · rw [if_neg c13] at H
            have c13b0 : decide (a3 < 0) = false := decide_eq_false c13;clear c13;have H' := Zd.mk H;clear H
            go_wp2_with (first | ((with_reducible refine Z2 (f := 50) rfl ?_);refine ZP (some 19) rfl rfl Try.func50 (by kernel_rfl) rfl #[.int .i64 a1] rfl (by (try simp only [List.map_toArray,List.map_cons,List.map_nil]);first | done | rfl | (simp only [List.length_drop,List.length_take];rfl)) ?_;(with_reducible refine (Zx.calls a1 true _ A9.out).mono ?_);rintro e w' ⟨rfl,⟨nd,rfl⟩⟩;refine ⟨_,rfl,?_⟩))
            go_meet
            case rel => exact ⟨_,(decide (a3 > 4096)),(by first | rfl | (simp;done) | (simp [*];done)),H',⟨by first | omega | exact Nat.le_refl _⟩,⟨by repeat (first | (with_reducible first | exact HB.out | apply Zc | apply Za | apply Zb) | exact HB.out)⟩⟩
    · replace c10 := Bool.eq_false_iff.mpr c10
      subst c10
      have H1 : (Zo.j0 k l0 a1 a2 a3 true) = some (r1,r2,r3) := by rw [if_neg (show ¬ (false = true) by decide)] at H;exact H
      clear H;have H := H1;clear H1;have H' := Zd.mk H;clear H
      go_wp2_with (first | ((with_reducible refine Z2 (f := 50) rfl ?_);refine ZP (some 19) rfl rfl Try.func50 (by kernel_rfl) rfl #[.int .i64 a1] rfl (by (try simp only [List.map_toArray,List.map_cons,List.map_nil]);first | done | rfl | (simp only [List.length_drop,List.length_take];rfl)) ?_;(with_reducible refine (Zx.calls a1 false _ A9.out).mono ?_);rintro e w' ⟨rfl,⟨nd,rfl⟩⟩;refine ⟨_,rfl,?_⟩))
      go_meet
      case rel => exact ⟨_,(true),(by first | rfl | (simp;done) | (simp [*];done)),H',⟨by first | omega | exact Nat.le_refl _⟩,⟨by repeat (first | (with_reducible first | exact HB.out | apply Zc | apply Za | apply Zb) | exact HB.out)⟩⟩
   case rest =>
    clear HC7
    (try clear c1); (try clear p2); (try clear c3); (try clear c5); (try clear c6); (try clear c10); (try clear c11); (try clear c11b0); (try clear c12); (try clear c12b0); (try clear c13); (try clear c13b0)
    obtain ⟨kq,x37_6,rfl,HA,HJ6,HB⟩ := hcut
    cases kq with
    | zero => exact absurd HA.out (by simp [Zo.j0])
    | succ kj6 =>
     have H := HA.out;clear HA;simp only [Zo.j0] at H
     by_cases c14 : x37_6 = true
     · subst c14
       have H1 : (some (([] : List Int),([] : List Int),7)) = some (r1,r2,r3) := by rw [if_pos rfl] at H;exact H
       clear H;have H := H1;clear H1;simp only [Option.some.injEq,Prod.mk.injEq] at H;obtain ⟨rfl,rfl,rfl⟩ := H
       go_wp2
       go_ret3
       exact ⟨_,_,by first | rfl | (simp [Zt,Zv] <;> rfl) | (simp [*,Zt,Zv] <;> rfl),by first | exact Kd.R_nil _ _ _ _ _ | exact Kd.N_nil _ _ _ _ _ | exact Kd.V_nil _ _ _ _ _ | exact Kd.Q_nil _ _ _ _ _ | exact Kd.S_nil _ _ _ _ _,by first | exact Kd.R_nil _ _ _ _ _ | exact Kd.N_nil _ _ _ _ _ | exact Kd.V_nil _ _ _ _ _ | exact Kd.Q_nil _ _ _ _ _ | exact Kd.S_nil _ _ _ _ _,by repeat (first | (with_reducible first | exact HB.out | apply Zc | apply Za | apply Zb) | exact HB.out)⟩
     · replace c14 := Bool.eq_false_iff.mpr c14
       subst c14
       have H1 : (if a2 > a1 then ((Z3.f kj6 l0 a1 (wrap64 (a2 - 1))).bind fun t325 => (Zo.j1 kj6 l0 a1 a2 a3 (wrap64 (t325 + 1)))) else (Zo.j1 kj6 l0 a1 a2 a3 0)) = some (r1,r2,r3) := by rw [if_neg (show ¬ (false = true) by decide)] at H;exact H
       clear H;have H := H1;clear H1;have HC15 := Zd.mk H;clear H
       go_upto_if 40 with (fail)
       go_cut [11] (fun v11 wc => ∃ (kq : Nat) (x11_14 : Int),v11 = .int .i64 x11_14 ∧ Zd (Zo.j1 kq l0 a1 a2 a3 x11_14 = some (r1,r2,r3)) ∧ Zd (kq ≤ kj6) ∧ Zd (Below w.heap.size w wc))
       case first =>
        have H := HC15.out;clear HC15
        by_cases c16 : a2 > a1
        · rw [if_pos c16] at H
          have c16b0 : decide (a1 < a2) = true := decide_eq_true c16;clear c16
          (first | rw [c16b0] | (simp only [i64_w,i32_w];rw [c16b0]) | skip)
          replace H := Option.bind_eq_some_iff.mp H;obtain ⟨t325,A170,H⟩ := H;replace H : (Zo.j1 kj6 l0 a1 a2 a3 (wrap64 (t325 + 1))) = some (r1,r2,r3) := H;have A17 := Zd.mk A170;clear A170;have H' := Zd.mk H;clear H
          go_wp2_with (first | ((with_reducible refine Z2 (f := 55) rfl ?_);refine ZP (some 45) rfl rfl Try.func55 (by kernel_rfl) rfl #[.slice A0 l0.length c0,.int .i64 a1,.int .i64 (wrap64 (a2 - 1))] rfl (by (try simp only [List.map_toArray,List.map_cons,List.map_nil]);first | done | rfl | (simp only [List.length_drop,List.length_take];rfl)) ?_;(with_reducible refine (Z3.calls kj6 _ _ l0 a1 (wrap64 (a2 - 1)) t325 _ ?side1 ?side2 A17.out).mono ?_);(case side1 => repeat (first | exact (Kd.ZK HR0.out HB.out) | (with_reducible refine Kd.Z8 ?_ _) | (with_reducible refine Kd.ZB ?_ _) | (with_reducible refine Kd.ZI ?_)));(case side2 => exact HC0.out);rintro e w' ⟨rfl,⟨nd,rfl⟩⟩;refine ⟨_,rfl,?_⟩))
          go_meet
          case rel => exact ⟨_,(wrap64 (t325 + 1)),(by first | rfl | (simp;done) | (simp [*];done)),H',⟨by have := HJ6.out;first | omega | exact Nat.le_refl _⟩,⟨by repeat (first | (with_reducible first | exact HB.out | apply Zc | apply Za | apply Zb) | exact HB.out)⟩⟩
        · rw [if_neg c16] at H
          have c16b0 : decide (a1 < a2) = false := decide_eq_false c16;clear c16
          (first | rw [c16b0] | (simp only [i64_w,i32_w];rw [c16b0]) | skip)
          have H' := Zd.mk H;clear H
          go_wp2
          go_meet
          case rel => exact ⟨_,(0),(by first | rfl | (simp;done) | (simp [*];done)),H',⟨by have := HJ6.out;first | omega | exact Nat.le_refl _⟩,⟨by repeat (first | (with_reducible first | exact HB.out | apply Zc | apply Za | apply Zb) | exact HB.out)⟩⟩
       case rest =>
        clear HC15
        (try clear c1); (try clear p2); (try clear c3); (try clear c5); (try clear c6); (try clear p6); (try clear c10); (try clear c11); (try clear c11b0); (try clear c12); (try clear c12b0); (try clear c13); (try clear c13b0); (try clear c14); (try clear c16); (try clear c16b0); (try clear p2)
        obtain ⟨kq,x11_14,rfl,HA,HJ14,HB⟩ := hcut
        cases kq with
        | zero => exact absurd HA.out (by simp [Zo.j1])
        | succ kj14 =>
         have H := HA.out;clear HA;simp only [Zo.j1] at H;have H' := Zd.mk H;clear H
         go_wp2
         go_loopg [11,12,13] kj14 (fun kq v11 v12 v13 w' => ∃ (x11_3 : Int) (x12_3 : List Int) (x13_3 : List Int),v11 = .int .i64 x11_3 ∧ Zd (Zo.l0 kq l0 a1 a2 a3 x11_3 x12_3 x13_3 = some (r1,r2,r3)) ∧ Zd (kq ≤ kj14) ∧ Zd (Kd.R (Kd.int .i64) 3 w' w.heap.size (fun k_ => some k_ ≠ (v13 : Value).ownBlock) v12 x12_3) ∧ Zd (Kd.R (Kd.int .i64) 3 w' w.heap.size (fun k_ => some k_ ≠ (v12 : Value).ownBlock) v13 x13_3) ∧ Zd (Below w.heap.size w w'))
         case atStart => exact ⟨(x11_14),(([] : List Int)),(([] : List Int)),(by first | rfl | (simp;done) | (simp [*];done)),H',⟨Nat.le_refl _⟩,⟨by first | exact Kd.R_nil _ _ _ _ _ | exact Kd.N_nil _ _ _ _ _ | exact Kd.V_nil _ _ _ _ _ | exact Kd.Q_nil _ _ _ _ _ | exact Kd.S_nil _ _ _ _ _⟩,⟨by first | exact Kd.R_nil _ _ _ _ _ | exact Kd.N_nil _ _ _ _ _ | exact Kd.V_nil _ _ _ _ _ | exact Kd.Q_nil _ _ _ _ _ | exact Kd.S_nil _ _ _ _ _⟩,⟨by repeat (first | (with_reducible first | exact HB.out | apply Zc | apply Za | apply Zb) | exact HB.out)⟩⟩
         case round =>
          clear H'
          (try clear c1); (try clear p2); (try clear c3); (try clear c5); (try clear c6); (try clear p6); (try clear c10); (try clear c11); (try clear c11b0); (try clear c12); (try clear c12b0); (try clear c13); (try clear c13b0); (try clear c14); (try clear c16); (try clear c16b0); (try clear p2); (try clear p6)
          obtain ⟨x11_3,x12_3,x13_3,rfl,HA,HK3,HO_12,HO_13,HB⟩ := hrel
          cases gk with
          | zero => exact absurd HA.out (by simp [Zo.l0])
          | succ k3 =>
           have H := HA.out;clear HA;simp only [Zo.l0] at H
           by_cases c18 : x11_3 ≤ 1000000000
           · rw [if_pos c18] at H
             have c18b0 : decide (x11_3 ≤ 1000000000) = true := decide_eq_true c18;clear c18;replace H := Option.bind_eq_some_iff.mp H;obtain ⟨t326,A190,H⟩ := H;replace H : (if t326 ≥ (wrap64 (a2 + a3)) then (Zo.j3 k3 l0 a1 a2 a3 x11_3 x12_3 x13_3 t326 true) else (Zo.j3 k3 l0 a1 a2 a3 x11_3 x12_3 x13_3 t326 (decide (t326 > 1000000000)))) = some (r1,r2,r3) := H;have A19 := Zd.mk A190;clear A190;have HC20 := Zd.mk H;clear H
             go_upto_region 12 with (first | ((with_reducible refine Z2 (f := 53) rfl ?_);refine ZP (some 54) rfl rfl Try.func53 (by kernel_rfl) rfl #[.slice A0 l0.length c0,.int .i64 a1,.int .i64 x11_3] rfl (by (try simp only [List.map_toArray,List.map_cons,List.map_nil]);first | done | rfl | (simp only [List.length_drop,List.length_take];rfl)) ?_;(with_reducible refine (Z4.calls k3 _ _ l0 a1 x11_3 t326 _ ?side1 ?side2 A19.out).mono ?_);(case side1 => repeat (first | exact (Kd.ZK HR0.out HB.out) | (with_reducible refine Kd.Z8 ?_ _) | (with_reducible refine Kd.ZB ?_ _) | (with_reducible refine Kd.ZI ?_)));(case side2 => exact HC0.out);rintro e w' ⟨rfl,⟨nd,rfl⟩⟩;refine ⟨_,rfl,?_⟩))
             (try simp only [Act.put,YV,YW,YX])
             go_cut [63] (fun v63 wc => ∃ (kq : Nat) (x63_19 : Bool),v63 = .bool x63_19 ∧ Zd (Zo.j3 kq l0 a1 a2 a3 x11_3 x12_3 x13_3 t326 x63_19 = some (r1,r2,r3)) ∧ Zd (kq ≤ k3) ∧ Zd (Kd.R (Kd.int .i64) 3 wc w.heap.size (fun k_ => some k_ ≠ (u13 : Value).ownBlock) u12 x12_3) ∧ Zd (Kd.R (Kd.int .i64) 3 wc w.heap.size (fun k_ => some k_ ≠ (u12 : Value).ownBlock) u13 x13_3) ∧ Zd (Below w.heap.size w wc))
             case first =>
              have H := HC20.out;clear HC20
              by_cases c21 : t326 ≥ (wrap64 (a2 + a3))
              · rw [if_pos c21] at H
                have c21b0 : decide ((wrap64 (a2 + a3)) ≤ t326) = true := decide_eq_true c21;clear c21
                (first | rw [c21b0] | (simp only [i64_w,i32_w];rw [c21b0]) | skip)
                have H' := Zd.mk H;clear H
                go_wp2
                go_meet
                case rel => exact ⟨_,(true),(by first | rfl | (simp;done) | (simp [*];done)),H',⟨by have := HJ6.out;have := HJ14.out;have := HK3.out;first | omega | exact Nat.le_refl _⟩,⟨by (with_reducible repeat (first | apply Kd.ZF | apply Kd.ZG | apply Kd.ZN));exact HO_12.out⟩,⟨by (with_reducible repeat (first | apply Kd.ZF | apply Kd.ZG | apply Kd.ZN));exact HO_13.out⟩,⟨by repeat (first | (with_reducible first | exact HB.out | apply Zc | apply Za | apply Zb) | exact HB.out)⟩⟩
              · rw [if_neg c21] at H
                have c21b0 : decide ((wrap64 (a2 + a3)) ≤ t326) = false := decide_eq_false c21;clear c21
                (first | rw [c21b0] | (simp only [i64_w,i32_w];rw [c21b0]) | skip)
                have H' := Zd.mk H;clear H
                go_wp2
                go_meet
                case rel => exact ⟨_,(decide (t326 > 1000000000)),(by first | rfl | (simp;done) | (simp [*];done)),H',⟨by have := HJ6.out;have := HJ14.out;have := HK3.out;first | omega | exact Nat.le_refl _⟩,⟨by (with_reducible repeat (first | apply Kd.ZF | apply Kd.ZG | apply Kd.ZN));exact HO_12.out⟩,⟨by (with_reducible repeat (first | apply Kd.ZF | apply Kd.ZG | apply Kd.ZN));exact HO_13.out⟩,⟨by repeat (first | (with_reducible first | exact HB.out | apply Zc | apply Za | apply Zb) | exact HB.out)⟩⟩
             case rest =>
              clear HC20
              (try clear c1); (try clear c2); (try clear p2); (try clear c3); (try clear c5); (try clear c6); (try clear p6); (try clear c10); (try clear c11); (try clear c11b0); (try clear c12); (try clear c12b0); (try clear c13); (try clear c13b0); (try clear c14); (try clear c16); (try clear c16b0); (try clear c18); (try clear c18b0); (try clear c21); (try clear c21b0); (try clear p2); (try clear p6)
              obtain ⟨kq,x63_19,rfl,HA,HJ19,HO_12,HO_13,HB⟩ := hcut
              cases kq with
              | zero => exact absurd HA.out (by simp [Zo.j3])
              | succ kj19 =>
               have H := HA.out;clear HA;simp only [Zo.j3] at H
               by_cases c22 : x63_19 = true
               · subst c22
                 have H1 : (some (x12_3,x13_3,0)) = some (r1,r2,r3) := by rw [if_pos rfl] at H;exact H
                 clear H;have H := H1;clear H1;simp only [Option.some.injEq,Prod.mk.injEq] at H;obtain ⟨rfl,rfl,rfl⟩ := H
                 go_wp2
                 go_ret3
                 exact ⟨_,_,by first | rfl | (simp [Zt,Zv] <;> rfl) | (simp [*,Zt,Zv] <;> rfl),by (with_reducible repeat (first | apply Kd.ZF | apply Kd.ZG | apply Kd.ZN));exact HO_12.out,by (with_reducible repeat (first | apply Kd.ZF | apply Kd.ZG | apply Kd.ZN));exact HO_13.out,by repeat (first | (with_reducible first | exact HB.out | apply Zc | apply Za | apply Zb) | exact HB.out)⟩
               · replace c22 := Bool.eq_false_iff.mpr c22
                 subst c22
                 have H1 : (if (x12_3.length : Int) = 4096 then (some (([] : List Int),([] : List Int),4)) else (if x12_3.length < 17592186044416 then (if x13_3.length < 17592186044416 then (Zo.l0 kj19 l0 a1 a2 a3 (wrap64 (x11_3 + 1)) (x12_3 ++ [x11_3]) (x13_3 ++ [wrap64 (t326 - a2)])) else (none)) else (none))) = some (r1,r2,r3) := by rw [if_neg (show ¬ (false = true) by decide)] at H;exact H
                 clear H;have H := H1;clear H1
                 by_cases c23 : (x12_3.length : Int) = 4096
                 · rw [if_pos c23] at H
                   have c23b0 : ((x12_3.length : Int) == 4096) = true := beq_iff_eq.mpr c23;have c23b1 : ((x12_3.length : Int) != 4096) = false := bne_eq_false_iff_eq.mpr c23;clear c23;simp only [Option.some.injEq,Prod.mk.injEq] at H;obtain ⟨rfl,rfl,rfl⟩ := H;obtain ⟨Ao24,co24,eo24⟩ := Kd.Xw HO_12.out;subst eo24
                   go_wp2
                   go_ret3
                   exact ⟨_,_,by first | rfl | (simp [Zt,Zv] <;> rfl) | (simp [*,Zt,Zv] <;> rfl),by first | exact Kd.R_nil _ _ _ _ _ | exact Kd.N_nil _ _ _ _ _ | exact Kd.V_nil _ _ _ _ _ | exact Kd.Q_nil _ _ _ _ _ | exact Kd.S_nil _ _ _ _ _,by first | exact Kd.R_nil _ _ _ _ _ | exact Kd.N_nil _ _ _ _ _ | exact Kd.V_nil _ _ _ _ _ | exact Kd.Q_nil _ _ _ _ _ | exact Kd.S_nil _ _ _ _ _,by repeat (first | (with_reducible first | exact HB.out | apply Zc | apply Za | apply Zb) | exact HB.out)⟩
                 · rw [if_neg c23] at H
                   have c23b0 : ((x12_3.length : Int) == 4096) = false := beq_eq_false_iff_ne.mpr c23;have c23b1 : ((x12_3.length : Int) != 4096) = true := bne_iff_ne.mpr c23
                   by_cases c25 : x12_3.length < 17592186044416
                   · rw [if_pos c25] at H
                     have LMc25 := Zd.mk c25;clear c25
                     obtain ⟨y327,hy327⟩ : ∃ y_ : List Int,y_ = (x12_3 ++ [x11_3]) := ⟨_,rfl⟩
                     replace H : (if x13_3.length < 17592186044416 then (Zo.l0 kj19 l0 a1 a2 a3 (wrap64 (x11_3 + 1)) y327 (x13_3 ++ [wrap64 (t326 - a2)])) else (none)) = some (r1,r2,r3) := by first | (rw [hy327];with_reducible exact H) | (have H2_ := (Option.bind_some _ _).symm.trans H;rw [hy327];with_reducible exact H2_) | (have H2_ := (Option.bind_some _ _).symm.trans H;with_reducible exact H2_) | with_reducible exact H | (rw [hy327];exact H) | exact H
                     have Ny327 := Zd.mk hy327;clear hy327
                     by_cases c26 : x13_3.length < 17592186044416
                     · rw [if_pos c26] at H
                       have LMc26 := Zd.mk c26;clear c26
                       obtain ⟨y330,hy330⟩ : ∃ y_ : List Int,y_ = (x13_3 ++ [wrap64 (t326 - a2)]) := ⟨_,rfl⟩
                       replace H : (Zo.l0 kj19 l0 a1 a2 a3 (wrap64 (x11_3 + 1)) y327 y330) = some (r1,r2,r3) := by first | (rw [hy330];with_reducible exact H) | (have H2_ := (Option.bind_some _ _).symm.trans H;rw [hy330];with_reducible exact H2_) | (have H2_ := (Option.bind_some _ _).symm.trans H;with_reducible exact H2_) | with_reducible exact H | (rw [hy330];exact H) | exact H
                       have Ny330 := Zd.mk hy330;clear hy330;have H' := Zd.mk H;clear H;obtain ⟨Ao27,co27,eo27⟩ := Kd.Xw HO_12.out;subst eo27
                       go_wp2_with (first | ((with_reducible refine X8 (b := .append) (xs := #[.tmp 67,.tmp 69]) rfl ?_);at_builtin;refine Kd.XG (Kd.int .i64) (w0 := w) w.heap.size rfl (.tmp 67) (.tmp 69) 46 3 (.int .i64 0) 8 rfl Try.underlying46 info3 rfl (by decide) (by omega) (.slice Ao27 x12_3.length co27) x12_3 x11_3 [.int .i64 x11_3] (fun k_ => some k_ ≠ (u13 : Value).ownBlock) (fun _ => False) rfl rfl ?aP (fun _ hk => hk.elim) ?aF ?aO ?aB ?aS ?aL ?_;(case aP => exact rfl);(case aB => exact (by repeat (first | (with_reducible first | exact HB.out | apply Zc | apply Za | apply Zb) | exact HB.out)));(case aF => exact (fun k_ hk => Kd.fresh' (Kd.R_lt (by (with_reducible repeat (first | apply Kd.ZF | apply Kd.ZG | apply Kd.ZN));exact HO_13.out)) k_ hk));(case aO => exact (by (with_reducible repeat (first | apply Kd.ZF | apply Kd.ZG | apply Kd.ZN));exact HO_12.out));(case aS => exact (ZJ (by repeat (first | (with_reducible first | exact HB.out | apply Zc | apply Za | apply Zb) | exact HB.out))));(case aL => have := LMc25.out;omega);intro v328 w28 ho hb hg hat;rw [← Ny327.out] at ho;have n0_ := Zd.mk (Kd.QN (ok := (fun _ => True)) (by (with_reducible repeat (first | apply Kd.ZF | apply Kd.ZG | apply Kd.ZN));exact Kd.X1 HO_13.out (fun _ hk => ⟨trivial,hk⟩)) hg hat);have n1_ := Zd.mk (hb);have n2_ := Zd.mk (ho);clear HO_13;clear HB;clear HO_12;have HO_13 := n0_;have HB := n1_;have HO329 := n2_;clear n0_ n1_ n2_;clear ho hb hg hat) | ((with_reducible refine X8 (b := .append) (xs := #[.tmp 71,.tmp 75]) rfl ?_);at_builtin;refine Kd.XG (Kd.int .i64) (w0 := w) w.heap.size rfl (.tmp 71) (.tmp 75) 46 3 (.int .i64 0) 8 rfl Try.underlying46 info3 rfl (by decide) (by omega) u13 x13_3 (wrap64 (t326 - a2)) [.int .i64 (wrap64 (t326 - a2))] (fun k_ => some k_ ≠ (v328 : Value).ownBlock) (fun _ => False) rfl rfl ?aP (fun _ hk => hk.elim) ?aF ?aO ?aB ?aS ?aL ?_;(case aP => exact rfl);(case aB => exact (by repeat (first | (with_reducible first | exact HB.out | apply Zc | apply Za | apply Zb) | exact HB.out)));(case aF => exact (fun k_ hk => Kd.fresh' (Kd.R_lt (by (with_reducible repeat (first | apply Kd.ZF | apply Kd.ZG | apply Kd.ZN));exact HO329.out)) k_ hk));(case aO => exact (by (with_reducible repeat (first | apply Kd.ZF | apply Kd.ZG | apply Kd.ZN));exact Kd.X1 HO_13.out (fun _ hk => hk.2)));(case aS => exact (ZJ (by repeat (first | (with_reducible first | exact HB.out | apply Zc | apply Za | apply Zb) | exact HB.out))));(case aL => have := LMc26.out;omega);intro v331 w29 ho hb hg hat;rw [← Ny330.out] at ho;have n0_ := Zd.mk (Kd.QN (ok := (fun _ => True)) (by (with_reducible repeat (first | apply Kd.ZF | apply Kd.ZG | apply Kd.ZN));exact Kd.X1 HO329.out (fun _ hk => ⟨trivial,hk⟩)) hg hat);have n1_ := Zd.mk (hb);have n2_ := Zd.mk (ho);clear HO329;clear HB;clear HO_13;have HO329 := n0_;have HB := n1_;have HO332 := n2_;clear n0_ n1_ n2_;clear ho hb hg hat))
                       go_roundg kj19
                       case measure => have := HJ6.out;have := HJ14.out;have := HK3.out;have := HJ19.out;omega
                       case rel => exact ⟨(wrap64 (x11_3 + 1)),(y327),(y330),(by first | rfl | (simp;done) | (simp [*];done)),H',⟨by have := HJ6.out;have := HJ14.out;have := HK3.out;have := HJ19.out;omega⟩,⟨by (with_reducible repeat (first | apply Kd.ZF | apply Kd.ZG | apply Kd.ZN));exact Kd.X1 HO329.out (fun _ hk => hk.2)⟩,⟨by (with_reducible repeat (first | apply Kd.ZF | apply Kd.ZG | apply Kd.ZN));exact HO332.out⟩,⟨by repeat (first | (with_reducible first | exact HB.out | apply Zc | apply Za | apply Zb) | exact HB.out)⟩⟩
                     · rw [if_neg c26] at H
                       exact absurd H (by simp)
                   · rw [if_neg c25] at H
                     exact absurd H (by simp)
           · rw [if_neg c18] at H
             have c18b0 : decide (x11_3 ≤ 1000000000) = false := decide_eq_false c18;clear c18;simp only [Option.some.injEq,Prod.mk.injEq] at H;obtain ⟨rfl,rfl,rfl⟩ := H
             go_wp2
             go_ret3
             exact ⟨_,_,by first | rfl | (simp [Zt,Zv] <;> rfl) | (simp [*,Zt,Zv] <;> rfl),by (with_reducible repeat (first | apply Kd.ZF | apply Kd.ZG | apply Kd.ZN));exact HO_12.out,by (with_reducible repeat (first | apply Kd.ZF | apply Kd.ZG | apply Kd.ZN));exact HO_13.out,by repeat (first | (with_reducible first | exact HB.out | apply Zc | apply Za | apply Zb) | exact HB.out)⟩
 · replace c6 := Bool.eq_false_iff.mpr c6
   subst c6
   have H1 : (some (([] : List Int),([] : List Int),1)) = some (r1,r2,r3) := by rw [if_neg (show ¬ (false = true) by decide)] at H;exact H
   clear H;have H := H1;clear H1;simp only [Option.some.injEq,Prod.mk.injEq] at H;obtain ⟨rfl,rfl,rfl⟩ := H
   go_enter Try.func30,Try.ntmps30
   go_wp2_with (first | ((with_reducible refine Z2 (f := 11) rfl ?_);refine ZP (some 16) rfl rfl Try.func11 (by kernel_rfl) rfl #[.slice A0 l0.length c0] rfl (by (try simp only [List.map_toArray,List.map_cons,List.map_nil]);first | done | rfl | (simp only [List.length_drop,List.length_take];rfl)) ?_;(with_reducible refine (Zi.calls k _ _ l0 false _ ?side1 ?side2 A5.out).mono ?_);(case side1 => repeat (first | exact HR0.out | (with_reducible refine Kd.Z8 ?_ _) | (with_reducible refine Kd.ZB ?_ _) | (with_reducible refine Kd.ZI ?_)));(case side2 => exact HC0.out);rintro e w30 ⟨rfl,hb⟩;refine ⟨_,rfl,?_⟩;have n0_ := Zd.mk (Z0 (by repeat (first | (with_reducible first | exact HB.out | apply Zc | apply Za | apply Zb) | exact HB.out)) hb);clear HB;have HB := n0_;clear n0_;(try clear hb);(try clear hb2);(try clear hk);(try clear hi)))
   go_ret3
   exact ⟨_,_,by first | rfl | (simp [Zt,Zv] <;> rfl) | (simp [*,Zt,Zv] <;> rfl),by first | exact Kd.R_nil _ _ _ _ _ | exact Kd.N_nil _ _ _ _ _ | exact Kd.V_nil _ _ _ _ _ | exact Kd.Q_nil _ _ _ _ _ | exact Kd.S_nil _ _ _ _ _,by first | exact Kd.R_nil _ _ _ _ _ | exact Kd.N_nil _ _ _ _ _ | exact Kd.V_nil _ _ _ _ _ | exact Kd.Q_nil _ _ _ _ _ | exact Kd.S_nil _ _ _ _ _,by repeat (first | (with_reducible first | exact HB.out | apply Zc | apply Za | apply Zb) | exact HB.out)⟩
end Go.Proofs.Ytomlfbmfdoallaa.PA

namespace Go.Proofs.Ytomlfbmfdoallaa.Pure
open Go.RowKit Go.Proofs.Ytomlfbmfdoallaa.PA Go.Proofs.YtomlfbmfdoallaaW.PrintWords Go.Proofs.YtomlfbmfdoallaaW.PrintLast
set_option linter.unusedVariables false
set_option linter.unusedSimpArgs false
theorem refvalue_loop (l : List S56) (hc : curveFromB l = true) (hl : l.length ≤ 200) (x : Int) (hx1 : x ≤ 1000000000) : ∀ (d k i : Nat),l.length - i = d + 1 → d + 3 < k → (∀ h : i < l.length,l[i].f0 ≤ x) → curveFromB (l.drop i) = true →
 Zp.l0 k l x (i : Int) = some (vfrom (l.drop i) x) := by
 intro d
 induction d with
 | zero =>
  intro k i hd hk hx hcd
  obtain ⟨k,rfl⟩ : ∃ m,k = m + 1 + 1 + 1 := ⟨k - 3,by omega⟩
  have hi : i < l.length := by omega
  have hw : wrap64 ((i : Int) + 1) = ((i + 1 : Nat) : Int) := by rw [w64 (by omega) (by omega)];omega
  have hw2 : wrap64 ((l.length : Int) - 1) = (i : Int) := by rw [w64 (by omega) (by omega)];omega
  rw [Zp.l0.eq_2,hw,if_neg (by omega),Zp.j1.eq_2,hw2,if_pos rfl,Zp.j2.eq_2,if_pos rfl,if_pos (by omega),if_pos (by omega),rd56 l i hi];rw [List.drop_eq_getElem_cons hi,List.drop_eq_nil_of_le (by omega)];rfl
 | succ d ih =>
  intro k i hd hk hx hcd
  obtain ⟨k,rfl⟩ : ∃ m,k = m + 1 + 1 + 1 := ⟨k - 3,by omega⟩
  have hi : i < l.length := by omega
  have hi2 : i + 1 < l.length := by omega
  have hx := hx hi
  have hw : wrap64 ((i : Int) + 1) = ((i + 1 : Nat) : Int) := by rw [w64 (by omega) (by omega)];omega
  have hcd' := hcd;rw [List.drop_eq_getElem_cons hi,List.drop_eq_getElem_cons hi2] at hcd';obtain ⟨g1,g2,g3,g4⟩ := XL hcd';have o1 := (Qr _).1 g1;have o2 := (Qr _).1 (XU g4);rw [← List.drop_eq_getElem_cons hi2] at g4;rw [Zp.l0.eq_2,hw,if_pos (by omega),if_pos (by omega),rd56 l (i + 1) hi2]
  by_cases hcmp : l[i + 1].f0 ≤ x
  · rw [if_pos hcmp,ih (k + 1 + 1) (i + 1) (by omega) (by omega) (fun _ => hcmp) g4]
    conv => rhs;rw [List.drop_eq_getElem_cons hi,List.drop_eq_getElem_cons hi2]
    rw [List.drop_eq_getElem_cons hi2];simp [vfrom,hcmp]
  · have hw2 : wrap64 ((l.length : Int) - 1) = (l.length : Int) - 1 := w64 (by omega) (by omega)
    rw [if_neg hcmp,Zp.j1.eq_2,hw2,if_neg (by omega),if_pos (by omega),if_pos (by omega),rd56 l i hi,Zp.j2.eq_2]
    conv => rhs;rw [List.drop_eq_getElem_cons hi,List.drop_eq_getElem_cons hi2]
    simp only [vfrom,if_neg hcmp]
    have hseg : Seg l[i] l[i + 1] x := ⟨o1.1,hx,by omega,o2.2.1,o1.2.2.1,o1.2.2.2.1,o2.2.2.1,o2.2.2.2.1,o1.2.2.2.2.1,o1.2.2.2.2.2,g3⟩
    have hsb := Yl hseg
    by_cases h0 : l[i].f2 = 0
    · rw [if_pos (by simp [h0]),if_pos (by omega),if_pos (by omega),rd56 l i hi]
      simp [shp,h0]
    · rw [if_neg (by simp [h0]),if_pos (by omega),if_pos (by omega),hw,if_pos (by omega),if_pos (by omega),rd56 l i hi,rd56 l (i + 1) hi2]
      rw [w64 (x := l[i + 1].f1 - l[i].f1) (by omega) (by omega),w64 (x := x - l[i].f0) (by omega) (by omega),w64 (x := l[i + 1].f0 - l[i].f0) (by omega) (by omega)];unfold shp at hsb ⊢;rw [if_neg h0] at hsb ⊢
      by_cases h1 : l[i].f2 = 1
      · rw [if_pos h1] at hsb ⊢
        rw [if_pos h1];have x1 := Int.mul_le_mul_of_nonneg_right (show l[i + 1].f1 - l[i].f1 ≤ 16777214 by omega) (show 0 ≤ x - l[i].f0 by omega);have x2 := Int.mul_le_mul_of_nonneg_right (show -16777214 ≤ l[i + 1].f1 - l[i].f1 by omega) (show 0 ≤ x - l[i].f0 by omega);rw [w64 (x := (l[i + 1].f1 - l[i].f1) * (x - l[i].f0)) (by omega) (by omega),Qt _ _ (by omega) (by omega) (by omega) (by omega)];simp only [Option.bind_some];rw [w64 (by omega) (by omega)]
      · rw [if_neg h1] at hsb ⊢
        rw [if_neg h1];obtain ⟨e1,e2,e3,e4,e5,e6⟩ := Ql (l[i + 1].f1 - l[i].f1) (x - l[i].f0) (l[i + 1].f0 - l[i].f0) (by omega) (by omega) (g3 (by omega)) (by omega) (by omega);rw [e1,e2,Qt _ _ (by omega) (by omega) (by omega) (by omega)];simp only [Option.bind_some];rw [w64 (by omega) (by omega)]
theorem QL (l : List S56) (hc : curveB l = true) (x : Int) (hx1 : x ≤ 1000000000) (k : Nat) (hk : 210 ≤ k) : Zp.f k l x = some (valAt l x) := by
 simp only [curveB,Bool.and_eq_true,decide_eq_true_eq] at hc;obtain ⟨⟨n1,n2⟩,hcv⟩ := hc;unfold Zp.f valAt;rw [if_pos (by omega)]
 by_cases hlt : x < (Ze l 0).f0
 · rw [if_pos hlt,if_pos hlt]
 · rw [if_neg hlt,if_neg hlt]
   have := refvalue_loop l hcv (by omega) x hx1 (l.length - 1) k 0 (by omega) (by omega) (fun h => by have := rd56 l 0 h;rw [show ((0 : Nat) : Int) = 0 from rfl] at this;rw [← this];omega) (by simpa using hcv);rw [List.drop_zero] at this;exact this
section
variable {l : List S27} (hok : MapOk l) {s fm e : Int} (hs0 : 0 ≤ s) (hs1 : s ≤ 1000000000) (hf0 : 0 ≤ fm) (hf1 : fm ≤ 1000000000)
include hok hs0 hs1 hf0 hf1
end
end Go.Proofs.Ytomlfbmfdoallaa.Pure

namespace Go.Proofs.Ytomlfbmfdoallaa.PA
open Go.RowKit Go.Proofs.YtomlfbmfdoallaaW.PrintWords Go.Proofs.YtomlfbmfdoallaaW.PrintLast Go.Proofs.YtomlfbmfdoallaaW.PrintMore
attribute [local go_sem] Xf Xe Xj Xk ZV ZU Xd Xc
set_option linter.unusedVariables false
set_option linter.unusedSimpArgs false
mutual
def ZQ.j0 : Nat → List (S56) → List (S27) → Int → Int → Int → Bool → Option (List Int × Int)
 | 0,_,_,_,_,_,_ => none
 | k + 1,x0,x1,x2,x3,x4,x40 => if x40 = true then (some (([] : List Int),7)) else (ZQ.l0 k x0 x1 x2 x3 ([] : List Int) x4 0)
def ZQ.l0 : Nat → List (S56) → List (S27) → Int → Int → List Int → Int → Int → Option (List Int × Int)
 | 0,_,_,_,_,_,_,_ => none
 | k + 1,x0,x1,x2,x3,x13,x41,x42 => if x42 < x41 then ((X4.f x1 x2 (wrap64 (x3 + x42))).bind fun t349 => ((Xt.f x0 t349).bind fun t350 => (if x13.length < 17592186044416 then (ZQ.l0 k x0 x1 x2 x3 (x13 ++ [t350]) x41 (wrap64 (x42 + 1))) else (none)))) else (some (x13,0))
end
def ZQ.f (k : Nat) (l0 : List (S56)) (l1 : List (S27)) (a2 : Int) (a3 : Int) (a4 : Int) : Option (List Int × Int) := (Zk.f k l0).bind fun t343 => (if t343 = true then ((ZO.f k l1 (([a2,a3] : List Int))).bind fun t347 => (if t347 = 0 then (if a3 < a2 then (ZQ.j0 k l0 l1 a2 a3 a4 true) else ((Z1.f a4 0 4096).bind fun t348 => (if t348 = true then (ZQ.j0 k l0 l1 a2 a3 a4 (decide ((wrap64 ((wrap64 (a3 + a4)) - 1)) > 1000000000))) else (ZQ.j0 k l0 l1 a2 a3 a4 true)))) else (some (([] : List Int),t347)))) else (some (([] : List Int),1)))
theorem ZQ.Xm : ∀ k,(∀ y0 y1 y2 y3 y4 y5,LeO (ZQ.j0 k y0 y1 y2 y3 y4 y5) (ZQ.j0 (k + 1) y0 y1 y2 y3 y4 y5)) ∧ (∀ y0 y1 y2 y3 y4 y5 y6,LeO (ZQ.l0 k y0 y1 y2 y3 y4 y5 y6) (ZQ.l0 (k + 1) y0 y1 y2 y3 y4 y5 y6))
 | 0 => ⟨fun _ _ _ _ _ _ r h => by simp [ZQ.j0] at h,fun _ _ _ _ _ _ _ r h => by simp [ZQ.l0] at h⟩
 | k + 1 => by
  obtain ⟨ih0,ih1⟩ := ZQ.Xm k;refine ⟨?_,?_⟩
  · intro y0 y1 y2 y3 y4 y5
    unfold ZQ.j0
    repeat' first
    | (with_reducible exact ih0 _ _ _ _ _ _)
    | (with_reducible exact ih1 _ _ _ _ _ _ _)
    | (with_reducible exact Zk.mono _ _)
    | (with_reducible exact ZO.mono _ _ _)
    | (with_reducible exact LeO.refl _)
    | (with_reducible exact LeO.none _)
    | (with_reducible refine LeO.ite ?_ ?_)
    | (with_reducible refine LeO.bind ?_ (fun _ => ?_))
    | exact ih0 _ _ _ _ _ _
    | exact ih1 _ _ _ _ _ _ _
    | exact Zk.mono _ _
    | exact ZO.mono _ _ _
    | exact LeO.none _
    | refine LeO.ite ?_ ?_
    | refine LeO.bind ?_ (fun _ => ?_)
  · intro y0 y1 y2 y3 y4 y5 y6
    unfold ZQ.l0
    repeat' first
    | (with_reducible exact ih0 _ _ _ _ _ _)
    | (with_reducible exact ih1 _ _ _ _ _ _ _)
    | (with_reducible exact Zk.mono _ _)
    | (with_reducible exact ZO.mono _ _ _)
    | (with_reducible exact LeO.refl _)
    | (with_reducible exact LeO.none _)
    | (with_reducible refine LeO.ite ?_ ?_)
    | (with_reducible refine LeO.bind ?_ (fun _ => ?_))
    | exact ih0 _ _ _ _ _ _
    | exact ih1 _ _ _ _ _ _ _
    | exact Zk.mono _ _
    | exact ZO.mono _ _ _
    | exact LeO.none _
    | refine LeO.ite ?_ ?_
    | refine LeO.bind ?_ (fun _ => ?_)
theorem ZQ.mono : ∀ a0 a1 a2 a3 a4 k,LeO (ZQ.f k a0 a1 a2 a3 a4) (ZQ.f (k + 1) a0 a1 a2 a3 a4) := by
 intro a0 a1 a2 a3 a4 k;obtain ⟨ih0,ih1⟩ := ZQ.Xm k;unfold ZQ.f
 repeat' first
  | (with_reducible exact ih0 _ _ _ _ _ _)
  | (with_reducible exact ih1 _ _ _ _ _ _ _)
  | (with_reducible exact Zk.mono _ _)
  | (with_reducible exact ZO.mono _ _ _)
  | (with_reducible exact LeO.refl _)
  | (with_reducible exact LeO.none _)
  | (with_reducible refine LeO.ite ?_ ?_)
  | (with_reducible refine LeO.bind ?_ (fun _ => ?_))
  | exact ih0 _ _ _ _ _ _
  | exact ih1 _ _ _ _ _ _ _
  | exact Zk.mono _ _
  | exact ZO.mono _ _ _
  | exact LeO.none _
  | refine LeO.ite ?_ ?_
  | refine LeO.bind ?_ (fun _ => ?_)
set_option maxHeartbeats 8000000 in
set_option maxRecDepth 100000 in
theorem ZQ.calls (k : Nat) (A0 : Option Addr) (c0 : Nat) (l0 : List (S56)) (A1 : Option Addr) (c1 : Nat) (l1 : List (S27)) (a2 : Int) (a3 : Int) (a4 : Int) (r1 : List Int) (r2 : Int) (w : World) (hr0 : Kd.C k56 w A0 l0.length l0) (hc0 : l0.length ≤ c0) (hr1 : Kd.C k27 w A1 l1.length l1) (hc1 : l1.length ≤ c1) (h : ZQ.f k l0 l1 a2 a3 a4 = some (r1,r2)) :
 Calls Try.prog 32 #[.slice A0 l0.length c0,.slice A1 l1.length c1,.int .i64 a2,.int .i64 a3,.int .i64 a4] w fun e w' => ∃ v0_ : Value,e = .returned (.tuple #[v0_,.int .i64 r2]) ∧ Kd.R (Kd.int .i64) 3 w' w.heap.size (fun _ => True) v0_ r1 ∧ Below w.heap.size w w' := by
 have HR0 := Zd.mk hr0;have HC0 := Zd.mk hc0;clear hr0 hc0;have HR1 := Zd.mk hr1;have HC1 := Zd.mk hc1;clear hr1 hc1;have HB := Zd.mk (Below.refl w.heap.size w);have H : ((Zk.f k l0).bind fun t343 => (if t343 = true then ((ZO.f k l1 (([a2,a3] : List Int))).bind fun t347 => (if t347 = 0 then (if a3 < a2 then (ZQ.j0 k l0 l1 a2 a3 a4 true) else ((Z1.f a4 0 4096).bind fun t348 => (if t348 = true then (ZQ.j0 k l0 l1 a2 a3 a4 (decide ((wrap64 ((wrap64 (a3 + a4)) - 1)) > 1000000000))) else (ZQ.j0 k l0 l1 a2 a3 a4 true)))) else (some (([] : List Int),t347)))) else (some (([] : List Int),1)))) = some (r1,r2) := h;clear h;replace H := Option.bind_eq_some_iff.mp H;obtain ⟨t343,A60,H⟩ := H;replace H : (if t343 = true then ((ZO.f k l1 (([a2,a3] : List Int))).bind fun t347 => (if t347 = 0 then (if a3 < a2 then (ZQ.j0 k l0 l1 a2 a3 a4 true) else ((Z1.f a4 0 4096).bind fun t348 => (if t348 = true then (ZQ.j0 k l0 l1 a2 a3 a4 (decide ((wrap64 ((wrap64 (a3 + a4)) - 1)) > 1000000000))) else (ZQ.j0 k l0 l1 a2 a3 a4 true)))) else (some (([] : List Int),t347)))) else (some (([] : List Int),1))) = some (r1,r2) := H;have A6 := Zd.mk A60;clear A60
 by_cases c7 : t343 = true
 · subst c7
   have H1 : ((ZO.f k l1 (([a2,a3] : List Int))).bind fun t347 => (if t347 = 0 then (if a3 < a2 then (ZQ.j0 k l0 l1 a2 a3 a4 true) else ((Z1.f a4 0 4096).bind fun t348 => (if t348 = true then (ZQ.j0 k l0 l1 a2 a3 a4 (decide ((wrap64 ((wrap64 (a3 + a4)) - 1)) > 1000000000))) else (ZQ.j0 k l0 l1 a2 a3 a4 true)))) else (some (([] : List Int),t347)))) = some (r1,r2) := by rw [if_pos rfl] at H;exact H
   clear H;have H := H1;clear H1
   obtain ⟨y344,hy344⟩ : ∃ y_ : List Int,y_ = (([a2,a3] : List Int)) := ⟨_,rfl⟩
   replace H : ((ZO.f k l1 y344).bind fun t347 => (if t347 = 0 then (if a3 < a2 then (ZQ.j0 k l0 l1 a2 a3 a4 true) else ((Z1.f a4 0 4096).bind fun t348 => (if t348 = true then (ZQ.j0 k l0 l1 a2 a3 a4 (decide ((wrap64 ((wrap64 (a3 + a4)) - 1)) > 1000000000))) else (ZQ.j0 k l0 l1 a2 a3 a4 true)))) else (some (([] : List Int),t347)))) = some (r1,r2) := by first | (rw [hy344];with_reducible exact H) | (have H2_ := (Option.bind_some _ _).symm.trans H;rw [hy344];with_reducible exact H2_) | (have H2_ := (Option.bind_some _ _).symm.trans H;with_reducible exact H2_) | with_reducible exact H | (rw [hy344];exact H) | exact H
   have Ny344 := Zd.mk hy344;clear hy344;replace H := Option.bind_eq_some_iff.mp H;obtain ⟨t347,A80,H⟩ := H;replace H : (if t347 = 0 then (if a3 < a2 then (ZQ.j0 k l0 l1 a2 a3 a4 true) else ((Z1.f a4 0 4096).bind fun t348 => (if t348 = true then (ZQ.j0 k l0 l1 a2 a3 a4 (decide ((wrap64 ((wrap64 (a3 + a4)) - 1)) > 1000000000))) else (ZQ.j0 k l0 l1 a2 a3 a4 true)))) else (some (([] : List Int),t347))) = some (r1,r2) := H;have A8 := Zd.mk A80;clear A80
   by_cases c9 : t347 = 0
   · rw [if_pos c9] at H
     have c9b0 : (t347 == 0) = true := beq_iff_eq.mpr c9;have c9b1 : (t347 != 0) = false := bne_eq_false_iff_eq.mpr c9;clear c9;have HC10 := Zd.mk H;clear H
     go_enter Try.func32,Try.ntmps32
     go_upto_region 6 with (first | ((with_reducible refine Z2 (f := 36) rfl ?_);refine ZP (some 16) rfl rfl Try.func36 (by kernel_rfl) rfl #[.slice A0 l0.length c0] rfl (by (try simp only [List.map_toArray,List.map_cons,List.map_nil]);first | done | rfl | (simp only [List.length_drop,List.length_take];rfl)) ?_;(with_reducible refine (Zk.calls k _ _ l0 true _ ?side1 ?side2 A6.out).mono ?_);(case side1 => repeat (first | exact HR0.out | (with_reducible refine Kd.Z8 ?_ _) | (with_reducible refine Kd.ZB ?_ _) | (with_reducible refine Kd.ZI ?_)));(case side2 => exact HC0.out);rintro e w11 ⟨rfl,hb⟩;refine ⟨_,rfl,?_⟩;have n0_ := Zd.mk (Z0 (by repeat (first | (with_reducible first | exact HB.out | apply Zc | apply Za | apply Zb) | exact HB.out)) hb);clear HB;have HB := n0_;clear n0_;(try clear hb);(try clear hb2);(try clear hk);(try clear hi)) | ((with_reducible refine Xq (N := 21) rfl ?_);refine Kd.R_lit (Kd.int .i64) _ 3 ?hg (N := 21) ?hd (xs := ([a2,a3] : List Int)) (inner := [.int .i64 a2,.int .i64 a3]) (ok := fun _ => True) (okp := fun _ => True) ?hr ?hp (fun _ hk => hk) trivial (Below.refl _ _) (Nat.le_refl _) (by simp) ?_;(case hd => rfl);(case hg => rfl);(case hr => first | (go_simp;done) | (go_simp;rfl));(case hp => exact (Reps.one (show Kd.M (Kd.int .i64) _ _ _ a2 [.int .i64 a2] from rfl) (Reps.one (show Kd.M (Kd.int .i64) _ _ _ a3 [.int .i64 a3] from rfl) (Reps.none _ _))));intro v345 w12 ho13 hb hg_ hnew_;clear hg_ hnew_;(first | rw [← Ny344.out] at ho13 | (simp only [Int.reduceToNat] at ho13;rw [← Ny344.out] at ho13));have n0_ := Zd.mk (Kd.X5 ho13 (ZJ (by repeat (first | (with_reducible first | exact HB.out | apply Zc | apply Za | apply Zb) | exact HB.out))));have n1_ := Zd.mk (Z0 (by repeat (first | (with_reducible first | exact HB.out | apply Zc | apply Za | apply Zb) | exact HB.out)) hb);clear HB;have HO346 := n0_;have HB := n1_;clear n0_ n1_;clear hb ho13;obtain ⟨Ao14,co14,eo14⟩ := Kd.Xw HO346.out;subst eo14) | ((with_reducible refine Z2 (f := 40) rfl ?_);refine ZP (some 22) rfl rfl Try.func40 (by kernel_rfl) rfl #[.slice A1 l1.length c1,.slice Ao14 y344.length co14] rfl (by (try simp only [List.map_toArray,List.map_cons,List.map_nil]);first | done | rfl | (simp only [List.length_drop,List.length_take];rfl)) ?_;(with_reducible refine (ZO.calls k _ _ l1 _ _ y344 t347 _ ?side1 ?side2 ?side3 ?side4 A8.out).mono ?_);(case side1 => repeat (first | exact (Kd.ZK HR1.out HB.out) | (with_reducible refine Kd.Z8 ?_ _) | (with_reducible refine Kd.ZB ?_ _) | (with_reducible refine Kd.ZI ?_)));(case side2 => exact HC1.out);(case side3 => repeat (first | exact (Kd.Xp HO346.out).2.2 | (with_reducible refine Kd.Z8 ?_ _) | (with_reducible refine Kd.ZB ?_ _) | (with_reducible refine Kd.ZI ?_)));(case side4 => exact (Kd.Xp HO346.out).2.1);rintro e w15 ⟨rfl,hb⟩;refine ⟨_,rfl,?_⟩;have n0_ := Zd.mk (Kd.Xn (by (with_reducible repeat (first | apply Kd.ZF | apply Kd.ZG | apply Kd.ZN));exact HO346.out) hb);have n1_ := Zd.mk (Z0 (by repeat (first | (with_reducible first | exact HB.out | apply Zc | apply Za | apply Zb) | exact HB.out)) hb);clear HO346;clear HB;have HO346 := n0_;have HB := n1_;clear n0_ n1_;(try clear hb);(try clear hb2);(try clear hk);(try clear hi)))
     (try simp only [Act.put,YV,YW,YX])
     go_cut [40] (fun v40 wc => ∃ (kq : Nat) (x40_9 : Bool),v40 = .bool x40_9 ∧ Zd (ZQ.j0 kq l0 l1 a2 a3 a4 x40_9 = some (r1,r2)) ∧ Zd (kq ≤ k) ∧ Zd (Below w.heap.size w wc))
     case first =>
      have H := HC10.out;clear HC10
      by_cases c16 : a3 < a2
      · rw [if_pos c16] at H
        have c16b0 : decide (a3 < a2) = true := decide_eq_true c16;clear c16
        (first | rw [c16b0] | (simp only [i64_w,i32_w];rw [c16b0]) | skip)
        have H' := Zd.mk H;clear H
        go_wp2
        go_meet
        case rel => exact ⟨_,(true),(by first | rfl | (simp;done) | (simp [*];done)),H',⟨by first | omega | exact Nat.le_refl _⟩,⟨by repeat (first | (with_reducible first | exact HB.out | apply Zc | apply Za | apply Zb) | exact HB.out)⟩⟩
      · rw [if_neg c16] at H
        have c16b0 : decide (a3 < a2) = false := decide_eq_false c16;clear c16
        (first | rw [c16b0] | (simp only [i64_w,i32_w];rw [c16b0]) | skip)
        replace H := Option.bind_eq_some_iff.mp H;obtain ⟨t348,A170,H⟩ := H;replace H : (if t348 = true then (ZQ.j0 k l0 l1 a2 a3 a4 (decide ((wrap64 ((wrap64 (a3 + a4)) - 1)) > 1000000000))) else (ZQ.j0 k l0 l1 a2 a3 a4 true)) = some (r1,r2) := H;have A17 := Zd.mk A170;clear A170
        by_cases c18 : t348 = true
        · subst c18
          have H1 : (ZQ.j0 k l0 l1 a2 a3 a4 (decide ((wrap64 ((wrap64 (a3 + a4)) - 1)) > 1000000000))) = some (r1,r2) := by rw [if_pos rfl] at H;exact H
          clear H;have H := H1;clear H1;have H' := Zd.mk H;clear H
          go_wp2_with (first | (go_at_call 43;(with_reducible refine (Z1.calls a4 0 4096 true _ A17.out).mono ?_);rintro e w' ⟨rfl,⟨nd,rfl⟩⟩))
          go_meet
          case rel => exact ⟨_,(decide ((wrap64 ((wrap64 (a3 + a4)) - 1)) > 1000000000)),(by first | rfl | (simp;done) | (simp [*];done)),H',⟨by first | omega | exact Nat.le_refl _⟩,⟨by repeat (first | (with_reducible first | exact HB.out | apply Zc | apply Za | apply Zb) | exact HB.out)⟩⟩
        · replace c18 := Bool.eq_false_iff.mpr c18
          subst c18
          have H1 : (ZQ.j0 k l0 l1 a2 a3 a4 true) = some (r1,r2) := by rw [if_neg (show ¬ (false = true) by decide)] at H;exact H
          clear H;have H := H1;clear H1;have H' := Zd.mk H;clear H
          go_wp2_with (first | (go_at_call 43;(with_reducible refine (Z1.calls a4 0 4096 false _ A17.out).mono ?_);rintro e w' ⟨rfl,⟨nd,rfl⟩⟩))
          go_meet
          case rel => exact ⟨_,(true),(by first | rfl | (simp;done) | (simp [*];done)),H',⟨by first | omega | exact Nat.le_refl _⟩,⟨by repeat (first | (with_reducible first | exact HB.out | apply Zc | apply Za | apply Zb) | exact HB.out)⟩⟩
     case rest =>
      clear HC10
      (try clear c1); (try clear p2); (try clear c3); (try clear c4); (try clear p6); (try clear c7); (try clear c9); (try clear c9b0); (try clear c9b1); (try clear c16); (try clear c16b0); (try clear c18)
      obtain ⟨kq,x40_9,rfl,HA,HJ9,HB⟩ := hcut
      cases kq with
      | zero => exact absurd HA.out (by simp [ZQ.j0])
      | succ kj9 =>
       have H := HA.out;clear HA;simp only [ZQ.j0] at H
       by_cases c19 : x40_9 = true
       · subst c19
         have H1 : (some (([] : List Int),7)) = some (r1,r2) := by rw [if_pos rfl] at H;exact H
         clear H;have H := H1;clear H1;simp only [Option.some.injEq,Prod.mk.injEq] at H;obtain ⟨rfl,rfl⟩ := H
         go_wp2
         go_ret2
         exact ⟨_,by first | rfl | (simp [Zt,Zv] <;> rfl) | (simp [*,Zt,Zv] <;> rfl),by first | exact Kd.R_nil _ _ _ _ _ | exact Kd.N_nil _ _ _ _ _ | exact Kd.V_nil _ _ _ _ _ | exact Kd.Q_nil _ _ _ _ _ | exact Kd.S_nil _ _ _ _ _,by repeat (first | (with_reducible first | exact HB.out | apply Zc | apply Za | apply Zb) | exact HB.out)⟩
       · replace c19 := Bool.eq_false_iff.mpr c19
         subst c19
         have H1 : (ZQ.l0 kj9 l0 l1 a2 a3 ([] : List Int) a4 0) = some (r1,r2) := by rw [if_neg (show ¬ (false = true) by decide)] at H;exact H
         clear H;have H := H1;clear H1;have H' := Zd.mk H;clear H
         go_wp2
         go_loopg [13,42] kj9 (fun kq v13 v42 w' => ∃ (x13_2 : List Int) (x42_2 : Int),v42 = .int .i64 x42_2 ∧ Zd (ZQ.l0 kq l0 l1 a2 a3 x13_2 a4 x42_2 = some (r1,r2)) ∧ Zd (kq ≤ kj9) ∧ Zd (Kd.R (Kd.int .i64) 3 w' w.heap.size (fun _ => True) v13 x13_2) ∧ Zd (Below w.heap.size w w'))
         case atStart => exact ⟨(([] : List Int)),(0),(by first | rfl | (simp;done) | (simp [*];done)),H',⟨Nat.le_refl _⟩,⟨by first | exact Kd.R_nil _ _ _ _ _ | exact Kd.N_nil _ _ _ _ _ | exact Kd.V_nil _ _ _ _ _ | exact Kd.Q_nil _ _ _ _ _ | exact Kd.S_nil _ _ _ _ _⟩,⟨by repeat (first | (with_reducible first | exact HB.out | apply Zc | apply Za | apply Zb) | exact HB.out)⟩⟩
         case round =>
          clear H'
          (try clear c1); (try clear p2); (try clear c3); (try clear c4); (try clear p6); (try clear c7); (try clear c9); (try clear c9b0); (try clear c9b1); (try clear c16); (try clear c16b0); (try clear c18); (try clear c19); (try clear p2); (try clear p6)
          obtain ⟨x13_2,x42_2,rfl,HA,HK2,HO_13,HB⟩ := hrel
          cases gk with
          | zero => exact absurd HA.out (by simp [ZQ.l0])
          | succ k2 =>
           have H := HA.out;clear HA;simp only [ZQ.l0] at H
           by_cases c20 : x42_2 < a4
           · rw [if_pos c20] at H
             have c20b0 : decide (x42_2 < a4) = true := decide_eq_true c20;clear c20;replace H := Option.bind_eq_some_iff.mp H;obtain ⟨t349,A210,H⟩ := H;replace H : ((Xt.f l0 t349).bind fun t350 => (if x13_2.length < 17592186044416 then (ZQ.l0 k2 l0 l1 a2 a3 (x13_2 ++ [t350]) a4 (wrap64 (x42_2 + 1))) else (none))) = some (r1,r2) := H;have A21 := Zd.mk A210;clear A210;replace H := Option.bind_eq_some_iff.mp H;obtain ⟨t350,A220,H⟩ := H;replace H : (if x13_2.length < 17592186044416 then (ZQ.l0 k2 l0 l1 a2 a3 (x13_2 ++ [t350]) a4 (wrap64 (x42_2 + 1))) else (none)) = some (r1,r2) := H;have A22 := Zd.mk A220;clear A220
             by_cases c23 : x13_2.length < 17592186044416
             · rw [if_pos c23] at H
               have LMc23 := Zd.mk c23;clear c23
               obtain ⟨y351,hy351⟩ : ∃ y_ : List Int,y_ = (x13_2 ++ [t350]) := ⟨_,rfl⟩
               replace H : (ZQ.l0 k2 l0 l1 a2 a3 y351 a4 (wrap64 (x42_2 + 1))) = some (r1,r2) := by first | (rw [hy351];with_reducible exact H) | (have H2_ := (Option.bind_some _ _).symm.trans H;rw [hy351];with_reducible exact H2_) | (have H2_ := (Option.bind_some _ _).symm.trans H;with_reducible exact H2_) | with_reducible exact H | (rw [hy351];exact H) | exact H
               have Ny351 := Zd.mk hy351;clear hy351;have H' := Zd.mk H;clear H
               go_wp2_with (first | ((with_reducible refine Z2 (f := 54) rfl ?_);refine ZP (some 52) rfl rfl Try.func54 (by kernel_rfl) rfl #[.slice A1 l1.length c1,.int .i64 a2,.int .i64 (wrap64 (a3 + x42_2))] rfl (by (try simp only [List.map_toArray,List.map_cons,List.map_nil]);first | done | rfl | (simp only [List.length_drop,List.length_take];rfl)) ?_;(with_reducible refine (X4.calls _ _ l1 a2 (wrap64 (a3 + x42_2)) t349 _ ?side1 ?side2 A21.out).mono ?_);(case side1 => repeat (first | exact (Kd.ZK HR1.out HB.out) | (with_reducible refine Kd.Z8 ?_ _) | (with_reducible refine Kd.ZB ?_ _) | (with_reducible refine Kd.ZI ?_)));(case side2 => exact HC1.out);rintro e w24 ⟨rfl,hb⟩;refine ⟨_,rfl,?_⟩;have n0_ := Zd.mk (Kd.Xn (by (with_reducible repeat (first | apply Kd.ZF | apply Kd.ZG | apply Kd.ZN));exact HO_13.out) hb);have n1_ := Zd.mk (Z0 (by repeat (first | (with_reducible first | exact HB.out | apply Zc | apply Za | apply Zb) | exact HB.out)) hb);clear HO_13;clear HB;have HO_13 := n0_;have HB := n1_;clear n0_ n1_;(try clear hb);(try clear hb2);(try clear hk);(try clear hi)) | ((with_reducible refine Z2 (f := 57) rfl ?_);refine ZP (some 53) rfl rfl Try.func57 (by kernel_rfl) rfl #[.slice A0 l0.length c0,.int .i64 t349] rfl (by (try simp only [List.map_toArray,List.map_cons,List.map_nil]);first | done | rfl | (simp only [List.length_drop,List.length_take];rfl)) ?_;(with_reducible refine (Xt.calls _ _ l0 t349 t350 _ ?side1 ?side2 A22.out).mono ?_);(case side1 => repeat (first | exact (Kd.ZK HR0.out HB.out) | (with_reducible refine Kd.Z8 ?_ _) | (with_reducible refine Kd.ZB ?_ _) | (with_reducible refine Kd.ZI ?_)));(case side2 => exact HC0.out);rintro e w25 ⟨rfl,hb⟩;refine ⟨_,rfl,?_⟩;have n0_ := Zd.mk (Kd.Xn (by (with_reducible repeat (first | apply Kd.ZF | apply Kd.ZG | apply Kd.ZN));exact HO_13.out) hb);have n1_ := Zd.mk (Z0 (by repeat (first | (with_reducible first | exact HB.out | apply Zc | apply Za | apply Zb) | exact HB.out)) hb);clear HO_13;clear HB;have HO_13 := n0_;have HB := n1_;clear n0_ n1_;(try clear hb);(try clear hb2);(try clear hk);(try clear hi)) | ((with_reducible refine X8 (b := .append) (xs := #[.tmp 45,.tmp 54]) rfl ?_);at_builtin;refine Kd.XG (Kd.int .i64) (w0 := w) w.heap.size rfl (.tmp 45) (.tmp 54) 46 3 (.int .i64 0) 8 rfl Try.underlying46 info3 rfl (by decide) (by omega) u13 x13_2 t350 [.int .i64 t350] (fun _ => True) (fun _ => False) rfl rfl ?aP (fun _ hk => hk.elim) ?aF ?aO ?aB ?aS ?aL ?_;(case aP => exact rfl);(case aB => exact (by repeat (first | (with_reducible first | exact HB.out | apply Zc | apply Za | apply Zb) | exact HB.out)));(case aF => exact (fun _ _ => trivial));(case aO => exact (by (with_reducible repeat (first | apply Kd.ZF | apply Kd.ZG | apply Kd.ZN));exact HO_13.out));(case aS => exact (ZJ (by repeat (first | (with_reducible first | exact HB.out | apply Zc | apply Za | apply Zb) | exact HB.out))));(case aL => have := LMc23.out;omega);intro v352 w26 ho hb hg hat;rw [← Ny351.out] at ho;have n0_ := Zd.mk (hb);have n1_ := Zd.mk (ho);clear HB;clear HO_13;have HB := n0_;have HO353 := n1_;clear n0_ n1_;clear ho hb hg hat))
               go_roundg k2
               case measure => have := HJ9.out;have := HK2.out;omega
               case rel => exact ⟨(y351),(wrap64 (x42_2 + 1)),(by first | rfl | (simp;done) | (simp [*];done)),H',⟨by have := HJ9.out;have := HK2.out;omega⟩,⟨by (with_reducible repeat (first | apply Kd.ZF | apply Kd.ZG | apply Kd.ZN));exact HO353.out⟩,⟨by repeat (first | (with_reducible first | exact HB.out | apply Zc | apply Za | apply Zb) | exact HB.out)⟩⟩
             · rw [if_neg c23] at H
               exact absurd H (by simp)
           · rw [if_neg c20] at H
             have c20b0 : decide (x42_2 < a4) = false := decide_eq_false c20;clear c20;simp only [Option.some.injEq,Prod.mk.injEq] at H;obtain ⟨rfl,rfl⟩ := H
             go_wp2
             go_ret2
             exact ⟨_,by first | rfl | (simp [Zt,Zv] <;> rfl) | (simp [*,Zt,Zv] <;> rfl),by (with_reducible repeat (first | apply Kd.ZF | apply Kd.ZG | apply Kd.ZN));exact HO_13.out,by repeat (first | (with_reducible first | exact HB.out | apply Zc | apply Za | apply Zb) | exact HB.out)⟩
   · rw [if_neg c9] at H
     have c9b0 : (t347 == 0) = false := beq_eq_false_iff_ne.mpr c9;have c9b1 : (t347 != 0) = true := bne_iff_ne.mpr c9;simp only [Option.some.injEq,Prod.mk.injEq] at H;obtain ⟨rfl,rfl⟩ := H
     go_enter Try.func32,Try.ntmps32
     go_wp2_with (first | ((with_reducible refine Z2 (f := 36) rfl ?_);refine ZP (some 16) rfl rfl Try.func36 (by kernel_rfl) rfl #[.slice A0 l0.length c0] rfl (by (try simp only [List.map_toArray,List.map_cons,List.map_nil]);first | done | rfl | (simp only [List.length_drop,List.length_take];rfl)) ?_;(with_reducible refine (Zk.calls k _ _ l0 true _ ?side1 ?side2 A6.out).mono ?_);(case side1 => repeat (first | exact HR0.out | (with_reducible refine Kd.Z8 ?_ _) | (with_reducible refine Kd.ZB ?_ _) | (with_reducible refine Kd.ZI ?_)));(case side2 => exact HC0.out);rintro e w27 ⟨rfl,hb⟩;refine ⟨_,rfl,?_⟩;have n0_ := Zd.mk (Z0 (by repeat (first | (with_reducible first | exact HB.out | apply Zc | apply Za | apply Zb) | exact HB.out)) hb);clear HB;have HB := n0_;clear n0_;(try clear hb);(try clear hb2);(try clear hk);(try clear hi)) | ((with_reducible refine Xq (N := 21) rfl ?_);refine Kd.R_lit (Kd.int .i64) _ 3 ?hg (N := 21) ?hd (xs := ([a2,a3] : List Int)) (inner := [.int .i64 a2,.int .i64 a3]) (ok := fun _ => True) (okp := fun _ => True) ?hr ?hp (fun _ hk => hk) trivial (Below.refl _ _) (Nat.le_refl _) (by simp) ?_;(case hd => rfl);(case hg => rfl);(case hr => first | (go_simp;done) | (go_simp;rfl));(case hp => exact (Reps.one (show Kd.M (Kd.int .i64) _ _ _ a2 [.int .i64 a2] from rfl) (Reps.one (show Kd.M (Kd.int .i64) _ _ _ a3 [.int .i64 a3] from rfl) (Reps.none _ _))));intro v345 w28 ho29 hb hg_ hnew_;clear hg_ hnew_;(first | rw [← Ny344.out] at ho29 | (simp only [Int.reduceToNat] at ho29;rw [← Ny344.out] at ho29));have n0_ := Zd.mk (Kd.X5 ho29 (ZJ (by repeat (first | (with_reducible first | exact HB.out | apply Zc | apply Za | apply Zb) | exact HB.out))));have n1_ := Zd.mk (Z0 (by repeat (first | (with_reducible first | exact HB.out | apply Zc | apply Za | apply Zb) | exact HB.out)) hb);clear HB;have HO346 := n0_;have HB := n1_;clear n0_ n1_;clear hb ho29;obtain ⟨Ao30,co30,eo30⟩ := Kd.Xw HO346.out;subst eo30) | ((with_reducible refine Z2 (f := 40) rfl ?_);refine ZP (some 22) rfl rfl Try.func40 (by kernel_rfl) rfl #[.slice A1 l1.length c1,.slice Ao30 y344.length co30] rfl (by (try simp only [List.map_toArray,List.map_cons,List.map_nil]);first | done | rfl | (simp only [List.length_drop,List.length_take];rfl)) ?_;(with_reducible refine (ZO.calls k _ _ l1 _ _ y344 t347 _ ?side1 ?side2 ?side3 ?side4 A8.out).mono ?_);(case side1 => repeat (first | exact (Kd.ZK HR1.out HB.out) | (with_reducible refine Kd.Z8 ?_ _) | (with_reducible refine Kd.ZB ?_ _) | (with_reducible refine Kd.ZI ?_)));(case side2 => exact HC1.out);(case side3 => repeat (first | exact (Kd.Xp HO346.out).2.2 | (with_reducible refine Kd.Z8 ?_ _) | (with_reducible refine Kd.ZB ?_ _) | (with_reducible refine Kd.ZI ?_)));(case side4 => exact (Kd.Xp HO346.out).2.1);rintro e w31 ⟨rfl,hb⟩;refine ⟨_,rfl,?_⟩;have n0_ := Zd.mk (Kd.Xn (by (with_reducible repeat (first | apply Kd.ZF | apply Kd.ZG | apply Kd.ZN));exact HO346.out) hb);have n1_ := Zd.mk (Z0 (by repeat (first | (with_reducible first | exact HB.out | apply Zc | apply Za | apply Zb) | exact HB.out)) hb);clear HO346;clear HB;have HO346 := n0_;have HB := n1_;clear n0_ n1_;(try clear hb);(try clear hb2);(try clear hk);(try clear hi)))
     go_ret2
     exact ⟨_,by first | rfl | (simp [Zt,Zv] <;> rfl) | (simp [*,Zt,Zv] <;> rfl),by first | exact Kd.R_nil _ _ _ _ _ | exact Kd.N_nil _ _ _ _ _ | exact Kd.V_nil _ _ _ _ _ | exact Kd.Q_nil _ _ _ _ _ | exact Kd.S_nil _ _ _ _ _,by repeat (first | (with_reducible first | exact HB.out | apply Zc | apply Za | apply Zb) | exact HB.out)⟩
 · replace c7 := Bool.eq_false_iff.mpr c7
   subst c7
   have H1 : (some (([] : List Int),1)) = some (r1,r2) := by rw [if_neg (show ¬ (false = true) by decide)] at H;exact H
   clear H;have H := H1;clear H1;simp only [Option.some.injEq,Prod.mk.injEq] at H;obtain ⟨rfl,rfl⟩ := H
   go_enter Try.func32,Try.ntmps32
   go_wp2_with (first | ((with_reducible refine Z2 (f := 36) rfl ?_);refine ZP (some 16) rfl rfl Try.func36 (by kernel_rfl) rfl #[.slice A0 l0.length c0] rfl (by (try simp only [List.map_toArray,List.map_cons,List.map_nil]);first | done | rfl | (simp only [List.length_drop,List.length_take];rfl)) ?_;(with_reducible refine (Zk.calls k _ _ l0 false _ ?side1 ?side2 A6.out).mono ?_);(case side1 => repeat (first | exact HR0.out | (with_reducible refine Kd.Z8 ?_ _) | (with_reducible refine Kd.ZB ?_ _) | (with_reducible refine Kd.ZI ?_)));(case side2 => exact HC0.out);rintro e w32 ⟨rfl,hb⟩;refine ⟨_,rfl,?_⟩;have n0_ := Zd.mk (Z0 (by repeat (first | (with_reducible first | exact HB.out | apply Zc | apply Za | apply Zb) | exact HB.out)) hb);clear HB;have HB := n0_;clear n0_;(try clear hb);(try clear hb2);(try clear hk);(try clear hi)))
   go_ret2
   exact ⟨_,by first | rfl | (simp [Zt,Zv] <;> rfl) | (simp [*,Zt,Zv] <;> rfl),by first | exact Kd.R_nil _ _ _ _ _ | exact Kd.N_nil _ _ _ _ _ | exact Kd.V_nil _ _ _ _ _ | exact Kd.Q_nil _ _ _ _ _ | exact Kd.S_nil _ _ _ _ _,by repeat (first | (with_reducible first | exact HB.out | apply Zc | apply Za | apply Zb) | exact HB.out)⟩
end Go.Proofs.Ytomlfbmfdoallaa.PA

namespace Go.Proofs.Ytomlfbmfdoallaa.PA
open Go.RowKit Go.Proofs.YtomlfbmfdoallaaW.PrintWords Go.Proofs.YtomlfbmfdoallaaW.PrintLast Go.Proofs.YtomlfbmfdoallaaW.PrintMore
attribute [local go_sem] Xf Xe Xj Xk ZV ZU Xd Xc
set_option linter.unusedVariables false
set_option linter.unusedSimpArgs false
mutual
def Zz.j0 : Nat → List (S56) → List (S27) → Int → Int → Int → Bool → Option (List Int × Int)
 | 0,_,_,_,_,_,_ => none
 | k + 1,x0,x1,x2,x3,x4,x21 => if x21 = true then (some (([] : List Int),1)) else ((Zx.f x2).bind fun t373 => (if t373 = true then (if x3 < x2 then (Zz.j1 k x0 x1 x2 x3 x4 true) else (if x3 > 1000000000 then (Zz.j1 k x0 x1 x2 x3 x4 true) else (if x4 < 0 then (Zz.j1 k x0 x1 x2 x3 x4 true) else (if x4 > 4096 then (Zz.j1 k x0 x1 x2 x3 x4 true) else (Zz.j1 k x0 x1 x2 x3 x4 (decide ((wrap64 ((wrap64 (x3 + x4)) - 1)) > 1000000000))))))) else (Zz.j1 k x0 x1 x2 x3 x4 true)))
def Zz.j1 : Nat → List (S56) → List (S27) → Int → Int → Int → Bool → Option (List Int × Int)
 | 0,_,_,_,_,_,_ => none
 | k + 1,x0,x1,x2,x3,x4,x48 => if x48 = true then (some (([] : List Int),7)) else (Zz.l0 k x0 x1 x2 x3 x4 ([] : List Int) 0)
def Zz.l0 : Nat → List (S56) → List (S27) → Int → Int → Int → List Int → Int → Option (List Int × Int)
 | 0,_,_,_,_,_,_,_ => none
 | k + 1,x0,x1,x2,x3,x4,x12,x13 => if x13 < x4 then ((Z3.f k x1 x2 (wrap64 (x3 + x13))).bind fun t374 => ((Zp.f k x0 t374).bind fun t375 => (if x12.length < 17592186044416 then (Zz.l0 k x0 x1 x2 x3 x4 (x12 ++ [t375]) (wrap64 (x13 + 1))) else (none)))) else (some (x12,0))
end
def Zz.f (k : Nat) (l0 : List (S56)) (l1 : List (S27)) (a2 : Int) (a3 : Int) (a4 : Int) : Option (List Int × Int) := (Zg.f k l0).bind fun t371 => (if t371 = true then ((Zi.f k l1).bind fun t372 => (Zz.j0 k l0 l1 a2 a3 a4 (!t372))) else (Zz.j0 k l0 l1 a2 a3 a4 true))
theorem Zz.Xm : ∀ k,(∀ y0 y1 y2 y3 y4 y5,LeO (Zz.j0 k y0 y1 y2 y3 y4 y5) (Zz.j0 (k + 1) y0 y1 y2 y3 y4 y5)) ∧ (∀ y0 y1 y2 y3 y4 y5,LeO (Zz.j1 k y0 y1 y2 y3 y4 y5) (Zz.j1 (k + 1) y0 y1 y2 y3 y4 y5)) ∧ (∀ y0 y1 y2 y3 y4 y5 y6,LeO (Zz.l0 k y0 y1 y2 y3 y4 y5 y6) (Zz.l0 (k + 1) y0 y1 y2 y3 y4 y5 y6))
 | 0 => ⟨fun _ _ _ _ _ _ r h => by simp [Zz.j0] at h,fun _ _ _ _ _ _ r h => by simp [Zz.j1] at h,fun _ _ _ _ _ _ _ r h => by simp [Zz.l0] at h⟩
 | k + 1 => by
  obtain ⟨ih0,ih1,ih2⟩ := Zz.Xm k;refine ⟨?_,?_,?_⟩
  · intro y0 y1 y2 y3 y4 y5
    unfold Zz.j0
    repeat' first
    | (with_reducible exact ih0 _ _ _ _ _ _)
    | (with_reducible exact ih1 _ _ _ _ _ _)
    | (with_reducible exact ih2 _ _ _ _ _ _ _)
    | (with_reducible exact Zi.mono _ _)
    | (with_reducible exact Zg.mono _ _)
    | (with_reducible exact Z3.mono _ _ _ _)
    | (with_reducible exact Zp.mono _ _ _)
    | (with_reducible exact LeO.refl _)
    | (with_reducible exact LeO.none _)
    | (with_reducible refine LeO.ite ?_ ?_)
    | (with_reducible refine LeO.bind ?_ (fun _ => ?_))
    | exact ih0 _ _ _ _ _ _
    | exact ih1 _ _ _ _ _ _
    | exact ih2 _ _ _ _ _ _ _
    | exact Zi.mono _ _
    | exact Zg.mono _ _
    | exact Z3.mono _ _ _ _
    | exact Zp.mono _ _ _
    | exact LeO.none _
    | refine LeO.ite ?_ ?_
    | refine LeO.bind ?_ (fun _ => ?_)
  · intro y0 y1 y2 y3 y4 y5
    unfold Zz.j1
    repeat' first
    | (with_reducible exact ih0 _ _ _ _ _ _)
    | (with_reducible exact ih1 _ _ _ _ _ _)
    | (with_reducible exact ih2 _ _ _ _ _ _ _)
    | (with_reducible exact Zi.mono _ _)
    | (with_reducible exact Zg.mono _ _)
    | (with_reducible exact Z3.mono _ _ _ _)
    | (with_reducible exact Zp.mono _ _ _)
    | (with_reducible exact LeO.refl _)
    | (with_reducible exact LeO.none _)
    | (with_reducible refine LeO.ite ?_ ?_)
    | (with_reducible refine LeO.bind ?_ (fun _ => ?_))
    | exact ih0 _ _ _ _ _ _
    | exact ih1 _ _ _ _ _ _
    | exact ih2 _ _ _ _ _ _ _
    | exact Zi.mono _ _
    | exact Zg.mono _ _
    | exact Z3.mono _ _ _ _
    | exact Zp.mono _ _ _
    | exact LeO.none _
    | refine LeO.ite ?_ ?_
    | refine LeO.bind ?_ (fun _ => ?_)
  · intro y0 y1 y2 y3 y4 y5 y6
    unfold Zz.l0
    repeat' first
    | (with_reducible exact ih0 _ _ _ _ _ _)
    | (with_reducible exact ih1 _ _ _ _ _ _)
    | (with_reducible exact ih2 _ _ _ _ _ _ _)
    | (with_reducible exact Zi.mono _ _)
    | (with_reducible exact Zg.mono _ _)
    | (with_reducible exact Z3.mono _ _ _ _)
    | (with_reducible exact Zp.mono _ _ _)
    | (with_reducible exact LeO.refl _)
    | (with_reducible exact LeO.none _)
    | (with_reducible refine LeO.ite ?_ ?_)
    | (with_reducible refine LeO.bind ?_ (fun _ => ?_))
    | exact ih0 _ _ _ _ _ _
    | exact ih1 _ _ _ _ _ _
    | exact ih2 _ _ _ _ _ _ _
    | exact Zi.mono _ _
    | exact Zg.mono _ _
    | exact Z3.mono _ _ _ _
    | exact Zp.mono _ _ _
    | exact LeO.none _
    | refine LeO.ite ?_ ?_
    | refine LeO.bind ?_ (fun _ => ?_)
theorem Zz.mono : ∀ a0 a1 a2 a3 a4 k,LeO (Zz.f k a0 a1 a2 a3 a4) (Zz.f (k + 1) a0 a1 a2 a3 a4) := by
 intro a0 a1 a2 a3 a4 k;obtain ⟨ih0,ih1,ih2⟩ := Zz.Xm k;unfold Zz.f
 repeat' first
  | (with_reducible exact ih0 _ _ _ _ _ _)
  | (with_reducible exact ih1 _ _ _ _ _ _)
  | (with_reducible exact ih2 _ _ _ _ _ _ _)
  | (with_reducible exact Zi.mono _ _)
  | (with_reducible exact Zg.mono _ _)
  | (with_reducible exact Z3.mono _ _ _ _)
  | (with_reducible exact Zp.mono _ _ _)
  | (with_reducible exact LeO.refl _)
  | (with_reducible exact LeO.none _)
  | (with_reducible refine LeO.ite ?_ ?_)
  | (with_reducible refine LeO.bind ?_ (fun _ => ?_))
  | exact ih0 _ _ _ _ _ _
  | exact ih1 _ _ _ _ _ _
  | exact ih2 _ _ _ _ _ _ _
  | exact Zi.mono _ _
  | exact Zg.mono _ _
  | exact Z3.mono _ _ _ _
  | exact Zp.mono _ _ _
  | exact LeO.none _
  | refine LeO.ite ?_ ?_
  | refine LeO.bind ?_ (fun _ => ?_)
set_option maxHeartbeats 8000000 in
set_option maxRecDepth 100000 in
theorem Zz.calls (k : Nat) (A0 : Option Addr) (c0 : Nat) (l0 : List (S56)) (A1 : Option Addr) (c1 : Nat) (l1 : List (S27)) (a2 : Int) (a3 : Int) (a4 : Int) (r1 : List Int) (r2 : Int) (w : World) (hr0 : Kd.C k56 w A0 l0.length l0) (hc0 : l0.length ≤ c0) (hr1 : Kd.C k27 w A1 l1.length l1) (hc1 : l1.length ≤ c1) (h : Zz.f k l0 l1 a2 a3 a4 = some (r1,r2)) :
 Calls Try.prog 33 #[.slice A0 l0.length c0,.slice A1 l1.length c1,.int .i64 a2,.int .i64 a3,.int .i64 a4] w fun e w' => ∃ v0_ : Value,e = .returned (.tuple #[v0_,.int .i64 r2]) ∧ Kd.R (Kd.int .i64) 3 w' w.heap.size (fun _ => True) v0_ r1 ∧ Below w.heap.size w w' := by
 have HR0 := Zd.mk hr0;have HC0 := Zd.mk hc0;clear hr0 hc0;have HR1 := Zd.mk hr1;have HC1 := Zd.mk hc1;clear hr1 hc1;have HB := Zd.mk (Below.refl w.heap.size w);have H : ((Zg.f k l0).bind fun t371 => (if t371 = true then ((Zi.f k l1).bind fun t372 => (Zz.j0 k l0 l1 a2 a3 a4 (!t372))) else (Zz.j0 k l0 l1 a2 a3 a4 true))) = some (r1,r2) := h;clear h;have HC6 := Zd.mk H;clear H
 go_enter Try.func33,Try.ntmps33
 go_upto_region 1 with (fail)
 go_cut [21] (fun v21 wc => ∃ (kq : Nat) (x21_5 : Bool),v21 = .bool x21_5 ∧ Zd (Zz.j0 kq l0 l1 a2 a3 a4 x21_5 = some (r1,r2)) ∧ Zd (kq ≤ k) ∧ Zd (Below w.heap.size w wc))
 case first =>
  have H := HC6.out;clear HC6;replace H := Option.bind_eq_some_iff.mp H;obtain ⟨t371,A70,H⟩ := H;replace H : (if t371 = true then ((Zi.f k l1).bind fun t372 => (Zz.j0 k l0 l1 a2 a3 a4 (!t372))) else (Zz.j0 k l0 l1 a2 a3 a4 true)) = some (r1,r2) := H;have A7 := Zd.mk A70;clear A70
  by_cases c8 : t371 = true
  · subst c8
    have H1 : ((Zi.f k l1).bind fun t372 => (Zz.j0 k l0 l1 a2 a3 a4 (!t372))) = some (r1,r2) := by rw [if_pos rfl] at H;exact H
    clear H;have H := H1;clear H1;replace H := Option.bind_eq_some_iff.mp H;obtain ⟨t372,A90,H⟩ := H;replace H : (Zz.j0 k l0 l1 a2 a3 a4 (!t372)) = some (r1,r2) := H;have A9 := Zd.mk A90;clear A90;have H' := Zd.mk H;clear H
    go_wp2_with (first | ((with_reducible refine Z2 (f := 37) rfl ?_);refine ZP (some 15) rfl rfl Try.func37 (by kernel_rfl) rfl #[.slice A0 l0.length c0] rfl (by (try simp only [List.map_toArray,List.map_cons,List.map_nil]);first | done | rfl | (simp only [List.length_drop,List.length_take];rfl)) ?_;(with_reducible refine (Zg.calls k _ _ l0 true _ ?side1 ?side2 A7.out).mono ?_);(case side1 => repeat (first | exact (Kd.ZK HR0.out HB.out) | (with_reducible refine Kd.Z8 ?_ _) | (with_reducible refine Kd.ZB ?_ _) | (with_reducible refine Kd.ZI ?_)));(case side2 => exact HC0.out);rintro e w10 ⟨rfl,hb⟩;refine ⟨_,rfl,?_⟩;have n0_ := Zd.mk (Z0 (by repeat (first | (with_reducible first | exact HB.out | apply Zc | apply Za | apply Zb) | exact HB.out)) hb);clear HB;have HB := n0_;clear n0_;(try clear hb);(try clear hb2);(try clear hk);(try clear hi)) | (go_at_call 11;(with_reducible refine (Zi.calls k _ _ l1 t372 _ ?side1 ?side2 A9.out).mono ?_);(case side1 => repeat (first | exact (Kd.ZK HR1.out HB.out) | (with_reducible refine Kd.Z8 ?_ _) | (with_reducible refine Kd.ZB ?_ _) | (with_reducible refine Kd.ZI ?_)));(case side2 => exact HC1.out);rintro e w11 ⟨rfl,hb⟩;have n0_ := Zd.mk (Z0 (by repeat (first | (with_reducible first | exact HB.out | apply Zc | apply Za | apply Zb) | exact HB.out)) hb);clear HB;have HB := n0_;clear n0_;(try clear hb);(try clear hb2);(try clear hk);(try clear hi)))
    go_meet
    case rel => exact ⟨_,(!t372),(by first | rfl | (simp;done) | (simp [*];done)),H',⟨by first | omega | exact Nat.le_refl _⟩,⟨by repeat (first | (with_reducible first | exact HB.out | apply Zc | apply Za | apply Zb) | exact HB.out)⟩⟩
  · replace c8 := Bool.eq_false_iff.mpr c8
    subst c8
    have H1 : (Zz.j0 k l0 l1 a2 a3 a4 true) = some (r1,r2) := by rw [if_neg (show ¬ (false = true) by decide)] at H;exact H
    clear H;have H := H1;clear H1;have H' := Zd.mk H;clear H
    go_wp2_with (first | ((with_reducible refine Z2 (f := 37) rfl ?_);refine ZP (some 15) rfl rfl Try.func37 (by kernel_rfl) rfl #[.slice A0 l0.length c0] rfl (by (try simp only [List.map_toArray,List.map_cons,List.map_nil]);first | done | rfl | (simp only [List.length_drop,List.length_take];rfl)) ?_;(with_reducible refine (Zg.calls k _ _ l0 false _ ?side1 ?side2 A7.out).mono ?_);(case side1 => repeat (first | exact (Kd.ZK HR0.out HB.out) | (with_reducible refine Kd.Z8 ?_ _) | (with_reducible refine Kd.ZB ?_ _) | (with_reducible refine Kd.ZI ?_)));(case side2 => exact HC0.out);rintro e w12 ⟨rfl,hb⟩;refine ⟨_,rfl,?_⟩;have n0_ := Zd.mk (Z0 (by repeat (first | (with_reducible first | exact HB.out | apply Zc | apply Za | apply Zb) | exact HB.out)) hb);clear HB;have HB := n0_;clear n0_;(try clear hb);(try clear hb2);(try clear hk);(try clear hi)))
    go_meet
    case rel => exact ⟨_,(true),(by first | rfl | (simp;done) | (simp [*];done)),H',⟨by first | omega | exact Nat.le_refl _⟩,⟨by repeat (first | (with_reducible first | exact HB.out | apply Zc | apply Za | apply Zb) | exact HB.out)⟩⟩
 case rest =>
  clear HC6
  (try clear c1); (try clear p2); (try clear c3); (try clear c8)
  obtain ⟨kq,x21_5,rfl,HA,HJ5,HB⟩ := hcut
  cases kq with
  | zero => exact absurd HA.out (by simp [Zz.j0])
  | succ kj5 =>
   have H := HA.out;clear HA;simp only [Zz.j0] at H
   by_cases c13 : x21_5 = true
   · subst c13
     have H1 : (some (([] : List Int),1)) = some (r1,r2) := by rw [if_pos rfl] at H;exact H
     clear H;have H := H1;clear H1;simp only [Option.some.injEq,Prod.mk.injEq] at H;obtain ⟨rfl,rfl⟩ := H
     go_wp2
     go_ret2
     exact ⟨_,by first | rfl | (simp [Zt,Zv] <;> rfl) | (simp [*,Zt,Zv] <;> rfl),by first | exact Kd.R_nil _ _ _ _ _ | exact Kd.N_nil _ _ _ _ _ | exact Kd.V_nil _ _ _ _ _ | exact Kd.Q_nil _ _ _ _ _ | exact Kd.S_nil _ _ _ _ _,by repeat (first | (with_reducible first | exact HB.out | apply Zc | apply Za | apply Zb) | exact HB.out)⟩
   · replace c13 := Bool.eq_false_iff.mpr c13
     subst c13
     have H1 : ((Zx.f a2).bind fun t373 => (if t373 = true then (if a3 < a2 then (Zz.j1 kj5 l0 l1 a2 a3 a4 true) else (if a3 > 1000000000 then (Zz.j1 kj5 l0 l1 a2 a3 a4 true) else (if a4 < 0 then (Zz.j1 kj5 l0 l1 a2 a3 a4 true) else (if a4 > 4096 then (Zz.j1 kj5 l0 l1 a2 a3 a4 true) else (Zz.j1 kj5 l0 l1 a2 a3 a4 (decide ((wrap64 ((wrap64 (a3 + a4)) - 1)) > 1000000000))))))) else (Zz.j1 kj5 l0 l1 a2 a3 a4 true))) = some (r1,r2) := by rw [if_neg (show ¬ (false = true) by decide)] at H;exact H
     clear H;have H := H1;clear H1;have HC14 := Zd.mk H;clear H
     go_upto_region 3 with (fail)
     go_cut [48] (fun v48 wc => ∃ (kq : Nat) (x48_13 : Bool),v48 = .bool x48_13 ∧ Zd (Zz.j1 kq l0 l1 a2 a3 a4 x48_13 = some (r1,r2)) ∧ Zd (kq ≤ kj5) ∧ Zd (Below w.heap.size w wc))
     case first =>
      have H := HC14.out;clear HC14;replace H := Option.bind_eq_some_iff.mp H;obtain ⟨t373,A150,H⟩ := H;replace H : (if t373 = true then (if a3 < a2 then (Zz.j1 kj5 l0 l1 a2 a3 a4 true) else (if a3 > 1000000000 then (Zz.j1 kj5 l0 l1 a2 a3 a4 true) else (if a4 < 0 then (Zz.j1 kj5 l0 l1 a2 a3 a4 true) else (if a4 > 4096 then (Zz.j1 kj5 l0 l1 a2 a3 a4 true) else (Zz.j1 kj5 l0 l1 a2 a3 a4 (decide ((wrap64 ((wrap64 (a3 + a4)) - 1)) > 1000000000))))))) else (Zz.j1 kj5 l0 l1 a2 a3 a4 true)) = some (r1,r2) := H;have A15 := Zd.mk A150;clear A150
      by_cases c16 : t373 = true
      · subst c16
        have H1 : (if a3 < a2 then (Zz.j1 kj5 l0 l1 a2 a3 a4 true) else (if a3 > 1000000000 then (Zz.j1 kj5 l0 l1 a2 a3 a4 true) else (if a4 < 0 then (Zz.j1 kj5 l0 l1 a2 a3 a4 true) else (if a4 > 4096 then (Zz.j1 kj5 l0 l1 a2 a3 a4 true) else (Zz.j1 kj5 l0 l1 a2 a3 a4 (decide ((wrap64 ((wrap64 (a3 + a4)) - 1)) > 1000000000))))))) = some (r1,r2) := by rw [if_pos rfl] at H;exact H
        clear H;have H := H1;clear H1
        by_cases c17 : a3 < a2
        · rw [if_pos c17] at H
          have c17b0 : decide (a3 < a2) = true := decide_eq_true c17;clear c17
          (first | rw [c17b0] | (simp only [i64_w,i32_w];rw [c17b0]) | skip)
          have H' := Zd.mk H;clear H
          go_wp2_with (first | ((with_reducible refine Z2 (f := 50) rfl ?_);refine ZP (some 23) rfl rfl Try.func50 (by kernel_rfl) rfl #[.int .i64 a2] rfl (by (try simp only [List.map_toArray,List.map_cons,List.map_nil]);first | done | rfl | (simp only [List.length_drop,List.length_take];rfl)) ?_;(with_reducible refine (Zx.calls a2 true _ A15.out).mono ?_);rintro e w' ⟨rfl,⟨nd,rfl⟩⟩;refine ⟨_,rfl,?_⟩))
          go_meet
          case rel => exact ⟨_,(true),(by first | rfl | (simp;done) | (simp [*];done)),H',⟨by have := HJ5.out;first | omega | exact Nat.le_refl _⟩,⟨by repeat (first | (with_reducible first | exact HB.out | apply Zc | apply Za | apply Zb) | exact HB.out)⟩⟩
        · rw [if_neg c17] at H
          have c17b0 : decide (a3 < a2) = false := decide_eq_false c17;clear c17
          (first | rw [c17b0] | (simp only [i64_w,i32_w];rw [c17b0]) | skip)
          by_cases c18 : a3 > 1000000000
          · rw [if_pos c18] at H
            have c18b0 : decide (1000000000 < a3) = true := decide_eq_true c18;clear c18;have H' := Zd.mk H;clear H
            go_wp2_with (first | ((with_reducible refine Z2 (f := 50) rfl ?_);refine ZP (some 23) rfl rfl Try.func50 (by kernel_rfl) rfl #[.int .i64 a2] rfl (by (try simp only [List.map_toArray,List.map_cons,List.map_nil]);first | done | rfl | (simp only [List.length_drop,List.length_take];rfl)) ?_;(with_reducible refine (Zx.calls a2 true _ A15.out).mono ?_);rintro e w' ⟨rfl,⟨nd,rfl⟩⟩;refine ⟨_,rfl,?_⟩))
            go_meet
            case rel => exact ⟨_,(true),(by first | rfl | (simp;done) | (simp [*];done)),H',⟨by have := HJ5.out;first | omega | exact Nat.le_refl _⟩,⟨by repeat (first | (with_reducible first | exact HB.out | apply Zc | apply Za | apply Zb) | exact HB.out)⟩⟩
          · rw [if_neg c18] at H
            have c18b0 : decide (1000000000 < a3) = false := decide_eq_false c18;clear c18
            by_cases c19 : a4 < 0
            · rw [if_pos c19] at H
              have c19b0 : decide (a4 < 0) = true := decide_eq_true c19;clear c19;have H' := Zd.mk H;clear H
              go_wp2_with (first | ((with_reducible refine Z2 (f := 50) rfl ?_);refine ZP (some 23) rfl rfl Try.func50 (by kernel_rfl) rfl #[.int .i64 a2] rfl (by (try simp only [List.map_toArray,List.map_cons,List.map_nil]);first | done | rfl | (simp only [List.length_drop,List.length_take];rfl)) ?_;(with_reducible refine (Zx.calls a2 true _ A15.out).mono ?_);rintro e w' ⟨rfl,⟨nd,rfl⟩⟩;refine ⟨_,rfl,?_⟩))
              go_meet
              case rel => exact ⟨_,(true),(by first | rfl | (simp;done) | (simp [*];done)),H',⟨by have := HJ5.out;first | omega | exact Nat.le_refl _⟩,⟨by repeat (first | (with_reducible first | exact HB.out | apply Zc | apply Za | apply Zb) | exact HB.out)⟩⟩
            · rw [if_neg c19] at H
              have c19b0 : decide (a4 < 0) = false := decide_eq_false c19;clear c19
              by_cases c20 : a4 > 4096
              · rw [if_pos c20] at H
                have c20b0 : decide (4096 < a4) = true := decide_eq_true c20;clear c20;have H' := Zd.mk H;clear H
                go_wp2_with (first | ((with_reducible refine Z2 (f := 50) rfl ?_);refine ZP (some 23) rfl rfl Try.func50 (by kernel_rfl) rfl #[.int .i64 a2] rfl (by (try simp only [List.map_toArray,List.map_cons,List.map_nil]);first | done | rfl | (simp only [List.length_drop,List.length_take];rfl)) ?_;(with_reducible refine (Zx.calls a2 true _ A15.out).mono ?_);rintro e w' ⟨rfl,⟨nd,rfl⟩⟩;refine ⟨_,rfl,?_⟩))
                go_meet
                case rel => exact ⟨_,(true),(by first | rfl | (simp;done) | (simp [*];done)),H',⟨by have := HJ5.out;first | omega | exact Nat.le_refl _⟩,⟨by repeat (first | (with_reducible first | exact HB.out | apply Zc | apply Za | apply Zb) | exact HB.out)⟩⟩
              · rw [if_neg c20] at H
                have c20b0 : decide (4096 < a4) = false := decide_eq_false c20;clear c20;have H' := Zd.mk H;clear H
                go_wp2_with (first | ((with_reducible refine Z2 (f := 50) rfl ?_);refine ZP (some 23) rfl rfl Try.func50 (by kernel_rfl) rfl #[.int .i64 a2] rfl (by (try simp only [List.map_toArray,List.map_cons,List.map_nil]);first | done | rfl | (simp only [List.length_drop,List.length_take];rfl)) ?_;(with_reducible refine (Zx.calls a2 true _ A15.out).mono ?_);rintro e w' ⟨rfl,⟨nd,rfl⟩⟩;refine ⟨_,rfl,?_⟩))
                go_meet
                case rel => exact ⟨_,(decide ((wrap64 ((wrap64 (a3 + a4)) - 1)) > 1000000000)),(by first | rfl | (simp;done) | (simp [*];done)),H',⟨by have := HJ5.out;first | omega | exact Nat.le_refl _⟩,⟨by repeat (first | (with_reducible first | exact HB.out | apply Zc | apply Za | apply Zb) | exact HB.out)⟩⟩
      · replace c16 := Bool.eq_false_iff.mpr c16
        subst c16
        have H1 : (Zz.j1 kj5 l0 l1 a2 a3 a4 true) = some (r1,r2) := by rw [if_neg (show ¬ (false = true) by decide)] at H;exact H
        clear H;have H := H1;clear H1;have H' := Zd.mk H;clear H
        go_wp2_with (first | ((with_reducible refine Z2 (f := 50) rfl ?_);refine ZP (some 23) rfl rfl Try.func50 (by kernel_rfl) rfl #[.int .i64 a2] rfl (by (try simp only [List.map_toArray,List.map_cons,List.map_nil]);first | done | rfl | (simp only [List.length_drop,List.length_take];rfl)) ?_;(with_reducible refine (Zx.calls a2 false _ A15.out).mono ?_);rintro e w' ⟨rfl,⟨nd,rfl⟩⟩;refine ⟨_,rfl,?_⟩))
        go_meet
        case rel => exact ⟨_,(true),(by first | rfl | (simp;done) | (simp [*];done)),H',⟨by have := HJ5.out;first | omega | exact Nat.le_refl _⟩,⟨by repeat (first | (with_reducible first | exact HB.out | apply Zc | apply Za | apply Zb) | exact HB.out)⟩⟩
     case rest =>
      clear HC14
      (try clear c1); (try clear c2); (try clear p2); (try clear c3); (try clear c5); (try clear p6); (try clear c8); (try clear c13); (try clear c16); (try clear c17); (try clear c17b0); (try clear c18); (try clear c18b0); (try clear c19); (try clear c19b0); (try clear c20); (try clear c20b0); (try clear p2)
      obtain ⟨kq,x48_13,rfl,HA,HJ13,HB⟩ := hcut
      cases kq with
      | zero => exact absurd HA.out (by simp [Zz.j1])
      | succ kj13 =>
       have H := HA.out;clear HA;simp only [Zz.j1] at H
       by_cases c21 : x48_13 = true
       · subst c21
         have H1 : (some (([] : List Int),7)) = some (r1,r2) := by rw [if_pos rfl] at H;exact H
         clear H;have H := H1;clear H1;simp only [Option.some.injEq,Prod.mk.injEq] at H;obtain ⟨rfl,rfl⟩ := H
         go_wp2
         go_ret2
         exact ⟨_,by first | rfl | (simp [Zt,Zv] <;> rfl) | (simp [*,Zt,Zv] <;> rfl),by first | exact Kd.R_nil _ _ _ _ _ | exact Kd.N_nil _ _ _ _ _ | exact Kd.V_nil _ _ _ _ _ | exact Kd.Q_nil _ _ _ _ _ | exact Kd.S_nil _ _ _ _ _,by repeat (first | (with_reducible first | exact HB.out | apply Zc | apply Za | apply Zb) | exact HB.out)⟩
       · replace c21 := Bool.eq_false_iff.mpr c21
         subst c21
         have H1 : (Zz.l0 kj13 l0 l1 a2 a3 a4 ([] : List Int) 0) = some (r1,r2) := by rw [if_neg (show ¬ (false = true) by decide)] at H;exact H
         clear H;have H := H1;clear H1;have H' := Zd.mk H;clear H
         go_wp2
         go_loopg [12,13] kj13 (fun kq v12 v13 w' => ∃ (x12_3 : List Int) (x13_3 : Int),v13 = .int .i64 x13_3 ∧ Zd (Zz.l0 kq l0 l1 a2 a3 a4 x12_3 x13_3 = some (r1,r2)) ∧ Zd (kq ≤ kj13) ∧ Zd (Kd.R (Kd.int .i64) 3 w' w.heap.size (fun _ => True) v12 x12_3) ∧ Zd (Below w.heap.size w w'))
         case atStart => exact ⟨(([] : List Int)),(0),(by first | rfl | (simp;done) | (simp [*];done)),H',⟨Nat.le_refl _⟩,⟨by first | exact Kd.R_nil _ _ _ _ _ | exact Kd.N_nil _ _ _ _ _ | exact Kd.V_nil _ _ _ _ _ | exact Kd.Q_nil _ _ _ _ _ | exact Kd.S_nil _ _ _ _ _⟩,⟨by repeat (first | (with_reducible first | exact HB.out | apply Zc | apply Za | apply Zb) | exact HB.out)⟩⟩
         case round =>
          clear H'
          (try clear c1); (try clear c2); (try clear p2); (try clear c3); (try clear c5); (try clear p6); (try clear c8); (try clear c13); (try clear c16); (try clear c17); (try clear c17b0); (try clear c18); (try clear c18b0); (try clear c19); (try clear c19b0); (try clear c20); (try clear c20b0); (try clear c21); (try clear p2); (try clear p6)
          obtain ⟨x12_3,x13_3,rfl,HA,HK3,HO_12,HB⟩ := hrel
          cases gk with
          | zero => exact absurd HA.out (by simp [Zz.l0])
          | succ k3 =>
           have H := HA.out;clear HA;simp only [Zz.l0] at H
           by_cases c22 : x13_3 < a4
           · rw [if_pos c22] at H
             have c22b0 : decide (x13_3 < a4) = true := decide_eq_true c22;clear c22;replace H := Option.bind_eq_some_iff.mp H;obtain ⟨t374,A230,H⟩ := H;replace H : ((Zp.f k3 l0 t374).bind fun t375 => (if x12_3.length < 17592186044416 then (Zz.l0 k3 l0 l1 a2 a3 a4 (x12_3 ++ [t375]) (wrap64 (x13_3 + 1))) else (none))) = some (r1,r2) := H;have A23 := Zd.mk A230;clear A230;replace H := Option.bind_eq_some_iff.mp H;obtain ⟨t375,A240,H⟩ := H;replace H : (if x12_3.length < 17592186044416 then (Zz.l0 k3 l0 l1 a2 a3 a4 (x12_3 ++ [t375]) (wrap64 (x13_3 + 1))) else (none)) = some (r1,r2) := H;have A24 := Zd.mk A240;clear A240
             by_cases c25 : x12_3.length < 17592186044416
             · rw [if_pos c25] at H
               have LMc25 := Zd.mk c25;clear c25
               obtain ⟨y376,hy376⟩ : ∃ y_ : List Int,y_ = (x12_3 ++ [t375]) := ⟨_,rfl⟩
               replace H : (Zz.l0 k3 l0 l1 a2 a3 a4 y376 (wrap64 (x13_3 + 1))) = some (r1,r2) := by first | (rw [hy376];with_reducible exact H) | (have H2_ := (Option.bind_some _ _).symm.trans H;rw [hy376];with_reducible exact H2_) | (have H2_ := (Option.bind_some _ _).symm.trans H;with_reducible exact H2_) | with_reducible exact H | (rw [hy376];exact H) | exact H
               have Ny376 := Zd.mk hy376;clear hy376;have H' := Zd.mk H;clear H
               go_wp2_with (first | ((with_reducible refine Z2 (f := 55) rfl ?_);refine ZP (some 61) rfl rfl Try.func55 (by kernel_rfl) rfl #[.slice A1 l1.length c1,.int .i64 a2,.int .i64 (wrap64 (a3 + x13_3))] rfl (by (try simp only [List.map_toArray,List.map_cons,List.map_nil]);first | done | rfl | (simp only [List.length_drop,List.length_take];rfl)) ?_;(with_reducible refine (Z3.calls k3 _ _ l1 a2 (wrap64 (a3 + x13_3)) t374 _ ?side1 ?side2 A23.out).mono ?_);(case side1 => repeat (first | exact (Kd.ZK HR1.out HB.out) | (with_reducible refine Kd.Z8 ?_ _) | (with_reducible refine Kd.ZB ?_ _) | (with_reducible refine Kd.ZI ?_)));(case side2 => exact HC1.out);rintro e w' ⟨rfl,⟨nd,rfl⟩⟩;refine ⟨_,rfl,?_⟩) | ((with_reducible refine Z2 (f := 58) rfl ?_);refine ZP (some 62) rfl rfl Try.func58 (by kernel_rfl) rfl #[.slice A0 l0.length c0,.int .i64 t374] rfl (by (try simp only [List.map_toArray,List.map_cons,List.map_nil]);first | done | rfl | (simp only [List.length_drop,List.length_take];rfl)) ?_;(with_reducible refine (Zp.calls k3 _ _ l0 t374 t375 _ ?side1 ?side2 A24.out).mono ?_);(case side1 => repeat (first | exact (Kd.ZK HR0.out (by repeat (first | (with_reducible first | exact HB.out | apply Zc | apply Za | apply Zb) | exact HB.out))) | (with_reducible refine Kd.Z8 ?_ _) | (with_reducible refine Kd.ZB ?_ _) | (with_reducible refine Kd.ZI ?_)));(case side2 => exact HC0.out);rintro e w' ⟨rfl,⟨nd,rfl⟩⟩;refine ⟨_,rfl,?_⟩) | ((with_reducible refine X8 (b := .append) (xs := #[.tmp 54,.tmp 63]) rfl ?_);at_builtin;refine Kd.XG (Kd.int .i64) (w0 := w) w.heap.size rfl (.tmp 54) (.tmp 63) 46 3 (.int .i64 0) 8 rfl Try.underlying46 info3 rfl (by decide) (by omega) u12 x12_3 t375 [.int .i64 t375] (fun _ => True) (fun _ => False) rfl rfl ?aP (fun _ hk => hk.elim) ?aF ?aO ?aB ?aS ?aL ?_;(case aP => exact rfl);(case aB => exact (by repeat (first | (with_reducible first | exact HB.out | apply Zc | apply Za | apply Zb) | exact HB.out)));(case aF => exact (fun _ _ => trivial));(case aO => exact (by (with_reducible repeat (first | apply Kd.ZF | apply Kd.ZG | apply Kd.ZN));exact HO_12.out));(case aS => exact (ZJ (by repeat (first | (with_reducible first | exact HB.out | apply Zc | apply Za | apply Zb) | exact HB.out))));(case aL => have := LMc25.out;omega);intro v377 w26 ho hb hg hat;rw [← Ny376.out] at ho;have n0_ := Zd.mk (hb);have n1_ := Zd.mk (ho);clear HB;clear HO_12;have HB := n0_;have HO378 := n1_;clear n0_ n1_;clear ho hb hg hat))
               go_roundg k3
               case measure => have := HJ5.out;have := HJ13.out;have := HK3.out;omega
               case rel => exact ⟨(y376),(wrap64 (x13_3 + 1)),(by first | rfl | (simp;done) | (simp [*];done)),H',⟨by have := HJ5.out;have := HJ13.out;have := HK3.out;omega⟩,⟨by (with_reducible repeat (first | apply Kd.ZF | apply Kd.ZG | apply Kd.ZN));exact HO378.out⟩,⟨by repeat (first | (with_reducible first | exact HB.out | apply Zc | apply Za | apply Zb) | exact HB.out)⟩⟩
             · rw [if_neg c25] at H
               exact absurd H (by simp)
           · rw [if_neg c22] at H
             have c22b0 : decide (x13_3 < a4) = false := decide_eq_false c22;clear c22;simp only [Option.some.injEq,Prod.mk.injEq] at H;obtain ⟨rfl,rfl⟩ := H
             go_wp2
             go_ret2
             exact ⟨_,by first | rfl | (simp [Zt,Zv] <;> rfl) | (simp [*,Zt,Zv] <;> rfl),by (with_reducible repeat (first | apply Kd.ZF | apply Kd.ZG | apply Kd.ZN));exact HO_12.out,by repeat (first | (with_reducible first | exact HB.out | apply Zc | apply Za | apply Zb) | exact HB.out)⟩
end Go.Proofs.Ytomlfbmfdoallaa.PA

namespace Go.Proofs.Ytomlfbmfdoallaa.PA
open Go.RowKit Go.Proofs.YtomlfbmfdoallaaW.PrintWords Go.Proofs.YtomlfbmfdoallaaW.PrintLast Go.Proofs.YtomlfbmfdoallaaW.PrintMore
attribute [local go_sem] Xf Xe Xj Xk ZV ZU Xd Xc
set_option linter.unusedVariables false
set_option linter.unusedSimpArgs false
def ZZ.l0 : Nat → List Int → List Int → Int → Option (Bool)
 | 0,_,_,_ => none
 | k + 1,x0,x1,x5 => if x5 < (x0.length : Int) then (if 0 ≤ x5 then (if x5 < (x1.length : Int) then (if (rd x0 x5) = (rd x1 x5) then (ZZ.l0 k x0 x1 (wrap64 (x5 + 1))) else (some false)) else (none)) else (none)) else (some true)
def ZZ.f (k : Nat) (l0 : List Int) (l1 : List Int) : Option (Bool) := if (l0.length : Int) = (l1.length : Int) then (ZZ.l0 k l0 l1 0) else (some false)
theorem ZZ.Xm : ∀ k,(∀ y0 y1 y2,LeO (ZZ.l0 k y0 y1 y2) (ZZ.l0 (k + 1) y0 y1 y2))
 | 0 => fun _ _ _ r h => by simp [ZZ.l0] at h
 | k + 1 => by
  have ih0 := ZZ.Xm k
  · intro y0 y1 y2
    unfold ZZ.l0
    repeat' first
    | (with_reducible exact ih0 _ _ _)
    | (with_reducible exact LeO.refl _)
    | (with_reducible exact LeO.none _)
    | (with_reducible refine LeO.ite ?_ ?_)
    | (with_reducible refine LeO.bind ?_ (fun _ => ?_))
    | exact ih0 _ _ _
    | exact LeO.none _
    | refine LeO.ite ?_ ?_
    | refine LeO.bind ?_ (fun _ => ?_)
theorem ZZ.mono : ∀ a0 a1 k,LeO (ZZ.f k a0 a1) (ZZ.f (k + 1) a0 a1) := by
 intro a0 a1 k;have ih0 := ZZ.Xm k;unfold ZZ.f
 repeat' first
  | (with_reducible exact ih0 _ _ _)
  | (with_reducible exact LeO.refl _)
  | (with_reducible exact LeO.none _)
  | (with_reducible refine LeO.ite ?_ ?_)
  | (with_reducible refine LeO.bind ?_ (fun _ => ?_))
  | exact ih0 _ _ _
  | exact LeO.none _
  | refine LeO.ite ?_ ?_
  | refine LeO.bind ?_ (fun _ => ?_)
set_option maxHeartbeats 8000000 in
set_option maxRecDepth 100000 in
theorem ZZ.calls (k : Nat) (A0 : Option Addr) (c0 : Nat) (l0 : List Int) (A1 : Option Addr) (c1 : Nat) (l1 : List Int) (r : Bool) (w : World) (hr0 : Kd.C (Kd.int .i64) w A0 l0.length l0) (hc0 : l0.length ≤ c0) (hr1 : Kd.C (Kd.int .i64) w A1 l1.length l1) (hc1 : l1.length ≤ c1) (h : ZZ.f k l0 l1 = some r) :
 Calls Try.prog 31 #[.slice A0 l0.length c0,.slice A1 l1.length c1] w fun e w' => e = .returned (.bool r) ∧ Drawn0 w w' := by
 have HR0 := Zd.mk hr0;have HC0 := Zd.mk hc0;clear hr0 hc0;have HR1 := Zd.mk hr1;have HC1 := Zd.mk hc1;clear hr1 hc1;have H : (if (l0.length : Int) = (l1.length : Int) then (ZZ.l0 k l0 l1 0) else (some false)) = some r := h;clear h
 by_cases c3 : (l0.length : Int) = (l1.length : Int)
 · rw [if_pos c3] at H
   have c3b0 : ((l0.length : Int) == (l1.length : Int)) = true := beq_iff_eq.mpr c3;have c3b1 : ((l0.length : Int) != (l1.length : Int)) = false := bne_eq_false_iff_eq.mpr c3
   have c3b2 : (l0.length == l1.length) = true := by first | simpa using c3 | (simp at c3 ⊢;omega)
   clear c3;have H' := Zd.mk H;clear H
   go_enter Try.func31,Try.ntmps31
   go_wp2
   repeat (go_quiet (fail);try go_wp2)
   go_loopg [5] k (fun kq v5 w' => ∃ (x5_1 : Int),v5 = .int .i64 x5_1 ∧ Zd (ZZ.l0 kq l0 l1 x5_1 = some r) ∧ Zd (kq ≤ k) ∧ Drawn0 w w')
   case atStart => exact ⟨(0),(by first | rfl | (simp;done) | (simp [*];done)),H',⟨Nat.le_refl _⟩,by repeat (first | exact Drawn0.refl _ | apply Drawn0.step)⟩
   case round =>
    clear H'
    (try clear c1); (try clear p2); (try clear c3); (try clear c3b0); (try clear c3b1); (try clear c3b2)
    obtain ⟨x5_1,rfl,HA,HK1,⟨m1,rfl⟩⟩ := hrel
    cases gk with
    | zero => exact absurd HA.out (by simp [ZZ.l0])
    | succ k1 =>
     have H := HA.out;clear HA;simp only [ZZ.l0] at H
     by_cases c4 : x5_1 < (l0.length : Int)
     · rw [if_pos c4] at H
       have c4b0 : decide (x5_1 < (l0.length : Int)) = true := decide_eq_true c4;clear c4
       by_cases c5 : 0 ≤ x5_1
       · rw [if_pos c5] at H
         have c5b0 : decide (0 ≤ x5_1) = true := decide_eq_true c5;clear c5
         by_cases c6 : x5_1 < (l1.length : Int)
         · rw [if_pos c6] at H
           have c6b0 : decide (x5_1 < (l1.length : Int)) = true := decide_eq_true c6;clear c6
           by_cases c7 : (rd l0 x5_1) = (rd l1 x5_1)
           · rw [if_pos c7] at H
             have c7b0 : ((rd l0 x5_1) == (rd l1 x5_1)) = true := beq_iff_eq.mpr c7;have c7b1 : ((rd l0 x5_1) != (rd l1 x5_1)) = false := bne_eq_false_iff_eq.mpr c7;clear c7;have H' := Zd.mk H;clear H;have p333 : 0 ≤ (x5_1 : Int) := of_decide_eq_true (by first | (with_reducible assumption) | assumption);have q333 : x5_1 < (l0.length : Int) := of_decide_eq_true (by first | (with_reducible assumption) | assumption);obtain ⟨ad333,e333,hx333_0⟩ := Kd.QR HR0.out x5_1 p333 q333
             cases e333
             replace p333 := eq_true p333;replace q333 := eq_true q333;have p334 : 0 ≤ (x5_1 : Int) := of_decide_eq_true (by first | (with_reducible assumption) | assumption);have q334 : x5_1 < (l1.length : Int) := of_decide_eq_true (by first | (with_reducible assumption) | assumption);obtain ⟨ad334,e334,hx334_0⟩ := Kd.QR HR1.out x5_1 p334 q334
             cases e334
             replace p334 := eq_true p334;replace q334 := eq_true q334
             go_wp2
             repeat (go_quiet (fail);try go_wp2)
             go_roundg k1
             case measure => have := HK1.out;omega
             case rel => exact ⟨(wrap64 (x5_1 + 1)),(by first | rfl | (simp;done) | (simp [*];done)),H',⟨by have := HK1.out;omega⟩,by repeat (first | exact Drawn0.refl _ | apply Drawn0.step)⟩
           · rw [if_neg c7] at H
             have c7b0 : ((rd l0 x5_1) == (rd l1 x5_1)) = false := beq_eq_false_iff_ne.mpr c7;have c7b1 : ((rd l0 x5_1) != (rd l1 x5_1)) = true := bne_iff_ne.mpr c7;obtain rfl := Option.some.inj H;have p333 : 0 ≤ (x5_1 : Int) := of_decide_eq_true (by first | (with_reducible assumption) | assumption);have q333 : x5_1 < (l0.length : Int) := of_decide_eq_true (by first | (with_reducible assumption) | assumption);obtain ⟨ad333,e333,hx333_0⟩ := Kd.QR HR0.out x5_1 p333 q333
             cases e333
             replace p333 := eq_true p333;replace q333 := eq_true q333;have p334 : 0 ≤ (x5_1 : Int) := of_decide_eq_true (by first | (with_reducible assumption) | assumption);have q334 : x5_1 < (l1.length : Int) := of_decide_eq_true (by first | (with_reducible assumption) | assumption);obtain ⟨ad334,e334,hx334_0⟩ := Kd.QR HR1.out x5_1 p334 q334
             cases e334
             replace p334 := eq_true p334;replace q334 := eq_true q334
             go_wp2
             repeat (go_quiet (fail);try go_wp2)
             go_ret;exact ⟨by first | rfl | (simp;done) | (simp [*];done),by repeat (first | exact Drawn0.refl _ | apply Drawn0.step)⟩
         · rw [if_neg c6] at H
           exact absurd H (by simp)
       · rw [if_neg c5] at H
         exact absurd H (by simp)
     · rw [if_neg c4] at H
       have c4b0 : decide (x5_1 < (l0.length : Int)) = false := decide_eq_false c4;clear c4;obtain rfl := Option.some.inj H
       go_wp2
       repeat (go_quiet (fail);try go_wp2)
       go_ret;exact ⟨by first | rfl | (simp;done) | (simp [*];done),by repeat (first | exact Drawn0.refl _ | apply Drawn0.step)⟩
 · rw [if_neg c3] at H
   have c3b0 : ((l0.length : Int) == (l1.length : Int)) = false := beq_eq_false_iff_ne.mpr c3;have c3b1 : ((l0.length : Int) != (l1.length : Int)) = true := bne_iff_ne.mpr c3
   have c3b2 : (l0.length == l1.length) = false := by first | simpa using c3 | (simp at c3 ⊢;omega)
   obtain rfl := Option.some.inj H
   go_enter Try.func31,Try.ntmps31
   go_wp2
   repeat (go_quiet (fail);try go_wp2)
   go_ret;exact ⟨by first | rfl | (simp;done) | (simp [*];done),by repeat (first | exact Drawn0.refl _ | apply Drawn0.step)⟩
end Go.Proofs.Ytomlfbmfdoallaa.PA

namespace Go.Proofs.Ytomlfbmfdoallaa.Pure
open Go.RowKit Go.Proofs.Ytomlfbmfdoallaa.PA Go.Proofs.YtomlfbmfdoallaaW.PrintWords Go.Proofs.YtomlfbmfdoallaaW.PrintLast
set_option linter.unusedVariables false
set_option linter.unusedSimpArgs false
section
variable {l : List S27} (hl : l.length ≤ 100) {k : Nat} (hk : 10000 ≤ k)
include hl hk
end
section
variable {l : List S27} (hl : l.length ≤ 100) {p : List S56} (hp : p.length ≤ 200) {k : Nat} (hk : 10000 ≤ k)
include hp hk
theorem Ya : Zk.f k p = some (curveB p) := upb (g := fun k => Zk.f k p) (fun k => Zk.mono p k) (c_eq p hp) k (by omega)
theorem QB : Zg.f k p = some (curveB p) := upb (g := fun k => Zg.f k p) (fun k => Zg.mono p k) (refc_eq p hp) k (by omega)
end
section
variable {l : List S27} (hl : l.length ≤ 100) {p : List S56} (hp : p.length ≤ 200) {k : Nat} (hk : 10000 ≤ k)
include hl hp hk
end
end Go.Proofs.Ytomlfbmfdoallaa.Pure

namespace Go.Proofs.Ytomlfbmfdoallaa.Pure
open Go.RowKit Go.Proofs.Ytomlfbmfdoallaa.PA Go.Proofs.YtomlfbmfdoallaaW.PrintWords Go.Proofs.YtomlfbmfdoallaaW.PrintLast
set_option linter.unusedVariables false
set_option linter.unusedSimpArgs false
def Asc (l : List S56) : Prop := l.Pairwise (fun p q => p.f0 < q.f0)
theorem Yw : ∀ (l : List S56),curveFromB l = true → Asc l
 | [],_ => List.Pairwise.nil
 | [t],_ => List.pairwise_singleton _ _
 | t :: t2 :: r,h => by
  obtain ⟨h1,h2,h3,h4⟩ := XL h;have ih := Yw (t2 :: r) h4;refine List.Pairwise.cons ?_ ih;intro q hq
  rcases List.mem_cons.1 hq with rfl | hq
  · exact h2
  · have := (List.pairwise_cons.1 ih).1 q hq
    omega
theorem Qi {l : List S56} (h : Asc l) {i j : Nat} (hij : i < j) (hj : j < l.length) : l[i].f0 < l[j].f0 := List.pairwise_iff_getElem.1 h i j (by omega) hj hij
def cntP (l : List S56) (t : Int) : Nat := (l.takeWhile (fun p => decide (p.f0 ≤ t))).length
theorem XC (l : List S56) (t : Int) : cntP l t ≤ l.length := (List.takeWhile_sublist _).length_le
theorem X0 {l : List S56} (h : Asc l) (t : Int) (i : Nat) (hi : i < l.length) : l[i].f0 ≤ t ↔ i < cntP l t := by
 unfold cntP
 induction l generalizing i with
 | nil => simp at hi
 | cons x r ih =>
  have h2 := List.pairwise_cons.1 h;rw [List.takeWhile_cons]
  by_cases hx : x.f0 ≤ t
  · rw [if_pos (by simpa using hx),List.length_cons]
    cases i with
    | zero => simp [hx]
    | succ i =>
     rw [List.getElem_cons_succ];have := ih h2.2 i (by simpa using hi);omega
  · rw [if_neg (by simpa using hx)]
    cases i with
    | zero => simp [hx]
    | succ i =>
     rw [List.getElem_cons_succ]
     have hir : i < r.length := by simpa using hi
     have := h2.1 r[i] (List.getElem_mem _);simp;omega
theorem YM {l : List S56} (h : Asc l) (t : Int) (c : Nat) (hc : c ≤ l.length) (h1 : ∀ i (hi : i < l.length),i < c → l[i].f0 ≤ t) (h2 : ∀ i (hi : i < l.length),c ≤ i → t < l[i].f0) : cntP l t = c := by
 have hle := XC l t
 by_cases e : cntP l t < c
 · have := (X0 h t (cntP l t) (by omega)).1 (h1 _ (by omega) e)
   omega
 · by_cases e2 : c < cntP l t
   · have := (X0 h t c (by omega)).2 e2
     have := h2 c (by omega) (Nat.le_refl _);omega
   · omega
def bel (b : Int) (p : S56) : Bool := decide (p.f0 < b)
def Mk (l : List S56) (b : Int) (c : Nat) : List Int := ((l.drop c).filter (bel b)).map (·.f0) ++ [b]
theorem Mk_lt {l : List S56} (h : Asc l) {b : Int} {c : Nat} (hc : c < l.length) (hb : l[c].f0 < b) : Mk l b c = l[c].f0 :: Mk l b (c + 1) := by
 unfold Mk;rw [List.drop_eq_getElem_cons hc,List.filter_cons,if_pos (by simpa [bel] using hb)];rfl
theorem Mk_ge {l : List S56} (h : Asc l) {b : Int} {c : Nat} (hb : ∀ hc : c < l.length,b ≤ l[c].f0) : Mk l b c = [b] := by
 unfold Mk
 have : (l.drop c).filter (bel b) = [] := by
  rw [List.filter_eq_nil_iff];intro p hp;obtain ⟨i,hi,rfl⟩ := List.mem_iff_getElem.1 hp;rw [List.getElem_drop]
  have hl : c + i < l.length := by simp at hi;omega
  have h1 := hb (by omega)
  by_cases hz : i = 0
  · subst hz
    simp [bel];exact h1
  · have := Qi h (i := c) (j := c + i) (by omega) hl
    simp [bel];omega
 rw [this];rfl
theorem mids_eq {l : List S56} (h : Asc l) (a b : Int) : midsC l a b = ((l.drop (cntP l a)).filter (bel b)).map (·.f0) := by
 unfold midsC
 conv => lhs;rw [← List.take_append_drop (cntP l a) l,List.filter_append]
 have h1 : (l.take (cntP l a)).filter (inC a b) = [] := by
  rw [List.filter_eq_nil_iff];intro p hp;obtain ⟨i,hi,rfl⟩ := List.mem_iff_getElem.1 hp;rw [List.getElem_take]
  have hi2 : i < cntP l a := by simp at hi;omega
  have := (X0 h a i (by have := XC l a;omega)).2 hi2;simp [inC];omega
 have h2 : (l.drop (cntP l a)).filter (inC a b) = (l.drop (cntP l a)).filter (bel b) := by
  apply List.filter_congr;intro p hp;obtain ⟨i,hi,rfl⟩ := List.mem_iff_getElem.1 hp;rw [List.getElem_drop]
  have hl : cntP l a + i < l.length := by simp at hi;omega
  have h3 : ¬ l[cntP l a + i].f0 ≤ a := fun hh => by have := (X0 h a _ hl).1 hh;omega
  simp [inC,bel];omega
 rw [h1,h2,List.nil_append]
theorem sort_eq {xs ys : List Int} (hp : ys.Perm xs) (hs : ys.Pairwise (· < ·)) : sortI xs = ys := by
 refine List.Perm.eq_of_pairwise (le := (· ≤ ·)) ?_ ?_ ?_ ?_
 · intro a b _ _ h1 h2
   exact Int.le_antisymm h1 h2
 · have := List.pairwise_mergeSort (le := fun x y : Int => decide (x ≤ y)) (fun a b c h1 h2 => by simp at *;omega) (fun a b => by simp;omega) xs
   unfold sortI;exact this.imp (fun h => by simpa using h)
 · exact hs.imp (fun h => Int.le_of_lt h)
 · exact (List.mergeSort_perm _ _).trans hp.symm
theorem compact_asc {ys : List Int} (hs : ys.Pairwise (· < ·)) : Lib.compact ys = ys := by
 apply Lib.compact_all;intro j hj;simp only [Lib.keeps,decide_eq_true_eq]
 by_cases h0 : j = 0
 · exact .inl h0
 · right
   have := List.pairwise_iff_getElem.1 hs (j - 1) j (by omega) hj (by omega);simp [hj,show j - 1 < ys.length by omega];omega
theorem marks_eq {l : List S56} (h : Asc l) {a b : Int} (hab : a < b) : marksC l a b = a :: Mk l b (cntP l a) := by
 unfold marksC
 have hs : (a :: Mk l b (cntP l a)).Pairwise (· < ·) := by
  have hd : (l.drop (cntP l a)).Pairwise (fun p q => p.f0 < q.f0) := h.sublist (List.drop_sublist _ _);have hf := hd.sublist (List.filter_sublist (p := bel b));have hm : (((l.drop (cntP l a)).filter (bel b)).map (·.f0)).Pairwise (· < ·) := List.pairwise_map.2 hf
  have key : ∀ x ∈ ((l.drop (cntP l a)).filter (bel b)).map (·.f0),a < x ∧ x < b := by
   intro x hx;obtain ⟨p,hp,rfl⟩ := List.mem_map.1 hx;rw [List.mem_filter] at hp;obtain ⟨i,hi,rfl⟩ := List.mem_iff_getElem.1 hp.1;have h5 := hp.2;simp only [List.getElem_drop] at h5 ⊢
   have hl : cntP l a + i < l.length := by simp at hi;omega
   have h3 : ¬ l[cntP l a + i].f0 ≤ a := fun hh => by have := (X0 h a _ hl).1 hh;omega
   simp [bel] at h5;omega
  refine List.Pairwise.cons ?_ ?_
  · intro x hx
    unfold Mk at hx;rw [List.mem_append,List.mem_singleton] at hx
    rcases hx with hx | rfl
    · exact (key x hx).1
    · exact hab
  · unfold Mk
    rw [List.pairwise_append];refine ⟨hm,List.pairwise_singleton _ _,?_⟩;intro x hx y hy;rw [List.mem_singleton] at hy;subst hy;exact (key x hx).2
 have hp : (a :: Mk l b (cntP l a)).Perm ([a,b] ++ midsC l a b) := by
  rw [mids_eq h];unfold Mk;show (a :: (_ ++ [b])).Perm (a :: ([b] ++ _));exact List.Perm.cons _ List.perm_append_comm
 rw [sort_eq hp hs,compact_asc hs]
theorem marks_same {l : List S56} (h : Asc l) (a : Int) : marksC l a a = [a] := by
 unfold marksC
 have : midsC l a a = [] := by
  unfold midsC;rw [List.map_eq_nil_iff,List.filter_eq_nil_iff];intro p _;simp [inC];omega
 rw [this]
 have hs : sortI ([a,a] ++ []) = [a,a] := by simp [sortI,List.mergeSort]
 rw [hs];simp [Lib.compact,Lib.compactUpTo,Lib.keeps,List.range,List.range.loop]
end Go.Proofs.Ytomlfbmfdoallaa.Pure

namespace Go.Proofs.Ytomlfbmfdoallaa.Pure
open Go.RowKit Go.Proofs.Ytomlfbmfdoallaa.PA Go.Proofs.YtomlfbmfdoallaaW.PrintWords Go.Proofs.YtomlfbmfdoallaaW.PrintLast
set_option linter.unusedVariables false
set_option linter.unusedSimpArgs false
def prt (l : List S56) (t : Int) : Int := if 1 ≤ cntP l t ∧ cntP l t < l.length then (cntP l t : Int) - 1 else -1
theorem Yg {l : List S56} (h : Asc l) (hl : l.length ≤ 200) (t : Int) : ∀ (d k i : Nat),l.length - i = d → d < k → i ≤ l.length → (i < cntP l t ∨ cntP l t = 0) → ZC.l0 k l t (i : Int) = some (prt l t) := by
 intro d
 induction d with
 | zero =>
  intro k i hd hk hi hc
  obtain ⟨k,rfl⟩ : ∃ q,k = q + 1 := ⟨k - 1,by omega⟩
  have hle := XC l t;have hw : wrap64 ((i : Int) + 1) = (i : Int) + 1 := w64 (by omega) (by omega);rw [ZC.l0.eq_2,hw,if_neg (by omega)];unfold prt;rw [if_neg (by omega)]
 | succ d ih =>
  intro k i hd hk hi hc
  obtain ⟨k,rfl⟩ : ∃ q,k = q + 1 := ⟨k - 1,by omega⟩
  have hle := XC l t
  have hw : wrap64 ((i : Int) + 1) = ((i + 1 : Nat) : Int) := by rw [w64 (by omega) (by omega)];omega
  rw [ZC.l0.eq_2,hw]
  by_cases h1 : i + 1 < l.length
  · rw [if_pos (by omega),if_pos (by omega),if_pos (by omega),rd56 l i (by omega),rd56 l (i + 1) h1]
    have e1 := X0 h t i (by omega);have e2 := X0 h t (i + 1) h1
    rcases hc with hc | hc
    · rw [if_pos (e1.2 hc),if_pos (by omega)]
      by_cases h2 : i + 1 < cntP l t
      · have := e2.2 h2
        rw [if_neg (by omega)];exact ih k (i + 1) (by omega) (by omega) (by omega) (.inl h2)
      · have : ¬ l[i + 1].f0 ≤ t := fun hh => h2 (e2.1 hh)
        rw [if_pos (by omega)];unfold prt;rw [if_pos (by omega)]
        congr 1
        omega
    · rw [if_neg (fun hh => by have := e1.1 hh;omega)]
      exact ih k (i + 1) (by omega) (by omega) (by omega) (.inr hc)
  · rw [if_neg (by omega)]
    unfold prt;rw [if_neg (by omega)]
theorem part_eq {l : List S56} (h : Asc l) (hl : l.length ≤ 200) (t : Int) (k : Nat) (hk : l.length < k) : ZC.f k l t = some (prt l t) := by
 unfold ZC.f
 by_cases hc : cntP l t = 0
 · exact Yg h hl t l.length k 0 (by omega) hk (by omega) (.inr hc)
 · exact Yg h hl t l.length k 0 (by omega) hk (by omega) (.inl (by omega))
def nxtM (l : List S56) (b t : Int) : Int := if h : cntP l t < l.length then (if l[cntP l t].f0 < b then l[cntP l t].f0 else b) else b
theorem YK {l : List S56} (h : Asc l) {b t : Int} (hb : t < b) : t < nxtM l b t ∧ nxtM l b t ≤ b := by
 unfold nxtM;split
 · rename_i hc
   have : ¬ l[cntP l t].f0 ≤ t := fun hh => by have := (X0 h t _ hc).1 hh;omega
   split <;> omega
 · omega
def l1end (k : Nat) (l : List S56) (a b : Int) (out : List S56) (t R : Int) (sm : Bool) (n : Int) : Option (List S56 × Int) :=
 if sm = true then (if (wrap64 (n - t)) > 20 then (if t = a then (some (([] : List (S56)),4)) else (if 0 ≤ R then (if R < (l.length : Int) then (if ((Ze l R).f0) = t then (some (([] : List (S56)),4)) else (Zj.l0 k l a b out (wrap64 (t + 1)))) else (none)) else (none))) else (Zj.l0 k l a b out (wrap64 (t + 1)))) else (Zj.l0 k l a b out n)
theorem l1_loop {l : List S56} (h : Asc l) (hl : l.length ≤ 200) (a b t : Int) (hb : t < b) (out : List S56) (R : Int) (sm : Bool) : ∀ (d k i : Nat) (cur : Int),l.length - i = d → i ≤ l.length →
 cur = (if i ≤ cntP l t then b else nxtM l b t) → Zj.l1 (k + d + 1) l a b out t R sm cur (i : Int) = l1end k l a b out t R sm (nxtM l b t) := by
 intro d
 induction d with
 | zero =>
  intro k i cur hd hi hc;have hle := XC l t;rw [Zj.l1.eq_2,if_neg (by omega)]
  have e : cur = nxtM l b t := by
   rw [hc];split
   · unfold nxtM
     rw [dif_neg (by omega)]
   · rfl
  rw [e];rfl
 | succ d ih =>
  intro k i cur hd hi hc
  have hw : wrap64 ((i : Int) + 1) = ((i + 1 : Nat) : Int) := by rw [w64 (by omega) (by omega)];omega
  have hil : i < l.length := by omega
  rw [show k + (d + 1) + 1 = (k + d + 1) + 1 by omega,Zj.l1.eq_2,if_pos (by omega),if_pos (by omega),hw,rd56 l i hil];have e1 := X0 h t i hil
  by_cases h1 : i < cntP l t
  · have := e1.2 h1
    rw [if_neg (by omega)];exact ih k (i + 1) cur (by omega) (by omega) (by rw [hc,if_pos (by omega),if_pos (by omega)])
  · have h2 : ¬ l[i].f0 ≤ t := fun hh => h1 (e1.1 hh)
    rw [if_pos (by omega)]
    by_cases h3 : i = cntP l t
    · rw [if_pos (by omega)] at hc
      subst hc
      have hn : nxtM l cur t = if l[i].f0 < cur then l[i].f0 else cur := by
       unfold nxtM;subst h3;rw [dif_pos hil]
      by_cases h4 : l[i].f0 < cur
      · rw [if_pos h4]
        rw [if_pos h4] at hn;exact ih k (i + 1) l[i].f0 (by omega) (by omega) (by rw [if_neg (by omega),hn])
      · rw [if_neg h4]
        rw [if_neg h4] at hn;exact ih k (i + 1) cur (by omega) (by omega) (by rw [if_neg (by omega),hn])
    · rw [if_neg (by omega)] at hc
      have hcl : cntP l t < l.length := by omega
      have hge : cur ≤ l[cntP l t].f0 := by
       rw [hc];unfold nxtM;rw [dif_pos hcl]
       split <;> omega
      have := Qi h (i := cntP l t) (j := i) (by omega) hil;rw [if_neg (by omega)];exact ih k (i + 1) cur (by omega) (by omega) (by rw [hc,if_neg (by omega)])
def smt (l : List S56) (a b t : Int) : Bool :=
 if h : 1 ≤ cntP l t ∧ cntP l t < l.length then (l[cntP l t - 1].f2 == 2) && (decide (l[cntP l t - 1].f0 < a) || decide (l[cntP l t].f0 > b)) else false
def shR (l : List S56) (a b t : Int) : Int :=
 if h : 1 ≤ cntP l t ∧ cntP l t < l.length then (if smt l a b t = true then 0 else l[cntP l t - 1].f2) else 0
theorem rd56p {l : List S56} {c : Nat} (h : 1 ≤ c ∧ c < l.length) : Ze l ((c : Int) - 1) = l[c - 1] := by
 have := rd56 l (c - 1) (by omega);rw [← this]
 congr 1
 omega
theorem ref_j {l : List S56} (h : Asc l) (hc : curveB l = true) (hl : l.length ≤ 200) (a b t : Int) (ht1 : t ≤ 1000000000) (out : List S56) (k : Nat) (hk : 300 ≤ k) :
 Zj.l0 (k + 3) l a b out t = Zj.j4 k l a b out t (prt l t) (smt l a b t) t (valAt l t) (shR l a b t) := by
 have hle := XC l t
 have hj2 : ∀ sm : Bool,sm = smt l a b t → Zj.j2 (k + 2) l a b out t (prt l t) sm = Zj.j4 k l a b out t (prt l t) (smt l a b t) t (valAt l t) (shR l a b t) := by
  intro sm hsm;rw [Zj.j2.eq_2,QL l hc t ht1 _ (by omega),Option.bind_some]
  by_cases hp : 1 ≤ cntP l t ∧ cntP l t < l.length
  · have hR : prt l t = (cntP l t : Int) - 1 := by unfold prt;rw [if_pos hp]
    have hw : ((cntP l t : Int) - 1 + 1) = (cntP l t : Int) := by omega
    rw [if_pos (by rw [hR];omega),Zj.j3.eq_2];unfold shR;rw [dif_pos hp,← hsm]
    cases sm with
    | true => rfl
    | false =>
     rw [if_pos (show (!false) = true from rfl),if_pos (by rw [hR];omega),if_pos (by rw [hR];omega),hR,rd56p hp];rfl
  · have hR : prt l t = -1 := by unfold prt;rw [if_neg hp]
    rw [if_neg (by rw [hR];omega),Zj.j3.eq_2,if_neg (by decide),hsm];unfold shR;rw [dif_neg hp]
 rw [Zj.l0.eq_2,part_eq h hl t _ (by omega),Option.bind_some]
 by_cases hp : 1 ≤ cntP l t ∧ cntP l t < l.length
 · have hR : prt l t = (cntP l t : Int) - 1 := by unfold prt;rw [if_pos hp]
   have hw : wrap64 (prt l t + 1) = (cntP l t : Int) := by rw [hR,w64 (by omega) (by omega)];omega
   rw [if_pos (by rw [hR];omega),if_pos (by rw [hR];omega),if_pos (by rw [hR];omega),hw]
   conv => lhs;rw [hR,rd56p hp,rd56 l _ hp.2]
   rw [← hR]
   have hs : smt l a b t = ((l[cntP l t - 1].f2 == 2) && (decide (l[cntP l t - 1].f0 < a) || decide (l[cntP l t].f0 > b))) := by unfold smt;rw [dif_pos hp]
   by_cases h2 : l[cntP l t - 1].f2 = 2
   · rw [if_pos h2]
     by_cases h3 : l[cntP l t - 1].f0 < a
     · rw [if_pos h3]
       exact hj2 true (by rw [hs];simp [h2,h3])
     · rw [if_neg h3,if_pos (by omega),if_pos (by omega)]
       exact hj2 _ (by rw [hs];simp [h2,h3])
   · rw [if_neg h2]
     exact hj2 false (by rw [hs];simp [h2])
 · have hR : prt l t = -1 := by unfold prt;rw [if_neg hp]
   rw [if_neg (by rw [hR];omega)];exact hj2 false (by unfold smt;rw [dif_neg hp])
theorem Y4 {l : List S56} (h : Asc l) (hc : curveB l = true) (hl : l.length ≤ 200) (a b : Int) (hb1 : b ≤ 1000000000) (out : List S56) (ho : out.length ≤ 100000) (k : Nat) (hk : 400 ≤ k) :
 Zj.l0 k l a b out b = some (endC (some (out ++ [⟨b,valAt l b,0⟩]))) := by
 obtain ⟨k,rfl⟩ : ∃ q,k = q + 1 + 3 := ⟨k - 4,by omega⟩
 rw [ref_j h hc hl a b b hb1 out _ (by omega),Zj.j4.eq_2,if_pos (by omega),Option.bind_some,if_pos rfl]
 have hy : ((out ++ [(⟨b,valAt l b,shR l a b b⟩ : S56)]).length : Int) = out.length + 1 := by simp
 have hlen : (out ++ [(⟨b,valAt l b,0⟩ : S56)]).length = out.length + 1 := by simp
 show _ = some (if (out ++ [(⟨b,valAt l b,0⟩ : S56)]).length > 100 then (([] : List S56),(4 : Int)) else (out ++ [(⟨b,valAt l b,0⟩ : S56)],0));rw [hlen]
 by_cases h1 : out.length + 1 > 100
 · rw [if_pos (by omega),if_pos h1]
 · have hw : wrap64 (((out ++ [(⟨b,valAt l b,shR l a b b⟩ : S56)]).length : Int) - 1) = (out.length : Int) := by rw [hy,w64 (by omega) (by omega)];omega
   rw [if_neg (by omega),if_neg h1,hw,if_pos (by omega),if_pos (by omega),rd56 _ _ (by simp)];simp
theorem Yb {l : List S56} (h : Asc l) (hc : curveB l = true) (hl : l.length ≤ 200) (a b t : Int) (ht0 : 0 ≤ t) (htb : t < b) (hb1 : b ≤ 1000000000) (out : List S56) (ho : out.length ≤ 100000) (k : Nat) (hk : 400 ≤ k) :
 Zj.l0 (k + l.length + 5) l a b out t = l1end k l a b (out ++ [⟨t,valAt l t,shR l a b t⟩]) t (prt l t) (smt l a b t) (nxtM l b t) := by
 rw [show k + l.length + 5 = (k + l.length + 1 + 1) + 3 by omega,ref_j h hc hl a b t (by omega) out _ (by omega),Zj.j4.eq_2,if_pos (by omega),Option.bind_some,if_neg (by omega)];exact l1_loop h hl a b t htb _ _ _ l.length k 0 b (by omega) (by omega) (by rw [if_pos (by omega)])
end Go.Proofs.Ytomlfbmfdoallaa.Pure

namespace Go.Proofs.Ytomlfbmfdoallaa.Pure
open Go.RowKit Go.Proofs.Ytomlfbmfdoallaa.PA Go.Proofs.YtomlfbmfdoallaaW.PrintWords Go.Proofs.YtomlfbmfdoallaaW.PrintLast
set_option linter.unusedVariables false
set_option linter.unusedSimpArgs false
def Ends (l : List S56) (a b : Int) (B : Nat) (out : List S56) (t : Int) (r : List S56 × Int) : Prop := ∀ k,B ≤ k → Zj.l0 k l a b out t = some r
section
variable {l : List S56} {a b : Int}
theorem YA (h : Asc l) (hc : curveB l = true) (hl : l.length ≤ 200) (hb1 : b ≤ 1000000000) (t : Int) (ht : 0 ≤ t) : shpAt l t = if hp : 1 ≤ cntP l t ∧ cntP l t < l.length then l[cntP l t - 1].f2 else 0 := by
 have key : ∀ (r : List S56) (out : Int),Asc r → shpF r t out = if hp : 1 ≤ cntP r t then (if h2 : cntP r t < r.length then (r[cntP r t - 1]'(by have := XC r t;omega)).f2 else 0) else out := by
  intro r
  induction r with
  | nil => intro out _;simp [shpF,cntP]
  | cons x r ih =>
   intro out hr;have h2 := List.pairwise_cons.1 hr
   have hct : cntP (x :: r) t = if x.f0 ≤ t then cntP r t + 1 else 0 := by
    unfold cntP;rw [List.takeWhile_cons]
    by_cases hx : x.f0 ≤ t
    · rw [if_pos (by simpa using hx),if_pos hx];rfl
    · rw [if_neg (by simpa using hx),if_neg hx];rfl
   unfold shpF;rw [ih _ h2.2]
   by_cases hx : x.f0 ≤ t
   · rw [if_pos hx] at hct
     rw [dif_pos (show 1 ≤ cntP (x :: r) t by omega)]
     by_cases h3 : 1 ≤ cntP r t
     · rw [dif_pos h3]
       by_cases h4 : cntP r t < r.length
       · rw [dif_pos h4,dif_pos (by rw [hct];simpa using h4)]
         simp only [hct];rw [List.getElem_cons];simp only [Nat.add_sub_cancel];rw [dif_neg (by omega)]
       · rw [dif_neg h4,dif_neg (by rw [hct];simpa using h4)]
     · rw [dif_neg h3]
       have h0 : cntP r t = 0 := by omega
       rw [h0] at hct
       by_cases h5 : r = []
       · subst h5
         rw [if_neg (by simp),if_pos hx,dif_neg (by rw [hct];simp)]
       · have h6 : 0 < r.length := List.length_pos_iff.2 h5
         rw [if_pos ⟨hx,h5⟩,dif_pos (by rw [hct];simp;omega)];simp only [hct];rfl
   · rw [if_neg hx] at hct
     have h0 : cntP r t = 0 := by
      cases r with
      | nil => rfl
      | cons y r =>
       have := h2.1 y (by simp);unfold cntP;rw [List.takeWhile_cons,if_neg (by simp;omega)];rfl
     rw [dif_neg (by omega),dif_neg (by omega),if_neg (fun hh => hx hh.1),if_neg hx]
 unfold shpAt;rw [key l 0 h]
 by_cases h1 : 1 ≤ cntP l t
 · rw [dif_pos h1]
   by_cases h2 : cntP l t < l.length
   · rw [dif_pos h2,dif_pos ⟨h1,h2⟩]
   · rw [dif_neg h2,dif_neg (fun hh => h2 hh.2)]
 · rw [dif_neg h1,dif_neg (fun hh => h1 hh.1)]
def Mark (l : List S56) (a t : Int) : Prop := t = a ∨ isT l t = true
theorem Yv (h : Asc l) (hc : curveB l = true) (hl : l.length ≤ 200) (hb1 : b ≤ 1000000000) (t : Int) : isT l t = true ↔ ∃ hp : 1 ≤ cntP l t,(l[cntP l t - 1]'(by have := XC l t;omega)).f0 = t := by
 have hle := XC l t;unfold isT;rw [List.any_eq_true];constructor
 · rintro ⟨p,hp,e⟩
   obtain ⟨i,hi,rfl⟩ := List.mem_iff_getElem.1 hp
   have e' : l[i].f0 = t := by simpa using e
   have h1 := (X0 h t i hi).1 (by omega);refine ⟨by omega,?_⟩
   by_cases h2 : i = cntP l t - 1
   · subst h2;exact e'
   · have := Qi h (i := i) (j := cntP l t - 1) (by omega) (by omega)
     have := (X0 h t (cntP l t - 1) (by omega)).2 (by omega);omega
 · rintro ⟨hp,e⟩
   exact ⟨l[cntP l t - 1]'(by omega),List.getElem_mem _,by simpa using e⟩
theorem mk_next (h : Asc l) (hc : curveB l = true) (hl : l.length ≤ 200) (hb1 : b ≤ 1000000000) {t : Int} (hb : t < b) : Mk l b (cntP l t) = nxtM l b t :: (if nxtM l b t < b then Mk l b (cntP l (nxtM l b t)) else []) := by
 have hle := XC l t
 by_cases hlt : cntP l t < l.length
 · by_cases h2 : l[cntP l t].f0 < b
   · have hn : nxtM l b t = l[cntP l t].f0 := by unfold nxtM;rw [dif_pos hlt,if_pos h2]
     have hc2 : cntP l (nxtM l b t) = cntP l t + 1 := by
      rw [hn];refine YM h _ _ (by omega) (fun i hi hh => ?_) (fun i hi hh => Qi h (by omega) hi)
      by_cases e : i = cntP l t
      · subst e;omega
      · have := Qi h (i := i) (j := cntP l t) (by omega) hlt;omega
     rw [Mk_lt h hlt h2,← hn,if_pos (by omega),hc2]
   · have hn : nxtM l b t = b := by unfold nxtM;rw [dif_pos hlt,if_neg h2]
     rw [Mk_ge h (fun _ => by omega),hn,if_neg (by omega)]
 · have hn : nxtM l b t = b := by unfold nxtM;rw [dif_neg hlt]
   rw [Mk_ge h (fun hh => absurd hh hlt),hn,if_neg (by omega)]
theorem Yk (h : Asc l) (hc : curveB l = true) (hl : l.length ≤ 200) (hb1 : b ≤ 1000000000) {t : Int} (hb : t < b) (hn : nxtM l b t < b) : isT l (nxtM l b t) = true := by
 have hlt : cntP l t < l.length := by
  by_cases e : cntP l t < l.length
  · exact e
  · exfalso;unfold nxtM at hn;rw [dif_neg e] at hn;omega
 have h2 : l[cntP l t].f0 < b := by
  by_cases e : l[cntP l t].f0 < b
  · exact e
  · exfalso;unfold nxtM at hn;rw [dif_pos hlt,if_neg e] at hn;omega
 have hq : nxtM l b t = l[cntP l t].f0 := by unfold nxtM;rw [dif_pos hlt,if_pos h2]
 unfold isT;rw [List.any_eq_true];exact ⟨l[cntP l t],List.getElem_mem _,by simp [hq]⟩
theorem Yy (h : Asc l) (hc : curveB l = true) (hl : l.length ≤ 200) (hb1 : b ≤ 1000000000) {t u : Int} (hb : t < b) (htu : t ≤ u) (hu : u < nxtM l b t) : cntP l u = cntP l t := by
 have hle := XC l t;refine YM h _ _ hle (fun i hi hh => ?_) (fun i hi hh => ?_)
 · have := (X0 h t i hi).2 hh;omega
 · have hlt : cntP l t < l.length := by omega
   have hq : nxtM l b t ≤ l[cntP l t].f0 := by unfold nxtM;rw [dif_pos hlt];split <;> omega
   by_cases e : i = cntP l t
   · subst e;omega
   · have := Qi h (i := cntP l t) (j := i) (by omega) hi;omega
theorem nxt_same (h : Asc l) (hc : curveB l = true) (hl : l.length ≤ 200) (hb1 : b ≤ 1000000000) {t u : Int} (hb : t < b) (htu : t ≤ u) (hu : u < nxtM l b t) : nxtM l b u = nxtM l b t := by
 have e := Yy h hc hl hb1 hb htu hu;unfold nxtM;simp only [e]
theorem Y1 (h : Asc l) (hc : curveB l = true) (hl : l.length ≤ 200) (hb1 : b ≤ 1000000000) {t u : Int} (hb : t < b) (htu : t ≤ u) (hu : u < nxtM l b t) : smt l a b u = smt l a b t := by
 have e := Yy h hc hl hb1 hb htu hu;unfold smt;simp only [e]
theorem YG (h : Asc l) (hc : curveB l = true) (hl : l.length ≤ 200) (hb1 : b ≤ 1000000000) {t : Int} (ht0 : 0 ≤ t) (hat : a ≤ t) (hb : t < b) (hm : Mark l a t) : smt l a b t = true ↔ ¬ (shpAt l t ≠ 2 ∨ (isT l t = true ∧ isT l (nxtM l b t) = true)) := by
 have hle := XC l t;rw [YA h hc hl hb1 t ht0];unfold smt
 by_cases hp : 1 ≤ cntP l t ∧ cntP l t < l.length
 · rw [dif_pos hp,dif_pos hp]
   have q1 : l[cntP l t - 1].f0 ≤ t := (X0 h t _ (by omega)).2 (by omega)
   have q2 : ¬ l[cntP l t].f0 ≤ t := fun hh => by have := (X0 h t _ hp.2).1 hh;omega
   have i1 : isT l t = true ↔ ¬ l[cntP l t - 1].f0 < a := by
    rw [Yv h hc hl hb1];constructor
    · rintro ⟨_,e⟩;omega
    · intro hh
      refine ⟨hp.1,?_⟩
      rcases hm with rfl | hm
      · omega
      · obtain ⟨_,e⟩ := (Yv h hc hl hb1 t).1 hm;exact e
   have i2 : isT l (nxtM l b t) = true ↔ ¬ l[cntP l t].f0 > b := by
    by_cases h2 : l[cntP l t].f0 < b
    · have hq : nxtM l b t = l[cntP l t].f0 := by unfold nxtM;rw [dif_pos hp.2,if_pos h2]
      have := Yk h hc hl hb1 hb (by omega);exact ⟨fun _ => by omega,fun _ => this⟩
    · have hq : nxtM l b t = b := by unfold nxtM;rw [dif_pos hp.2,if_neg h2]
      rw [hq];unfold isT;rw [List.any_eq_true];constructor
      · rintro ⟨p,hpm,e⟩ hgt
        obtain ⟨i,hi,rfl⟩ := List.mem_iff_getElem.1 hpm
        have e' : l[i].f0 = b := by simpa using e
        by_cases h3 : i < cntP l t
        · have := (X0 h t i hi).2 h3;omega
        · by_cases h4 : i = cntP l t
          · subst h4;omega
          · have := Qi h (i := cntP l t) (j := i) (by omega) hi;omega
      · intro hh
        exact ⟨l[cntP l t],List.getElem_mem _,by simp;omega⟩
   rw [i1,i2];simp only [Bool.and_eq_true,beq_iff_eq,Bool.or_eq_true,decide_eq_true_eq];constructor
   · rintro ⟨e1,e2⟩ (e3 | ⟨e4,e5⟩)
     · exact e3 e1
     · rcases e2 with e2 | e2
       · exact e4 e2
       · exact e5 e2
   · intro hh
     refine ⟨Classical.byContradiction fun e => hh (.inl e),Classical.byContradiction fun e => hh (.inr ⟨fun e1 => e (.inl e1),fun e1 => e (.inr e1)⟩)⟩
 · rw [dif_neg hp,dif_neg hp]
   simp
theorem shR_flat (h : Asc l) (hc : curveB l = true) (hl : l.length ≤ 200) (hb1 : b ≤ 1000000000) {t : Int} (ht0 : 0 ≤ t) (hs : smt l a b t = false) : shR l a b t = shpAt l t := by
 rw [YA h hc hl hb1 t ht0];unfold shR;split
 · rw [hs];rfl
 · rfl
theorem shR_smooth (h : Asc l) (hc : curveB l = true) (hl : l.length ≤ 200) (hb1 : b ≤ 1000000000) {t : Int} (hs : smt l a b t = true) : shR l a b t = 0 := by
 unfold shR;split
 · first | rfl | rw [if_pos hs]
 · rfl
theorem smooth_run (h : Asc l) (hc : curveB l = true) (hl : l.length ≤ 200) (hb1 : b ≤ 1000000000) {t : Int} (ht0 : 0 ≤ t) (hb : t < b) (hs : smt l a b t = true) (hd : nxtM l b t - t ≤ 20) (r : List S56 × Int) (B : Nat) (hB : 400 ≤ B) : ∀ (m : Nat) (u : Int) (out : List S56),(nxtM l b t - u).toNat = m → t ≤ u → u ≤ nxtM l b t → out.length + m ≤ 100000 →
 Ends l a b B (out ++ ptsR l m u) (nxtM l b t) r → Ends l a b (B + m * (l.length + 5)) out u r := by
 intro m;have hnb := (YK h (b := b) (t := t) hb).2
 induction m with
 | zero =>
  intro u out hm h1 h2 ho hE
  have : u = nxtM l b t := by omega
  subst this;rw [Nat.zero_mul,Nat.add_zero];rw [ptsR.eq_1,List.append_nil] at hE;exact hE
 | succ m ih =>
  intro u out hm h1 h2 ho hE
  have hu : u < nxtM l b t := by omega
  have ih' := ih (u + 1) (out ++ [⟨u,valAt l u,0⟩]) (by omega) (by omega) (by omega) (by simp;omega) (by
   rw [ptsR.eq_2] at hE;rw [List.append_assoc]
   exact hE)
  intro k hk;rw [Nat.succ_mul] at hk
  obtain ⟨k,rfl⟩ : ∃ q,k = q + l.length + 5 := ⟨k - l.length - 5,by omega⟩
  have hw : wrap64 (u + 1) = u + 1 := w64 (by omega) (by omega);have hw2 : wrap64 (nxtM l b t - u) = nxtM l b t - u := w64 (by omega) (by omega);rw [Yb h hc hl a b u (by omega) (by omega) hb1 out (by omega) k (by omega),shR_smooth h hc hl hb1 (by rw [Y1 h hc hl hb1 hb h1 hu];exact hs),Y1 h hc hl hb1 hb h1 hu,nxt_same h hc hl hb1 hb h1 hu];unfold l1end;rw [if_pos hs,hw2,if_neg (by omega),hw];exact ih' k (by omega)
theorem marks_run (h : Asc l) (hc : curveB l = true) (hl : l.length ≤ 200) (hb1 : b ≤ 1000000000) (ha0 : 0 ≤ a) : ∀ (d : Nat) (t : Int) (out : List S56),l.length - cntP l t = d → a ≤ t → t < b → Mark l a t → out.length + 22 * (d + 2) ≤ 100000 →
 Ends l a b (400 + (d + 2) * (21 * (l.length + 5))) out t (endC (cutGo l (t :: Mk l b (cntP l t)) out)) := by
 intro d
 induction d using Nat.strongRecOn with
 | _ d ih =>
  intro t out hd hat hb hm ho;have hle := XC l t;obtain ⟨hgt,hnb⟩ := YK h (b := b) (t := t) hb;rw [mk_next h hc hl hb1 hb]
  have hnext : ∀ out2 : List S56,out2.length ≤ out.length + 20 → Ends l a b (400 + (d + 1) * (21 * (l.length + 5))) out2 (nxtM l b t) (endC (cutGo l (nxtM l b t :: (if nxtM l b t < b then Mk l b (cntP l (nxtM l b t)) else [])) out2)) := by
   intro out2 ho2
   by_cases hn : nxtM l b t < b
   · rw [if_pos hn]
     have hnm := Yk h hc hl hb1 hb hn
     have hc2 : cntP l t < cntP l (nxtM l b t) := by
      have hlt : cntP l t < l.length := by
       by_cases e : cntP l t < l.length
       · exact e
       · exfalso;unfold nxtM at hn;rw [dif_neg e] at hn;omega
      have hq : nxtM l b t = l[cntP l t].f0 := by
       unfold nxtM;rw [dif_pos hlt];split
       · rfl
       · rename_i e;exfalso;unfold nxtM at hn;rw [dif_pos hlt,if_neg e] at hn;omega
      exact (X0 h _ _ hlt).1 (by omega)
     have hle2 := XC l (nxtM l b t)
     obtain ⟨d2,hd2⟩ : ∃ d2,l.length - cntP l (nxtM l b t) = d2 := ⟨_,rfl⟩
     have := ih d2 (by omega) (nxtM l b t) out2 hd2 (by omega) hn (.inr hnm) (by omega);intro k hk;refine this k (Nat.le_trans ?_ hk);have := Nat.mul_le_mul_right (21 * (l.length + 5)) (show d2 + 2 ≤ d + 1 by omega);omega
   · have e : nxtM l b t = b := by omega
     rw [if_neg hn,e];intro k hk;exact Y4 h hc hl a b hb1 out2 (by omega) k (by omega)
  have hsplit : (d + 2) * (21 * (l.length + 5)) = (d + 1) * (21 * (l.length + 5)) + 21 * (l.length + 5) := by rw [show d + 2 = (d + 1) + 1 by omega,Nat.succ_mul]
  cases hs : smt l a b t with
  | false =>
   have hflat : shpAt l t ≠ 2 ∨ (isT l t = true ∧ isT l (nxtM l b t) = true) := Classical.byContradiction fun e => by
    have := (YG h hc hl hb1 (by omega) hat hb hm).2 e;rw [hs] at this
    cases this
   rw [Qw hflat];intro k hk
   obtain ⟨k,rfl⟩ : ∃ q,k = q + l.length + 5 := ⟨k - l.length - 5,by omega⟩
   rw [Yb h hc hl a b t (by omega) hb hb1 out (by omega) k (by omega),shR_flat h hc hl hb1 (by omega) hs,hs];unfold l1end;rw [if_neg (by decide)];exact hnext _ (by simp) k (by omega)
  | true =>
   have hn := (YG h hc hl hb1 (by omega) hat hb hm).1 hs
   by_cases h20 : nxtM l b t - t > 20
   · rw [Qz hn h20]
     intro k hk
     obtain ⟨k,rfl⟩ : ∃ q,k = q + l.length + 5 := ⟨k - l.length - 5,by omega⟩
     rw [Yb h hc hl a b t (by omega) hb hb1 out (by omega) k (by omega),hs];unfold l1end;rw [if_pos rfl,w64 (by omega) (by omega),if_pos h20]
     have hp : 1 ≤ cntP l t ∧ cntP l t < l.length := by
      refine Classical.byContradiction fun e => ?_
      unfold smt at hs;rw [dif_neg e] at hs
      cases hs
     have hR : prt l t = (cntP l t : Int) - 1 := by unfold prt;rw [if_pos hp]
     by_cases hta : t = a
     · rw [if_pos hta];rfl
     · rw [if_neg hta,hR,if_pos (by omega),if_pos (by omega),rd56p hp]
       rcases hm with hm | hm
       · exact absurd hm hta
       · obtain ⟨_,e⟩ := (Yv h hc hl hb1 t).1 hm
         rw [if_pos e];rfl
   · rw [QC hn h20]
     have hm20 : (nxtM l b t - t).toNat ≤ 20 := by omega
     have hpl : ∀ (n : Nat) (u : Int),(ptsR l n u).length = n := by
      intro n
      induction n with
      | zero => intro u;rfl
      | succ n ihn => intro u;rw [ptsR.eq_2,List.length_cons,ihn]
     have hrun := smooth_run h hc hl hb1 (by omega) hb hs (by omega) _ (400 + (d + 1) * (21 * (l.length + 5))) (by omega) _ t out rfl (by omega) (by omega) (by omega) (hnext _ (by rw [List.length_append,hpl];omega));intro k hk;refine hrun k (Nat.le_trans ?_ hk);have := Nat.mul_le_mul_right (l.length + 5) hm20;omega
end
end Go.Proofs.Ytomlfbmfdoallaa.Pure

namespace Go.Proofs.Ytomlfbmfdoallaa.Pure
open Go.RowKit Go.Proofs.Ytomlfbmfdoallaa.PA Go.Proofs.YtomlfbmfdoallaaW.PrintWords Go.Proofs.YtomlfbmfdoallaaW.PrintLast
set_option linter.unusedVariables false
set_option linter.unusedSimpArgs false
theorem mul_mono_right {n m q : Int} (hn : 0 ≤ n) (h : m ≤ q) : n * m ≤ n * q := Int.mul_le_mul_of_nonneg_left h hn
theorem Q7 {n m q : Int} (hq : 0 < q) (h0 : 0 ≤ m) (h1 : m ≤ q) (hn : 0 ≤ n) : 0 ≤ (2 * (n * m) + q) / (2 * q) ∧ (2 * (n * m) + q) / (2 * q) ≤ n := by
 have hx0 : 0 ≤ n * m := Int.mul_nonneg hn h0;have hx1 := mul_mono_right hn h1;refine ⟨Int.ediv_nonneg (by omega) (by omega),?_⟩
 have : (2 * (n * m) + q) / (2 * q) < n + 1 := by
  refine Int.ediv_lt_of_lt_mul (by omega) ?_
  have e : (n + 1) * (2 * q) = 2 * (n * q) + 2 * q := by rw [Int.add_mul,Int.one_mul,Int.mul_left_comm]
  rw [e];omega
 omega
theorem Y5 {n m q : Int} (hq : 0 < q) (h0 : 0 ≤ m) (h1 : m ≤ q) : (0 ≤ n → 0 ≤ rnd (n * m) q ∧ rnd (n * m) q ≤ n) ∧ (n ≤ 0 → n ≤ rnd (n * m) q ∧ rnd (n * m) q ≤ 0) := by
 constructor
 · intro hn
   have hx0 : 0 ≤ n * m := Int.mul_nonneg hn h0;unfold rnd;rw [if_neg (by omega)];exact Q7 hq h0 h1 hn
 · intro hn
   have hp := Q7 hq h0 h1 (show 0 ≤ -n by omega);rw [Int.neg_mul] at hp;unfold rnd;split
   · rw [show -2 * (n * m) + q = 2 * -(n * m) + q by omega]
     omega
   · rename_i hneg
     have h2 : n * m ≤ 0 := Int.mul_nonpos_of_nonpos_of_nonneg hn h0
     have h3 : n * m = 0 := by omega
     rw [h3];rw [show (2 * 0 + q) / (2 * q) = 0 from Int.ediv_eq_zero_of_lt (by omega) (by omega)];omega
theorem shp_between {a b : S56} {k : Int} (h : Seg a b k) : mn a.f1 b.f1 ≤ a.f1 + shp a.f2 (b.f1 - a.f1) (k - a.f0) (b.f0 - a.f0) ∧ a.f1 + shp a.f2 (b.f1 - a.f1) (k - a.f0) (b.f0 - a.f0) ≤ mx a.f1 b.f1 := by
 have a0 := h.a0;have ak := h.ak;have kb := h.kb;have b0 := h.b0;have s0 := h.s0;have s1 := h.s1;have sm := h.sm
 have key : (0 ≤ b.f1 - a.f1 → 0 ≤ shp a.f2 (b.f1 - a.f1) (k - a.f0) (b.f0 - a.f0) ∧ shp a.f2 (b.f1 - a.f1) (k - a.f0) (b.f0 - a.f0) ≤ b.f1 - a.f1) ∧ (b.f1 - a.f1 ≤ 0 → b.f1 - a.f1 ≤ shp a.f2 (b.f1 - a.f1) (k - a.f0) (b.f0 - a.f0) ∧ shp a.f2 (b.f1 - a.f1) (k - a.f0) (b.f0 - a.f0) ≤ 0) := by
  unfold shp
  by_cases h0 : a.f2 = 0
  · rw [if_pos h0];omega
  · rw [if_neg h0]
    by_cases h1 : a.f2 = 1
    · rw [if_pos h1]
      exact Y5 (by omega) (by omega) (by omega)
    · rw [if_neg h1]
      obtain ⟨d,hd⟩ : ∃ d,k - a.f0 = d := ⟨_,rfl⟩
      obtain ⟨L,hL⟩ : ∃ L,b.f0 - a.f0 = L := ⟨_,rfl⟩
      rw [hd,hL]
      have d0 : 0 ≤ d := by omega
      have dL : d ≤ L := by omega
      have hdd : 0 ≤ d * d := Int.mul_nonneg d0 d0
      have e1 : 3 * d * d * L - 2 * d * d * d = (d * d) * (3 * L - 2 * d) := by
       rw [Int.mul_sub,Int.mul_assoc 3 d d,Int.mul_assoc 2 d d,Int.mul_assoc 3,Int.mul_assoc 2,Int.mul_left_comm (d * d) 3 L,Int.mul_left_comm (d * d) 2 d]
      have e2 : L * L * L - (d * d) * (3 * L - 2 * d) = (L - d) * (L - d) * (L + 2 * d) := by
       simp only [Int.mul_sub,Int.sub_mul,Int.mul_add,Int.add_mul]
       have q1 : d * d * (3 * L) = 3 * (d * d * L) := by rw [Int.mul_left_comm]
       have q2 : d * d * (2 * d) = 2 * (d * d * d) := by rw [Int.mul_left_comm]
       have q3 : L * L * (2 * d) = 2 * (L * L * d) := by rw [Int.mul_left_comm]
       have q4 : d * L * (2 * d) = 2 * (d * L * d) := by rw [Int.mul_left_comm]
       have q5 : L * d * (2 * d) = 2 * (L * d * d) := by rw [Int.mul_left_comm]
       have r1 : d * L * L = L * L * d := by rw [Int.mul_comm d L,Int.mul_assoc,Int.mul_comm d L,← Int.mul_assoc]
       have r2 : L * d * L = L * L * d := by rw [Int.mul_assoc,Int.mul_comm d L,← Int.mul_assoc]
       have r3 : d * L * d = d * d * L := by rw [Int.mul_assoc,Int.mul_comm L d,← Int.mul_assoc]
       have r4 : L * d * d = d * d * L := by rw [Int.mul_comm L d,Int.mul_assoc,Int.mul_comm L d,← Int.mul_assoc]
       rw [q1,q2,q3,q4,q5,r1,r2,r3,r4];omega
      have p1 : 0 ≤ (d * d) * (3 * L - 2 * d) := Int.mul_nonneg hdd (by omega);have p2 : 0 ≤ (L - d) * (L - d) * (L + 2 * d) := Int.mul_nonneg (Int.mul_nonneg (by omega) (by omega)) (by omega);have p3 : 0 < L * L * L := Int.mul_pos (Int.mul_pos (by omega) (by omega)) (by omega);rw [e1];exact Y5 p3 p1 (by omega)
 unfold mn mx
 by_cases hn : 0 ≤ b.f1 - a.f1
 · have := key.1 hn
   constructor <;> split <;> omega
 · have := key.2 (by omega)
   constructor <;> split <;> omega
def lim (l : List S56) (n : Nat) : Int × Int := if n = 0 then ((Ze l 0).f1,(Ze l 0).f1) else (mn (Ze l ((n - 1 : Nat) : Int)).f1 (Ze l (n : Int)).f1,mx (Ze l ((n - 1 : Nat) : Int)).f1 (Ze l (n : Int)).f1)
theorem lim_loop {l : List S56} (h : Asc l) (hl : l.length ≤ 200) (hne : 1 ≤ l.length) (t a b v : Int) : ∀ (d k i : Nat),l.length - 1 - i = d → i ≤ l.length - 1 →
 Zh.l0 (k + d + 1) l t a b v (lim l (min i (cntP l t))).1 (lim l (min i (cntP l t))).2 (i : Int) = if v < (lim l (min (l.length - 1) (cntP l t))).1 then some false else if v > (lim l (min (l.length - 1) (cntP l t))).2 then some false else Zh.j2 k l a b := by
 intro d
 induction d with
 | zero =>
  intro k i hd hi;have hw : wrap64 ((i : Int) + 1) = (i : Int) + 1 := w64 (by omega) (by omega);rw [Zh.l0.eq_2,hw,if_neg (by omega),show i = l.length - 1 by omega]
 | succ d ih =>
  intro k i hd hi
  have hw : wrap64 ((i : Int) + 1) = ((i + 1 : Nat) : Int) := by rw [w64 (by omega) (by omega)];omega
  rw [show k + (d + 1) + 1 = (k + d + 1) + 1 by omega,Zh.l0.eq_2,hw,if_pos (by omega),if_pos (by omega),if_pos (by omega)];have e1 := X0 h t i (by omega);rw [rd56 l i (by omega)];have ih' := ih k (i + 1) (by omega) (by omega)
  by_cases h1 : i < cntP l t
  · rw [if_pos (e1.2 h1),if_pos (by omega)]
    rw [show min (i + 1) (cntP l t) = i + 1 by omega] at ih';unfold lim at ih';rw [if_neg (by omega),show i + 1 - 1 = i by omega,rd56 l i (by omega)] at ih';exact ih'
  · rw [if_neg (fun hh => h1 (e1.1 hh)),show min i (cntP l t) = min (i + 1) (cntP l t) by omega]
    exact ih'
theorem val_lim {l : List S56} (hc : curveB l = true) (t : Int) : (lim l (min (l.length - 1) (cntP l t))).1 ≤ valAt l t ∧ valAt l t ≤ (lim l (min (l.length - 1) (cntP l t))).2 := by
 simp only [curveB,Bool.and_eq_true,decide_eq_true_eq] at hc;obtain ⟨⟨n1,n2⟩,hcv⟩ := hc;have h := Yw l hcv
 have hne : l ≠ [] := by intro e;subst e;simp at n1
 have hle := XC l t;have r0 : Ze l 0 = l[0]'(by omega) := rd56 l 0 (by omega);unfold valAt
 by_cases hlt : t < (Ze l 0).f0
 · rw [if_pos hlt]
   have hz : cntP l t = 0 := by
    by_cases e : cntP l t = 0
    · exact e
    · have := (X0 h t 0 (by omega)).2 (by omega)
      rw [r0] at hlt;omega
   rw [hz,show min (l.length - 1) 0 = 0 by omega];unfold lim;rw [if_pos rfl];exact ⟨Int.le_refl _,Int.le_refl _⟩
 · rw [if_neg hlt]
   have h1 : 1 ≤ cntP l t := (X0 h t 0 (by omega)).1 (by rw [r0] at hlt;omega)
   have hsp := QV t l hne hcv (fun x e => by
    have : Ze l 0 = x := by
     cases l with
     | nil => simp at e
     | cons y ys => cases e;rfl
    rw [← this];omega)
   rcases hsp with ⟨q1,q2⟩ | ⟨m,p,q,q1,q2,q3,q4,q5⟩
   ·
    have hcl : cntP l t = l.length := by
     by_cases e : cntP l t < l.length
     · exfalso
       have hany := XY (fun x : S56 => decide (x.f0 > t)) l 0 (by omega);rw [show idxFrom (fun x : S56 => decide (x.f0 > t)) 0 l = -1 from q1] at hany
       have : l.any (fun x : S56 => decide (x.f0 > t)) = true := by
        rw [List.any_eq_true];refine ⟨l[cntP l t],List.getElem_mem _,?_⟩
        have : ¬ l[cntP l t].f0 ≤ t := fun hh => by have := (X0 h t _ e).1 hh;omega
        simp;omega
       rw [this] at hany;simp at hany
     · omega
    rw [q2,List.getLast_eq_getElem,hcl,show min (l.length - 1) l.length = l.length - 1 by omega];unfold lim
    by_cases h0 : l.length - 1 = 0
    · rw [if_pos h0,r0]
      simp only [h0];exact ⟨Int.le_refl _,Int.le_refl _⟩
    · rw [if_neg h0,rd56 l (l.length - 1) (by omega)]
      unfold mn mx;constructor
      · show (if _ then _ else _) ≤ _
        split <;> omega
      · show _ ≤ (if _ then _ else _)
        split <;> omega
   · obtain ⟨hm,em⟩ := List.getElem?_eq_some_iff.1 q2
     obtain ⟨hm1,em1⟩ := List.getElem?_eq_some_iff.1 q3
     have hcm : cntP l t = m + 1 := by
      have x1 := (X0 h t m hm).1 (by rw [em];exact q5.ak)
      have x2 : ¬ m + 1 < cntP l t := fun hh => by
       have := (X0 h t (m + 1) hm1).2 hh;rw [em1] at this;have := q5.kb;omega
      omega
     rw [q4,hcm,show min (l.length - 1) (m + 1) = m + 1 by omega];unfold lim;rw [if_neg (by omega),show m + 1 - 1 = m by omega,rd56 l m hm,rd56 l (m + 1) hm1,em,em1];exact shp_between q5
theorem same_loop (x : List S56) (hx : x.length ≤ 200) : ∀ (d k i : Nat),x.length - i = d → i ≤ x.length → Zh.l1 (k + d + 1) x x (i : Int) = some true := by
 intro d
 induction d with
 | zero =>
  intro k i hd hi;rw [Zh.l1.eq_2,if_neg (by omega)]
 | succ d ih =>
  intro k i hd hi
  have hw : wrap64 ((i : Int) + 1) = ((i + 1 : Nat) : Int) := by rw [w64 (by omega) (by omega)];omega
  rw [show k + (d + 1) + 1 = (k + d + 1) + 1 by omega,Zh.l1.eq_2,if_pos (by omega),if_pos (by omega),if_pos (by omega),hw];simp only [beq_self_eq_true,Bool.not_true,Bool.or_false,Bool.false_eq_true,if_false];exact ih k (i + 1) (by omega) (by omega)
theorem cut_ref {l : List S56} (hl : l.length ≤ 200) (a b : Int) (k : Nat) (hk : 500000 ≤ k) : Zj.f k l a b = some (cutR l a b) := by
 obtain ⟨k,rfl⟩ : ∃ q,k = q + 1 := ⟨k - 1,by omega⟩
 unfold Zj.f cutR;rw [QB hl (by omega),Option.bind_some]
 cases hc : curveB l with
 | false => rfl
 | true =>
  have hc' := hc;simp only [curveB,Bool.and_eq_true,decide_eq_true_eq] at hc';obtain ⟨⟨n1,n2⟩,hcv⟩ := hc';have h := Yw l hcv;rw [if_pos rfl,if_pos rfl]
  have ht : ∀ x : Int,Zx.f x = some (decide (0 ≤ x ∧ x ≤ 1000000000)) := by
   intro x;unfold Zx.f
   by_cases h0 : 0 ≤ x
   · simp [h0]
   · simp [h0]
  rw [ht a,ht b];simp only [Option.bind_some,decide_eq_true_eq]
  by_cases ha : 0 ≤ a ∧ a ≤ 1000000000
  · rw [if_pos ha]
    by_cases hb : 0 ≤ b ∧ b ≤ 1000000000
    · rw [if_pos hb]
      by_cases hab : a ≤ b
      · rw [if_pos ⟨ha,hab,hb.2⟩,Zj.j0.eq_2,if_neg (by simp;omega)]
        by_cases e : a = b
        · subst e
          rw [marks_same h];exact Y4 h hc hl a a hb.2 [] (by simp) k (by omega)
        · rw [marks_eq h (by omega)]
          have hle := XC l a;refine marks_run h hc hl hb.2 ha.1 _ a [] rfl (Int.le_refl _) (by omega) (.inl rfl) (by simp;omega) k ?_;have := Nat.mul_le_mul (show l.length - cntP l a + 2 ≤ 102 by omega) (show 21 * (l.length + 5) ≤ 21 * 105 by omega);omega
      · rw [if_neg (fun hh => hab hh.2.1),Zj.j0.eq_2,if_pos (by simp;omega)]
    · rw [if_neg hb,if_neg (fun hh => hb ⟨by omega,hh.2.2⟩),Zj.j0.eq_2,if_pos rfl]
  · rw [if_neg ha,if_neg (fun hh => ha hh.1),Zj.j0.eq_2,if_pos rfl]
theorem cutR_len (l : List S56) (a b : Int) : (cutR l a b).1.length ≤ 100 := by
 unfold cutR;split
 · split
   · unfold endC
     split
     · simp
     · split
       · simp
       · rename_i hh;exact Nat.le_of_not_lt hh
   · simp
 · simp
theorem TempoCurves : ∀ (l : List S56) (t a b : Int),∃ k,Zh.f k l t a b = some true := by
 intro l t a b;refine ⟨1000000,?_⟩;unfold Zh.f;rw [upb (g := fun k => Z6.f k) (fun k => Z6.mono k) awake_ok 1000000 (by omega)];simp only [Option.bind_some,if_true]
 have hlong : Xa.f ([] : List S27) ([] : List S61) l = some (decide (120 < l.length)) := by
  unfold Xa.f;rw [if_neg (by simp),if_neg (by simp)];simp;omega
 rw [hlong];simp only [Option.bind_some,decide_eq_true_eq]
 by_cases hl0 : 120 < l.length
 · rw [if_pos hl0]
 · rw [if_neg hl0]
   have hl : l.length ≤ 200 := by omega
   have j2t : ∀ k,600000 ≤ k → Zh.j2 k l a b = some true := by
    intro k hk
    obtain ⟨k,rfl⟩ : ∃ q,k = q + 1 := ⟨k - 1,by omega⟩
    rw [Zh.j2.eq_2,cut_ref hl a b k (by omega)];unfold XJ.f;rw [if_pos hl];simp only [Option.bind_some,if_true,bne_self_eq_false]
    obtain ⟨k,rfl⟩ : ∃ q,k = q + 1 := ⟨k - 1,by omega⟩
    rw [Zh.j3.eq_2,if_neg (by decide)];have hcl := cutR_len l a b
    obtain ⟨k2,hk2⟩ : ∃ q,k = q + (cutR l a b).1.length + 1 := ⟨k - (cutR l a b).1.length - 1,by omega⟩
    rw [hk2];exact same_loop _ (by omega) _ k2 0 (by omega) (by omega)
   have hP : Xi.f 1000000 l t = some (if curveB l = true then (if 0 ≤ t ∧ t ≤ 1000000000 then (valAt l t,0) else (0,7)) else (0,1)) := by
    unfold Xi.f;rw [Ya hl (by omega),XS];simp only [Option.bind_some,decide_eq_true_eq];split
    · rename_i hc
      split
      · rename_i ht
        unfold Xt.f;rw [if_pos ⟨hc,ht⟩];rfl
      · rfl
    · rfl
   have hR : ZM.f 1000000 l t = some (if curveB l = true then (if 0 ≤ t ∧ t ≤ 1000000000 then (valAt l t,0) else (0,7)) else (0,1)) := by
    unfold ZM.f
    have ht : Zx.f t = some (decide (0 ≤ t ∧ t ≤ 1000000000)) := by
     unfold Zx.f
     by_cases h0 : 0 ≤ t
     · simp [h0]
     · simp [h0]
    rw [QB hl (by omega),ht];simp only [Option.bind_some,decide_eq_true_eq];split
    · rename_i hc
      split
      · rename_i ht
        rw [QL l hc t ht.2 _ (by omega)];rfl
      · rfl
    · rfl
   rw [hP,hR,Ya hl (by omega),QB hl (by omega)];simp only [Option.bind_some,if_true,bne_self_eq_false];rw [show (1000000 : Nat) = 999999 + 1 from rfl,Zh.j0.eq_2,if_neg (by decide)]
   by_cases hc : curveB l = true
   · have hc' := hc
     simp only [curveB,Bool.and_eq_true,decide_eq_true_eq] at hc';obtain ⟨⟨n1,n2⟩,hcv⟩ := hc';rw [if_pos hc]
     by_cases ht : 0 ≤ t ∧ t ≤ 1000000000
     · rw [if_pos ht,if_pos rfl,if_pos (by omega)]
       obtain ⟨k2,hk2⟩ : ∃ q,999999 = q + (l.length - 1 - 0) + 1 := ⟨999999 - (l.length - 1 - 0) - 1,by omega⟩
       rw [hk2];have hloop := lim_loop (Yw l hcv) hl n1 t a b (valAt l t) (l.length - 1 - 0) k2 0 rfl (by omega);rw [show min 0 (cntP l t) = 0 by omega] at hloop
       have hz : lim l 0 = ((Ze l 0).f1,(Ze l 0).f1) := by unfold lim;rw [if_pos rfl]
       rw [hz] at hloop;have hv := val_lim hc t;rw [if_neg (by omega),if_neg (by omega),j2t _ (by omega)] at hloop;exact hloop
     · rw [if_neg ht,if_neg (by decide)]
       exact j2t _ (by omega)
   · rw [if_neg hc,if_neg (by decide)]
     exact j2t _ (by omega)
end Go.Proofs.Ytomlfbmfdoallaa.Pure

namespace Go.Proofs.Ytomlfbmfdoallaa
open Go.ChangeShapes Go.WideShapes Go.Deep
set_option linter.unusedVariables false
section
variable {H : Type} {enc : TypeId × Value → H} {P : Program} {w : World} {base : Nat} {spare : Nat → Bool} {held : Bool}
theorem open_slice_fields {t e : TypeId} {fs : Array Field} {fuel : Nat} {cs : List Value} {x : DataW H × List MemPlace} (ht : P.underlying t = some (.slice e)) (he : P.underlying e = some (.struct fs))
 (hone : oneCellFields P fs = true) (hC : P.cellsOf e = fs.size) (h : DataW.trod enc P w base spare held fuel t cs = some x) :
 (cs = [.slice none 0 0] ∧ x = (.nil,[])) ∨
 ∃ (a : Addr) (len cap m : Nat) (D : Nat → DataW H) (Pl : Nat → List MemPlace),cs = [.slice (some a) len cap] ∧ base ≤ a.block ∧ len ≤ cap ∧ cap ≤ maxLen ∧ m = (if spare a.block then cap else len) ∧
  x = (.slice ((List.range len).map D) ((List.range (m - len)).map fun j => D (len + j)),MemPlace.row a (m * fs.size) ++ (List.range m).flatMap Pl) ∧
  ∀ i,i < m → ∃ (ys : List (DataW H × List MemPlace)) (n : Nat),D i = .agg (ys.map (·.1)) ∧ Pl i = ys.flatMap (·.2) ∧ ys.length = fs.size ∧
   ∀ (j : Nat) (f : Field),fs[j]? = some f → ∃ (v : Value) (y : DataW H × List MemPlace),w.cell? (a.add (i * fs.size + j)) = some v ∧ ys[j]? = some y ∧ DataW.trod enc P w base spare held n f.type [v] = some y := by
 rcases open_slice ht h with h0 | ⟨a,len,cap,m,n,D,Pl,hcs,hb,hl,hm,hmm,hx,hi⟩
 · exact .inl h0
 · refine .inr ⟨a,len,cap,m,D,Pl,hcs,hb,hl,hm,hmm,by rw [hC] at hx;exact hx,fun i him => ?_⟩
   obtain ⟨cs',hc,ht'⟩ := hi i him;rw [hC] at hc;obtain ⟨ys,n',hn',hy,hlen,hyl,hf⟩ := DataW.trod_struct he ht';obtain ⟨_,hcl,hat⟩ := World.cells?_some hc;simp only [Prod.mk.injEq] at hy;refine ⟨ys,n',hy.1,hy.2,hyl,fun j f hj => ?_⟩;obtain ⟨ho,hk⟩ := hone_of hone j f hj;have hjl : j < fs.size := (Array.getElem?_eq_some_iff.1 hj).1;have hcell := hat j hjl;have hv : cs'[j]? = some (cs'[j]'(by omega)) := List.getElem?_eq_getElem (by omega);have h1 := hf j f hj;rw [ho,hk] at h1
   have hone' : (cs'.drop j).take 1 = [cs'[j]'(by omega)] := by
    rw [List.drop_eq_getElem_cons (by omega)];rfl
   rw [hone'] at h1;have hys : ys[j]? = some (ys[j]'(by omega)) := List.getElem?_eq_getElem (by omega);refine ⟨_,_,?_,hys,h1.trans hys⟩;rw [← Go.Deep.add_add,hcell,hv]
end
section
variable {H : Type} {enc : TypeId × Value → H} {P : Program} {w : World} {base : Nat} {spare : Nat → Bool} {held : Bool}
def Triples (w : World) (a : Option Addr) (len cap : Nat) (zs : List (Int × Int × Int)) : Prop :=
 zs.length = len ∧ len ≤ cap ∧ len ≤ 9223372036854775807 ∧ (∀ p ∈ zs,(Lit.int .i64 p.1).wf = true ∧ (Lit.int .i64 p.2.1).wf = true ∧ (Lit.int .i64 p.2.2).wf = true) ∧
  (0 < len → ∃ ad,a = some ad ∧ ∀ j p,zs[j]? = some p → ∀ i u,[Value.int .i64 p.1,.int .i64 p.2.1,.int .i64 p.2.2][i]? = some u → w.cell? (ad.add (j * 3 + i)) = some u)
theorem open_slice3 {t e : TypeId} {f0 f1 f2 : Field} {fuel : Nat} {a : Option Addr} {len cap : Nat} {x : DataW H × List MemPlace} (ht : P.underlying t = some (.slice e)) (he : P.underlying e = some (.struct #[f0,f1,f2]))
 (hone : oneCellFields P #[f0,f1,f2] = true) (hC : P.cellsOf e = 3) (h0 : P.underlying f0.type = some (.int .i64)) (h1 : P.underlying f1.type = some (.int .i64)) (h2 : P.underlying f2.type = some (.int .i64))
 (h : DataW.trod enc P w base spare held fuel t [.slice a len cap] = some x) : ∃ zs,Triples w a len cap zs := by
 rcases open_slice_fields ht he hone hC h with ⟨hcs,_⟩ | ⟨ad,l,c,m,D,Pl,hcs,_,hl,hm,hmm,_,hi⟩
 · simp at hcs
   obtain ⟨rfl,rfl,rfl⟩ := hcs;exact ⟨[],rfl,by omega,by omega,by simp,fun h => absurd h (Nat.lt_irrefl 0)⟩
 · simp at hcs
   obtain ⟨rfl,rfl,rfl⟩ := hcs
   have hlm : len ≤ m := by rw [hmm];split <;> omega
   have key : ∀ i,i < len → ∃ p : Int × Int × Int,((Lit.int .i64 p.1).wf = true ∧ (Lit.int .i64 p.2.1).wf = true ∧ (Lit.int .i64 p.2.2).wf = true) ∧ ∀ k u,[Value.int .i64 p.1,.int .i64 p.2.1,.int .i64 p.2.2][k]? = some u → w.cell? (ad.add (i * 3 + k)) = some u := by
    intro i hil;obtain ⟨ys,n,_,_,hy,hf⟩ := hi i (by omega);obtain ⟨v0,y0,c0,_,t0⟩ := hf 0 f0 rfl;obtain ⟨v1,y1,c1,_,t1⟩ := hf 1 f1 rfl;obtain ⟨v2,y2,c2,_,t2⟩ := hf 2 f2 rfl;obtain ⟨p0,e0,_,w0⟩ := DataW.trod_int h0 t0;obtain ⟨p1,e1,_,w1⟩ := DataW.trod_int h1 t1;obtain ⟨p2,e2,_,w2⟩ := DataW.trod_int h2 t2;simp only [List.cons.injEq,and_true] at e0 e1 e2;subst e0 e1 e2;refine ⟨(p0,p1,p2),⟨w0,w1,w2⟩,fun k u hk => ?_⟩
    match k with
    | 0 => simp at hk;subst hk;exact c0
    | 1 => simp at hk;subst hk;exact c1
    | 2 => simp at hk;subst hk;exact c2
    | k + 3 => simp at hk
   have key2 : ∀ n,n ≤ len → ∃ zs : List (Int × Int × Int),zs.length = n ∧ (∀ p ∈ zs,(Lit.int .i64 p.1).wf = true ∧ (Lit.int .i64 p.2.1).wf = true ∧ (Lit.int .i64 p.2.2).wf = true) ∧ ∀ j p,zs[j]? = some p → ∀ k u,[Value.int .i64 p.1,.int .i64 p.2.1,.int .i64 p.2.2][k]? = some u → w.cell? (ad.add (j * 3 + k)) = some u := by
    intro n
    induction n with
    | zero => intro _;exact ⟨[],rfl,by simp,by simp⟩
    | succ n ih =>
     intro hn;obtain ⟨zs,hz,hw,hc⟩ := ih (by omega);obtain ⟨p,hwp,hp⟩ := key n (by omega);refine ⟨zs ++ [p],by simp [hz],?_,?_⟩
     · intro q hq
       rcases List.mem_append.1 hq with hq | hq
       · exact hw q hq
       · rw [List.mem_singleton.1 hq];exact hwp
     · intro j q hj
       by_cases hjn : j < n
       · rw [List.getElem?_append_left (by omega)] at hj
         exact hc j q hj
       · have hj2 := (List.getElem?_eq_some_iff.1 hj).1
         simp [hz] at hj2
         obtain rfl : j = n := by omega
         rw [List.getElem?_append_right (by omega)] at hj;simp [hz] at hj;subst hj;exact hp
   obtain ⟨zs,hz,hw,hc⟩ := key2 len (Nat.le_refl _);exact ⟨zs,hz,hl,by unfold maxLen at hm;omega,hw,fun _ => ⟨ad,rfl,hc⟩⟩
end
end Go.Proofs.Ytomlfbmfdoallaa
