/- TempoCurves, part 7: what the row is built on. -/
import Derived.Test.YtomlfbmfdoallaaCTempoCurves6
namespace Go.Proofs.Ytomlfbmfdoallaa.PA
open Go.RowKit Go.Proofs.YtomlfbmfdoallaaW.PrintWords Go.Proofs.YtomlfbmfdoallaaW.PrintLast Go.Proofs.YtomlfbmfdoallaaW.PrintMore
attribute [local go_sem] Xf Xe Xj Xk ZV ZU Xd Xc
set_option linter.unusedVariables false
set_option linter.unusedSimpArgs false
mutual
def Zj.j0 : Nat → List (S56) → Int → Int → Bool → Option ((List (S56)) × Int)
 | 0,_,_,_,_ => none
 | k + 1,x0,x1,x2,x30 => if x30 = true then (some (([] : List (S56)),7)) else (Zj.l0 k x0 x1 x2 ([] : List (S56)) x1)
def Zj.l0 : Nat → List (S56) → Int → Int → List (S56) → Int → Option ((List (S56)) × Int)
 | 0,_,_,_,_,_ => none
 | k + 1,x0,x1,x2,x8,x9 => (ZC.f k x0 x9).bind fun t595 => (if t595 ≥ 0 then (if 0 ≤ t595 then (if t595 < (x0.length : Int) then (if ((Ze x0 t595).f2) = 2 then (if ((Ze x0 t595).f0) < x1 then (Zj.j2 k x0 x1 x2 x8 x9 t595 true) else (if 0 ≤ (wrap64 (t595 + 1)) then (if (wrap64 (t595 + 1)) < (x0.length : Int) then (Zj.j2 k x0 x1 x2 x8 x9 t595 (decide (((Ze x0 (wrap64 (t595 + 1))).f0) > x2))) else (none)) else (none))) else (Zj.j2 k x0 x1 x2 x8 x9 t595 false)) else (none)) else (none)) else (Zj.j2 k x0 x1 x2 x8 x9 t595 false))
def Zj.j2 : Nat → List (S56) → Int → Int → List (S56) → Int → Int → Bool → Option ((List (S56)) × Int)
 | 0,_,_,_,_,_,_,_ => none
 | k + 1,x0,x1,x2,x8,x9,x10,x11 => (Zp.f k x0 x9).bind fun t599 => (if x10 ≥ 0 then (Zj.j3 k x0 x1 x2 x8 x9 x10 x11 (!x11) x9 t599 0) else (Zj.j3 k x0 x1 x2 x8 x9 x10 x11 false x9 t599 0))
def Zj.j3 : Nat → List (S56) → Int → Int → List (S56) → Int → Int → Bool → Bool → Int → Int → Int → Option ((List (S56)) × Int)
 | 0,_,_,_,_,_,_,_,_,_,_,_ => none
 | k + 1,x0,x1,x2,x8,x9,x10,x11,x74,x601000,x601001,x601002 => if x74 = true then (if 0 ≤ x10 then (if x10 < (x0.length : Int) then (Zj.j4 k x0 x1 x2 x8 x9 x10 x11 x601000 x601001 ((Ze x0 x10).f2)) else (none)) else (none)) else (Zj.j4 k x0 x1 x2 x8 x9 x10 x11 x601000 x601001 x601002)
def Zj.j4 : Nat → List (S56) → Int → Int → List (S56) → Int → Int → Bool → Int → Int → Int → Option ((List (S56)) × Int)
 | 0,_,_,_,_,_,_,_,_,_,_ => none
 | k + 1,x0,x1,x2,x8,x9,x10,x11,x601000,x601001,x601002 => if x8.length < 5864062014805 then ((some (x8 ++ [(⟨x601000,x601001,x601002⟩ : S56)] : List (S56))).bind fun y602 => (if x9 = x2 then (if (y602.length : Int) > 100 then (some (([] : List (S56)),4)) else (if 0 ≤ (wrap64 ((y602.length : Int) - 1)) then (if (wrap64 ((y602.length : Int) - 1)) < (y602.length : Int) then (some ((y602.set ((wrap64 ((y602.length : Int) - 1)) : Int).toNat (⟨(Ze y602 (wrap64 ((y602.length : Int) - 1))).f0,(Ze y602 (wrap64 ((y602.length : Int) - 1))).f1,0⟩ : S56)),0)) else (none)) else (none))) else (Zj.l1 k x0 x1 x2 y602 x9 x10 x11 x2 0))) else (none)
def Zj.l1 : Nat → List (S56) → Int → Int → List (S56) → Int → Int → Bool → Int → Int → Option ((List (S56)) × Int)
 | 0,_,_,_,_,_,_,_,_,_ => none
 | k + 1,x0,x1,x2,x8,x9,x10,x11,x13,x14 => if x14 < (x0.length : Int) then (if 0 ≤ x14 then (if ((Ze x0 x14).f0) > x9 then (if ((Ze x0 x14).f0) < x13 then (Zj.l1 k x0 x1 x2 x8 x9 x10 x11 ((Ze x0 x14).f0) (wrap64 (x14 + 1))) else (Zj.l1 k x0 x1 x2 x8 x9 x10 x11 x13 (wrap64 (x14 + 1)))) else (Zj.l1 k x0 x1 x2 x8 x9 x10 x11 x13 (wrap64 (x14 + 1)))) else (none)) else (if x11 = true then (if (wrap64 (x13 - x9)) > 20 then (if x9 = x1 then (some (([] : List (S56)),4)) else (if 0 ≤ x10 then (if x10 < (x0.length : Int) then (if ((Ze x0 x10).f0) = x9 then (some (([] : List (S56)),4)) else (Zj.l0 k x0 x1 x2 x8 (wrap64 (x9 + 1)))) else (none)) else (none))) else (Zj.l0 k x0 x1 x2 x8 (wrap64 (x9 + 1)))) else (Zj.l0 k x0 x1 x2 x8 x13))
end
def Zj.f (k : Nat) (l0 : List (S56)) (a1 : Int) (a2 : Int) : Option ((List (S56)) × Int) := (Zg.f k l0).bind fun t592 => (if t592 = true then ((Zx.f a1).bind fun t593 => (if t593 = true then ((Zx.f a2).bind fun t594 => (if t594 = true then (Zj.j0 k l0 a1 a2 (decide (a1 > a2))) else (Zj.j0 k l0 a1 a2 true))) else (Zj.j0 k l0 a1 a2 true))) else (some (([] : List (S56)),1)))
theorem Zj.Xm : ∀ k,(∀ y0 y1 y2 y3,LeO (Zj.j0 k y0 y1 y2 y3) (Zj.j0 (k + 1) y0 y1 y2 y3)) ∧ (∀ y0 y1 y2 y3 y4,LeO (Zj.l0 k y0 y1 y2 y3 y4) (Zj.l0 (k + 1) y0 y1 y2 y3 y4)) ∧ (∀ y0 y1 y2 y3 y4 y5 y6,LeO (Zj.j2 k y0 y1 y2 y3 y4 y5 y6) (Zj.j2 (k + 1) y0 y1 y2 y3 y4 y5 y6)) ∧ (∀ y0 y1 y2 y3 y4 y5 y6 y7 y8 y9 y10,LeO (Zj.j3 k y0 y1 y2 y3 y4 y5 y6 y7 y8 y9 y10) (Zj.j3 (k + 1) y0 y1 y2 y3 y4 y5 y6 y7 y8 y9 y10)) ∧ (∀ y0 y1 y2 y3 y4 y5 y6 y7 y8 y9,LeO (Zj.j4 k y0 y1 y2 y3 y4 y5 y6 y7 y8 y9) (Zj.j4 (k + 1) y0 y1 y2 y3 y4 y5 y6 y7 y8 y9)) ∧ (∀ y0 y1 y2 y3 y4 y5 y6 y7 y8,LeO (Zj.l1 k y0 y1 y2 y3 y4 y5 y6 y7 y8) (Zj.l1 (k + 1) y0 y1 y2 y3 y4 y5 y6 y7 y8))
 | 0 => ⟨fun _ _ _ _ r h => by simp [Zj.j0] at h,fun _ _ _ _ _ r h => by simp [Zj.l0] at h,fun _ _ _ _ _ _ _ r h => by simp [Zj.j2] at h,fun _ _ _ _ _ _ _ _ _ _ _ r h => by simp [Zj.j3] at h,fun _ _ _ _ _ _ _ _ _ _ r h => by simp [Zj.j4] at h,fun _ _ _ _ _ _ _ _ _ r h => by simp [Zj.l1] at h⟩
 | k + 1 => by
  obtain ⟨ih0,ih1,ih2,ih3,ih4,ih5⟩ := Zj.Xm k;refine ⟨?_,?_,?_,?_,?_,?_⟩
  · intro y0 y1 y2 y3
    unfold Zj.j0
    repeat' first
    | (with_reducible exact ih0 _ _ _ _)
    | (with_reducible exact ih1 _ _ _ _ _)
    | (with_reducible exact ih2 _ _ _ _ _ _ _)
    | (with_reducible exact ih3 _ _ _ _ _ _ _ _ _ _ _)
    | (with_reducible exact ih4 _ _ _ _ _ _ _ _ _ _)
    | (with_reducible exact ih5 _ _ _ _ _ _ _ _ _)
    | (with_reducible exact Zg.mono _ _)
    | (with_reducible exact ZC.mono _ _ _)
    | (with_reducible exact Zp.mono _ _ _)
    | (with_reducible exact LeO.refl _)
    | (with_reducible exact LeO.none _)
    | (with_reducible refine LeO.ite ?_ ?_)
    | (with_reducible refine LeO.bind ?_ (fun _ => ?_))
    | exact ih0 _ _ _ _
    | exact ih1 _ _ _ _ _
    | exact ih2 _ _ _ _ _ _ _
    | exact ih3 _ _ _ _ _ _ _ _ _ _ _
    | exact ih4 _ _ _ _ _ _ _ _ _ _
    | exact ih5 _ _ _ _ _ _ _ _ _
    | exact Zg.mono _ _
    | exact ZC.mono _ _ _
    | exact Zp.mono _ _ _
    | exact LeO.none _
    | refine LeO.ite ?_ ?_
    | refine LeO.bind ?_ (fun _ => ?_)
  · intro y0 y1 y2 y3 y4
    unfold Zj.l0
    repeat' first
    | (with_reducible exact ih0 _ _ _ _)
    | (with_reducible exact ih1 _ _ _ _ _)
    | (with_reducible exact ih2 _ _ _ _ _ _ _)
    | (with_reducible exact ih3 _ _ _ _ _ _ _ _ _ _ _)
    | (with_reducible exact ih4 _ _ _ _ _ _ _ _ _ _)
    | (with_reducible exact ih5 _ _ _ _ _ _ _ _ _)
    | (with_reducible exact Zg.mono _ _)
    | (with_reducible exact ZC.mono _ _ _)
    | (with_reducible exact Zp.mono _ _ _)
    | (with_reducible exact LeO.refl _)
    | (with_reducible exact LeO.none _)
    | (with_reducible refine LeO.ite ?_ ?_)
    | (with_reducible refine LeO.bind ?_ (fun _ => ?_))
    | exact ih0 _ _ _ _
    | exact ih1 _ _ _ _ _
    | exact ih2 _ _ _ _ _ _ _
    | exact ih3 _ _ _ _ _ _ _ _ _ _ _
    | exact ih4 _ _ _ _ _ _ _ _ _ _
    | exact ih5 _ _ _ _ _ _ _ _ _
    | exact Zg.mono _ _
    | exact ZC.mono _ _ _
    | exact Zp.mono _ _ _
    | exact LeO.none _
    | refine LeO.ite ?_ ?_
    | refine LeO.bind ?_ (fun _ => ?_)
  · intro y0 y1 y2 y3 y4 y5 y6
    unfold Zj.j2
    repeat' first
    | (with_reducible exact ih0 _ _ _ _)
    | (with_reducible exact ih1 _ _ _ _ _)
    | (with_reducible exact ih2 _ _ _ _ _ _ _)
    | (with_reducible exact ih3 _ _ _ _ _ _ _ _ _ _ _)
    | (with_reducible exact ih4 _ _ _ _ _ _ _ _ _ _)
    | (with_reducible exact ih5 _ _ _ _ _ _ _ _ _)
    | (with_reducible exact Zg.mono _ _)
    | (with_reducible exact ZC.mono _ _ _)
    | (with_reducible exact Zp.mono _ _ _)
    | (with_reducible exact LeO.refl _)
    | (with_reducible exact LeO.none _)
    | (with_reducible refine LeO.ite ?_ ?_)
    | (with_reducible refine LeO.bind ?_ (fun _ => ?_))
    | exact ih0 _ _ _ _
    | exact ih1 _ _ _ _ _
    | exact ih2 _ _ _ _ _ _ _
    | exact ih3 _ _ _ _ _ _ _ _ _ _ _
    | exact ih4 _ _ _ _ _ _ _ _ _ _
    | exact ih5 _ _ _ _ _ _ _ _ _
    | exact Zg.mono _ _
    | exact ZC.mono _ _ _
    | exact Zp.mono _ _ _
    | exact LeO.none _
    | refine LeO.ite ?_ ?_
    | refine LeO.bind ?_ (fun _ => ?_)
  · intro y0 y1 y2 y3 y4 y5 y6 y7 y8 y9 y10
    unfold Zj.j3
    repeat' first
    | (with_reducible exact ih0 _ _ _ _)
    | (with_reducible exact ih1 _ _ _ _ _)
    | (with_reducible exact ih2 _ _ _ _ _ _ _)
    | (with_reducible exact ih3 _ _ _ _ _ _ _ _ _ _ _)
    | (with_reducible exact ih4 _ _ _ _ _ _ _ _ _ _)
    | (with_reducible exact ih5 _ _ _ _ _ _ _ _ _)
    | (with_reducible exact Zg.mono _ _)
    | (with_reducible exact ZC.mono _ _ _)
    | (with_reducible exact Zp.mono _ _ _)
    | (with_reducible exact LeO.refl _)
    | (with_reducible exact LeO.none _)
    | (with_reducible refine LeO.ite ?_ ?_)
    | (with_reducible refine LeO.bind ?_ (fun _ => ?_))
    | exact ih0 _ _ _ _
    | exact ih1 _ _ _ _ _
    | exact ih2 _ _ _ _ _ _ _
    | exact ih3 _ _ _ _ _ _ _ _ _ _ _
    | exact ih4 _ _ _ _ _ _ _ _ _ _
    | exact ih5 _ _ _ _ _ _ _ _ _
    | exact Zg.mono _ _
    | exact ZC.mono _ _ _
    | exact Zp.mono _ _ _
    | exact LeO.none _
    | refine LeO.ite ?_ ?_
    | refine LeO.bind ?_ (fun _ => ?_)
  · intro y0 y1 y2 y3 y4 y5 y6 y7 y8 y9
    unfold Zj.j4
    repeat' first
    | (with_reducible exact ih0 _ _ _ _)
    | (with_reducible exact ih1 _ _ _ _ _)
    | (with_reducible exact ih2 _ _ _ _ _ _ _)
    | (with_reducible exact ih3 _ _ _ _ _ _ _ _ _ _ _)
    | (with_reducible exact ih4 _ _ _ _ _ _ _ _ _ _)
    | (with_reducible exact ih5 _ _ _ _ _ _ _ _ _)
    | (with_reducible exact Zg.mono _ _)
    | (with_reducible exact ZC.mono _ _ _)
    | (with_reducible exact Zp.mono _ _ _)
    | (with_reducible exact LeO.refl _)
    | (with_reducible exact LeO.none _)
    | (with_reducible refine LeO.ite ?_ ?_)
    | (with_reducible refine LeO.bind ?_ (fun _ => ?_))
    | exact ih0 _ _ _ _
    | exact ih1 _ _ _ _ _
    | exact ih2 _ _ _ _ _ _ _
    | exact ih3 _ _ _ _ _ _ _ _ _ _ _
    | exact ih4 _ _ _ _ _ _ _ _ _ _
    | exact ih5 _ _ _ _ _ _ _ _ _
    | exact Zg.mono _ _
    | exact ZC.mono _ _ _
    | exact Zp.mono _ _ _
    | exact LeO.none _
    | refine LeO.ite ?_ ?_
    | refine LeO.bind ?_ (fun _ => ?_)
  · intro y0 y1 y2 y3 y4 y5 y6 y7 y8
    unfold Zj.l1
    repeat' first
    | (with_reducible exact ih0 _ _ _ _)
    | (with_reducible exact ih1 _ _ _ _ _)
    | (with_reducible exact ih2 _ _ _ _ _ _ _)
    | (with_reducible exact ih3 _ _ _ _ _ _ _ _ _ _ _)
    | (with_reducible exact ih4 _ _ _ _ _ _ _ _ _ _)
    | (with_reducible exact ih5 _ _ _ _ _ _ _ _ _)
    | (with_reducible exact Zg.mono _ _)
    | (with_reducible exact ZC.mono _ _ _)
    | (with_reducible exact Zp.mono _ _ _)
    | (with_reducible exact LeO.refl _)
    | (with_reducible exact LeO.none _)
    | (with_reducible refine LeO.ite ?_ ?_)
    | (with_reducible refine LeO.bind ?_ (fun _ => ?_))
    | exact ih0 _ _ _ _
    | exact ih1 _ _ _ _ _
    | exact ih2 _ _ _ _ _ _ _
    | exact ih3 _ _ _ _ _ _ _ _ _ _ _
    | exact ih4 _ _ _ _ _ _ _ _ _ _
    | exact ih5 _ _ _ _ _ _ _ _ _
    | exact Zg.mono _ _
    | exact ZC.mono _ _ _
    | exact Zp.mono _ _ _
    | exact LeO.none _
    | refine LeO.ite ?_ ?_
    | refine LeO.bind ?_ (fun _ => ?_)
theorem Zj.mono : ∀ a0 a1 a2 k,LeO (Zj.f k a0 a1 a2) (Zj.f (k + 1) a0 a1 a2) := by
 intro a0 a1 a2 k;obtain ⟨ih0,ih1,ih2,ih3,ih4,ih5⟩ := Zj.Xm k;unfold Zj.f
 repeat' first
  | (with_reducible exact ih0 _ _ _ _)
  | (with_reducible exact ih1 _ _ _ _ _)
  | (with_reducible exact ih2 _ _ _ _ _ _ _)
  | (with_reducible exact ih3 _ _ _ _ _ _ _ _ _ _ _)
  | (with_reducible exact ih4 _ _ _ _ _ _ _ _ _ _)
  | (with_reducible exact ih5 _ _ _ _ _ _ _ _ _)
  | (with_reducible exact Zg.mono _ _)
  | (with_reducible exact ZC.mono _ _ _)
  | (with_reducible exact Zp.mono _ _ _)
  | (with_reducible exact LeO.refl _)
  | (with_reducible exact LeO.none _)
  | (with_reducible refine LeO.ite ?_ ?_)
  | (with_reducible refine LeO.bind ?_ (fun _ => ?_))
  | exact ih0 _ _ _ _
  | exact ih1 _ _ _ _ _
  | exact ih2 _ _ _ _ _ _ _
  | exact ih3 _ _ _ _ _ _ _ _ _ _ _
  | exact ih4 _ _ _ _ _ _ _ _ _ _
  | exact ih5 _ _ _ _ _ _ _ _ _
  | exact Zg.mono _ _
  | exact ZC.mono _ _ _
  | exact Zp.mono _ _ _
  | exact LeO.none _
  | refine LeO.ite ?_ ?_
  | refine LeO.bind ?_ (fun _ => ?_)
set_option maxHeartbeats 8000000 in
set_option maxRecDepth 100000 in
theorem Zj.calls (k : Nat) (A0 : Option Addr) (c0 : Nat) (l0 : List (S56)) (a1 : Int) (a2 : Int) (r1 : List (S56)) (r2 : Int) (w : World) (hr0 : Kd.C k56 w A0 l0.length l0) (hc0 : l0.length ≤ c0) (h : Zj.f k l0 a1 a2 = some (r1,r2)) :
 Calls Try.prog 39 #[.slice A0 l0.length c0,.int .i64 a1,.int .i64 a2] w fun e w' => ∃ v0_ : Value,e = .returned (.tuple #[v0_,.int .i64 r2]) ∧ Kd.R k56 56 w' w.heap.size (fun _ => True) v0_ r1 ∧ Below w.heap.size w w' := by
 have hu56 := Try.underlying56;have HR0 := Zd.mk hr0;have HC0 := Zd.mk hc0;clear hr0 hc0;have HB := Zd.mk (Below.refl w.heap.size w);have H : ((Zg.f k l0).bind fun t592 => (if t592 = true then ((Zx.f a1).bind fun t593 => (if t593 = true then ((Zx.f a2).bind fun t594 => (if t594 = true then (Zj.j0 k l0 a1 a2 (decide (a1 > a2))) else (Zj.j0 k l0 a1 a2 true))) else (Zj.j0 k l0 a1 a2 true))) else (some (([] : List (S56)),1)))) = some (r1,r2) := h;clear h;replace H := Option.bind_eq_some_iff.mp H;obtain ⟨t592,A40,H⟩ := H;replace H : (if t592 = true then ((Zx.f a1).bind fun t593 => (if t593 = true then ((Zx.f a2).bind fun t594 => (if t594 = true then (Zj.j0 k l0 a1 a2 (decide (a1 > a2))) else (Zj.j0 k l0 a1 a2 true))) else (Zj.j0 k l0 a1 a2 true))) else (some (([] : List (S56)),1))) = some (r1,r2) := H;have A4 := Zd.mk A40;clear A40
 by_cases c5 : t592 = true
 · subst c5
   have H1 : ((Zx.f a1).bind fun t593 => (if t593 = true then ((Zx.f a2).bind fun t594 => (if t594 = true then (Zj.j0 k l0 a1 a2 (decide (a1 > a2))) else (Zj.j0 k l0 a1 a2 true))) else (Zj.j0 k l0 a1 a2 true))) = some (r1,r2) := by rw [if_pos rfl] at H;exact H
   clear H;have H := H1;clear H1;have HC6 := Zd.mk H;clear H
   go_enter Try.func39,Try.ntmps39
   go_upto_region 3 with (first | ((with_reducible refine Z2 (f := 37) rfl ?_);refine ZP (some 16) rfl rfl Try.func37 (by kernel_rfl) rfl #[.slice A0 l0.length c0] rfl (by (try simp only [List.map_toArray,List.map_cons,List.map_nil]);first | done | rfl | (simp only [List.length_drop,List.length_take];rfl)) ?_;(with_reducible refine (Zg.calls k _ _ l0 true _ ?side1 ?side2 A4.out).mono ?_);(case side1 => repeat (first | exact HR0.out | (with_reducible refine Kd.Z8 ?_ _) | (with_reducible refine Kd.ZB ?_ _) | (with_reducible refine Kd.ZI ?_)));(case side2 => exact HC0.out);rintro e w7 ⟨rfl,hb⟩;refine ⟨_,rfl,?_⟩;have n0_ := Zd.mk (Z0 (by repeat (first | (with_reducible first | exact HB.out | apply Zc | apply Za | apply Zb) | exact HB.out)) hb);clear HB;have HB := n0_;clear n0_;(try clear hb);(try clear hb2);(try clear hk);(try clear hi)))
   (try simp only [Act.put,YV,YW,YX])
   go_cut [30] (fun v30 wc => ∃ (kq : Nat) (x30_5 : Bool),v30 = .bool x30_5 ∧ Zd (Zj.j0 kq l0 a1 a2 x30_5 = some (r1,r2)) ∧ Zd (kq ≤ k) ∧ Zd (Below w.heap.size w wc))
   case first =>
    have H := HC6.out;clear HC6;replace H := Option.bind_eq_some_iff.mp H;obtain ⟨t593,A80,H⟩ := H;replace H : (if t593 = true then ((Zx.f a2).bind fun t594 => (if t594 = true then (Zj.j0 k l0 a1 a2 (decide (a1 > a2))) else (Zj.j0 k l0 a1 a2 true))) else (Zj.j0 k l0 a1 a2 true)) = some (r1,r2) := H;have A8 := Zd.mk A80;clear A80
    by_cases c9 : t593 = true
    · subst c9
      have H1 : ((Zx.f a2).bind fun t594 => (if t594 = true then (Zj.j0 k l0 a1 a2 (decide (a1 > a2))) else (Zj.j0 k l0 a1 a2 true))) = some (r1,r2) := by rw [if_pos rfl] at H;exact H
      clear H;have H := H1;clear H1;replace H := Option.bind_eq_some_iff.mp H;obtain ⟨t594,A100,H⟩ := H;replace H : (if t594 = true then (Zj.j0 k l0 a1 a2 (decide (a1 > a2))) else (Zj.j0 k l0 a1 a2 true)) = some (r1,r2) := H;have A10 := Zd.mk A100;clear A100
      by_cases c11 : t594 = true
      · subst c11
        have H1 : (Zj.j0 k l0 a1 a2 (decide (a1 > a2))) = some (r1,r2) := by rw [if_pos rfl] at H;exact H
        clear H;have H := H1;clear H1;have H' := Zd.mk H;clear H
        go_wp2_with (first | ((with_reducible refine Z2 (f := 50) rfl ?_);refine ZP (some 19) rfl rfl Try.func50 (by kernel_rfl) rfl #[.int .i64 a1] rfl (by (try simp only [List.map_toArray,List.map_cons,List.map_nil]);first | done | rfl | (simp only [List.length_drop,List.length_take];rfl)) ?_;(with_reducible refine (Zx.calls a1 true _ A8.out).mono ?_);rintro e w' ⟨rfl,⟨nd,rfl⟩⟩;refine ⟨_,rfl,?_⟩) | (go_at_call 50;(with_reducible refine (Zx.calls a2 true _ A10.out).mono ?_);rintro e w' ⟨rfl,⟨nd,rfl⟩⟩))
        go_meet
        case rel => exact ⟨_,(decide (a1 > a2)),(by first | rfl | (simp;done) | (simp [*];done)),H',⟨by first | omega | exact Nat.le_refl _⟩,⟨by repeat (first | (with_reducible first | exact HB.out | apply Zc | apply Za | apply Zb) | exact HB.out)⟩⟩
      · replace c11 := Bool.eq_false_iff.mpr c11
        subst c11
        have H1 : (Zj.j0 k l0 a1 a2 true) = some (r1,r2) := by rw [if_neg (show ¬ (false = true) by decide)] at H;exact H
        clear H;have H := H1;clear H1;have H' := Zd.mk H;clear H
        go_wp2_with (first | ((with_reducible refine Z2 (f := 50) rfl ?_);refine ZP (some 19) rfl rfl Try.func50 (by kernel_rfl) rfl #[.int .i64 a1] rfl (by (try simp only [List.map_toArray,List.map_cons,List.map_nil]);first | done | rfl | (simp only [List.length_drop,List.length_take];rfl)) ?_;(with_reducible refine (Zx.calls a1 true _ A8.out).mono ?_);rintro e w' ⟨rfl,⟨nd,rfl⟩⟩;refine ⟨_,rfl,?_⟩) | (go_at_call 50;(with_reducible refine (Zx.calls a2 false _ A10.out).mono ?_);rintro e w' ⟨rfl,⟨nd,rfl⟩⟩))
        go_meet
        case rel => exact ⟨_,(true),(by first | rfl | (simp;done) | (simp [*];done)),H',⟨by first | omega | exact Nat.le_refl _⟩,⟨by repeat (first | (with_reducible first | exact HB.out | apply Zc | apply Za | apply Zb) | exact HB.out)⟩⟩
    · replace c9 := Bool.eq_false_iff.mpr c9
      subst c9
      have H1 : (Zj.j0 k l0 a1 a2 true) = some (r1,r2) := by rw [if_neg (show ¬ (false = true) by decide)] at H;exact H
      clear H;have H := H1;clear H1;have H' := Zd.mk H;clear H
      go_wp2_with (first | ((with_reducible refine Z2 (f := 50) rfl ?_);refine ZP (some 19) rfl rfl Try.func50 (by kernel_rfl) rfl #[.int .i64 a1] rfl (by (try simp only [List.map_toArray,List.map_cons,List.map_nil]);first | done | rfl | (simp only [List.length_drop,List.length_take];rfl)) ?_;(with_reducible refine (Zx.calls a1 false _ A8.out).mono ?_);rintro e w' ⟨rfl,⟨nd,rfl⟩⟩;refine ⟨_,rfl,?_⟩))
      go_meet
      case rel => exact ⟨_,(true),(by first | rfl | (simp;done) | (simp [*];done)),H',⟨by first | omega | exact Nat.le_refl _⟩,⟨by repeat (first | (with_reducible first | exact HB.out | apply Zc | apply Za | apply Zb) | exact HB.out)⟩⟩
   case rest =>
    clear HC6
    (try clear c1); (try clear p2); (try clear c3); (try clear c5); (try clear c9); (try clear c11)
    obtain ⟨kq,x30_5,rfl,HA,HJ5,HB⟩ := hcut
    cases kq with
    | zero => exact absurd HA.out (by simp [Zj.j0])
    | succ kj5 =>
     have H := HA.out;clear HA;simp only [Zj.j0] at H
     by_cases c12 : x30_5 = true
     · subst c12
       have H1 : (some (([] : List (S56)),7)) = some (r1,r2) := by rw [if_pos rfl] at H;exact H
       clear H;have H := H1;clear H1;simp only [Option.some.injEq,Prod.mk.injEq] at H;obtain ⟨rfl,rfl⟩ := H
       go_wp2
       go_ret2
       exact ⟨_,by first | rfl | (simp [Zt,Zv] <;> rfl) | (simp [*,Zt,Zv] <;> rfl),by first | exact Kd.R_nil _ _ _ _ _ | exact Kd.N_nil _ _ _ _ _ | exact Kd.V_nil _ _ _ _ _ | exact Kd.Q_nil _ _ _ _ _ | exact Kd.S_nil _ _ _ _ _,by repeat (first | (with_reducible first | exact HB.out | apply Zc | apply Za | apply Zb) | exact HB.out)⟩
     · replace c12 := Bool.eq_false_iff.mpr c12
       subst c12
       have H1 : (Zj.l0 kj5 l0 a1 a2 ([] : List (S56)) a1) = some (r1,r2) := by rw [if_neg (show ¬ (false = true) by decide)] at H;exact H
       clear H;have H := H1;clear H1;have H' := Zd.mk H;clear H
       go_wp2
       go_loopg [8,9] kj5 (fun kq v8 v9 w' => ∃ (x8_2 : List (S56)) (x9_2 : Int),v9 = .int .i64 x9_2 ∧ Zd (Zj.l0 kq l0 a1 a2 x8_2 x9_2 = some (r1,r2)) ∧ Zd (kq ≤ kj5) ∧ Zd (Kd.R k56 56 w' w.heap.size (fun _ => True) v8 x8_2) ∧ Zd (Below w.heap.size w w'))
       case atStart => exact ⟨(([] : List (S56))),(a1),(by first | rfl | (simp;done) | (simp [*];done)),H',⟨Nat.le_refl _⟩,⟨by first | exact Kd.R_nil _ _ _ _ _ | exact Kd.N_nil _ _ _ _ _ | exact Kd.V_nil _ _ _ _ _ | exact Kd.Q_nil _ _ _ _ _ | exact Kd.S_nil _ _ _ _ _⟩,⟨by repeat (first | (with_reducible first | exact HB.out | apply Zc | apply Za | apply Zb) | exact HB.out)⟩⟩
       case round =>
        clear H'
        (try clear c1); (try clear p2); (try clear c3); (try clear c5); (try clear c9); (try clear c11); (try clear c12); (try clear p2)
        obtain ⟨x8_2,x9_2,rfl,HA,HK2,HO_8,HB⟩ := hrel
        cases gk with
        | zero => exact absurd HA.out (by simp [Zj.l0])
        | succ k2 =>
         have H := HA.out;clear HA;simp only [Zj.l0] at H;replace H := Option.bind_eq_some_iff.mp H;obtain ⟨t595,A130,H⟩ := H;replace H : (if t595 ≥ 0 then (if 0 ≤ t595 then (if t595 < (l0.length : Int) then (if ((Ze l0 t595).f2) = 2 then (if ((Ze l0 t595).f0) < a1 then (Zj.j2 k2 l0 a1 a2 x8_2 x9_2 t595 true) else (if 0 ≤ (wrap64 (t595 + 1)) then (if (wrap64 (t595 + 1)) < (l0.length : Int) then (Zj.j2 k2 l0 a1 a2 x8_2 x9_2 t595 (decide (((Ze l0 (wrap64 (t595 + 1))).f0) > a2))) else (none)) else (none))) else (Zj.j2 k2 l0 a1 a2 x8_2 x9_2 t595 false)) else (none)) else (none)) else (Zj.j2 k2 l0 a1 a2 x8_2 x9_2 t595 false)) = some (r1,r2) := H;have A13 := Zd.mk A130;clear A130;have HC14 := Zd.mk H;clear H
         go_upto_region 8 with (first | ((with_reducible refine Z2 (f := 65) rfl ?_);refine ZP (some 34) rfl rfl Try.func65 (by kernel_rfl) rfl #[.slice A0 l0.length c0,.int .i64 x9_2] rfl (by (try simp only [List.map_toArray,List.map_cons,List.map_nil]);first | done | rfl | (simp only [List.length_drop,List.length_take];rfl)) ?_;(with_reducible refine (ZC.calls k2 _ _ l0 x9_2 t595 _ ?side1 ?side2 A13.out).mono ?_);(case side1 => repeat (first | exact (Kd.ZK HR0.out HB.out) | (with_reducible refine Kd.Z8 ?_ _) | (with_reducible refine Kd.ZB ?_ _) | (with_reducible refine Kd.ZI ?_)));(case side2 => exact HC0.out);rintro e w' ⟨rfl,⟨nd,rfl⟩⟩;refine ⟨_,rfl,?_⟩))
         (try simp only [Act.put,YV,YW,YX])
         go_cut [11] (fun v11 wc => ∃ (kq : Nat) (x11_13 : Bool),v11 = .bool x11_13 ∧ Zd (Zj.j2 kq l0 a1 a2 x8_2 x9_2 t595 x11_13 = some (r1,r2)) ∧ Zd (kq ≤ k2) ∧ Zd (Kd.R k56 56 wc w.heap.size (fun _ => True) u8 x8_2) ∧ Zd (Below w.heap.size w wc))
         case first =>
          have H := HC14.out;clear HC14
          by_cases c15 : t595 ≥ 0
          · rw [if_pos c15] at H
            have c15b0 : decide (0 ≤ t595) = true := decide_eq_true c15;clear c15
            (first | rw [c15b0] | (simp only [i64_w,i32_w];rw [c15b0]) | skip)
            by_cases c16 : 0 ≤ t595
            · rw [if_pos c16] at H
              have c16b0 : decide (0 ≤ t595) = true := decide_eq_true c16;clear c16
              by_cases c17 : t595 < (l0.length : Int)
              · rw [if_pos c17] at H
                have c17b0 : decide (t595 < (l0.length : Int)) = true := decide_eq_true c17;clear c17
                by_cases c18 : ((Ze l0 t595).f2) = 2
                · rw [if_pos c18] at H
                  have c18b0 : (((Ze l0 t595).f2) == 2) = true := beq_iff_eq.mpr c18;have c18b1 : (((Ze l0 t595).f2) != 2) = false := bne_eq_false_iff_eq.mpr c18;clear c18
                  by_cases c19 : ((Ze l0 t595).f0) < a1
                  · rw [if_pos c19] at H
                    have c19b0 : decide (((Ze l0 t595).f0) < a1) = true := decide_eq_true c19;clear c19;have H' := Zd.mk H;clear H;have p596 : 0 ≤ (t595 : Int) := of_decide_eq_true (by first | (with_reducible assumption) | assumption);have q596 : t595 < (l0.length : Int) := of_decide_eq_true (by first | (with_reducible assumption) | assumption);obtain ⟨ad596,e596,hx596_0,hx596_1,hx596_2⟩ := Xg HR0.out t595 p596 q596
                    cases e596
                    replace hx596_0 := (HB.out.cell (World.block_lt_of_cell? w _ hx596_0)).trans hx596_0;replace hx596_1 := (HB.out.cell (World.block_lt_of_cell? w _ hx596_1)).trans hx596_1;replace hx596_2 := (HB.out.cell (World.block_lt_of_cell? w _ hx596_2)).trans hx596_2;replace p596 := eq_true p596;replace q596 := eq_true q596;have p597 : 0 ≤ (t595 : Int) := of_decide_eq_true (by first | (with_reducible assumption) | assumption);have q597 : t595 < (l0.length : Int) := of_decide_eq_true (by first | (with_reducible assumption) | assumption);obtain ⟨ad597,e597,hx597_0,hx597_1,hx597_2⟩ := Xg HR0.out t595 p597 q597
                    obtain rfl : ad596 = ad597 := (by injection e597)
                    replace hx597_0 := (HB.out.cell (World.block_lt_of_cell? w _ hx597_0)).trans hx597_0;replace hx597_1 := (HB.out.cell (World.block_lt_of_cell? w _ hx597_1)).trans hx597_1;replace hx597_2 := (HB.out.cell (World.block_lt_of_cell? w _ hx597_2)).trans hx597_2;replace p597 := eq_true p597;replace q597 := eq_true q597
                    go_wp2
                    go_meet
                    case rel => exact ⟨_,(true),(by first | rfl | (simp;done) | (simp [*];done)),H',⟨by have := HJ5.out;have := HK2.out;first | omega | exact Nat.le_refl _⟩,⟨by (with_reducible repeat (first | apply Kd.ZF | apply Kd.ZG | apply Kd.ZN));exact HO_8.out⟩,⟨by repeat (first | (with_reducible first | exact HB.out | apply Zc | apply Za | apply Zb) | exact HB.out)⟩⟩
                  · rw [if_neg c19] at H
                    have c19b0 : decide (((Ze l0 t595).f0) < a1) = false := decide_eq_false c19;clear c19
                    obtain ⟨ji20,hji20⟩ : ∃ j_ : Int,(wrap64 (t595 + 1)) = j_ := ⟨_,rfl⟩
                    replace H : (if 0 ≤ (ji20) then (if (ji20) < (l0.length : Int) then (Zj.j2 k2 l0 a1 a2 x8_2 x9_2 t595 (decide (((Ze l0 (ji20)).f0) > a2))) else (none)) else (none)) = some (r1,r2) := by first | (rw [hji20] at H;exact H) | (simp only [hji20] at H ⊢;exact H)
                    have hji20w : (IntKind.i64.wrap (t595 + 1)) = ji20 := (i64_w _).trans hji20
                    by_cases c21 : 0 ≤ (ji20)
                    · rw [if_pos c21] at H
                      have c21b0 : decide (0 ≤ (ji20)) = true := decide_eq_true c21;clear c21
                      by_cases c22 : (ji20) < (l0.length : Int)
                      · rw [if_pos c22] at H
                        have c22b0 : decide ((ji20) < (l0.length : Int)) = true := decide_eq_true c22;clear c22;have H' := Zd.mk H;clear H;have p596 : 0 ≤ (t595 : Int) := of_decide_eq_true (by first | (with_reducible assumption) | assumption);have q596 : t595 < (l0.length : Int) := of_decide_eq_true (by first | (with_reducible assumption) | assumption);obtain ⟨ad596,e596,hx596_0,hx596_1,hx596_2⟩ := Xg HR0.out t595 p596 q596
                        cases e596
                        replace hx596_0 := (HB.out.cell (World.block_lt_of_cell? w _ hx596_0)).trans hx596_0;replace hx596_1 := (HB.out.cell (World.block_lt_of_cell? w _ hx596_1)).trans hx596_1;replace hx596_2 := (HB.out.cell (World.block_lt_of_cell? w _ hx596_2)).trans hx596_2;replace p596 := eq_true p596;replace q596 := eq_true q596;have p597 : 0 ≤ (t595 : Int) := of_decide_eq_true (by first | (with_reducible assumption) | assumption);have q597 : t595 < (l0.length : Int) := of_decide_eq_true (by first | (with_reducible assumption) | assumption);obtain ⟨ad597,e597,hx597_0,hx597_1,hx597_2⟩ := Xg HR0.out t595 p597 q597
                        obtain rfl : ad596 = ad597 := (by injection e597)
                        replace hx597_0 := (HB.out.cell (World.block_lt_of_cell? w _ hx597_0)).trans hx597_0;replace hx597_1 := (HB.out.cell (World.block_lt_of_cell? w _ hx597_1)).trans hx597_1;replace hx597_2 := (HB.out.cell (World.block_lt_of_cell? w _ hx597_2)).trans hx597_2;replace p597 := eq_true p597;replace q597 := eq_true q597;have p598 : 0 ≤ ((ji20) : Int) := of_decide_eq_true (by first | (with_reducible assumption) | assumption);have q598 : (ji20) < (l0.length : Int) := of_decide_eq_true (by first | (with_reducible assumption) | assumption);obtain ⟨ad598,e598,hx598_0,hx598_1,hx598_2⟩ := Xg HR0.out (ji20) p598 q598
                        obtain rfl : ad596 = ad598 := (by injection e598)
                        replace hx598_0 := (HB.out.cell (World.block_lt_of_cell? w _ hx598_0)).trans hx598_0;replace hx598_1 := (HB.out.cell (World.block_lt_of_cell? w _ hx598_1)).trans hx598_1;replace hx598_2 := (HB.out.cell (World.block_lt_of_cell? w _ hx598_2)).trans hx598_2;replace p598 := eq_true p598;replace q598 := eq_true q598
                        go_wp2
                        go_meet
                        case rel => exact ⟨_,(decide (((Ze l0 (ji20)).f0) > a2)),(by first | rfl | (simp;done) | (simp only [← hji20] <;> (first | rfl | simp)) | (simp [*];done)),H',⟨by have := HJ5.out;have := HK2.out;first | omega | exact Nat.le_refl _⟩,⟨by (with_reducible repeat (first | apply Kd.ZF | apply Kd.ZG | apply Kd.ZN));exact HO_8.out⟩,⟨by repeat (first | (with_reducible first | exact HB.out | apply Zc | apply Za | apply Zb) | exact HB.out)⟩⟩
                      · rw [if_neg c22] at H
                        exact absurd H (by simp)
                    · rw [if_neg c21] at H
                      exact absurd H (by simp)
                · rw [if_neg c18] at H
                  have c18b0 : (((Ze l0 t595).f2) == 2) = false := beq_eq_false_iff_ne.mpr c18;have c18b1 : (((Ze l0 t595).f2) != 2) = true := bne_iff_ne.mpr c18;have H' := Zd.mk H;clear H;have p596 : 0 ≤ (t595 : Int) := of_decide_eq_true (by first | (with_reducible assumption) | assumption);have q596 : t595 < (l0.length : Int) := of_decide_eq_true (by first | (with_reducible assumption) | assumption);obtain ⟨ad596,e596,hx596_0,hx596_1,hx596_2⟩ := Xg HR0.out t595 p596 q596
                  cases e596
                  replace hx596_0 := (HB.out.cell (World.block_lt_of_cell? w _ hx596_0)).trans hx596_0;replace hx596_1 := (HB.out.cell (World.block_lt_of_cell? w _ hx596_1)).trans hx596_1;replace hx596_2 := (HB.out.cell (World.block_lt_of_cell? w _ hx596_2)).trans hx596_2;replace p596 := eq_true p596;replace q596 := eq_true q596
                  go_wp2
                  go_meet
                  case rel => exact ⟨_,(false),(by first | rfl | (simp;done) | (simp [*];done)),H',⟨by have := HJ5.out;have := HK2.out;first | omega | exact Nat.le_refl _⟩,⟨by (with_reducible repeat (first | apply Kd.ZF | apply Kd.ZG | apply Kd.ZN));exact HO_8.out⟩,⟨by repeat (first | (with_reducible first | exact HB.out | apply Zc | apply Za | apply Zb) | exact HB.out)⟩⟩
              · rw [if_neg c17] at H
                exact absurd H (by simp)
            · rw [if_neg c16] at H
              exact absurd H (by simp)
          · rw [if_neg c15] at H
            have c15b0 : decide (0 ≤ t595) = false := decide_eq_false c15;clear c15
            (first | rw [c15b0] | (simp only [i64_w,i32_w];rw [c15b0]) | skip)
            have H' := Zd.mk H;clear H
            go_wp2
            go_meet
            case rel => exact ⟨_,(false),(by first | rfl | (simp;done) | (simp [*];done)),H',⟨by have := HJ5.out;have := HK2.out;first | omega | exact Nat.le_refl _⟩,⟨by (with_reducible repeat (first | apply Kd.ZF | apply Kd.ZG | apply Kd.ZN));exact HO_8.out⟩,⟨by repeat (first | (with_reducible first | exact HB.out | apply Zc | apply Za | apply Zb) | exact HB.out)⟩⟩
         case rest =>
          clear HC14
          (try clear c1); (try clear c2); (try clear p2); (try clear c3); (try clear c5); (try clear p5); (try clear q5); (try clear hx5); (try clear c6); (try clear p6); (try clear c9); (try clear c11); (try clear c12); (try clear c15); (try clear c15b0); (try clear c16); (try clear c16b0); (try clear c17); (try clear c17b0); (try clear c18); (try clear c18b0); (try clear c18b1); (try clear c19); (try clear c19b0); (try clear c21); (try clear c21b0); (try clear c22); (try clear c22b0); (try clear hx596_0); (try clear hx596_1); (try clear hx596_2); (try clear hx597_0); (try clear hx597_1); (try clear hx597_2); (try clear hx598_0); (try clear hx598_1); (try clear hx598_2); (try clear p2); (try clear p596); (try clear p597); (try clear p598); (try clear q596); (try clear q597); (try clear q598)
          obtain ⟨kq,x11_13,rfl,HA,HJ13,HO_8,HB⟩ := hcut
          cases kq with
          | zero => exact absurd HA.out (by simp [Zj.j2])
          | succ kj13 =>
           have H := HA.out;clear HA;simp only [Zj.j2] at H;replace H := Option.bind_eq_some_iff.mp H;obtain ⟨t599,A230,H⟩ := H;replace H : (if t595 ≥ 0 then (Zj.j3 kj13 l0 a1 a2 x8_2 x9_2 t595 x11_13 (!x11_13) x9_2 t599 0) else (Zj.j3 kj13 l0 a1 a2 x8_2 x9_2 t595 x11_13 false x9_2 t599 0)) = some (r1,r2) := H;have A23 := Zd.mk A230;clear A230;have HC24 := Zd.mk H;clear H
           go_upto_region 10 with (first | ((with_reducible refine Z2 (f := 58) rfl ?_);refine ZP (some 67) rfl rfl Try.func58 (by kernel_rfl) rfl #[.slice A0 l0.length c0,.int .i64 x9_2] rfl (by (try simp only [List.map_toArray,List.map_cons,List.map_nil]);first | done | rfl | (simp only [List.length_drop,List.length_take];rfl)) ?_;(with_reducible refine (Zp.calls kj13 _ _ l0 x9_2 t599 _ ?side1 ?side2 A23.out).mono ?_);(case side1 => repeat (first | exact (Kd.ZK HR0.out HB.out) | (with_reducible refine Kd.Z8 ?_ _) | (with_reducible refine Kd.ZB ?_ _) | (with_reducible refine Kd.ZI ?_)));(case side2 => exact HC0.out);rintro e w' ⟨rfl,⟨nd,rfl⟩⟩;refine ⟨_,rfl,?_⟩;(try (rw [drewN_self wc];generalize hq_ : World.drewN wc _ = wc;have n0_ : Zd (Kd.R k56 56 wc w.heap.size (fun _ => True) u8 x8_2) := ⟨by rw [← hq_];exact (by (with_reducible repeat (first | apply Kd.ZF | apply Kd.ZG | apply Kd.ZN));exact HO_8.out)⟩;have n1_ : Zd (Below w.heap.size w wc) := ⟨by rw [← hq_];exact (by repeat (first | (with_reducible first | exact HB.out | apply Zc | apply Za | apply Zb) | exact HB.out))⟩;clear HO_8 HB hq_;have HO_8 := n0_;have HB := n1_;clear n0_ n1_))) | ((with_reducible refine Xq (N := 12) rfl ?_);refine Xy ?hg (N := 12) ?hd (cs := #[.int .i64 0,.int .i64 0,.int .i64 0]) (t := 56) ?hr ?_;(case hd => rfl);(case hg => rfl);(case hr => first | (go_simp;done) | (go_simp;rfl));intro gb600 hg w25 hbox hb;have n0_ := Zd.mk (Kd.Xn (Kd.Y3 (by (with_reducible repeat (first | apply Kd.ZF | apply Kd.ZG | apply Kd.ZN));exact HO_8.out) gb600 (Nat.le_of_eq hg.symm)) hb);have n1_ := Zd.mk (Z0 (by repeat (first | (with_reducible first | exact HB.out | apply Zc | apply Za | apply Zb) | exact HB.out)) hb);have n2_ := Zd.mk (hbox);have n3_ := Zd.mk ((by rw [hg];exact (ZJ (by repeat (first | (with_reducible first | exact HB.out | apply Zc | apply Za | apply Zb) | exact HB.out))) : w.heap.size ≤ gb600));have n4_ := Zd.mk ((by rw [hg];exact (ZJ (by repeat (first | (with_reducible first | exact HB.out | apply Zc | apply Za | apply Zb) | exact HB.out))) : w.heap.size ≤ gb600));clear HO_8;clear HB;have HO_8 := n0_;have HB := n1_;have BK600 := n2_;have GW600 := n3_;have GE600 := n4_;clear n0_ n1_ n2_ n3_ n4_;clear hb hbox hg;have hcz26_0 : w25.cell? ⟨gb600,0,none⟩ = some (.int .i64 0) := (Zm BK600.out 0).trans rfl;have hcz26_1 : w25.cell? ⟨gb600,1,none⟩ = some (.int .i64 0) := (Zm BK600.out 1).trans rfl;have hcz26_2 : w25.cell? ⟨gb600,2,none⟩ = some (.int .i64 0) := (Zm BK600.out 2).trans rfl;have hfz26_0 := Zr BK600.out 0;have hfz26_1 := Zr BK600.out 1;have hfz26_2 := Zr BK600.out 2))
           (try simp only [Act.put,YV,YW,YX])
           go_cut [74] (fun v74 wc => ∃ (kq : Nat) (x74_23 : Bool),v74 = .bool x74_23 ∧ Zd (Zj.j3 kq l0 a1 a2 x8_2 x9_2 t595 x11_13 x74_23 x9_2 t599 0 = some (r1,r2)) ∧ Zd (kq ≤ kj13) ∧ Zd (Kd.R k56 56 wc w.heap.size (fun k_ => k_ ≠ gb600) u8 x8_2) ∧ Zd (wc.heap[gb600]? = some (.cells #[.int .i64 x9_2,.int .i64 t599,.int .i64 0] 56 (0,0))) ∧ Zd (Below w.heap.size w wc))
           case first =>
            have H := HC24.out;clear HC24
            by_cases c27 : t595 ≥ 0
            · rw [if_pos c27] at H
              have c27b0 : decide (0 ≤ t595) = true := decide_eq_true c27;clear c27
              (first | rw [c27b0] | (simp only [i64_w,i32_w];rw [c27b0]) | skip)
              have H' := Zd.mk H;clear H
              go_wp2
              go_meet
              case rel => exact ⟨_,(!x11_13),(by first | rfl | (simp;done) | (simp [*];done)),H',⟨by have := HJ5.out;have := HK2.out;have := HJ13.out;first | omega | exact Nat.le_refl _⟩,⟨by (with_reducible repeat (first | apply Kd.ZF | apply Kd.ZG | apply Kd.ZN));exact Kd.X1 (Kd.R_far (p := ⟨gb600,2,none⟩) (Kd.R_far (p := ⟨gb600,1,none⟩) (Kd.R_far (p := ⟨gb600,0,none⟩) (Kd.X1 HO_8.out (fun k_ hk => (⟨hk,hk.2⟩ : _ ∧ k_ ≠ gb600))) (fun _ hk => hk.2) (.int .i64 x9_2)) (fun _ hk => hk.2) (.int .i64 t599)) (fun _ hk => hk.2) (.int .i64 0)) (fun _ hk => hk.1.2)⟩,⟨by (with_reducible repeat (first | refine Zu ?_ _ | refine Zw ?_ | refine Zs ?_ _));refine ZE (cs := #[.int .i64 x9_2,.int .i64 t599,.int .i64 0]) ?_ 2 _ rfl;(with_reducible repeat (first | refine Zu ?_ _ | refine Zw ?_ | refine Zs ?_ _));refine ZE (cs := #[.int .i64 x9_2,.int .i64 0,.int .i64 0]) ?_ 1 _ rfl;(with_reducible repeat (first | refine Zu ?_ _ | refine Zw ?_ | refine Zs ?_ _));refine ZE (cs := #[.int .i64 0,.int .i64 0,.int .i64 0]) ?_ 0 _ rfl;(with_reducible repeat (first | refine Zu ?_ _ | refine Zw ?_ | refine Zs ?_ _));exact BK600.out⟩,⟨by repeat (first | (with_reducible first | exact HB.out | apply Zc | apply Za | apply Zb | refine Z9 ?_ GE600.out) | exact HB.out)⟩⟩
            · rw [if_neg c27] at H
              have c27b0 : decide (0 ≤ t595) = false := decide_eq_false c27;clear c27
              (first | rw [c27b0] | (simp only [i64_w,i32_w];rw [c27b0]) | skip)
              have H' := Zd.mk H;clear H
              go_wp2
              go_meet
              case rel => exact ⟨_,(false),(by first | rfl | (simp;done) | (simp [*];done)),H',⟨by have := HJ5.out;have := HK2.out;have := HJ13.out;first | omega | exact Nat.le_refl _⟩,⟨by (with_reducible repeat (first | apply Kd.ZF | apply Kd.ZG | apply Kd.ZN));exact Kd.X1 (Kd.R_far (p := ⟨gb600,2,none⟩) (Kd.R_far (p := ⟨gb600,1,none⟩) (Kd.R_far (p := ⟨gb600,0,none⟩) (Kd.X1 HO_8.out (fun k_ hk => (⟨hk,hk.2⟩ : _ ∧ k_ ≠ gb600))) (fun _ hk => hk.2) (.int .i64 x9_2)) (fun _ hk => hk.2) (.int .i64 t599)) (fun _ hk => hk.2) (.int .i64 0)) (fun _ hk => hk.1.2)⟩,⟨by (with_reducible repeat (first | refine Zu ?_ _ | refine Zw ?_ | refine Zs ?_ _));refine ZE (cs := #[.int .i64 x9_2,.int .i64 t599,.int .i64 0]) ?_ 2 _ rfl;(with_reducible repeat (first | refine Zu ?_ _ | refine Zw ?_ | refine Zs ?_ _));refine ZE (cs := #[.int .i64 x9_2,.int .i64 0,.int .i64 0]) ?_ 1 _ rfl;(with_reducible repeat (first | refine Zu ?_ _ | refine Zw ?_ | refine Zs ?_ _));refine ZE (cs := #[.int .i64 0,.int .i64 0,.int .i64 0]) ?_ 0 _ rfl;(with_reducible repeat (first | refine Zu ?_ _ | refine Zw ?_ | refine Zs ?_ _));exact BK600.out⟩,⟨by repeat (first | (with_reducible first | exact HB.out | apply Zc | apply Za | apply Zb | refine Z9 ?_ GE600.out) | exact HB.out)⟩⟩
           case rest =>
            clear HC24
            (try clear c1); (try clear c2); (try clear p2); (try clear c3); (try clear c5); (try clear p5); (try clear q5); (try clear hx5); (try clear c6); (try clear p6); (try clear c9); (try clear c11); (try clear c12); (try clear c15); (try clear c15b0); (try clear c16); (try clear c16b0); (try clear c17); (try clear c17b0); (try clear c18); (try clear c18b0); (try clear c18b1); (try clear c19); (try clear c19b0); (try clear c21); (try clear c21b0); (try clear c22); (try clear c22b0); (try clear c27); (try clear c27b0); (try clear hcz26_0); (try clear hcz26_1); (try clear hcz26_2); (try clear hfz26_0); (try clear hfz26_1); (try clear hfz26_2); (try clear hx596_0); (try clear hx596_1); (try clear hx596_2); (try clear hx597_0); (try clear hx597_1); (try clear hx597_2); (try clear hx598_0); (try clear hx598_1); (try clear hx598_2); (try clear p2); (try clear p5); (try clear p596); (try clear p597); (try clear p598); (try clear p6); (try clear q5); (try clear q596); (try clear q597); (try clear q598)
            obtain ⟨kq,x74_23,rfl,HA,HJ23,HO_8,BK600,HB⟩ := hcut
            cases kq with
            | zero => exact absurd HA.out (by simp [Zj.j3])
            | succ kj23 =>
             have H := HA.out;clear HA;simp only [Zj.j3] at H;have HC28 := Zd.mk H;clear H
             go_upto_if 74 with (fail)
             go_cut [] (fun wc => ∃ (kq : Nat) (x601002_27 : Int),Zd (Zj.j4 kq l0 a1 a2 x8_2 x9_2 t595 x11_13 x9_2 t599 x601002_27 = some (r1,r2)) ∧ Zd (kq ≤ kj23) ∧ Zd (Kd.R k56 56 wc w.heap.size (fun k_ => k_ ≠ gb600) u8 x8_2) ∧ Zd (wc.heap[gb600]? = some (.cells #[.int .i64 x9_2,.int .i64 t599,.int .i64 x601002_27] 56 (0,0))) ∧ Zd (Below w.heap.size w wc))
             case first =>
              have H := HC28.out;clear HC28
              by_cases c29 : x74_23 = true
              · subst c29
                have H1 : (if 0 ≤ t595 then (if t595 < (l0.length : Int) then (Zj.j4 kj23 l0 a1 a2 x8_2 x9_2 t595 x11_13 x9_2 t599 ((Ze l0 t595).f2)) else (none)) else (none)) = some (r1,r2) := by rw [if_pos rfl] at H;exact H
                clear H;have H := H1;clear H1
                by_cases c30 : 0 ≤ t595
                · rw [if_pos c30] at H
                  have c30b0 : decide (0 ≤ t595) = true := decide_eq_true c30;clear c30
                  (first | rw [c30b0] | (simp only [i64_w,i32_w];rw [c30b0]) | skip)
                  by_cases c31 : t595 < (l0.length : Int)
                  · rw [if_pos c31] at H
                    have c31b0 : decide (t595 < (l0.length : Int)) = true := decide_eq_true c31;clear c31;have H' := Zd.mk H;clear H;have p601 : 0 ≤ (t595 : Int) := of_decide_eq_true (by first | (with_reducible assumption) | assumption);have q601 : t595 < (l0.length : Int) := of_decide_eq_true (by first | (with_reducible assumption) | assumption);obtain ⟨ad601,e601,hx601_0,hx601_1,hx601_2⟩ := Xg HR0.out t595 p601 q601
                    cases e601
                    replace hx601_0 := (HB.out.cell (World.block_lt_of_cell? w _ hx601_0)).trans hx601_0;replace hx601_1 := (HB.out.cell (World.block_lt_of_cell? w _ hx601_1)).trans hx601_1;replace hx601_2 := (HB.out.cell (World.block_lt_of_cell? w _ hx601_2)).trans hx601_2;replace p601 := eq_true p601;replace q601 := eq_true q601;have hcz32_0 : wc.cell? ⟨gb600,0,none⟩ = some (.int .i64 x9_2) := (Zm BK600.out 0).trans rfl;have hcz32_1 : wc.cell? ⟨gb600,1,none⟩ = some (.int .i64 t599) := (Zm BK600.out 1).trans rfl;have hcz32_2 : wc.cell? ⟨gb600,2,none⟩ = some (.int .i64 0) := (Zm BK600.out 2).trans rfl;have hfz32_0 := Zr BK600.out 0;have hfz32_1 := Zr BK600.out 1;have hfz32_2 := Zr BK600.out 2
                    go_wp2
                    go_meet
                    case rel => exact ⟨_,((Ze l0 t595).f2),H',⟨by have := HJ5.out;have := HK2.out;have := HJ13.out;have := HJ23.out;first | omega | exact Nat.le_refl _⟩,⟨by (with_reducible repeat (first | apply Kd.ZF | apply Kd.ZG | apply Kd.ZN));exact Kd.X1 (Kd.R_far (p := ⟨gb600,2,none⟩) (Kd.X1 HO_8.out (fun k_ hk => (⟨hk,hk⟩ : _ ∧ k_ ≠ gb600))) (fun _ hk => hk.2) (.int .i64 ((Ze l0 t595).f2))) (fun _ hk => hk.1)⟩,⟨by (with_reducible repeat (first | refine Zu ?_ _ | refine Zw ?_ | refine Zs ?_ _));refine ZE (cs := #[.int .i64 x9_2,.int .i64 t599,.int .i64 0]) ?_ 2 _ rfl;(with_reducible repeat (first | refine Zu ?_ _ | refine Zw ?_ | refine Zs ?_ _));exact BK600.out⟩,⟨by repeat (first | (with_reducible first | exact HB.out | apply Zc | apply Za | apply Zb | refine Z9 ?_ GE600.out) | exact HB.out)⟩⟩
                  · rw [if_neg c31] at H
                    exact absurd H (by simp)
                · rw [if_neg c30] at H
                  exact absurd H (by simp)
              · replace c29 := Bool.eq_false_iff.mpr c29
                subst c29
                have H1 : (Zj.j4 kj23 l0 a1 a2 x8_2 x9_2 t595 x11_13 x9_2 t599 0) = some (r1,r2) := by rw [if_neg (show ¬ (false = true) by decide)] at H;exact H
                clear H;have H := H1;clear H1;have H' := Zd.mk H;clear H
                go_wp2
                go_meet
                case rel => exact ⟨_,(0),H',⟨by have := HJ5.out;have := HK2.out;have := HJ13.out;have := HJ23.out;first | omega | exact Nat.le_refl _⟩,⟨by (with_reducible repeat (first | apply Kd.ZF | apply Kd.ZG | apply Kd.ZN));exact HO_8.out⟩,⟨by (with_reducible repeat (first | refine Zu ?_ _ | refine Zw ?_ | refine Zs ?_ _));exact BK600.out⟩,⟨by repeat (first | (with_reducible first | exact HB.out | apply Zc | apply Za | apply Zb | refine Z9 ?_ GE600.out) | exact HB.out)⟩⟩
             case rest =>
              clear HC28
              (try clear c1); (try clear c2); (try clear p2); (try clear c3); (try clear c5); (try clear p5); (try clear q5); (try clear hx5); (try clear c6); (try clear p6); (try clear q6); (try clear hx6); (try clear c9); (try clear c11); (try clear c12); (try clear c15); (try clear c15b0); (try clear c16); (try clear c16b0); (try clear c17); (try clear c17b0); (try clear c18); (try clear c18b0); (try clear c18b1); (try clear c19); (try clear c19b0); (try clear c21); (try clear c21b0); (try clear c22); (try clear c22b0); (try clear c27); (try clear c27b0); (try clear c29); (try clear c30); (try clear c30b0); (try clear c31); (try clear c31b0); (try clear hcz26_0); (try clear hcz26_1); (try clear hcz26_2); (try clear hcz32_0); (try clear hcz32_1); (try clear hcz32_2); (try clear hfz26_0); (try clear hfz26_1); (try clear hfz26_2); (try clear hfz32_0); (try clear hfz32_1); (try clear hfz32_2); (try clear hx596_0); (try clear hx596_1); (try clear hx596_2); (try clear hx597_0); (try clear hx597_1); (try clear hx597_2); (try clear hx598_0); (try clear hx598_1); (try clear hx598_2); (try clear hx601_0); (try clear hx601_1); (try clear hx601_2); (try clear p2); (try clear p5); (try clear p596); (try clear p597); (try clear p598); (try clear p6); (try clear p601); (try clear q5); (try clear q596); (try clear q597); (try clear q598); (try clear q601)
              obtain ⟨kq,x601002_27,HA,HJ27,HO_8,BK600,HB⟩ := hcut
              cases kq with
              | zero => exact absurd HA.out (by simp [Zj.j4])
              | succ kj27 =>
               have H := HA.out;clear HA;simp only [Zj.j4] at H
               by_cases c33 : x8_2.length < 5864062014805
               · rw [if_pos c33] at H
                 have LMc33 := Zd.mk c33;clear c33
                 obtain ⟨y602,hy602⟩ : ∃ y_ : List (S56),y_ = (x8_2 ++ [(⟨x9_2,t599,x601002_27⟩ : S56)]) := ⟨_,rfl⟩
                 replace H : (if x9_2 = a2 then (if (y602.length : Int) > 100 then (some (([] : List (S56)),4)) else (if 0 ≤ (wrap64 ((y602.length : Int) - 1)) then (if (wrap64 ((y602.length : Int) - 1)) < (y602.length : Int) then (some ((y602.set ((wrap64 ((y602.length : Int) - 1)) : Int).toNat (⟨(Ze y602 (wrap64 ((y602.length : Int) - 1))).f0,(Ze y602 (wrap64 ((y602.length : Int) - 1))).f1,0⟩ : S56)),0)) else (none)) else (none))) else (Zj.l1 kj27 l0 a1 a2 y602 x9_2 t595 x11_13 a2 0)) = some (r1,r2) := by first | (rw [hy602];with_reducible exact H) | (have H2_ := (Option.bind_some _ _).symm.trans H;rw [hy602];with_reducible exact H2_) | (have H2_ := (Option.bind_some _ _).symm.trans H;with_reducible exact H2_) | with_reducible exact H | (rw [hy602];exact H) | exact H
                 have Ny602 := Zd.mk hy602;clear hy602
                 by_cases c34 : x9_2 = a2
                 · rw [if_pos c34] at H
                   have c34b0 : (x9_2 == a2) = true := beq_iff_eq.mpr c34;have c34b1 : (x9_2 != a2) = false := bne_eq_false_iff_eq.mpr c34;clear c34
                   by_cases c35 : (y602.length : Int) > 100
                   · rw [if_pos c35] at H
                     have c35b0 : decide (100 < (y602.length : Int)) = true := decide_eq_true c35;have c35b1 : decide (100 < y602.length) = true := decide_eq_true (by omega);clear c35;simp only [Option.some.injEq,Prod.mk.injEq] at H;obtain ⟨rfl,rfl⟩ := H;have hcz36_0 : wc.cell? ⟨gb600,0,none⟩ = some (.int .i64 x9_2) := (Zm BK600.out 0).trans rfl;have hcz36_1 : wc.cell? ⟨gb600,1,none⟩ = some (.int .i64 t599) := (Zm BK600.out 1).trans rfl;have hcz36_2 : wc.cell? ⟨gb600,2,none⟩ = some (.int .i64 x601002_27) := (Zm BK600.out 2).trans rfl;have hfz36_0 := Zr BK600.out 0;have hfz36_1 := Zr BK600.out 1;have hfz36_2 := Zr BK600.out 2
                     go_wp2_with (first | ((with_reducible refine X8 (b := .append) (xs := #[.tmp 81,.tmp 83]) rfl ?_);at_builtin;refine Kd.XG k56 (w0 := w) w.heap.size rfl (.tmp 81) (.tmp 83) 45 56 (.agg #[(.int .i64 0),(.int .i64 0),(.int .i64 0)]) 24 rfl Try.underlying45 info56 rfl (by decide) (by omega) u8 x8_2 (⟨x9_2,t599,x601002_27⟩ : S56) [.int .i64 x9_2,.int .i64 t599,.int .i64 x601002_27] (fun k_ => k_ ≠ gb600) (fun _ => False) rfl rfl ?aP (fun _ hk => hk.elim) ?aF ?aO ?aB ?aS ?aL ?_;(case aP => exact Q2 _ _ _ (⟨x9_2,t599,x601002_27⟩ : S56));(case aB => exact (by repeat (first | (with_reducible first | exact HB.out | apply Zc | apply Za | apply Zb | refine Z9 ?_ GE600.out) | exact HB.out)));(case aF => exact (fun k_ hk => Kd.freshB (g := gb600) (o := .cells #[.int .i64 x9_2,.int .i64 t599,.int .i64 x601002_27] 56 (0,0)) (by (with_reducible repeat (first | refine Zu ?_ _ | refine Zw ?_ | refine Zs ?_ _));exact BK600.out) k_ hk));(case aO => exact (by (with_reducible repeat (first | apply Kd.ZF | apply Kd.ZG | apply Kd.ZN));exact HO_8.out));(case aS => exact (ZJ (by repeat (first | (with_reducible first | exact HB.out | apply Zc | apply Za | apply Zb | refine Z9 ?_ GE600.out) | exact HB.out))));(case aL => have := LMc33.out;omega);intro v603 w37 ho hb hg hat;rw [← Ny602.out] at ho;have n0_ := Zd.mk (XQ (g := gb600) (o := .cells #[.int .i64 x9_2,.int .i64 t599,.int .i64 x601002_27] 56 (0,0)) (by (with_reducible repeat (first | refine Zu ?_ _ | refine Zw ?_ | refine Zs ?_ _));exact BK600.out) hg (Kd.QT HO_8.out (fun _ hk => hk)));have n1_ := Zd.mk (hb);have n2_ := Zd.mk (ho);clear BK600;clear HB;clear HO_8;have BK600 := n0_;have HB := n1_;have HO604 := n2_;clear n0_ n1_ n2_;clear ho hb hg hat;obtain ⟨Ao38,co38,eo38⟩ := Kd.Xw HO604.out;subst eo38))
                     go_ret2
                     exact ⟨_,by first | rfl | (simp [Zt,Zv] <;> rfl) | (simp [*,Zt,Zv] <;> rfl),by first | exact Kd.R_nil _ _ _ _ _ | exact Kd.N_nil _ _ _ _ _ | exact Kd.V_nil _ _ _ _ _ | exact Kd.Q_nil _ _ _ _ _ | exact Kd.S_nil _ _ _ _ _,by repeat (first | (with_reducible first | exact HB.out | apply Zc | apply Za | apply Zb | refine Z9 ?_ GE600.out) | exact HB.out)⟩
                   · rw [if_neg c35] at H
                     have c35b0 : decide (100 < (y602.length : Int)) = false := decide_eq_false c35;have c35b1 : decide (100 < y602.length) = false := decide_eq_false (by omega);clear c35
                     obtain ⟨ji39,hji39⟩ : ∃ j_ : Int,(wrap64 ((y602.length : Int) - 1)) = j_ := ⟨_,rfl⟩
                     replace H : (if 0 ≤ (ji39) then (if (ji39) < (y602.length : Int) then (some ((y602.set ((ji39) : Int).toNat (⟨(Ze y602 (ji39)).f0,(Ze y602 (ji39)).f1,0⟩ : S56)),0)) else (none)) else (none)) = some (r1,r2) := by first | (rw [hji39] at H;exact H) | (simp only [hji39] at H ⊢;exact H)
                     have hji39w : (IntKind.i64.wrap ((y602.length : Int) - 1)) = ji39 := (i64_w _).trans hji39
                     by_cases c40 : 0 ≤ (ji39)
                     · rw [if_pos c40] at H
                       have c40b0 : decide (0 ≤ (ji39)) = true := decide_eq_true c40;clear c40
                       by_cases c41 : (ji39) < (y602.length : Int)
                       · rw [if_pos c41] at H
                         have c41b0 : decide ((ji39) < (y602.length : Int)) = true := decide_eq_true c41;clear c41
                         obtain ⟨y605,hy605⟩ : ∃ y_ : List (S56),y_ = (y602.set ((ji39) : Int).toNat (⟨(Ze y602 (ji39)).f0,(Ze y602 (ji39)).f1,0⟩ : S56)) := ⟨_,rfl⟩
                         replace H : (some (y605,0)) = some (r1,r2) := by first | (rw [hy605];with_reducible exact H) | (have H2_ := (Option.bind_some _ _).symm.trans H;rw [hy605];with_reducible exact H2_) | (have H2_ := (Option.bind_some _ _).symm.trans H;with_reducible exact H2_) | with_reducible exact H | (rw [hy605];exact H) | exact H
                         have Ny605 := Zd.mk hy605;clear hy605;simp only [Option.some.injEq,Prod.mk.injEq] at H;obtain ⟨rfl,rfl⟩ := H;have hcz43_0 : wc.cell? ⟨gb600,0,none⟩ = some (.int .i64 x9_2) := (Zm BK600.out 0).trans rfl;have hcz43_1 : wc.cell? ⟨gb600,1,none⟩ = some (.int .i64 t599) := (Zm BK600.out 1).trans rfl;have hcz43_2 : wc.cell? ⟨gb600,2,none⟩ = some (.int .i64 x601002_27) := (Zm BK600.out 2).trans rfl;have hfz43_0 := Zr BK600.out 0;have hfz43_1 := Zr BK600.out 1;have hfz43_2 := Zr BK600.out 2
                         go_wp2_with (first | ((with_reducible refine X8 (b := .append) (xs := #[.tmp 81,.tmp 83]) rfl ?_);at_builtin;refine Kd.XG k56 (w0 := w) w.heap.size rfl (.tmp 81) (.tmp 83) 45 56 (.agg #[(.int .i64 0),(.int .i64 0),(.int .i64 0)]) 24 rfl Try.underlying45 info56 rfl (by decide) (by omega) u8 x8_2 (⟨x9_2,t599,x601002_27⟩ : S56) [.int .i64 x9_2,.int .i64 t599,.int .i64 x601002_27] (fun k_ => k_ ≠ gb600) (fun _ => False) rfl rfl ?aP (fun _ hk => hk.elim) ?aF ?aO ?aB ?aS ?aL ?_;(case aP => exact Q2 _ _ _ (⟨x9_2,t599,x601002_27⟩ : S56));(case aB => exact (by repeat (first | (with_reducible first | exact HB.out | apply Zc | apply Za | apply Zb | refine Z9 ?_ GE600.out) | exact HB.out)));(case aF => exact (fun k_ hk => Kd.freshB (g := gb600) (o := .cells #[.int .i64 x9_2,.int .i64 t599,.int .i64 x601002_27] 56 (0,0)) (by (with_reducible repeat (first | refine Zu ?_ _ | refine Zw ?_ | refine Zs ?_ _));exact BK600.out) k_ hk));(case aO => exact (by (with_reducible repeat (first | apply Kd.ZF | apply Kd.ZG | apply Kd.ZN));exact HO_8.out));(case aS => exact (ZJ (by repeat (first | (with_reducible first | exact HB.out | apply Zc | apply Za | apply Zb | refine Z9 ?_ GE600.out) | exact HB.out))));(case aL => have := LMc33.out;omega);intro v603 w44 ho hb hg hat;rw [← Ny602.out] at ho;have n0_ := Zd.mk (XQ (g := gb600) (o := .cells #[.int .i64 x9_2,.int .i64 t599,.int .i64 x601002_27] 56 (0,0)) (by (with_reducible repeat (first | refine Zu ?_ _ | refine Zw ?_ | refine Zs ?_ _));exact BK600.out) hg (Kd.QT HO_8.out (fun _ hk => hk)));have n1_ := Zd.mk (hb);have n2_ := Zd.mk (ho);clear BK600;clear HB;clear HO_8;have BK600 := n0_;have HB := n1_;have HO604 := n2_;clear n0_ n1_ n2_;clear ho hb hg hat;obtain ⟨Ao45,co45,eo45⟩ := Kd.Xw HO604.out;subst eo45;have p42 : 0 ≤ ((ji39) : Int) := of_decide_eq_true (by first | (with_reducible assumption) | assumption);have q42 : ((ji39) : Int) < ((y602.length : Int) : Int) := of_decide_eq_true (by first | (with_reducible assumption) | assumption);obtain ⟨go42,co42,eo42,gb42,gl42,cl42,HG42⟩ := Kd.R_form HO604.out (by omega);(first | cases eo42 | (injection eo42 with ea_ en_ ec_;(first | subst ea_ | (injection ea_ with ea_;subst ea_));subst ec_;clear en_));have GB42 := Zd.mk gb42;have GG42 := Zd.mk HG42;clear gb42 gl42 HG42;obtain ⟨ce42,hcl42,hM42,hcc42,hfr42⟩ := Kd.YR HO604.out z56 ((ji39) : Int) p42 q42;obtain rfl := Ym hM42;have hx42_0 : w44.cell? ⟨go42,((ji39) : Int).toNat * 3,none⟩ = some (.int .i64 ((Ze y602 (ji39)).f0)) := hcc42 0 _ rfl;have hx42_1 : w44.cell? ⟨go42,((ji39) : Int).toNat * 3 + 1,none⟩ = some (.int .i64 ((Ze y602 (ji39)).f1)) := hcc42 1 _ rfl;have hx42_2 : w44.cell? ⟨go42,((ji39) : Int).toNat * 3 + 2,none⟩ = some (.int .i64 ((Ze y602 (ji39)).f2)) := hcc42 2 _ rfl;have hf42_0 : w44.frozen? ⟨go42,((ji39) : Int).toNat * 3,none⟩ = false := hfr42 0;have hf42_1 : w44.frozen? ⟨go42,((ji39) : Int).toNat * 3 + 1,none⟩ = false := hfr42 1;have hf42_2 : w44.frozen? ⟨go42,((ji39) : Int).toNat * 3 + 2,none⟩ = false := hfr42 2;clear hcl42 hcc42 hfr42 hM42;replace p42 := eq_true p42;replace q42 := eq_true q42;have HX46 := Zd.mk (show Kd.R k56 56 w44 w.heap.size (fun k_ => k_ ≠ gb600) (.slice (some ⟨go42,0,none⟩) y602.length co45) y602 from (by (with_reducible repeat (first | apply Kd.ZF | apply Kd.ZG | apply Kd.ZN));exact HO604.out));obtain ⟨ce46,hcl46,hM46,hcc46,hfr46⟩ := Kd.YR HX46.out z56 ((ji39) : Int) (of_decide_eq_true (by first | (with_reducible assumption) | assumption)) (by have h_ : ((ji39) : Int) < ((y602.length : Int) : Int) := of_decide_eq_true (by first | (with_reducible assumption) | assumption);first | exact h_ | (have e_ := (Kd.Xp HO604.out).1;omega) | simpa using h_);obtain rfl := Ym hM46;have HP46 := Kd.R_seg HX46.out ((ji39) : Int) (of_decide_eq_true (by first | (with_reducible assumption) | assumption)) (by have h_ : ((ji39) : Int) < ((y602.length : Int) : Int) := of_decide_eq_true (by first | (with_reducible assumption) | assumption);first | exact h_ | (have e_ := (Kd.Xp HO604.out).1;omega) | simpa using h_) (seg := [.int .i64 0]) (j := 2) hcl46 hcc46 (show 3 ≤ 3 from by decide) (x' := (⟨(Ze y602 (ji39)).f0,(Ze y602 (ji39)).f1,0⟩ : S56)) (Q2 _ _ _ (⟨(Ze y602 (ji39)).f0,(Ze y602 (ji39)).f1,0⟩ : S56) ) (fun _ hk => hk);have hx46_2 := hcc46 2 _ rfl;(try simp only [show (k56).sz = 3 from rfl,Nat.mul_one,Nat.add_zero] at hx46_2);have hf46_2 := hfr46 2;(try simp only [show (k56).sz = 3 from rfl,Nat.mul_one,Nat.add_zero] at hf46_2);clear hcl46 hcc46 hfr46 hM46) | ((with_reducible refine gate_store (t := 3) (p := 146) rfl ?_);refine store_event (t := 3) (p := 146) (v := ?vo_w47) (w1 := (w44.setCell ⟨go42,((ji39) : Int).toNat * 3 + 2,none⟩ (.int .i64 0))) ?hg ?ho ?hn ?hr ?_;(case ho => rfl);(case hg => rfl);(case hn => rfl);(case hr => first | (go_simp;done) | (go_simp;rfl));intro w47 hw;have hg : w44.grownBy w47 (some go42) := (by rw [hw];exact HP46.2);have hp_ : Kd.R k56 56 w47 w.heap.size (fun k_ => k_ ≠ gb600) (.slice (some ⟨go42,0,none⟩) y602.length co45) y605 := (by rw [hw,Ny605.out];exact HP46.1);clear HP46;have n0_ := Zd.mk (XQ (g := gb600) (o := .cells #[.int .i64 x9_2,.int .i64 t599,.int .i64 x601002_27] 56 (0,0)) (by (with_reducible repeat (first | refine Zu ?_ _ | refine Zw ?_ | refine Zs ?_ _));exact BK600.out) hg (Kd.QT HO604.out (fun _ hk => hk)));have n1_ := Zd.mk (hp_);have n2_ := Zd.mk ((by rw [hw];exact Z9 (HB.out) GB42.out : Below w.heap.size w w47));clear BK600;clear HO604;clear HB;have BK600 := n0_;have HO604 := n1_;have HB := n2_;clear n0_ n1_ n2_;clear hg hw hp_))
                         go_ret2
                         exact ⟨_,by first | rfl | (simp [Zt,Zv] <;> rfl) | (simp only [← hji39];first | rfl | (simp [Zt,Zv] <;> rfl)) | (simp [*,Zt,Zv] <;> rfl),by (with_reducible repeat (first | apply Kd.ZF | apply Kd.ZG | apply Kd.ZN));exact Kd.X1 HO604.out (fun _ hk => trivial),by repeat (first | (with_reducible first | exact HB.out | apply Zc | apply Za | apply Zb | refine Z9 ?_ GE600.out) | exact HB.out)⟩
                       · rw [if_neg c41] at H
                         exact absurd H (by simp)
                     · rw [if_neg c40] at H
                       exact absurd H (by simp)
                 · rw [if_neg c34] at H
                   have c34b0 : (x9_2 == a2) = false := beq_eq_false_iff_ne.mpr c34;have c34b1 : (x9_2 != a2) = true := bne_iff_ne.mpr c34;have H' := Zd.mk H;clear H;have hcz48_0 : wc.cell? ⟨gb600,0,none⟩ = some (.int .i64 x9_2) := (Zm BK600.out 0).trans rfl;have hcz48_1 : wc.cell? ⟨gb600,1,none⟩ = some (.int .i64 t599) := (Zm BK600.out 1).trans rfl;have hcz48_2 : wc.cell? ⟨gb600,2,none⟩ = some (.int .i64 x601002_27) := (Zm BK600.out 2).trans rfl;have hfz48_0 := Zr BK600.out 0;have hfz48_1 := Zr BK600.out 1;have hfz48_2 := Zr BK600.out 2
                   go_wp2_with (first | ((with_reducible refine X8 (b := .append) (xs := #[.tmp 81,.tmp 83]) rfl ?_);at_builtin;refine Kd.XG k56 (w0 := w) w.heap.size rfl (.tmp 81) (.tmp 83) 45 56 (.agg #[(.int .i64 0),(.int .i64 0),(.int .i64 0)]) 24 rfl Try.underlying45 info56 rfl (by decide) (by omega) u8 x8_2 (⟨x9_2,t599,x601002_27⟩ : S56) [.int .i64 x9_2,.int .i64 t599,.int .i64 x601002_27] (fun k_ => k_ ≠ gb600) (fun _ => False) rfl rfl ?aP (fun _ hk => hk.elim) ?aF ?aO ?aB ?aS ?aL ?_;(case aP => exact Q2 _ _ _ (⟨x9_2,t599,x601002_27⟩ : S56));(case aB => exact (by repeat (first | (with_reducible first | exact HB.out | apply Zc | apply Za | apply Zb | refine Z9 ?_ GE600.out) | exact HB.out)));(case aF => exact (fun k_ hk => Kd.freshB (g := gb600) (o := .cells #[.int .i64 x9_2,.int .i64 t599,.int .i64 x601002_27] 56 (0,0)) (by (with_reducible repeat (first | refine Zu ?_ _ | refine Zw ?_ | refine Zs ?_ _));exact BK600.out) k_ hk));(case aO => exact (by (with_reducible repeat (first | apply Kd.ZF | apply Kd.ZG | apply Kd.ZN));exact HO_8.out));(case aS => exact (ZJ (by repeat (first | (with_reducible first | exact HB.out | apply Zc | apply Za | apply Zb | refine Z9 ?_ GE600.out) | exact HB.out))));(case aL => have := LMc33.out;omega);intro v603 w49 ho hb hg hat;rw [← Ny602.out] at ho;have n0_ := Zd.mk (XQ (g := gb600) (o := .cells #[.int .i64 x9_2,.int .i64 t599,.int .i64 x601002_27] 56 (0,0)) (by (with_reducible repeat (first | refine Zu ?_ _ | refine Zw ?_ | refine Zs ?_ _));exact BK600.out) hg (Kd.QT HO_8.out (fun _ hk => hk)));have n1_ := Zd.mk (hb);have n2_ := Zd.mk (ho);clear BK600;clear HB;clear HO_8;have BK600 := n0_;have HB := n1_;have HO604 := n2_;clear n0_ n1_ n2_;clear ho hb hg hat))
                   go_loopg [13,14] kj27 (fun kq v13 v14 w' => ∃ (x13_6 : Int) (x14_6 : Int),v13 = .int .i64 x13_6 ∧ v14 = .int .i64 x14_6 ∧ Zd (Zj.l1 kq l0 a1 a2 y602 x9_2 t595 x11_13 x13_6 x14_6 = some (r1,r2)) ∧ Zd (kq ≤ kj27) ∧ Zd (Kd.R k56 56 w' w.heap.size (fun k_ => k_ ≠ gb600) v603 y602) ∧ Zd (w'.heap[gb600]? = some (.cells #[.int .i64 x9_2,.int .i64 t599,.int .i64 x601002_27] 56 (0,0))) ∧ Zd (Below w.heap.size w w'))
                   case atStart => exact ⟨(a2),(0),(by first | rfl | (simp;done) | (simp [*];done)),(by first | rfl | (simp;done) | (simp [*];done)),H',⟨Nat.le_refl _⟩,⟨by (with_reducible repeat (first | apply Kd.ZF | apply Kd.ZG | apply Kd.ZN));exact HO604.out⟩,⟨by (with_reducible repeat (first | refine Zu ?_ _ | refine Zw ?_ | refine Zs ?_ _));exact BK600.out⟩,⟨by repeat (first | (with_reducible first | exact HB.out | apply Zc | apply Za | apply Zb | refine Z9 ?_ GE600.out) | exact HB.out)⟩⟩
                   case round =>
                    clear H'
                    (try clear c1); (try clear c2); (try clear p2); (try clear c3); (try clear c4); (try clear p4); (try clear q4); (try clear hx4); (try clear hf4); (try clear c5); (try clear p5); (try clear q5); (try clear hx5); (try clear c6); (try clear p6); (try clear q6); (try clear hx6); (try clear c9); (try clear c11); (try clear c12); (try clear c15); (try clear c15b0); (try clear c16); (try clear c16b0); (try clear c17); (try clear c17b0); (try clear c18); (try clear c18b0); (try clear c18b1); (try clear c19); (try clear c19b0); (try clear c21); (try clear c21b0); (try clear c22); (try clear c22b0); (try clear c27); (try clear c27b0); (try clear c29); (try clear c30); (try clear c30b0); (try clear c31); (try clear c31b0); (try clear c33); (try clear c34); (try clear c34b0); (try clear c34b1); (try clear c35); (try clear c35b0); (try clear c35b1); (try clear c40); (try clear c40b0); (try clear c41); (try clear c41b0); (try clear c42); (try clear p42); (try clear q42); (try clear hx42); (try clear hf42); (try clear c46); (try clear hx46); (try clear hf46); (try clear hcz26_0); (try clear hcz26_1); (try clear hcz26_2); (try clear hcz32_0); (try clear hcz32_1); (try clear hcz32_2); (try clear hcz36_0); (try clear hcz36_1); (try clear hcz36_2); (try clear hcz43_0); (try clear hcz43_1); (try clear hcz43_2); (try clear hcz48_0); (try clear hcz48_1); (try clear hcz48_2); (try clear hfz26_0); (try clear hfz26_1); (try clear hfz26_2); (try clear hfz32_0); (try clear hfz32_1); (try clear hfz32_2); (try clear hfz36_0); (try clear hfz36_1); (try clear hfz36_2); (try clear hfz43_0); (try clear hfz43_1); (try clear hfz43_2); (try clear hfz48_0); (try clear hfz48_1); (try clear hfz48_2); (try clear hx42_0); (try clear hx42_1); (try clear hx42_2); (try clear hx46_2); (try clear hx596_0); (try clear hx596_1); (try clear hx596_2); (try clear hx597_0); (try clear hx597_1); (try clear hx597_2); (try clear hx598_0); (try clear hx598_1); (try clear hx598_2); (try clear hx601_0); (try clear hx601_1); (try clear hx601_2); (try clear p2); (try clear p42); (try clear p5); (try clear p596); (try clear p597); (try clear p598); (try clear p6); (try clear p601); (try clear q42); (try clear q5); (try clear q596); (try clear q597); (try clear q598); (try clear q6); (try clear q601)
                    obtain ⟨x13_6,x14_6,rfl,rfl,HA,HK6,HO_8,BK600,HB⟩ := hrel
                    cases gk with
                    | zero => exact absurd HA.out (by simp [Zj.l1])
                    | succ k6 =>
                     have H := HA.out;clear HA;simp only [Zj.l1] at H
                     by_cases c50 : x14_6 < (l0.length : Int)
                     · rw [if_pos c50] at H
                       have c50b0 : decide (x14_6 < (l0.length : Int)) = true := decide_eq_true c50;clear c50
                       by_cases c51 : 0 ≤ x14_6
                       · rw [if_pos c51] at H
                         have c51b0 : decide (0 ≤ x14_6) = true := decide_eq_true c51;clear c51
                         by_cases c52 : ((Ze l0 x14_6).f0) > x9_2
                         · rw [if_pos c52] at H
                           have c52b0 : decide (x9_2 < ((Ze l0 x14_6).f0)) = true := decide_eq_true c52;clear c52
                           by_cases c53 : ((Ze l0 x14_6).f0) < x13_6
                           · rw [if_pos c53] at H
                             have c53b0 : decide (((Ze l0 x14_6).f0) < x13_6) = true := decide_eq_true c53;clear c53;have H' := Zd.mk H;clear H;have p606 : 0 ≤ (x14_6 : Int) := of_decide_eq_true (by first | (with_reducible assumption) | assumption);have q606 : x14_6 < (l0.length : Int) := of_decide_eq_true (by first | (with_reducible assumption) | assumption);obtain ⟨ad606,e606,hx606_0,hx606_1,hx606_2⟩ := Xg HR0.out x14_6 p606 q606
                             cases e606
                             replace hx606_0 := (HB.out.cell (World.block_lt_of_cell? w _ hx606_0)).trans hx606_0;replace hx606_1 := (HB.out.cell (World.block_lt_of_cell? w _ hx606_1)).trans hx606_1;replace hx606_2 := (HB.out.cell (World.block_lt_of_cell? w _ hx606_2)).trans hx606_2;replace p606 := eq_true p606;replace q606 := eq_true q606;have p607 : 0 ≤ (x14_6 : Int) := of_decide_eq_true (by first | (with_reducible assumption) | assumption);have q607 : x14_6 < (l0.length : Int) := of_decide_eq_true (by first | (with_reducible assumption) | assumption);obtain ⟨ad607,e607,hx607_0,hx607_1,hx607_2⟩ := Xg HR0.out x14_6 p607 q607
                             obtain rfl : ad606 = ad607 := (by injection e607)
                             replace hx607_0 := (HB.out.cell (World.block_lt_of_cell? w _ hx607_0)).trans hx607_0;replace hx607_1 := (HB.out.cell (World.block_lt_of_cell? w _ hx607_1)).trans hx607_1;replace hx607_2 := (HB.out.cell (World.block_lt_of_cell? w _ hx607_2)).trans hx607_2;replace p607 := eq_true p607;replace q607 := eq_true q607;have p608 : 0 ≤ (x14_6 : Int) := of_decide_eq_true (by first | (with_reducible assumption) | assumption);have q608 : x14_6 < (l0.length : Int) := of_decide_eq_true (by first | (with_reducible assumption) | assumption);obtain ⟨ad608,e608,hx608_0,hx608_1,hx608_2⟩ := Xg HR0.out x14_6 p608 q608
                             obtain rfl : ad606 = ad608 := (by injection e608)
                             replace hx608_0 := (HB.out.cell (World.block_lt_of_cell? w _ hx608_0)).trans hx608_0;replace hx608_1 := (HB.out.cell (World.block_lt_of_cell? w _ hx608_1)).trans hx608_1;replace hx608_2 := (HB.out.cell (World.block_lt_of_cell? w _ hx608_2)).trans hx608_2;replace p608 := eq_true p608;replace q608 := eq_true q608
                             go_wp2
                             go_roundg k6
                             case measure => have := HJ5.out;have := HK2.out;have := HJ13.out;have := HJ23.out;have := HJ27.out;have := HK6.out;omega
                             case rel => exact ⟨((Ze l0 x14_6).f0),(wrap64 (x14_6 + 1)),(by first | rfl | (simp;done) | (simp [*];done)),(by first | rfl | (simp;done) | (simp [*];done)),H',⟨by have := HJ5.out;have := HK2.out;have := HJ13.out;have := HJ23.out;have := HJ27.out;have := HK6.out;omega⟩,⟨by (with_reducible repeat (first | apply Kd.ZF | apply Kd.ZG | apply Kd.ZN));exact HO_8.out⟩,⟨by (with_reducible repeat (first | refine Zu ?_ _ | refine Zw ?_ | refine Zs ?_ _));exact BK600.out⟩,⟨by repeat (first | (with_reducible first | exact HB.out | apply Zc | apply Za | apply Zb | refine Z9 ?_ GE600.out) | exact HB.out)⟩⟩
                           · rw [if_neg c53] at H
                             have c53b0 : decide (((Ze l0 x14_6).f0) < x13_6) = false := decide_eq_false c53;clear c53;have H' := Zd.mk H;clear H;have p606 : 0 ≤ (x14_6 : Int) := of_decide_eq_true (by first | (with_reducible assumption) | assumption);have q606 : x14_6 < (l0.length : Int) := of_decide_eq_true (by first | (with_reducible assumption) | assumption);obtain ⟨ad606,e606,hx606_0,hx606_1,hx606_2⟩ := Xg HR0.out x14_6 p606 q606
                             cases e606
                             replace hx606_0 := (HB.out.cell (World.block_lt_of_cell? w _ hx606_0)).trans hx606_0;replace hx606_1 := (HB.out.cell (World.block_lt_of_cell? w _ hx606_1)).trans hx606_1;replace hx606_2 := (HB.out.cell (World.block_lt_of_cell? w _ hx606_2)).trans hx606_2;replace p606 := eq_true p606;replace q606 := eq_true q606;have p607 : 0 ≤ (x14_6 : Int) := of_decide_eq_true (by first | (with_reducible assumption) | assumption);have q607 : x14_6 < (l0.length : Int) := of_decide_eq_true (by first | (with_reducible assumption) | assumption);obtain ⟨ad607,e607,hx607_0,hx607_1,hx607_2⟩ := Xg HR0.out x14_6 p607 q607
                             obtain rfl : ad606 = ad607 := (by injection e607)
                             replace hx607_0 := (HB.out.cell (World.block_lt_of_cell? w _ hx607_0)).trans hx607_0;replace hx607_1 := (HB.out.cell (World.block_lt_of_cell? w _ hx607_1)).trans hx607_1;replace hx607_2 := (HB.out.cell (World.block_lt_of_cell? w _ hx607_2)).trans hx607_2;replace p607 := eq_true p607;replace q607 := eq_true q607
                             go_wp2
                             go_roundg k6
                             case measure => have := HJ5.out;have := HK2.out;have := HJ13.out;have := HJ23.out;have := HJ27.out;have := HK6.out;omega
                             case rel => exact ⟨(x13_6),(wrap64 (x14_6 + 1)),(by first | rfl | (simp;done) | (simp [*];done)),(by first | rfl | (simp;done) | (simp [*];done)),H',⟨by have := HJ5.out;have := HK2.out;have := HJ13.out;have := HJ23.out;have := HJ27.out;have := HK6.out;omega⟩,⟨by (with_reducible repeat (first | apply Kd.ZF | apply Kd.ZG | apply Kd.ZN));exact HO_8.out⟩,⟨by (with_reducible repeat (first | refine Zu ?_ _ | refine Zw ?_ | refine Zs ?_ _));exact BK600.out⟩,⟨by repeat (first | (with_reducible first | exact HB.out | apply Zc | apply Za | apply Zb | refine Z9 ?_ GE600.out) | exact HB.out)⟩⟩
                         · rw [if_neg c52] at H
                           have c52b0 : decide (x9_2 < ((Ze l0 x14_6).f0)) = false := decide_eq_false c52;clear c52;have H' := Zd.mk H;clear H;have p606 : 0 ≤ (x14_6 : Int) := of_decide_eq_true (by first | (with_reducible assumption) | assumption);have q606 : x14_6 < (l0.length : Int) := of_decide_eq_true (by first | (with_reducible assumption) | assumption);obtain ⟨ad606,e606,hx606_0,hx606_1,hx606_2⟩ := Xg HR0.out x14_6 p606 q606
                           cases e606
                           replace hx606_0 := (HB.out.cell (World.block_lt_of_cell? w _ hx606_0)).trans hx606_0;replace hx606_1 := (HB.out.cell (World.block_lt_of_cell? w _ hx606_1)).trans hx606_1;replace hx606_2 := (HB.out.cell (World.block_lt_of_cell? w _ hx606_2)).trans hx606_2;replace p606 := eq_true p606;replace q606 := eq_true q606
                           go_wp2
                           go_roundg k6
                           case measure => have := HJ5.out;have := HK2.out;have := HJ13.out;have := HJ23.out;have := HJ27.out;have := HK6.out;omega
                           case rel => exact ⟨(x13_6),(wrap64 (x14_6 + 1)),(by first | rfl | (simp;done) | (simp [*];done)),(by first | rfl | (simp;done) | (simp [*];done)),H',⟨by have := HJ5.out;have := HK2.out;have := HJ13.out;have := HJ23.out;have := HJ27.out;have := HK6.out;omega⟩,⟨by (with_reducible repeat (first | apply Kd.ZF | apply Kd.ZG | apply Kd.ZN));exact HO_8.out⟩,⟨by (with_reducible repeat (first | refine Zu ?_ _ | refine Zw ?_ | refine Zs ?_ _));exact BK600.out⟩,⟨by repeat (first | (with_reducible first | exact HB.out | apply Zc | apply Za | apply Zb | refine Z9 ?_ GE600.out) | exact HB.out)⟩⟩
                       · rw [if_neg c51] at H
                         exact absurd H (by simp)
                     · rw [if_neg c50] at H
                       have c50b0 : decide (x14_6 < (l0.length : Int)) = false := decide_eq_false c50;clear c50
                       by_cases c54 : x11_13 = true
                       · subst c54
                         have H1 : (if (wrap64 (x13_6 - x9_2)) > 20 then (if x9_2 = a1 then (some (([] : List (S56)),4)) else (if 0 ≤ t595 then (if t595 < (l0.length : Int) then (if ((Ze l0 t595).f0) = x9_2 then (some (([] : List (S56)),4)) else (Zj.l0 k6 l0 a1 a2 y602 (wrap64 (x9_2 + 1)))) else (none)) else (none))) else (Zj.l0 k6 l0 a1 a2 y602 (wrap64 (x9_2 + 1)))) = some (r1,r2) := by rw [if_pos rfl] at H;exact H
                         clear H;have H := H1;clear H1
                         by_cases c55 : (wrap64 (x13_6 - x9_2)) > 20
                         · rw [if_pos c55] at H
                           have c55b0 : decide (20 < (wrap64 (x13_6 - x9_2))) = true := decide_eq_true c55;clear c55
                           by_cases c56 : x9_2 = a1
                           · rw [if_pos c56] at H
                             have c56b0 : (x9_2 == a1) = true := beq_iff_eq.mpr c56;have c56b1 : (x9_2 != a1) = false := bne_eq_false_iff_eq.mpr c56;clear c56;simp only [Option.some.injEq,Prod.mk.injEq] at H;obtain ⟨rfl,rfl⟩ := H
                             go_wp2
                             go_ret2
                             exact ⟨_,by first | rfl | (simp [Zt,Zv] <;> rfl) | (simp [*,Zt,Zv] <;> rfl),by first | exact Kd.R_nil _ _ _ _ _ | exact Kd.N_nil _ _ _ _ _ | exact Kd.V_nil _ _ _ _ _ | exact Kd.Q_nil _ _ _ _ _ | exact Kd.S_nil _ _ _ _ _,by repeat (first | (with_reducible first | exact HB.out | apply Zc | apply Za | apply Zb | refine Z9 ?_ GE600.out) | exact HB.out)⟩
                           · rw [if_neg c56] at H
                             have c56b0 : (x9_2 == a1) = false := beq_eq_false_iff_ne.mpr c56;have c56b1 : (x9_2 != a1) = true := bne_iff_ne.mpr c56
                             by_cases c57 : 0 ≤ t595
                             · rw [if_pos c57] at H
                               have c57b0 : decide (0 ≤ t595) = true := decide_eq_true c57;clear c57
                               by_cases c58 : t595 < (l0.length : Int)
                               · rw [if_pos c58] at H
                                 have c58b0 : decide (t595 < (l0.length : Int)) = true := decide_eq_true c58;clear c58
                                 by_cases c59 : ((Ze l0 t595).f0) = x9_2
                                 · rw [if_pos c59] at H
                                   have c59b0 : (((Ze l0 t595).f0) == x9_2) = true := beq_iff_eq.mpr c59;have c59b1 : (((Ze l0 t595).f0) != x9_2) = false := bne_eq_false_iff_eq.mpr c59;clear c59;simp only [Option.some.injEq,Prod.mk.injEq] at H;obtain ⟨rfl,rfl⟩ := H;have p609 : 0 ≤ (t595 : Int) := of_decide_eq_true (by first | (with_reducible assumption) | assumption);have q609 : t595 < (l0.length : Int) := of_decide_eq_true (by first | (with_reducible assumption) | assumption);obtain ⟨ad609,e609,hx609_0,hx609_1,hx609_2⟩ := Xg HR0.out t595 p609 q609
                                   cases e609
                                   replace hx609_0 := (HB.out.cell (World.block_lt_of_cell? w _ hx609_0)).trans hx609_0;replace hx609_1 := (HB.out.cell (World.block_lt_of_cell? w _ hx609_1)).trans hx609_1;replace hx609_2 := (HB.out.cell (World.block_lt_of_cell? w _ hx609_2)).trans hx609_2;replace p609 := eq_true p609;replace q609 := eq_true q609
                                   go_wp2
                                   go_ret2
                                   exact ⟨_,by first | rfl | (simp [Zt,Zv] <;> rfl) | (simp [*,Zt,Zv] <;> rfl),by first | exact Kd.R_nil _ _ _ _ _ | exact Kd.N_nil _ _ _ _ _ | exact Kd.V_nil _ _ _ _ _ | exact Kd.Q_nil _ _ _ _ _ | exact Kd.S_nil _ _ _ _ _,by repeat (first | (with_reducible first | exact HB.out | apply Zc | apply Za | apply Zb | refine Z9 ?_ GE600.out) | exact HB.out)⟩
                                 · rw [if_neg c59] at H
                                   have c59b0 : (((Ze l0 t595).f0) == x9_2) = false := beq_eq_false_iff_ne.mpr c59;have c59b1 : (((Ze l0 t595).f0) != x9_2) = true := bne_iff_ne.mpr c59;have H' := Zd.mk H;clear H;have p609 : 0 ≤ (t595 : Int) := of_decide_eq_true (by first | (with_reducible assumption) | assumption);have q609 : t595 < (l0.length : Int) := of_decide_eq_true (by first | (with_reducible assumption) | assumption);obtain ⟨ad609,e609,hx609_0,hx609_1,hx609_2⟩ := Xg HR0.out t595 p609 q609
                                   cases e609
                                   replace hx609_0 := (HB.out.cell (World.block_lt_of_cell? w _ hx609_0)).trans hx609_0;replace hx609_1 := (HB.out.cell (World.block_lt_of_cell? w _ hx609_1)).trans hx609_1;replace hx609_2 := (HB.out.cell (World.block_lt_of_cell? w _ hx609_2)).trans hx609_2;replace p609 := eq_true p609;replace q609 := eq_true q609
                                   go_wp2
                                   go_roundg k6
                                   case measure => have := HJ5.out;have := HK2.out;have := HJ13.out;have := HJ23.out;have := HJ27.out;have := HK6.out;omega
                                   case rel => exact ⟨(y602),(wrap64 (x9_2 + 1)),(by first | rfl | (simp;done) | (simp [*];done)),H',⟨by have := HJ5.out;have := HK2.out;have := HJ13.out;have := HJ23.out;have := HJ27.out;have := HK6.out;omega⟩,⟨by (with_reducible repeat (first | apply Kd.ZF | apply Kd.ZG | apply Kd.ZN));exact Kd.X1 HO_8.out (fun _ hk => trivial)⟩,⟨by repeat (first | (with_reducible first | exact HB.out | apply Zc | apply Za | apply Zb | refine Z9 ?_ GE600.out) | exact HB.out)⟩⟩
                               · rw [if_neg c58] at H
                                 exact absurd H (by simp)
                             · rw [if_neg c57] at H
                               exact absurd H (by simp)
                         · rw [if_neg c55] at H
                           have c55b0 : decide (20 < (wrap64 (x13_6 - x9_2))) = false := decide_eq_false c55;clear c55;have H' := Zd.mk H;clear H
                           go_wp2
                           go_roundg k6
                           case measure => have := HJ5.out;have := HK2.out;have := HJ13.out;have := HJ23.out;have := HJ27.out;have := HK6.out;omega
                           case rel => exact ⟨(y602),(wrap64 (x9_2 + 1)),(by first | rfl | (simp;done) | (simp [*];done)),H',⟨by have := HJ5.out;have := HK2.out;have := HJ13.out;have := HJ23.out;have := HJ27.out;have := HK6.out;omega⟩,⟨by (with_reducible repeat (first | apply Kd.ZF | apply Kd.ZG | apply Kd.ZN));exact Kd.X1 HO_8.out (fun _ hk => trivial)⟩,⟨by repeat (first | (with_reducible first | exact HB.out | apply Zc | apply Za | apply Zb | refine Z9 ?_ GE600.out) | exact HB.out)⟩⟩
                       · replace c54 := Bool.eq_false_iff.mpr c54
                         subst c54
                         have H1 : (Zj.l0 k6 l0 a1 a2 y602 x13_6) = some (r1,r2) := by rw [if_neg (show ¬ (false = true) by decide)] at H;exact H
                         clear H;have H := H1;clear H1;have H' := Zd.mk H;clear H
                         go_wp2
                         go_roundg k6
                         case measure => have := HJ5.out;have := HK2.out;have := HJ13.out;have := HJ23.out;have := HJ27.out;have := HK6.out;omega
                         case rel => exact ⟨(y602),(x13_6),(by first | rfl | (simp;done) | (simp [*];done)),H',⟨by have := HJ5.out;have := HK2.out;have := HJ13.out;have := HJ23.out;have := HJ27.out;have := HK6.out;omega⟩,⟨by (with_reducible repeat (first | apply Kd.ZF | apply Kd.ZG | apply Kd.ZN));exact Kd.X1 HO_8.out (fun _ hk => trivial)⟩,⟨by repeat (first | (with_reducible first | exact HB.out | apply Zc | apply Za | apply Zb | refine Z9 ?_ GE600.out) | exact HB.out)⟩⟩
               · rw [if_neg c33] at H
                 exact absurd H (by simp)
 · replace c5 := Bool.eq_false_iff.mpr c5
   subst c5
   have H1 : (some (([] : List (S56)),1)) = some (r1,r2) := by rw [if_neg (show ¬ (false = true) by decide)] at H;exact H
   clear H;have H := H1;clear H1;simp only [Option.some.injEq,Prod.mk.injEq] at H;obtain ⟨rfl,rfl⟩ := H
   go_enter Try.func39,Try.ntmps39
   go_wp2_with (first | ((with_reducible refine Z2 (f := 37) rfl ?_);refine ZP (some 16) rfl rfl Try.func37 (by kernel_rfl) rfl #[.slice A0 l0.length c0] rfl (by (try simp only [List.map_toArray,List.map_cons,List.map_nil]);first | done | rfl | (simp only [List.length_drop,List.length_take];rfl)) ?_;(with_reducible refine (Zg.calls k _ _ l0 false _ ?side1 ?side2 A4.out).mono ?_);(case side1 => repeat (first | exact HR0.out | (with_reducible refine Kd.Z8 ?_ _) | (with_reducible refine Kd.ZB ?_ _) | (with_reducible refine Kd.ZI ?_)));(case side2 => exact HC0.out);rintro e w60 ⟨rfl,hb⟩;refine ⟨_,rfl,?_⟩;have n0_ := Zd.mk (Z0 (by repeat (first | (with_reducible first | exact HB.out | apply Zc | apply Za | apply Zb) | exact HB.out)) hb);clear HB;have HB := n0_;clear n0_;(try clear hb);(try clear hb2);(try clear hk);(try clear hi)))
   go_ret2
   exact ⟨_,by first | rfl | (simp [Zt,Zv] <;> rfl) | (simp [*,Zt,Zv] <;> rfl),by first | exact Kd.R_nil _ _ _ _ _ | exact Kd.N_nil _ _ _ _ _ | exact Kd.V_nil _ _ _ _ _ | exact Kd.Q_nil _ _ _ _ _ | exact Kd.S_nil _ _ _ _ _,by repeat (first | (with_reducible first | exact HB.out | apply Zc | apply Za | apply Zb) | exact HB.out)⟩
end Go.Proofs.Ytomlfbmfdoallaa.PA

namespace Go.Proofs.Ytomlfbmfdoallaa.PA
open Go.RowKit Go.Proofs.YtomlfbmfdoallaaW.PrintWords Go.Proofs.YtomlfbmfdoallaaW.PrintLast Go.Proofs.YtomlfbmfdoallaaW.PrintMore
attribute [local go_sem] Xf Xe Xj Xk ZV ZU Xd Xc
set_option linter.unusedVariables false
set_option linter.unusedSimpArgs false
attribute [local go_sem high] eqA56
mutual
def Zh.j0 : Nat → List (S56) → Int → Int → Int → Int → Int → Bool → Option (Bool)
 | 0,_,_,_,_,_,_,_ => none
 | k + 1,x0,x1,x2,x3,x9,x10,x49 => if x49 = true then (some false) else (if x10 = 0 then (if 0 < (x0.length : Int) then (Zh.l0 k x0 x1 x2 x3 x9 ((Ze x0 0).f1) ((Ze x0 0).f1) 0) else (none)) else (Zh.j2 k x0 x2 x3))
def Zh.j2 : Nat → List (S56) → Int → Int → Option (Bool)
 | 0,_,_,_ => none
 | k + 1,x0,x2,x3 => (XJ.f x0 x2 x3).bind fun bt625 => ((Zj.f k x0 x2 x3).bind fun bt629 => (if bt625.2 = bt629.2 then (Zh.j3 k bt625.1 bt629.1 ((bt625.1.length : Int) != (bt629.1.length : Int))) else (Zh.j3 k bt625.1 bt629.1 true)))
def Zh.j3 : Nat → List (S56) → List (S56) → Bool → Option (Bool)
 | 0,_,_,_ => none
 | k + 1,x16,x17,x129 => if x129 = true then (some false) else (Zh.l1 k x16 x17 0)
def Zh.l1 : Nat → List (S56) → List (S56) → Int → Option (Bool)
 | 0,_,_,_ => none
 | k + 1,x16,x17,x18 => if x18 < (x16.length : Int) then (if 0 ≤ x18 then (if x18 < (x17.length : Int) then (if (!(((Ze x16 x18).f0) == ((Ze x17 x18).f0)) || (!(((Ze x16 x18).f1) == ((Ze x17 x18).f1)) || (!(((Ze x16 x18).f2) == ((Ze x17 x18).f2))))) = true then (some false) else (Zh.l1 k x16 x17 (wrap64 (x18 + 1)))) else (none)) else (none)) else (some true)
def Zh.l0 : Nat → List (S56) → Int → Int → Int → Int → Int → Int → Int → Option (Bool)
 | 0,_,_,_,_,_,_,_,_ => none
 | k + 1,x0,x1,x2,x3,x9,x13,x14,x15 => if (wrap64 (x15 + 1)) < (x0.length : Int) then (if 0 ≤ x15 then (if x15 < (x0.length : Int) then (if ((Ze x0 x15).f0) ≤ x1 then (if 0 ≤ (wrap64 (x15 + 1)) then (Zh.l0 k x0 x1 x2 x3 x9 (mn ((Ze x0 x15).f1) ((Ze x0 (wrap64 (x15 + 1))).f1)) (mx ((Ze x0 x15).f1) ((Ze x0 (wrap64 (x15 + 1))).f1)) (wrap64 (x15 + 1))) else (none)) else (Zh.l0 k x0 x1 x2 x3 x9 x13 x14 (wrap64 (x15 + 1)))) else (none)) else (none)) else (if x9 < x13 then (some false) else (if x9 > x14 then (some false) else (Zh.j2 k x0 x2 x3)))
end
def Zh.f (k : Nat) (l0 : List (S56)) (a1 : Int) (a2 : Int) (a3 : Int) : Option (Bool) := (Z6.f k).bind fun t610 => (if t610 = true then ((Xa.f ([] : List (S27)) ([] : List (S61)) l0).bind fun t611 => (if t611 = true then (some true) else ((Xi.f k l0 a1).bind fun bt612 => ((ZM.f k l0 a1).bind fun bt614 => (if bt612.1 = bt614.1 then (if bt612.2 = bt614.2 then ((Zk.f k l0).bind fun t616 => ((Zg.f k l0).bind fun t617 => (Zh.j0 k l0 a1 a2 a3 bt612.1 bt612.2 (t616 != t617)))) else (Zh.j0 k l0 a1 a2 a3 bt612.1 bt612.2 true)) else (Zh.j0 k l0 a1 a2 a3 bt612.1 bt612.2 true)))))) else (some false))
theorem Zh.Xm : ∀ k,(∀ y0 y1 y2 y3 y4 y5 y6,LeO (Zh.j0 k y0 y1 y2 y3 y4 y5 y6) (Zh.j0 (k + 1) y0 y1 y2 y3 y4 y5 y6)) ∧ (∀ y0 y1 y2,LeO (Zh.j2 k y0 y1 y2) (Zh.j2 (k + 1) y0 y1 y2)) ∧ (∀ y0 y1 y2,LeO (Zh.j3 k y0 y1 y2) (Zh.j3 (k + 1) y0 y1 y2)) ∧ (∀ y0 y1 y2,LeO (Zh.l1 k y0 y1 y2) (Zh.l1 (k + 1) y0 y1 y2)) ∧ (∀ y0 y1 y2 y3 y4 y5 y6 y7,LeO (Zh.l0 k y0 y1 y2 y3 y4 y5 y6 y7) (Zh.l0 (k + 1) y0 y1 y2 y3 y4 y5 y6 y7))
 | 0 => ⟨fun _ _ _ _ _ _ _ r h => by simp [Zh.j0] at h,fun _ _ _ r h => by simp [Zh.j2] at h,fun _ _ _ r h => by simp [Zh.j3] at h,fun _ _ _ r h => by simp [Zh.l1] at h,fun _ _ _ _ _ _ _ _ r h => by simp [Zh.l0] at h⟩
 | k + 1 => by
  obtain ⟨ih0,ih1,ih2,ih3,ih4⟩ := Zh.Xm k;refine ⟨?_,?_,?_,?_,?_⟩
  · intro y0 y1 y2 y3 y4 y5 y6
    unfold Zh.j0
    repeat' first
    | (with_reducible exact ih0 _ _ _ _ _ _ _)
    | (with_reducible exact ih1 _ _ _)
    | (with_reducible exact ih2 _ _ _)
    | (with_reducible exact ih3 _ _ _)
    | (with_reducible exact ih4 _ _ _ _ _ _ _ _)
    | (with_reducible exact Z6.mono _)
    | (with_reducible exact Zj.mono _ _ _ _)
    | (with_reducible exact Zg.mono _ _)
    | (with_reducible exact ZM.mono _ _ _)
    | (with_reducible exact Zk.mono _ _)
    | (with_reducible exact Xi.mono _ _ _)
    | (with_reducible exact LeO.refl _)
    | (with_reducible exact LeO.none _)
    | (with_reducible refine LeO.ite ?_ ?_)
    | (with_reducible refine LeO.bind ?_ (fun _ => ?_))
    | exact ih0 _ _ _ _ _ _ _
    | exact ih1 _ _ _
    | exact ih2 _ _ _
    | exact ih3 _ _ _
    | exact ih4 _ _ _ _ _ _ _ _
    | exact Z6.mono _
    | exact Zj.mono _ _ _ _
    | exact Zg.mono _ _
    | exact ZM.mono _ _ _
    | exact Zk.mono _ _
    | exact Xi.mono _ _ _
    | exact LeO.none _
    | refine LeO.ite ?_ ?_
    | refine LeO.bind ?_ (fun _ => ?_)
  · intro y0 y1 y2
    unfold Zh.j2
    repeat' first
    | (with_reducible exact ih0 _ _ _ _ _ _ _)
    | (with_reducible exact ih1 _ _ _)
    | (with_reducible exact ih2 _ _ _)
    | (with_reducible exact ih3 _ _ _)
    | (with_reducible exact ih4 _ _ _ _ _ _ _ _)
    | (with_reducible exact Z6.mono _)
    | (with_reducible exact Zj.mono _ _ _ _)
    | (with_reducible exact Zg.mono _ _)
    | (with_reducible exact ZM.mono _ _ _)
    | (with_reducible exact Zk.mono _ _)
    | (with_reducible exact Xi.mono _ _ _)
    | (with_reducible exact LeO.refl _)
    | (with_reducible exact LeO.none _)
    | (with_reducible refine LeO.ite ?_ ?_)
    | (with_reducible refine LeO.bind ?_ (fun _ => ?_))
    | exact ih0 _ _ _ _ _ _ _
    | exact ih1 _ _ _
    | exact ih2 _ _ _
    | exact ih3 _ _ _
    | exact ih4 _ _ _ _ _ _ _ _
    | exact Z6.mono _
    | exact Zj.mono _ _ _ _
    | exact Zg.mono _ _
    | exact ZM.mono _ _ _
    | exact Zk.mono _ _
    | exact Xi.mono _ _ _
    | exact LeO.none _
    | refine LeO.ite ?_ ?_
    | refine LeO.bind ?_ (fun _ => ?_)
  · intro y0 y1 y2
    unfold Zh.j3
    repeat' first
    | (with_reducible exact ih0 _ _ _ _ _ _ _)
    | (with_reducible exact ih1 _ _ _)
    | (with_reducible exact ih2 _ _ _)
    | (with_reducible exact ih3 _ _ _)
    | (with_reducible exact ih4 _ _ _ _ _ _ _ _)
    | (with_reducible exact Z6.mono _)
    | (with_reducible exact Zj.mono _ _ _ _)
    | (with_reducible exact Zg.mono _ _)
    | (with_reducible exact ZM.mono _ _ _)
    | (with_reducible exact Zk.mono _ _)
    | (with_reducible exact Xi.mono _ _ _)
    | (with_reducible exact LeO.refl _)
    | (with_reducible exact LeO.none _)
    | (with_reducible refine LeO.ite ?_ ?_)
    | (with_reducible refine LeO.bind ?_ (fun _ => ?_))
    | exact ih0 _ _ _ _ _ _ _
    | exact ih1 _ _ _
    | exact ih2 _ _ _
    | exact ih3 _ _ _
    | exact ih4 _ _ _ _ _ _ _ _
    | exact Z6.mono _
    | exact Zj.mono _ _ _ _
    | exact Zg.mono _ _
    | exact ZM.mono _ _ _
    | exact Zk.mono _ _
    | exact Xi.mono _ _ _
    | exact LeO.none _
    | refine LeO.ite ?_ ?_
    | refine LeO.bind ?_ (fun _ => ?_)
  · intro y0 y1 y2
    unfold Zh.l1
    repeat' first
    | (with_reducible exact ih0 _ _ _ _ _ _ _)
    | (with_reducible exact ih1 _ _ _)
    | (with_reducible exact ih2 _ _ _)
    | (with_reducible exact ih3 _ _ _)
    | (with_reducible exact ih4 _ _ _ _ _ _ _ _)
    | (with_reducible exact Z6.mono _)
    | (with_reducible exact Zj.mono _ _ _ _)
    | (with_reducible exact Zg.mono _ _)
    | (with_reducible exact ZM.mono _ _ _)
    | (with_reducible exact Zk.mono _ _)
    | (with_reducible exact Xi.mono _ _ _)
    | (with_reducible exact LeO.refl _)
    | (with_reducible exact LeO.none _)
    | (with_reducible refine LeO.ite ?_ ?_)
    | (with_reducible refine LeO.bind ?_ (fun _ => ?_))
    | exact ih0 _ _ _ _ _ _ _
    | exact ih1 _ _ _
    | exact ih2 _ _ _
    | exact ih3 _ _ _
    | exact ih4 _ _ _ _ _ _ _ _
    | exact Z6.mono _
    | exact Zj.mono _ _ _ _
    | exact Zg.mono _ _
    | exact ZM.mono _ _ _
    | exact Zk.mono _ _
    | exact Xi.mono _ _ _
    | exact LeO.none _
    | refine LeO.ite ?_ ?_
    | refine LeO.bind ?_ (fun _ => ?_)
  · intro y0 y1 y2 y3 y4 y5 y6 y7
    unfold Zh.l0
    repeat' first
    | (with_reducible exact ih0 _ _ _ _ _ _ _)
    | (with_reducible exact ih1 _ _ _)
    | (with_reducible exact ih2 _ _ _)
    | (with_reducible exact ih3 _ _ _)
    | (with_reducible exact ih4 _ _ _ _ _ _ _ _)
    | (with_reducible exact Z6.mono _)
    | (with_reducible exact Zj.mono _ _ _ _)
    | (with_reducible exact Zg.mono _ _)
    | (with_reducible exact ZM.mono _ _ _)
    | (with_reducible exact Zk.mono _ _)
    | (with_reducible exact Xi.mono _ _ _)
    | (with_reducible exact LeO.refl _)
    | (with_reducible exact LeO.none _)
    | (with_reducible refine LeO.ite ?_ ?_)
    | (with_reducible refine LeO.bind ?_ (fun _ => ?_))
    | exact ih0 _ _ _ _ _ _ _
    | exact ih1 _ _ _
    | exact ih2 _ _ _
    | exact ih3 _ _ _
    | exact ih4 _ _ _ _ _ _ _ _
    | exact Z6.mono _
    | exact Zj.mono _ _ _ _
    | exact Zg.mono _ _
    | exact ZM.mono _ _ _
    | exact Zk.mono _ _
    | exact Xi.mono _ _ _
    | exact LeO.none _
    | refine LeO.ite ?_ ?_
    | refine LeO.bind ?_ (fun _ => ?_)
theorem Zh.mono : ∀ a0 a1 a2 a3 k,LeO (Zh.f k a0 a1 a2 a3) (Zh.f (k + 1) a0 a1 a2 a3) := by
 intro a0 a1 a2 a3 k;obtain ⟨ih0,ih1,ih2,ih3,ih4⟩ := Zh.Xm k;unfold Zh.f
 repeat' first
  | (with_reducible exact ih0 _ _ _ _ _ _ _)
  | (with_reducible exact ih1 _ _ _)
  | (with_reducible exact ih2 _ _ _)
  | (with_reducible exact ih3 _ _ _)
  | (with_reducible exact ih4 _ _ _ _ _ _ _ _)
  | (with_reducible exact Z6.mono _)
  | (with_reducible exact Zj.mono _ _ _ _)
  | (with_reducible exact Zg.mono _ _)
  | (with_reducible exact ZM.mono _ _ _)
  | (with_reducible exact Zk.mono _ _)
  | (with_reducible exact Xi.mono _ _ _)
  | (with_reducible exact LeO.refl _)
  | (with_reducible exact LeO.none _)
  | (with_reducible refine LeO.ite ?_ ?_)
  | (with_reducible refine LeO.bind ?_ (fun _ => ?_))
  | exact ih0 _ _ _ _ _ _ _
  | exact ih1 _ _ _
  | exact ih2 _ _ _
  | exact ih3 _ _ _
  | exact ih4 _ _ _ _ _ _ _ _
  | exact Z6.mono _
  | exact Zj.mono _ _ _ _
  | exact Zg.mono _ _
  | exact ZM.mono _ _ _
  | exact Zk.mono _ _
  | exact Xi.mono _ _ _
  | exact LeO.none _
  | refine LeO.ite ?_ ?_
  | refine LeO.bind ?_ (fun _ => ?_)
set_option maxHeartbeats 8000000 in
set_option maxRecDepth 100000 in
theorem Zh.calls (k : Nat) (A0 : Option Addr) (c0 : Nat) (l0 : List (S56)) (a1 : Int) (a2 : Int) (a3 : Int) (r : Bool) (w : World) (hr0 : Kd.C k56 w A0 l0.length l0) (hc0 : l0.length ≤ c0) (h : Zh.f k l0 a1 a2 a3 = some r) :
 Calls Try.prog 8 #[.slice A0 l0.length c0,.int .i64 a1,.int .i64 a2,.int .i64 a3] w fun e w' => e = .returned (.bool r) ∧ Below w.heap.size w w' := by
 have hu56 := Try.underlying56;have HR0 := Zd.mk hr0;have HC0 := Zd.mk hc0;clear hr0 hc0;have HB := Zd.mk (Below.refl w.heap.size w);have H : ((Z6.f k).bind fun t610 => (if t610 = true then ((Xa.f ([] : List (S27)) ([] : List (S61)) l0).bind fun t611 => (if t611 = true then (some true) else ((Xi.f k l0 a1).bind fun bt612 => ((ZM.f k l0 a1).bind fun bt614 => (if bt612.1 = bt614.1 then (if bt612.2 = bt614.2 then ((Zk.f k l0).bind fun t616 => ((Zg.f k l0).bind fun t617 => (Zh.j0 k l0 a1 a2 a3 bt612.1 bt612.2 (t616 != t617)))) else (Zh.j0 k l0 a1 a2 a3 bt612.1 bt612.2 true)) else (Zh.j0 k l0 a1 a2 a3 bt612.1 bt612.2 true)))))) else (some false))) = some r := h;clear h;replace H := Option.bind_eq_some_iff.mp H;obtain ⟨t610,A50,H⟩ := H;replace H : (if t610 = true then ((Xa.f ([] : List (S27)) ([] : List (S61)) l0).bind fun t611 => (if t611 = true then (some true) else ((Xi.f k l0 a1).bind fun bt612 => ((ZM.f k l0 a1).bind fun bt614 => (if bt612.1 = bt614.1 then (if bt612.2 = bt614.2 then ((Zk.f k l0).bind fun t616 => ((Zg.f k l0).bind fun t617 => (Zh.j0 k l0 a1 a2 a3 bt612.1 bt612.2 (t616 != t617)))) else (Zh.j0 k l0 a1 a2 a3 bt612.1 bt612.2 true)) else (Zh.j0 k l0 a1 a2 a3 bt612.1 bt612.2 true)))))) else (some false)) = some r := H;have A5 := Zd.mk A50;clear A50
 by_cases c6 : t610 = true
 · subst c6
   have H1 : ((Xa.f ([] : List (S27)) ([] : List (S61)) l0).bind fun t611 => (if t611 = true then (some true) else ((Xi.f k l0 a1).bind fun bt612 => ((ZM.f k l0 a1).bind fun bt614 => (if bt612.1 = bt614.1 then (if bt612.2 = bt614.2 then ((Zk.f k l0).bind fun t616 => ((Zg.f k l0).bind fun t617 => (Zh.j0 k l0 a1 a2 a3 bt612.1 bt612.2 (t616 != t617)))) else (Zh.j0 k l0 a1 a2 a3 bt612.1 bt612.2 true)) else (Zh.j0 k l0 a1 a2 a3 bt612.1 bt612.2 true)))))) = some r := by rw [if_pos rfl] at H;exact H
   clear H;have H := H1;clear H1;replace H := Option.bind_eq_some_iff.mp H;obtain ⟨t611,A70,H⟩ := H;replace H : (if t611 = true then (some true) else ((Xi.f k l0 a1).bind fun bt612 => ((ZM.f k l0 a1).bind fun bt614 => (if bt612.1 = bt614.1 then (if bt612.2 = bt614.2 then ((Zk.f k l0).bind fun t616 => ((Zg.f k l0).bind fun t617 => (Zh.j0 k l0 a1 a2 a3 bt612.1 bt612.2 (t616 != t617)))) else (Zh.j0 k l0 a1 a2 a3 bt612.1 bt612.2 true)) else (Zh.j0 k l0 a1 a2 a3 bt612.1 bt612.2 true))))) = some r := H;have A7 := Zd.mk A70;clear A70
   by_cases c8 : t611 = true
   · subst c8
     have H1 : (some true) = some r := by rw [if_pos rfl] at H;exact H
     clear H;have H := H1;clear H1;obtain rfl := Option.some.inj H
     go_enter Try.func8,Try.ntmps8
     go_wp2_with (first | (go_at_call 9;(with_reducible refine (Z6.calls k  true _ A5.out).mono ?_);rintro e w9 ⟨rfl,hb⟩;have n0_ := Zd.mk (Z0 (by repeat (first | (with_reducible first | exact HB.out | apply Zc | apply Za | apply Zb) | exact HB.out)) hb);clear HB;have HB := n0_;clear n0_;(try clear hb);(try clear hb2);(try clear hk);(try clear hi)) | (go_at_call 10;(refine (Xa.calls _ _ ([] : List (S27)) _ _ ([] : List (S61)) _ _ l0 true _ ?side1 ?side2 ?side3 ?side4 ?side5 ?side6 A7.out).mono ?_);(case side1 => exact Kd.C_nil _ _);(case side2 => exact Nat.le_refl _);(case side3 => exact Kd.C_nil _ _);(case side4 => exact Nat.le_refl _);(case side5 => repeat (first | exact (Kd.ZK HR0.out HB.out) | (with_reducible refine Kd.Z8 ?_ _) | (with_reducible refine Kd.ZB ?_ _) | (with_reducible refine Kd.ZI ?_)));(case side6 => exact HC0.out);rintro e w' ⟨rfl,⟨nd,rfl⟩⟩;(try first | exact ⟨rfl,_,World.drewN_drewN _ _ _⟩ | exact ⟨rfl,_,Eq.trans (World.drewN_drewN _ _ _) (congrArg (World.drewN _) (Nat.add_assoc _ _ _))⟩)))
     repeat (go_quiet (first | (go_at_call 9;(with_reducible refine (Z6.calls k  true _ A5.out).mono ?_);rintro e w9 ⟨rfl,hb⟩;have n0_ := Zd.mk (Z0 (by repeat (first | (with_reducible first | exact HB.out | apply Zc | apply Za | apply Zb) | exact HB.out)) hb);clear HB;have HB := n0_;clear n0_;(try clear hb);(try clear hb2);(try clear hk);(try clear hi)) | (go_at_call 10;(refine (Xa.calls _ _ ([] : List (S27)) _ _ ([] : List (S61)) _ _ l0 true _ ?side1 ?side2 ?side3 ?side4 ?side5 ?side6 A7.out).mono ?_);(case side1 => exact Kd.C_nil _ _);(case side2 => exact Nat.le_refl _);(case side3 => exact Kd.C_nil _ _);(case side4 => exact Nat.le_refl _);(case side5 => repeat (first | exact (Kd.ZK HR0.out HB.out) | (with_reducible refine Kd.Z8 ?_ _) | (with_reducible refine Kd.ZB ?_ _) | (with_reducible refine Kd.ZI ?_)));(case side6 => exact HC0.out);rintro e w' ⟨rfl,⟨nd,rfl⟩⟩;(try first | exact ⟨rfl,_,World.drewN_drewN _ _ _⟩ | exact ⟨rfl,_,Eq.trans (World.drewN_drewN _ _ _) (congrArg (World.drewN _) (Nat.add_assoc _ _ _))⟩)));try go_wp2_with (first | (go_at_call 9;(with_reducible refine (Z6.calls k  true _ A5.out).mono ?_);rintro e w9 ⟨rfl,hb⟩;have n0_ := Zd.mk (Z0 (by repeat (first | (with_reducible first | exact HB.out | apply Zc | apply Za | apply Zb) | exact HB.out)) hb);clear HB;have HB := n0_;clear n0_;(try clear hb);(try clear hb2);(try clear hk);(try clear hi)) | (go_at_call 10;(refine (Xa.calls _ _ ([] : List (S27)) _ _ ([] : List (S61)) _ _ l0 true _ ?side1 ?side2 ?side3 ?side4 ?side5 ?side6 A7.out).mono ?_);(case side1 => exact Kd.C_nil _ _);(case side2 => exact Nat.le_refl _);(case side3 => exact Kd.C_nil _ _);(case side4 => exact Nat.le_refl _);(case side5 => repeat (first | exact (Kd.ZK HR0.out HB.out) | (with_reducible refine Kd.Z8 ?_ _) | (with_reducible refine Kd.ZB ?_ _) | (with_reducible refine Kd.ZI ?_)));(case side6 => exact HC0.out);rintro e w' ⟨rfl,⟨nd,rfl⟩⟩;(try first | exact ⟨rfl,_,World.drewN_drewN _ _ _⟩ | exact ⟨rfl,_,Eq.trans (World.drewN_drewN _ _ _) (congrArg (World.drewN _) (Nat.add_assoc _ _ _))⟩))))
     go_ret;exact ⟨by first | rfl | (simp [Zt,Zv] <;> rfl) | (simp [*,Zt,Zv] <;> rfl),by repeat (first | (with_reducible first | exact HB.out | apply Zc | apply Za | apply Zb) | exact HB.out)⟩
   · replace c8 := Bool.eq_false_iff.mpr c8
     subst c8
     have H1 : ((Xi.f k l0 a1).bind fun bt612 => ((ZM.f k l0 a1).bind fun bt614 => (if bt612.1 = bt614.1 then (if bt612.2 = bt614.2 then ((Zk.f k l0).bind fun t616 => ((Zg.f k l0).bind fun t617 => (Zh.j0 k l0 a1 a2 a3 bt612.1 bt612.2 (t616 != t617)))) else (Zh.j0 k l0 a1 a2 a3 bt612.1 bt612.2 true)) else (Zh.j0 k l0 a1 a2 a3 bt612.1 bt612.2 true)))) = some r := by rw [if_neg (show ¬ (false = true) by decide)] at H;exact H
     clear H;have H := H1;clear H1;replace H := Option.bind_eq_some_iff.mp H;obtain ⟨⟨t612,t613⟩,A100,H⟩ := H;replace H : ((ZM.f k l0 a1).bind fun bt614 => (if t612 = bt614.1 then (if t613 = bt614.2 then ((Zk.f k l0).bind fun t616 => ((Zg.f k l0).bind fun t617 => (Zh.j0 k l0 a1 a2 a3 t612 t613 (t616 != t617)))) else (Zh.j0 k l0 a1 a2 a3 t612 t613 true)) else (Zh.j0 k l0 a1 a2 a3 t612 t613 true))) = some r := H;have A10 := Zd.mk A100;clear A100;replace H := Option.bind_eq_some_iff.mp H;obtain ⟨⟨t614,t615⟩,A110,H⟩ := H;replace H : (if t612 = t614 then (if t613 = t615 then ((Zk.f k l0).bind fun t616 => ((Zg.f k l0).bind fun t617 => (Zh.j0 k l0 a1 a2 a3 t612 t613 (t616 != t617)))) else (Zh.j0 k l0 a1 a2 a3 t612 t613 true)) else (Zh.j0 k l0 a1 a2 a3 t612 t613 true)) = some r := H;have A11 := Zd.mk A110;clear A110;have HC12 := Zd.mk H;clear H
     go_enter Try.func8,Try.ntmps8
     go_upto_region 7 with (first | (go_at_call 9;(with_reducible refine (Z6.calls k  true _ A5.out).mono ?_);rintro e w13 ⟨rfl,hb⟩;have n0_ := Zd.mk (Z0 (by repeat (first | (with_reducible first | exact HB.out | apply Zc | apply Za | apply Zb) | exact HB.out)) hb);clear HB;have HB := n0_;clear n0_;(try clear hb);(try clear hb2);(try clear hk);(try clear hi)) | (go_at_call 10;(refine (Xa.calls _ _ ([] : List (S27)) _ _ ([] : List (S61)) _ _ l0 false _ ?side1 ?side2 ?side3 ?side4 ?side5 ?side6 A7.out).mono ?_);(case side1 => exact Kd.C_nil _ _);(case side2 => exact Nat.le_refl _);(case side3 => exact Kd.C_nil _ _);(case side4 => exact Nat.le_refl _);(case side5 => repeat (first | exact (Kd.ZK HR0.out HB.out) | (with_reducible refine Kd.Z8 ?_ _) | (with_reducible refine Kd.ZB ?_ _) | (with_reducible refine Kd.ZI ?_)));(case side6 => exact HC0.out);rintro e w' ⟨rfl,⟨nd,rfl⟩⟩;(try first | exact ⟨rfl,_,World.drewN_drewN _ _ _⟩ | exact ⟨rfl,_,Eq.trans (World.drewN_drewN _ _ _) (congrArg (World.drewN _) (Nat.add_assoc _ _ _))⟩)) | (go_at_call 34;(with_reducible refine (Xi.calls k _ _ l0 a1 t612 t613 _ ?side1 ?side2 A10.out).mono ?_);(case side1 => repeat (first | exact (Kd.ZK HR0.out (by repeat (first | (with_reducible first | exact HB.out | apply Zc | apply Za | apply Zb) | exact HB.out))) | (with_reducible refine Kd.Z8 ?_ _) | (with_reducible refine Kd.ZB ?_ _) | (with_reducible refine Kd.ZI ?_)));(case side2 => exact HC0.out);rintro e w14 ⟨rfl,hb⟩;have n0_ := Zd.mk (Z0 (by repeat (first | (with_reducible first | exact HB.out | apply Zc | apply Za | apply Zb) | exact HB.out)) hb);clear HB;have HB := n0_;clear n0_;(try clear hb);(try clear hb2);(try clear hk);(try clear hi)) | (go_at_call 35;(with_reducible refine (ZM.calls k _ _ l0 a1 t614 t615 _ ?side1 ?side2 A11.out).mono ?_);(case side1 => repeat (first | exact (Kd.ZK HR0.out HB.out) | (with_reducible refine Kd.Z8 ?_ _) | (with_reducible refine Kd.ZB ?_ _) | (with_reducible refine Kd.ZI ?_)));(case side2 => exact HC0.out);rintro e w15 ⟨rfl,hb⟩;have n0_ := Zd.mk (Z0 (by repeat (first | (with_reducible first | exact HB.out | apply Zc | apply Za | apply Zb) | exact HB.out)) hb);clear HB;have HB := n0_;clear n0_;(try clear hb);(try clear hb2);(try clear hk);(try clear hi)))
     repeat (go_quiet (first | (go_at_call 9;(with_reducible refine (Z6.calls k  true _ A5.out).mono ?_);rintro e w13 ⟨rfl,hb⟩;have n0_ := Zd.mk (Z0 (by repeat (first | (with_reducible first | exact HB.out | apply Zc | apply Za | apply Zb) | exact HB.out)) hb);clear HB;have HB := n0_;clear n0_;(try clear hb);(try clear hb2);(try clear hk);(try clear hi)) | (go_at_call 10;(refine (Xa.calls _ _ ([] : List (S27)) _ _ ([] : List (S61)) _ _ l0 false _ ?side1 ?side2 ?side3 ?side4 ?side5 ?side6 A7.out).mono ?_);(case side1 => exact Kd.C_nil _ _);(case side2 => exact Nat.le_refl _);(case side3 => exact Kd.C_nil _ _);(case side4 => exact Nat.le_refl _);(case side5 => repeat (first | exact (Kd.ZK HR0.out HB.out) | (with_reducible refine Kd.Z8 ?_ _) | (with_reducible refine Kd.ZB ?_ _) | (with_reducible refine Kd.ZI ?_)));(case side6 => exact HC0.out);rintro e w' ⟨rfl,⟨nd,rfl⟩⟩;(try first | exact ⟨rfl,_,World.drewN_drewN _ _ _⟩ | exact ⟨rfl,_,Eq.trans (World.drewN_drewN _ _ _) (congrArg (World.drewN _) (Nat.add_assoc _ _ _))⟩)) | (go_at_call 34;(with_reducible refine (Xi.calls k _ _ l0 a1 t612 t613 _ ?side1 ?side2 A10.out).mono ?_);(case side1 => repeat (first | exact (Kd.ZK HR0.out (by repeat (first | (with_reducible first | exact HB.out | apply Zc | apply Za | apply Zb) | exact HB.out))) | (with_reducible refine Kd.Z8 ?_ _) | (with_reducible refine Kd.ZB ?_ _) | (with_reducible refine Kd.ZI ?_)));(case side2 => exact HC0.out);rintro e w14 ⟨rfl,hb⟩;have n0_ := Zd.mk (Z0 (by repeat (first | (with_reducible first | exact HB.out | apply Zc | apply Za | apply Zb) | exact HB.out)) hb);clear HB;have HB := n0_;clear n0_;(try clear hb);(try clear hb2);(try clear hk);(try clear hi)) | (go_at_call 35;(with_reducible refine (ZM.calls k _ _ l0 a1 t614 t615 _ ?side1 ?side2 A11.out).mono ?_);(case side1 => repeat (first | exact (Kd.ZK HR0.out HB.out) | (with_reducible refine Kd.Z8 ?_ _) | (with_reducible refine Kd.ZB ?_ _) | (with_reducible refine Kd.ZI ?_)));(case side2 => exact HC0.out);rintro e w15 ⟨rfl,hb⟩;have n0_ := Zd.mk (Z0 (by repeat (first | (with_reducible first | exact HB.out | apply Zc | apply Za | apply Zb) | exact HB.out)) hb);clear HB;have HB := n0_;clear n0_;(try clear hb);(try clear hb2);(try clear hk);(try clear hi)));go_upto_region 7 with (first | (go_at_call 9;(with_reducible refine (Z6.calls k  true _ A5.out).mono ?_);rintro e w13 ⟨rfl,hb⟩;have n0_ := Zd.mk (Z0 (by repeat (first | (with_reducible first | exact HB.out | apply Zc | apply Za | apply Zb) | exact HB.out)) hb);clear HB;have HB := n0_;clear n0_;(try clear hb);(try clear hb2);(try clear hk);(try clear hi)) | (go_at_call 10;(refine (Xa.calls _ _ ([] : List (S27)) _ _ ([] : List (S61)) _ _ l0 false _ ?side1 ?side2 ?side3 ?side4 ?side5 ?side6 A7.out).mono ?_);(case side1 => exact Kd.C_nil _ _);(case side2 => exact Nat.le_refl _);(case side3 => exact Kd.C_nil _ _);(case side4 => exact Nat.le_refl _);(case side5 => repeat (first | exact (Kd.ZK HR0.out HB.out) | (with_reducible refine Kd.Z8 ?_ _) | (with_reducible refine Kd.ZB ?_ _) | (with_reducible refine Kd.ZI ?_)));(case side6 => exact HC0.out);rintro e w' ⟨rfl,⟨nd,rfl⟩⟩;(try first | exact ⟨rfl,_,World.drewN_drewN _ _ _⟩ | exact ⟨rfl,_,Eq.trans (World.drewN_drewN _ _ _) (congrArg (World.drewN _) (Nat.add_assoc _ _ _))⟩)) | (go_at_call 34;(with_reducible refine (Xi.calls k _ _ l0 a1 t612 t613 _ ?side1 ?side2 A10.out).mono ?_);(case side1 => repeat (first | exact (Kd.ZK HR0.out (by repeat (first | (with_reducible first | exact HB.out | apply Zc | apply Za | apply Zb) | exact HB.out))) | (with_reducible refine Kd.Z8 ?_ _) | (with_reducible refine Kd.ZB ?_ _) | (with_reducible refine Kd.ZI ?_)));(case side2 => exact HC0.out);rintro e w14 ⟨rfl,hb⟩;have n0_ := Zd.mk (Z0 (by repeat (first | (with_reducible first | exact HB.out | apply Zc | apply Za | apply Zb) | exact HB.out)) hb);clear HB;have HB := n0_;clear n0_;(try clear hb);(try clear hb2);(try clear hk);(try clear hi)) | (go_at_call 35;(with_reducible refine (ZM.calls k _ _ l0 a1 t614 t615 _ ?side1 ?side2 A11.out).mono ?_);(case side1 => repeat (first | exact (Kd.ZK HR0.out HB.out) | (with_reducible refine Kd.Z8 ?_ _) | (with_reducible refine Kd.ZB ?_ _) | (with_reducible refine Kd.ZI ?_)));(case side2 => exact HC0.out);rintro e w15 ⟨rfl,hb⟩;have n0_ := Zd.mk (Z0 (by repeat (first | (with_reducible first | exact HB.out | apply Zc | apply Za | apply Zb) | exact HB.out)) hb);clear HB;have HB := n0_;clear n0_;(try clear hb);(try clear hb2);(try clear hk);(try clear hi))))
     (try simp only [Act.put,YV,YW,YX])
     go_cut [49] (fun v49 wc => ∃ (kq : Nat) (x49_11 : Bool),v49 = .bool x49_11 ∧ Zd (Zh.j0 kq l0 a1 a2 a3 t612 t613 x49_11 = some r) ∧ Zd (kq ≤ k) ∧ Zd (Below w.heap.size w wc))
     case first =>
      have H := HC12.out;clear HC12
      by_cases c16 : t612 = t614
      · rw [if_pos c16] at H
        have c16b0 : (t612 == t614) = true := beq_iff_eq.mpr c16;have c16b1 : (t612 != t614) = false := bne_eq_false_iff_eq.mpr c16;clear c16
        (first | rw [c16b0] | (simp only [i64_w,i32_w];rw [c16b0]) | skip)
        by_cases c17 : t613 = t615
        · rw [if_pos c17] at H
          have c17b0 : (t613 == t615) = true := beq_iff_eq.mpr c17;have c17b1 : (t613 != t615) = false := bne_eq_false_iff_eq.mpr c17;clear c17;replace H := Option.bind_eq_some_iff.mp H;obtain ⟨t616,A180,H⟩ := H;replace H : ((Zg.f k l0).bind fun t617 => (Zh.j0 k l0 a1 a2 a3 t612 t613 (t616 != t617))) = some r := H;have A18 := Zd.mk A180;clear A180;replace H := Option.bind_eq_some_iff.mp H;obtain ⟨t617,A190,H⟩ := H;replace H : (Zh.j0 k l0 a1 a2 a3 t612 t613 (t616 != t617)) = some r := H;have A19 := Zd.mk A190;clear A190;have H' := Zd.mk H;clear H
          go_wp2_with (first | (go_at_call 36;(with_reducible refine (Zk.calls k _ _ l0 t616 _ ?side1 ?side2 A18.out).mono ?_);(case side1 => repeat (first | exact (Kd.ZK HR0.out HB.out) | (with_reducible refine Kd.Z8 ?_ _) | (with_reducible refine Kd.ZB ?_ _) | (with_reducible refine Kd.ZI ?_)));(case side2 => exact HC0.out);rintro e w20 ⟨rfl,hb⟩;have n0_ := Zd.mk (Z0 (by repeat (first | (with_reducible first | exact HB.out | apply Zc | apply Za | apply Zb) | exact HB.out)) hb);clear HB;have HB := n0_;clear n0_;(try clear hb);(try clear hb2);(try clear hk);(try clear hi)) | (go_at_call 37;(with_reducible refine (Zg.calls k _ _ l0 t617 _ ?side1 ?side2 A19.out).mono ?_);(case side1 => repeat (first | exact (Kd.ZK HR0.out HB.out) | (with_reducible refine Kd.Z8 ?_ _) | (with_reducible refine Kd.ZB ?_ _) | (with_reducible refine Kd.ZI ?_)));(case side2 => exact HC0.out);rintro e w21 ⟨rfl,hb⟩;have n0_ := Zd.mk (Z0 (by repeat (first | (with_reducible first | exact HB.out | apply Zc | apply Za | apply Zb) | exact HB.out)) hb);clear HB;have HB := n0_;clear n0_;(try clear hb);(try clear hb2);(try clear hk);(try clear hi)))
          repeat (go_quiet (first | (go_at_call 36;(with_reducible refine (Zk.calls k _ _ l0 t616 _ ?side1 ?side2 A18.out).mono ?_);(case side1 => repeat (first | exact (Kd.ZK HR0.out HB.out) | (with_reducible refine Kd.Z8 ?_ _) | (with_reducible refine Kd.ZB ?_ _) | (with_reducible refine Kd.ZI ?_)));(case side2 => exact HC0.out);rintro e w20 ⟨rfl,hb⟩;have n0_ := Zd.mk (Z0 (by repeat (first | (with_reducible first | exact HB.out | apply Zc | apply Za | apply Zb) | exact HB.out)) hb);clear HB;have HB := n0_;clear n0_;(try clear hb);(try clear hb2);(try clear hk);(try clear hi)) | (go_at_call 37;(with_reducible refine (Zg.calls k _ _ l0 t617 _ ?side1 ?side2 A19.out).mono ?_);(case side1 => repeat (first | exact (Kd.ZK HR0.out HB.out) | (with_reducible refine Kd.Z8 ?_ _) | (with_reducible refine Kd.ZB ?_ _) | (with_reducible refine Kd.ZI ?_)));(case side2 => exact HC0.out);rintro e w21 ⟨rfl,hb⟩;have n0_ := Zd.mk (Z0 (by repeat (first | (with_reducible first | exact HB.out | apply Zc | apply Za | apply Zb) | exact HB.out)) hb);clear HB;have HB := n0_;clear n0_;(try clear hb);(try clear hb2);(try clear hk);(try clear hi)));try go_wp2_with (first | (go_at_call 36;(with_reducible refine (Zk.calls k _ _ l0 t616 _ ?side1 ?side2 A18.out).mono ?_);(case side1 => repeat (first | exact (Kd.ZK HR0.out HB.out) | (with_reducible refine Kd.Z8 ?_ _) | (with_reducible refine Kd.ZB ?_ _) | (with_reducible refine Kd.ZI ?_)));(case side2 => exact HC0.out);rintro e w20 ⟨rfl,hb⟩;have n0_ := Zd.mk (Z0 (by repeat (first | (with_reducible first | exact HB.out | apply Zc | apply Za | apply Zb) | exact HB.out)) hb);clear HB;have HB := n0_;clear n0_;(try clear hb);(try clear hb2);(try clear hk);(try clear hi)) | (go_at_call 37;(with_reducible refine (Zg.calls k _ _ l0 t617 _ ?side1 ?side2 A19.out).mono ?_);(case side1 => repeat (first | exact (Kd.ZK HR0.out HB.out) | (with_reducible refine Kd.Z8 ?_ _) | (with_reducible refine Kd.ZB ?_ _) | (with_reducible refine Kd.ZI ?_)));(case side2 => exact HC0.out);rintro e w21 ⟨rfl,hb⟩;have n0_ := Zd.mk (Z0 (by repeat (first | (with_reducible first | exact HB.out | apply Zc | apply Za | apply Zb) | exact HB.out)) hb);clear HB;have HB := n0_;clear n0_;(try clear hb);(try clear hb2);(try clear hk);(try clear hi))))
          go_meet
          case rel => exact ⟨_,((t616 != t617)),(by first | rfl | (simp;done) | (simp [*];done)),H',⟨by first | omega | exact Nat.le_refl _⟩,⟨by repeat (first | (with_reducible first | exact HB.out | apply Zc | apply Za | apply Zb) | exact HB.out)⟩⟩
        · rw [if_neg c17] at H
          have c17b0 : (t613 == t615) = false := beq_eq_false_iff_ne.mpr c17;have c17b1 : (t613 != t615) = true := bne_iff_ne.mpr c17;have H' := Zd.mk H;clear H
          go_wp2
          repeat (go_quiet (fail);try go_wp2)
          go_meet
          case rel => exact ⟨_,(true),(by first | rfl | (simp;done) | (simp [*];done)),H',⟨by first | omega | exact Nat.le_refl _⟩,⟨by repeat (first | (with_reducible first | exact HB.out | apply Zc | apply Za | apply Zb) | exact HB.out)⟩⟩
      · rw [if_neg c16] at H
        have c16b0 : (t612 == t614) = false := beq_eq_false_iff_ne.mpr c16;have c16b1 : (t612 != t614) = true := bne_iff_ne.mpr c16
        (first | rw [c16b0] | (simp only [i64_w,i32_w];rw [c16b0]) | skip)
        have H' := Zd.mk H;clear H
        go_wp2
        repeat (go_quiet (fail);try go_wp2)
        go_meet
        case rel => exact ⟨_,(true),(by first | rfl | (simp;done) | (simp [*];done)),H',⟨by first | omega | exact Nat.le_refl _⟩,⟨by repeat (first | (with_reducible first | exact HB.out | apply Zc | apply Za | apply Zb) | exact HB.out)⟩⟩
     case rest =>
      clear HC12
      (try clear c1); (try clear p2); (try clear c6); (try clear c8); (try clear c16); (try clear c16b0); (try clear c16b1); (try clear c17); (try clear c17b0); (try clear c17b1)
      obtain ⟨kq,x49_11,rfl,HA,HJ11,HB⟩ := hcut
      cases kq with
      | zero => exact absurd HA.out (by simp [Zh.j0])
      | succ kj11 =>
       have H := HA.out;clear HA;simp only [Zh.j0] at H
       by_cases c22 : x49_11 = true
       · subst c22
         have H1 : (some false) = some r := by rw [if_pos rfl] at H;exact H
         clear H;have H := H1;clear H1;obtain rfl := Option.some.inj H
         go_wp2
         repeat (go_quiet (fail);try go_wp2)
         go_ret;exact ⟨by first | rfl | (simp [Zt,Zv] <;> rfl) | (simp [*,Zt,Zv] <;> rfl),by repeat (first | (with_reducible first | exact HB.out | apply Zc | apply Za | apply Zb) | exact HB.out)⟩
       · replace c22 := Bool.eq_false_iff.mpr c22
         subst c22
         have H1 : (if t613 = 0 then (if 0 < (l0.length : Int) then (Zh.l0 kj11 l0 a1 a2 a3 t612 ((Ze l0 0).f1) ((Ze l0 0).f1) 0) else (none)) else (Zh.j2 kj11 l0 a2 a3)) = some r := by rw [if_neg (show ¬ (false = true) by decide)] at H;exact H
         clear H;have H := H1;clear H1;have HC23 := Zd.mk H;clear H
         go_upto_if 51 with (fail)
         repeat (go_quiet (fail);go_upto_if 51 with (fail))
         go_cut [] (fun wc => ∃ (kq : Nat),Zd (Zh.j2 kq l0 a2 a3 = some r) ∧ Zd (kq ≤ kj11) ∧ Zd (Below w.heap.size w wc))
         case first =>
          have H := HC23.out;clear HC23
          by_cases c24 : t613 = 0
          · rw [if_pos c24] at H
            have c24b0 : (t613 == 0) = true := beq_iff_eq.mpr c24;have c24b1 : (t613 != 0) = false := bne_eq_false_iff_eq.mpr c24;clear c24
            (first | rw [c24b0] | (simp only [i64_w,i32_w];rw [c24b0]) | skip)
            by_cases c25 : 0 < (l0.length : Int)
            · rw [if_pos c25] at H
              have c25b0 : decide (0 < (l0.length : Int)) = true := decide_eq_true c25;have c25b1 : decide (0 < l0.length) = true := decide_eq_true (by omega);clear c25;have H' := Zd.mk H;clear H
              have p618 : 0 ≤ (0 : Int) := (by omega)
              have q618 : 0 < (l0.length : Int) := of_decide_eq_true (by first | (with_reducible assumption) | assumption);obtain ⟨ad618,e618,hx618_0,hx618_1,hx618_2⟩ := Xg HR0.out 0 p618 q618
              cases e618
              have qi618 : (0 < l0.length) = True := eq_true (by omega)
              (try rw [show ((0 : Int)).toNat = 0 from rfl] at hx618_0)
              (try rw [show 0 * 3 = 0 from rfl] at hx618_0)
              (try rw [Addr.add_zero'] at hx618_0)
              (try rw [show ((0 : Int)).toNat = 0 from rfl] at hx618_1)
              (try rw [show 0 * 3 = 0 from rfl] at hx618_1)
              (try rw [Addr.add_zero'] at hx618_1)
              (try rw [show ((0 : Int)).toNat = 0 from rfl] at hx618_2)
              (try rw [show 0 * 3 = 0 from rfl] at hx618_2)
              (try rw [Addr.add_zero'] at hx618_2)
              replace hx618_0 := (HB.out.cell (World.block_lt_of_cell? w _ hx618_0)).trans hx618_0;replace hx618_1 := (HB.out.cell (World.block_lt_of_cell? w _ hx618_1)).trans hx618_1;replace hx618_2 := (HB.out.cell (World.block_lt_of_cell? w _ hx618_2)).trans hx618_2;replace p618 := eq_true p618;replace q618 := eq_true q618
              have p619 : 0 ≤ (0 : Int) := (by omega)
              have q619 : 0 < (l0.length : Int) := of_decide_eq_true (by first | (with_reducible assumption) | assumption);obtain ⟨ad619,e619,hx619_0,hx619_1,hx619_2⟩ := Xg HR0.out 0 p619 q619
              obtain rfl : ad618 = ad619 := (by injection e619)
              have qi619 : (0 < l0.length) = True := eq_true (by omega)
              (try rw [show ((0 : Int)).toNat = 0 from rfl] at hx619_0)
              (try rw [show 0 * 3 = 0 from rfl] at hx619_0)
              (try rw [Addr.add_zero'] at hx619_0)
              (try rw [show ((0 : Int)).toNat = 0 from rfl] at hx619_1)
              (try rw [show 0 * 3 = 0 from rfl] at hx619_1)
              (try rw [Addr.add_zero'] at hx619_1)
              (try rw [show ((0 : Int)).toNat = 0 from rfl] at hx619_2)
              (try rw [show 0 * 3 = 0 from rfl] at hx619_2)
              (try rw [Addr.add_zero'] at hx619_2)
              replace hx619_0 := (HB.out.cell (World.block_lt_of_cell? w _ hx619_0)).trans hx619_0;replace hx619_1 := (HB.out.cell (World.block_lt_of_cell? w _ hx619_1)).trans hx619_1;replace hx619_2 := (HB.out.cell (World.block_lt_of_cell? w _ hx619_2)).trans hx619_2;replace p619 := eq_true p619;replace q619 := eq_true q619
              go_wp2
              repeat (go_quiet (fail);try go_wp2)
              go_loopg [13,14,15] kj11 (fun kq v13 v14 v15 w' => ∃ (x13_2 : Int) (x14_2 : Int) (x15_2 : Int),v13 = .int .i64 x13_2 ∧ v14 = .int .i64 x14_2 ∧ v15 = .int .i64 x15_2 ∧ Zd (Zh.l0 kq l0 a1 a2 a3 t612 x13_2 x14_2 x15_2 = some r) ∧ Zd (kq ≤ kj11) ∧ Zd (Below w.heap.size w w'))
              case atStart => exact ⟨((Ze l0 0).f1),((Ze l0 0).f1),(0),(by first | rfl | (simp;done) | (simp [*];done)),(by first | rfl | (simp;done) | (simp [*];done)),(by first | rfl | (simp;done) | (simp [*];done)),H',⟨Nat.le_refl _⟩,⟨by repeat (first | (with_reducible first | exact HB.out | apply Zc | apply Za | apply Zb) | exact HB.out)⟩⟩
              case round =>
               clear H'
               (try clear c1); (try clear c2); (try clear p2); (try clear c6); (try clear p6); (try clear q6); (try clear hx6); (try clear qi6); (try clear c8); (try clear c16); (try clear c16b0); (try clear c16b1); (try clear c17); (try clear c17b0); (try clear c17b1); (try clear c22); (try clear c24); (try clear c24b0); (try clear c24b1); (try clear c25); (try clear c25b0); (try clear c25b1); (try clear hx618_0); (try clear hx618_1); (try clear hx618_2); (try clear hx619_0); (try clear hx619_1); (try clear hx619_2); (try clear p2); (try clear p618); (try clear p619); (try clear q618); (try clear q619)
               obtain ⟨x13_2,x14_2,x15_2,rfl,rfl,rfl,HA,HK2,HB⟩ := hrel
               cases gk with
               | zero => exact absurd HA.out (by simp [Zh.l0])
               | succ k2 =>
                have H := HA.out;clear HA;simp only [Zh.l0] at H
                by_cases c26 : (wrap64 (x15_2 + 1)) < (l0.length : Int)
                · rw [if_pos c26] at H
                  have c26b0 : decide ((wrap64 (x15_2 + 1)) < (l0.length : Int)) = true := decide_eq_true c26;clear c26
                  by_cases c27 : 0 ≤ x15_2
                  · rw [if_pos c27] at H
                    have c27b0 : decide (0 ≤ x15_2) = true := decide_eq_true c27;clear c27
                    by_cases c28 : x15_2 < (l0.length : Int)
                    · rw [if_pos c28] at H
                      have c28b0 : decide (x15_2 < (l0.length : Int)) = true := decide_eq_true c28;clear c28
                      by_cases c29 : ((Ze l0 x15_2).f0) ≤ a1
                      · rw [if_pos c29] at H
                        have c29b0 : decide (((Ze l0 x15_2).f0) ≤ a1) = true := decide_eq_true c29;clear c29
                        obtain ⟨ji30,hji30⟩ : ∃ j_ : Int,(wrap64 (x15_2 + 1)) = j_ := ⟨_,rfl⟩
                        replace H : (if 0 ≤ (ji30) then (Zh.l0 k2 l0 a1 a2 a3 t612 (mn ((Ze l0 x15_2).f1) ((Ze l0 (ji30)).f1)) (mx ((Ze l0 x15_2).f1) ((Ze l0 (ji30)).f1)) ji30) else (none)) = some r := by first | (rw [hji30] at H;exact H) | (simp only [hji30] at H ⊢;exact H)
                        (try rw [hji30] at c26b0)
                        have hji30w : (IntKind.i64.wrap (x15_2 + 1)) = ji30 := (i64_w _).trans hji30
                        by_cases c31 : 0 ≤ (ji30)
                        · rw [if_pos c31] at H
                          have c31b0 : decide (0 ≤ (ji30)) = true := decide_eq_true c31;clear c31
                          obtain ⟨ji32,hji32⟩ : ∃ j_ : Int,(mn ((Ze l0 x15_2).f1) ((Ze l0 (ji30)).f1)) = j_ := ⟨_,rfl⟩
                          replace H : (Zh.l0 k2 l0 a1 a2 a3 t612 ji32 (mx ((Ze l0 x15_2).f1) ((Ze l0 (ji30)).f1)) ji30) = some r := by first | (rw [hji32] at H;exact H) | (simp only [hji32] at H ⊢;exact H)
                          have hji32_ : (if ((Ze l0 (ji30)).f1) < ((Ze l0 x15_2).f1) then ((Ze l0 (ji30)).f1) else ((Ze l0 x15_2).f1)) = ji32 := hji32
                          obtain ⟨ji33,hji33⟩ : ∃ j_ : Int,(mx ((Ze l0 x15_2).f1) ((Ze l0 (ji30)).f1)) = j_ := ⟨_,rfl⟩
                          replace H : (Zh.l0 k2 l0 a1 a2 a3 t612 ji32 ji33 ji30) = some r := by first | (rw [hji33] at H;exact H) | (simp only [hji33] at H ⊢;exact H)
                          have hji33_ : (if ((Ze l0 x15_2).f1) < ((Ze l0 (ji30)).f1) then ((Ze l0 (ji30)).f1) else ((Ze l0 x15_2).f1)) = ji33 := hji33;have H' := Zd.mk H;clear H;have p620 : 0 ≤ (x15_2 : Int) := of_decide_eq_true (by first | (with_reducible assumption) | assumption);have q620 : x15_2 < (l0.length : Int) := of_decide_eq_true (by first | (with_reducible assumption) | assumption);obtain ⟨ad620,e620,hx620_0,hx620_1,hx620_2⟩ := Xg HR0.out x15_2 p620 q620
                          obtain rfl : ad618 = ad620 := (by injection e620)
                          replace hx620_0 := (HB.out.cell (World.block_lt_of_cell? w _ hx620_0)).trans hx620_0;replace hx620_1 := (HB.out.cell (World.block_lt_of_cell? w _ hx620_1)).trans hx620_1;replace hx620_2 := (HB.out.cell (World.block_lt_of_cell? w _ hx620_2)).trans hx620_2;replace p620 := eq_true p620;replace q620 := eq_true q620;have p621 : 0 ≤ (x15_2 : Int) := of_decide_eq_true (by first | (with_reducible assumption) | assumption);have q621 : x15_2 < (l0.length : Int) := of_decide_eq_true (by first | (with_reducible assumption) | assumption);obtain ⟨ad621,e621,hx621_0,hx621_1,hx621_2⟩ := Xg HR0.out x15_2 p621 q621
                          obtain rfl : ad618 = ad621 := (by injection e621)
                          replace hx621_0 := (HB.out.cell (World.block_lt_of_cell? w _ hx621_0)).trans hx621_0;replace hx621_1 := (HB.out.cell (World.block_lt_of_cell? w _ hx621_1)).trans hx621_1;replace hx621_2 := (HB.out.cell (World.block_lt_of_cell? w _ hx621_2)).trans hx621_2;replace p621 := eq_true p621;replace q621 := eq_true q621;have p622 : 0 ≤ ((ji30) : Int) := of_decide_eq_true (by first | (with_reducible assumption) | assumption);have q622 : (ji30) < (l0.length : Int) := of_decide_eq_true (by first | (with_reducible assumption) | assumption);obtain ⟨ad622,e622,hx622_0,hx622_1,hx622_2⟩ := Xg HR0.out (ji30) p622 q622
                          obtain rfl : ad618 = ad622 := (by injection e622)
                          replace hx622_0 := (HB.out.cell (World.block_lt_of_cell? w _ hx622_0)).trans hx622_0;replace hx622_1 := (HB.out.cell (World.block_lt_of_cell? w _ hx622_1)).trans hx622_1;replace hx622_2 := (HB.out.cell (World.block_lt_of_cell? w _ hx622_2)).trans hx622_2;replace p622 := eq_true p622;replace q622 := eq_true q622;have p623 : 0 ≤ (x15_2 : Int) := of_decide_eq_true (by first | (with_reducible assumption) | assumption);have q623 : x15_2 < (l0.length : Int) := of_decide_eq_true (by first | (with_reducible assumption) | assumption);obtain ⟨ad623,e623,hx623_0,hx623_1,hx623_2⟩ := Xg HR0.out x15_2 p623 q623
                          obtain rfl : ad618 = ad623 := (by injection e623)
                          replace hx623_0 := (HB.out.cell (World.block_lt_of_cell? w _ hx623_0)).trans hx623_0;replace hx623_1 := (HB.out.cell (World.block_lt_of_cell? w _ hx623_1)).trans hx623_1;replace hx623_2 := (HB.out.cell (World.block_lt_of_cell? w _ hx623_2)).trans hx623_2;replace p623 := eq_true p623;replace q623 := eq_true q623;have p624 : 0 ≤ ((ji30) : Int) := of_decide_eq_true (by first | (with_reducible assumption) | assumption);have q624 : (ji30) < (l0.length : Int) := of_decide_eq_true (by first | (with_reducible assumption) | assumption);obtain ⟨ad624,e624,hx624_0,hx624_1,hx624_2⟩ := Xg HR0.out (ji30) p624 q624
                          obtain rfl : ad618 = ad624 := (by injection e624)
                          replace hx624_0 := (HB.out.cell (World.block_lt_of_cell? w _ hx624_0)).trans hx624_0;replace hx624_1 := (HB.out.cell (World.block_lt_of_cell? w _ hx624_1)).trans hx624_1;replace hx624_2 := (HB.out.cell (World.block_lt_of_cell? w _ hx624_2)).trans hx624_2;replace p624 := eq_true p624;replace q624 := eq_true q624
                          go_wp2
                          repeat (go_quiet (fail);try go_wp2)
                          go_roundg k2
                          case measure => have := HJ11.out;have := HK2.out;omega
                          case rel => exact ⟨(ji32),(ji33),(ji30),(by first | rfl | (simp;done) | (simp only [← hji32] <;> (first | rfl | simp)) | (simp [*];done)),(by first | rfl | (simp;done) | (simp only [← hji33] <;> (first | rfl | simp)) | (simp [*];done)),(by first | rfl | (simp;done) | (simp only [← hji30] <;> (first | rfl | simp)) | (simp [*];done)),H',⟨by have := HJ11.out;have := HK2.out;omega⟩,⟨by repeat (first | (with_reducible first | exact HB.out | apply Zc | apply Za | apply Zb) | exact HB.out)⟩⟩
                        · rw [if_neg c31] at H
                          exact absurd H (by simp)
                      · rw [if_neg c29] at H
                        have c29b0 : decide (((Ze l0 x15_2).f0) ≤ a1) = false := decide_eq_false c29;clear c29;have H' := Zd.mk H;clear H;have p620 : 0 ≤ (x15_2 : Int) := of_decide_eq_true (by first | (with_reducible assumption) | assumption);have q620 : x15_2 < (l0.length : Int) := of_decide_eq_true (by first | (with_reducible assumption) | assumption);obtain ⟨ad620,e620,hx620_0,hx620_1,hx620_2⟩ := Xg HR0.out x15_2 p620 q620
                        obtain rfl : ad618 = ad620 := (by injection e620)
                        replace hx620_0 := (HB.out.cell (World.block_lt_of_cell? w _ hx620_0)).trans hx620_0;replace hx620_1 := (HB.out.cell (World.block_lt_of_cell? w _ hx620_1)).trans hx620_1;replace hx620_2 := (HB.out.cell (World.block_lt_of_cell? w _ hx620_2)).trans hx620_2;replace p620 := eq_true p620;replace q620 := eq_true q620
                        go_wp2
                        repeat (go_quiet (fail);try go_wp2)
                        go_roundg k2
                        case measure => have := HJ11.out;have := HK2.out;omega
                        case rel => exact ⟨(x13_2),(x14_2),(wrap64 (x15_2 + 1)),(by first | rfl | (simp;done) | (simp [*];done)),(by first | rfl | (simp;done) | (simp [*];done)),(by first | rfl | (simp;done) | (simp [*];done)),H',⟨by have := HJ11.out;have := HK2.out;omega⟩,⟨by repeat (first | (with_reducible first | exact HB.out | apply Zc | apply Za | apply Zb) | exact HB.out)⟩⟩
                    · rw [if_neg c28] at H
                      exact absurd H (by simp)
                  · rw [if_neg c27] at H
                    exact absurd H (by simp)
                · rw [if_neg c26] at H
                  have c26b0 : decide ((wrap64 (x15_2 + 1)) < (l0.length : Int)) = false := decide_eq_false c26;clear c26
                  by_cases c34 : t612 < x13_2
                  · rw [if_pos c34] at H
                    have c34b0 : decide (t612 < x13_2) = true := decide_eq_true c34;clear c34;obtain rfl := Option.some.inj H
                    go_wp2
                    repeat (go_quiet (fail);try go_wp2)
                    go_ret;exact ⟨by first | rfl | (simp [Zt,Zv] <;> rfl) | (simp [*,Zt,Zv] <;> rfl),by repeat (first | (with_reducible first | exact HB.out | apply Zc | apply Za | apply Zb) | exact HB.out)⟩
                  · rw [if_neg c34] at H
                    have c34b0 : decide (t612 < x13_2) = false := decide_eq_false c34;clear c34
                    by_cases c35 : t612 > x14_2
                    · rw [if_pos c35] at H
                      have c35b0 : decide (x14_2 < t612) = true := decide_eq_true c35;clear c35;obtain rfl := Option.some.inj H
                      go_wp2
                      repeat (go_quiet (fail);try go_wp2)
                      go_ret;exact ⟨by first | rfl | (simp [Zt,Zv] <;> rfl) | (simp [*,Zt,Zv] <;> rfl),by repeat (first | (with_reducible first | exact HB.out | apply Zc | apply Za | apply Zb) | exact HB.out)⟩
                    · rw [if_neg c35] at H
                      have c35b0 : decide (x14_2 < t612) = false := decide_eq_false c35;clear c35;have H' := Zd.mk H;clear H
                      go_wp2
                      repeat (go_quiet (fail);try go_wp2)
                      go_meet
                      case rel => exact ⟨_,H',⟨by have := HJ11.out;have := HK2.out;first | omega | exact Nat.le_refl _⟩,⟨by repeat (first | (with_reducible first | exact HB.out | apply Zc | apply Za | apply Zb) | exact HB.out)⟩⟩
            · rw [if_neg c25] at H
              exact absurd H (by simp)
          · rw [if_neg c24] at H
            have c24b0 : (t613 == 0) = false := beq_eq_false_iff_ne.mpr c24;have c24b1 : (t613 != 0) = true := bne_iff_ne.mpr c24
            (first | rw [c24b0] | (simp only [i64_w,i32_w];rw [c24b0]) | skip)
            have H' := Zd.mk H;clear H
            go_wp2
            repeat (go_quiet (fail);try go_wp2)
            go_meet
            case rel => exact ⟨_,H',⟨by have := HJ11.out;first | omega | exact Nat.le_refl _⟩,⟨by repeat (first | (with_reducible first | exact HB.out | apply Zc | apply Za | apply Zb) | exact HB.out)⟩⟩
         case rest =>
          clear HC23
          (try clear c1); (try clear c2); (try clear p2); (try clear c3); (try clear c6); (try clear p6); (try clear q6); (try clear hx6); (try clear qi6); (try clear c8); (try clear c16); (try clear c16b0); (try clear c16b1); (try clear c17); (try clear c17b0); (try clear c17b1); (try clear c22); (try clear c24); (try clear c24b0); (try clear c24b1); (try clear c25); (try clear c25b0); (try clear c25b1); (try clear c26); (try clear c26b0); (try clear c27); (try clear c27b0); (try clear c28); (try clear c28b0); (try clear c29); (try clear c29b0); (try clear c31); (try clear c31b0); (try clear c34); (try clear c34b0); (try clear c35); (try clear c35b0); (try clear hx618_0); (try clear hx618_1); (try clear hx618_2); (try clear hx619_0); (try clear hx619_1); (try clear hx619_2); (try clear hx620_0); (try clear hx620_1); (try clear hx620_2); (try clear hx621_0); (try clear hx621_1); (try clear hx621_2); (try clear hx622_0); (try clear hx622_1); (try clear hx622_2); (try clear hx623_0); (try clear hx623_1); (try clear hx623_2); (try clear hx624_0); (try clear hx624_1); (try clear hx624_2); (try clear p2); (try clear p6); (try clear p618); (try clear p619); (try clear p620); (try clear p621); (try clear p622); (try clear p623); (try clear p624); (try clear q6); (try clear q618); (try clear q619); (try clear q620); (try clear q621); (try clear q622); (try clear q623); (try clear q624)
          obtain ⟨kq,HA,HJ22,HB⟩ := hcut
          cases kq with
          | zero => exact absurd HA.out (by simp [Zh.j2])
          | succ kj22 =>
           have H := HA.out;clear HA;simp only [Zh.j2] at H;replace H := Option.bind_eq_some_iff.mp H;obtain ⟨⟨t625,t626⟩,A360,H⟩ := H;replace H : ((Zj.f kj22 l0 a2 a3).bind fun bt629 => (if t626 = bt629.2 then (Zh.j3 kj22 t625 bt629.1 ((t625.length : Int) != (bt629.1.length : Int))) else (Zh.j3 kj22 t625 bt629.1 true))) = some r := H;have A36 := Zd.mk A360;clear A360;replace H := Option.bind_eq_some_iff.mp H;obtain ⟨⟨t629,t630⟩,A370,H⟩ := H;replace H : (if t626 = t630 then (Zh.j3 kj22 t625 t629 ((t625.length : Int) != (t629.length : Int))) else (Zh.j3 kj22 t625 t629 true)) = some r := H;have A37 := Zd.mk A370;clear A370;have HC38 := Zd.mk H;clear H
           go_upto_region 20 with (first | (go_at_call 38;(with_reducible refine (XJ.calls _ _ l0 a2 a3 t625 t626 _ ?side1 ?side2 A36.out).mono ?_);(case side1 => repeat (first | exact (Kd.ZK HR0.out HB.out) | (with_reducible refine Kd.Z8 ?_ _) | (with_reducible refine Kd.ZB ?_ _) | (with_reducible refine Kd.ZI ?_)));(case side2 => exact HC0.out);rintro e w39 ⟨v627,rfl,ho0,hb⟩;have n0_ := Zd.mk (Kd.X5 ho0 (ZJ (by repeat (first | (with_reducible first | exact HB.out | apply Zc | apply Za | apply Zb) | exact HB.out))));have n1_ := Zd.mk (Z0 (by repeat (first | (with_reducible first | exact HB.out | apply Zc | apply Za | apply Zb) | exact HB.out)) hb);clear HB;have HO628 := n0_;have HB := n1_;clear n0_ n1_;(try clear hb);(try clear hb2);(try clear hk);(try clear hi);(try clear ho0)) | (go_at_call 39;(with_reducible refine (Zj.calls kj22 _ _ l0 a2 a3 t629 t630 _ ?side1 ?side2 A37.out).mono ?_);(case side1 => repeat (first | exact (Kd.ZK HR0.out HB.out) | (with_reducible refine Kd.Z8 ?_ _) | (with_reducible refine Kd.ZB ?_ _) | (with_reducible refine Kd.ZI ?_)));(case side2 => exact HC0.out);rintro e w40 ⟨v631,rfl,ho0,hb⟩;have n0_ := Zd.mk (Kd.QQ (by (with_reducible repeat (first | apply Kd.ZF | apply Kd.ZG | apply Kd.ZN));exact HO628.out) (Kd.YD ho0) hb);have n1_ := Zd.mk (Kd.X5 (Kd.YE ho0 (Kd.R_lt (by (with_reducible repeat (first | apply Kd.ZF | apply Kd.ZG | apply Kd.ZN));exact HO628.out))) (ZJ (by repeat (first | (with_reducible first | exact HB.out | apply Zc | apply Za | apply Zb) | exact HB.out))));have n2_ := Zd.mk (Z0 (by repeat (first | (with_reducible first | exact HB.out | apply Zc | apply Za | apply Zb) | exact HB.out)) hb);clear HO628;clear HB;have HO628 := n0_;have HO632 := n1_;have HB := n2_;clear n0_ n1_ n2_;(try clear hb);(try clear hb2);(try clear hk);(try clear hi);(try clear ho0)))
           repeat (go_quiet (first | (go_at_call 38;(with_reducible refine (XJ.calls _ _ l0 a2 a3 t625 t626 _ ?side1 ?side2 A36.out).mono ?_);(case side1 => repeat (first | exact (Kd.ZK HR0.out HB.out) | (with_reducible refine Kd.Z8 ?_ _) | (with_reducible refine Kd.ZB ?_ _) | (with_reducible refine Kd.ZI ?_)));(case side2 => exact HC0.out);rintro e w39 ⟨v627,rfl,ho0,hb⟩;have n0_ := Zd.mk (Kd.X5 ho0 (ZJ (by repeat (first | (with_reducible first | exact HB.out | apply Zc | apply Za | apply Zb) | exact HB.out))));have n1_ := Zd.mk (Z0 (by repeat (first | (with_reducible first | exact HB.out | apply Zc | apply Za | apply Zb) | exact HB.out)) hb);clear HB;have HO628 := n0_;have HB := n1_;clear n0_ n1_;(try clear hb);(try clear hb2);(try clear hk);(try clear hi);(try clear ho0)) | (go_at_call 39;(with_reducible refine (Zj.calls kj22 _ _ l0 a2 a3 t629 t630 _ ?side1 ?side2 A37.out).mono ?_);(case side1 => repeat (first | exact (Kd.ZK HR0.out HB.out) | (with_reducible refine Kd.Z8 ?_ _) | (with_reducible refine Kd.ZB ?_ _) | (with_reducible refine Kd.ZI ?_)));(case side2 => exact HC0.out);rintro e w40 ⟨v631,rfl,ho0,hb⟩;have n0_ := Zd.mk (Kd.QQ (by (with_reducible repeat (first | apply Kd.ZF | apply Kd.ZG | apply Kd.ZN));exact HO628.out) (Kd.YD ho0) hb);have n1_ := Zd.mk (Kd.X5 (Kd.YE ho0 (Kd.R_lt (by (with_reducible repeat (first | apply Kd.ZF | apply Kd.ZG | apply Kd.ZN));exact HO628.out))) (ZJ (by repeat (first | (with_reducible first | exact HB.out | apply Zc | apply Za | apply Zb) | exact HB.out))));have n2_ := Zd.mk (Z0 (by repeat (first | (with_reducible first | exact HB.out | apply Zc | apply Za | apply Zb) | exact HB.out)) hb);clear HO628;clear HB;have HO628 := n0_;have HO632 := n1_;have HB := n2_;clear n0_ n1_ n2_;(try clear hb);(try clear hb2);(try clear hk);(try clear hi);(try clear ho0)));go_upto_region 20 with (first | (go_at_call 38;(with_reducible refine (XJ.calls _ _ l0 a2 a3 t625 t626 _ ?side1 ?side2 A36.out).mono ?_);(case side1 => repeat (first | exact (Kd.ZK HR0.out HB.out) | (with_reducible refine Kd.Z8 ?_ _) | (with_reducible refine Kd.ZB ?_ _) | (with_reducible refine Kd.ZI ?_)));(case side2 => exact HC0.out);rintro e w39 ⟨v627,rfl,ho0,hb⟩;have n0_ := Zd.mk (Kd.X5 ho0 (ZJ (by repeat (first | (with_reducible first | exact HB.out | apply Zc | apply Za | apply Zb) | exact HB.out))));have n1_ := Zd.mk (Z0 (by repeat (first | (with_reducible first | exact HB.out | apply Zc | apply Za | apply Zb) | exact HB.out)) hb);clear HB;have HO628 := n0_;have HB := n1_;clear n0_ n1_;(try clear hb);(try clear hb2);(try clear hk);(try clear hi);(try clear ho0)) | (go_at_call 39;(with_reducible refine (Zj.calls kj22 _ _ l0 a2 a3 t629 t630 _ ?side1 ?side2 A37.out).mono ?_);(case side1 => repeat (first | exact (Kd.ZK HR0.out HB.out) | (with_reducible refine Kd.Z8 ?_ _) | (with_reducible refine Kd.ZB ?_ _) | (with_reducible refine Kd.ZI ?_)));(case side2 => exact HC0.out);rintro e w40 ⟨v631,rfl,ho0,hb⟩;have n0_ := Zd.mk (Kd.QQ (by (with_reducible repeat (first | apply Kd.ZF | apply Kd.ZG | apply Kd.ZN));exact HO628.out) (Kd.YD ho0) hb);have n1_ := Zd.mk (Kd.X5 (Kd.YE ho0 (Kd.R_lt (by (with_reducible repeat (first | apply Kd.ZF | apply Kd.ZG | apply Kd.ZN));exact HO628.out))) (ZJ (by repeat (first | (with_reducible first | exact HB.out | apply Zc | apply Za | apply Zb) | exact HB.out))));have n2_ := Zd.mk (Z0 (by repeat (first | (with_reducible first | exact HB.out | apply Zc | apply Za | apply Zb) | exact HB.out)) hb);clear HO628;clear HB;have HO628 := n0_;have HO632 := n1_;have HB := n2_;clear n0_ n1_ n2_;(try clear hb);(try clear hb2);(try clear hk);(try clear hi);(try clear ho0))))
           (try simp only [Act.put,YV,YW,YX])
           go_cut [129] (fun v129 wc => ∃ (kq : Nat) (x129_37 : Bool),v129 = .bool x129_37 ∧ Zd (Zh.j3 kq t625 t629 x129_37 = some r) ∧ Zd (kq ≤ kj22) ∧ Zd (Kd.R k56 56 wc w.heap.size (fun k_ => some k_ ≠ (v631 : Value).ownBlock) v627 t625) ∧ Zd (Kd.R k56 56 wc w.heap.size (fun k_ => some k_ ≠ (v627 : Value).ownBlock) v631 t629) ∧ Zd (Below w.heap.size w wc))
           case first =>
            have H := HC38.out;clear HC38
            by_cases c41 : t626 = t630
            · rw [if_pos c41] at H
              have c41b0 : (t626 == t630) = true := beq_iff_eq.mpr c41;have c41b1 : (t626 != t630) = false := bne_eq_false_iff_eq.mpr c41;clear c41
              (first | rw [c41b0] | (simp only [i64_w,i32_w];rw [c41b0]) | skip)
              have H' := Zd.mk H;clear H;obtain ⟨Ao42,co42,eo42⟩ := Kd.Xw HO628.out;subst eo42;obtain ⟨Ao43,co43,eo43⟩ := Kd.Xw HO632.out;subst eo43
              go_wp2
              repeat (go_quiet (fail);try go_wp2)
              go_meet
              case rel => exact ⟨_,(((t625.length : Int) != (t629.length : Int))),(by first | rfl | (simp;done) | (simp [*];done)),H',⟨by have := HJ11.out;have := HJ22.out;first | omega | exact Nat.le_refl _⟩,⟨by (with_reducible repeat (first | apply Kd.ZF | apply Kd.ZG | apply Kd.ZN));exact Kd.X1 HO628.out (fun _ hk => hk.2)⟩,⟨by (with_reducible repeat (first | apply Kd.ZF | apply Kd.ZG | apply Kd.ZN));exact Kd.X1 HO632.out (fun _ hk => hk.2)⟩,⟨by repeat (first | (with_reducible first | exact HB.out | apply Zc | apply Za | apply Zb) | exact HB.out)⟩⟩
            · rw [if_neg c41] at H
              have c41b0 : (t626 == t630) = false := beq_eq_false_iff_ne.mpr c41;have c41b1 : (t626 != t630) = true := bne_iff_ne.mpr c41
              (first | rw [c41b0] | (simp only [i64_w,i32_w];rw [c41b0]) | skip)
              have H' := Zd.mk H;clear H
              go_wp2
              repeat (go_quiet (fail);try go_wp2)
              go_meet
              case rel => exact ⟨_,(true),(by first | rfl | (simp;done) | (simp [*];done)),H',⟨by have := HJ11.out;have := HJ22.out;first | omega | exact Nat.le_refl _⟩,⟨by (with_reducible repeat (first | apply Kd.ZF | apply Kd.ZG | apply Kd.ZN));exact Kd.X1 HO628.out (fun _ hk => hk.2)⟩,⟨by (with_reducible repeat (first | apply Kd.ZF | apply Kd.ZG | apply Kd.ZN));exact Kd.X1 HO632.out (fun _ hk => hk.2)⟩,⟨by repeat (first | (with_reducible first | exact HB.out | apply Zc | apply Za | apply Zb) | exact HB.out)⟩⟩
           case rest =>
            clear HC38
            (try clear c1); (try clear c2); (try clear p2); (try clear c3); (try clear c4); (try clear c6); (try clear p6); (try clear q6); (try clear hx6); (try clear qi6); (try clear c8); (try clear c16); (try clear c16b0); (try clear c16b1); (try clear c17); (try clear c17b0); (try clear c17b1); (try clear c22); (try clear c24); (try clear c24b0); (try clear c24b1); (try clear c25); (try clear c25b0); (try clear c25b1); (try clear c26); (try clear c26b0); (try clear c27); (try clear c27b0); (try clear c28); (try clear c28b0); (try clear c29); (try clear c29b0); (try clear c31); (try clear c31b0); (try clear c34); (try clear c34b0); (try clear c35); (try clear c35b0); (try clear c41); (try clear c41b0); (try clear c41b1); (try clear hx618_0); (try clear hx618_1); (try clear hx618_2); (try clear hx619_0); (try clear hx619_1); (try clear hx619_2); (try clear hx620_0); (try clear hx620_1); (try clear hx620_2); (try clear hx621_0); (try clear hx621_1); (try clear hx621_2); (try clear hx622_0); (try clear hx622_1); (try clear hx622_2); (try clear hx623_0); (try clear hx623_1); (try clear hx623_2); (try clear hx624_0); (try clear hx624_1); (try clear hx624_2); (try clear p2); (try clear p6); (try clear p618); (try clear p619); (try clear p620); (try clear p621); (try clear p622); (try clear p623); (try clear p624); (try clear q6); (try clear q618); (try clear q619); (try clear q620); (try clear q621); (try clear q622); (try clear q623); (try clear q624)
            obtain ⟨kq,x129_37,rfl,HA,HJ37,HO_16,HO_17,HB⟩ := hcut
            cases kq with
            | zero => exact absurd HA.out (by simp [Zh.j3])
            | succ kj37 =>
             have H := HA.out;clear HA;simp only [Zh.j3] at H
             by_cases c44 : x129_37 = true
             · subst c44
               have H1 : (some false) = some r := by rw [if_pos rfl] at H;exact H
               clear H;have H := H1;clear H1;obtain rfl := Option.some.inj H
               go_wp2
               repeat (go_quiet (fail);try go_wp2)
               go_ret;exact ⟨by first | rfl | (simp [Zt,Zv] <;> rfl) | (simp [*,Zt,Zv] <;> rfl),by repeat (first | (with_reducible first | exact HB.out | apply Zc | apply Za | apply Zb) | exact HB.out)⟩
             · replace c44 := Bool.eq_false_iff.mpr c44
               subst c44
               have H1 : (Zh.l1 kj37 t625 t629 0) = some r := by rw [if_neg (show ¬ (false = true) by decide)] at H;exact H
               clear H;have H := H1;clear H1;have H' := Zd.mk H;clear H
               go_wp2
               repeat (go_quiet (fail);try go_wp2)
               go_loopg [18] kj37 (fun kq v18 w' => ∃ (x18_4 : Int),v18 = .int .i64 x18_4 ∧ Zd (Zh.l1 kq t625 t629 x18_4 = some r) ∧ Zd (kq ≤ kj37) ∧ Zd (Kd.R k56 56 w' w.heap.size (fun k_ => some k_ ≠ (v631 : Value).ownBlock) v627 t625) ∧ Zd (Kd.R k56 56 w' w.heap.size (fun k_ => some k_ ≠ (v627 : Value).ownBlock) v631 t629) ∧ Zd (Below w.heap.size w w'))
               case atStart => exact ⟨(0),(by first | rfl | (simp;done) | (simp [*];done)),H',⟨Nat.le_refl _⟩,⟨by (with_reducible repeat (first | apply Kd.ZF | apply Kd.ZG | apply Kd.ZN));exact HO_16.out⟩,⟨by (with_reducible repeat (first | apply Kd.ZF | apply Kd.ZG | apply Kd.ZN));exact HO_17.out⟩,⟨by repeat (first | (with_reducible first | exact HB.out | apply Zc | apply Za | apply Zb) | exact HB.out)⟩⟩
               case round =>
                clear H'
                (try clear c1); (try clear c2); (try clear p2); (try clear c3); (try clear c4); (try clear c6); (try clear p6); (try clear q6); (try clear hx6); (try clear qi6); (try clear c8); (try clear c16); (try clear c16b0); (try clear c16b1); (try clear c17); (try clear c17b0); (try clear c17b1); (try clear c22); (try clear c24); (try clear c24b0); (try clear c24b1); (try clear c25); (try clear c25b0); (try clear c25b1); (try clear c26); (try clear c26b0); (try clear c27); (try clear c27b0); (try clear c28); (try clear c28b0); (try clear c29); (try clear c29b0); (try clear c31); (try clear c31b0); (try clear c34); (try clear c34b0); (try clear c35); (try clear c35b0); (try clear c41); (try clear c41b0); (try clear c41b1); (try clear c44); (try clear hx618_0); (try clear hx618_1); (try clear hx618_2); (try clear hx619_0); (try clear hx619_1); (try clear hx619_2); (try clear hx620_0); (try clear hx620_1); (try clear hx620_2); (try clear hx621_0); (try clear hx621_1); (try clear hx621_2); (try clear hx622_0); (try clear hx622_1); (try clear hx622_2); (try clear hx623_0); (try clear hx623_1); (try clear hx623_2); (try clear hx624_0); (try clear hx624_1); (try clear hx624_2); (try clear p2); (try clear p6); (try clear p618); (try clear p619); (try clear p620); (try clear p621); (try clear p622); (try clear p623); (try clear p624); (try clear q6); (try clear q618); (try clear q619); (try clear q620); (try clear q621); (try clear q622); (try clear q623); (try clear q624)
                obtain ⟨x18_4,rfl,HA,HK4,HO_16,HO_17,HB⟩ := hrel
                cases gk with
                | zero => exact absurd HA.out (by simp [Zh.l1])
                | succ k4 =>
                 have H := HA.out;clear HA;simp only [Zh.l1] at H
                 by_cases c45 : x18_4 < (t625.length : Int)
                 · rw [if_pos c45] at H
                   have c45b0 : decide (x18_4 < (t625.length : Int)) = true := decide_eq_true c45;clear c45
                   by_cases c46 : 0 ≤ x18_4
                   · rw [if_pos c46] at H
                     have c46b0 : decide (0 ≤ x18_4) = true := decide_eq_true c46;clear c46
                     by_cases c47 : x18_4 < (t629.length : Int)
                     · rw [if_pos c47] at H
                       have c47b0 : decide (x18_4 < (t629.length : Int)) = true := decide_eq_true c47;clear c47
                       by_cases c48 : (!(((Ze t625 x18_4).f0) == ((Ze t629 x18_4).f0)) || (!(((Ze t625 x18_4).f1) == ((Ze t629 x18_4).f1)) || (!(((Ze t625 x18_4).f2) == ((Ze t629 x18_4).f2))))) = true
                       · rw [if_pos c48] at H
                         have c48b0 : (!(((Ze t625 x18_4).f0) == ((Ze t629 x18_4).f0)) || (!(((Ze t625 x18_4).f1) == ((Ze t629 x18_4).f1)) || (!(((Ze t625 x18_4).f2) == ((Ze t629 x18_4).f2))))) = true := c48;clear c48;obtain rfl := Option.some.inj H;obtain ⟨Ao49,co49,eo49⟩ := Kd.Xw HO_16.out;subst eo49;have p633 : 0 ≤ (x18_4 : Int) := of_decide_eq_true (by first | (with_reducible assumption) | assumption);have q633 : x18_4 < (t625.length : Int) := of_decide_eq_true (by first | (with_reducible assumption) | assumption);obtain ⟨ad633,e633,hx633_0,hx633_1,hx633_2⟩ := Xg (Kd.Xp HO_16.out).2.2 x18_4 p633 q633
                         cases e633
                         replace p633 := eq_true p633;replace q633 := eq_true q633;obtain ⟨Ao50,co50,eo50⟩ := Kd.Xw HO_17.out;subst eo50;have p634 : 0 ≤ (x18_4 : Int) := of_decide_eq_true (by first | (with_reducible assumption) | assumption);have q634 : x18_4 < (t629.length : Int) := of_decide_eq_true (by first | (with_reducible assumption) | assumption);obtain ⟨ad634,e634,hx634_0,hx634_1,hx634_2⟩ := Xg (Kd.Xp HO_17.out).2.2 x18_4 p634 q634
                         cases e634
                         replace p634 := eq_true p634;replace q634 := eq_true q634
                         go_wp2
                         repeat (go_quiet (fail);try go_wp2)
                         go_ret;exact ⟨by first | rfl | (simp [Zt,Zv] <;> rfl) | (simp [*,Zt,Zv] <;> rfl),by repeat (first | (with_reducible first | exact HB.out | apply Zc | apply Za | apply Zb) | exact HB.out)⟩
                       · rw [if_neg c48] at H
                         have c48b0 : (!(((Ze t625 x18_4).f0) == ((Ze t629 x18_4).f0)) || (!(((Ze t625 x18_4).f1) == ((Ze t629 x18_4).f1)) || (!(((Ze t625 x18_4).f2) == ((Ze t629 x18_4).f2))))) = false := by simpa using c48
                         clear c48;have H' := Zd.mk H;clear H;obtain ⟨Ao51,co51,eo51⟩ := Kd.Xw HO_16.out;subst eo51;have p633 : 0 ≤ (x18_4 : Int) := of_decide_eq_true (by first | (with_reducible assumption) | assumption);have q633 : x18_4 < (t625.length : Int) := of_decide_eq_true (by first | (with_reducible assumption) | assumption);obtain ⟨ad633,e633,hx633_0,hx633_1,hx633_2⟩ := Xg (Kd.Xp HO_16.out).2.2 x18_4 p633 q633
                         cases e633
                         replace p633 := eq_true p633;replace q633 := eq_true q633;obtain ⟨Ao52,co52,eo52⟩ := Kd.Xw HO_17.out;subst eo52;have p634 : 0 ≤ (x18_4 : Int) := of_decide_eq_true (by first | (with_reducible assumption) | assumption);have q634 : x18_4 < (t629.length : Int) := of_decide_eq_true (by first | (with_reducible assumption) | assumption);obtain ⟨ad634,e634,hx634_0,hx634_1,hx634_2⟩ := Xg (Kd.Xp HO_17.out).2.2 x18_4 p634 q634
                         cases e634
                         replace p634 := eq_true p634;replace q634 := eq_true q634
                         go_wp2
                         repeat (go_quiet (fail);try go_wp2)
                         go_roundg k4
                         case measure => have := HJ11.out;have := HJ22.out;have := HJ37.out;have := HK4.out;omega
                         case rel => exact ⟨(wrap64 (x18_4 + 1)),(by first | rfl | (simp;done) | (simp [*];done)),H',⟨by have := HJ11.out;have := HJ22.out;have := HJ37.out;have := HK4.out;omega⟩,⟨by (with_reducible repeat (first | apply Kd.ZF | apply Kd.ZG | apply Kd.ZN));exact HO_16.out⟩,⟨by (with_reducible repeat (first | apply Kd.ZF | apply Kd.ZG | apply Kd.ZN));exact HO_17.out⟩,⟨by repeat (first | (with_reducible first | exact HB.out | apply Zc | apply Za | apply Zb) | exact HB.out)⟩⟩
                     · rw [if_neg c47] at H
                       exact absurd H (by simp)
                   · rw [if_neg c46] at H
                     exact absurd H (by simp)
                 · rw [if_neg c45] at H
                   have c45b0 : decide (x18_4 < (t625.length : Int)) = false := decide_eq_false c45;clear c45;obtain rfl := Option.some.inj H;obtain ⟨Ao53,co53,eo53⟩ := Kd.Xw HO_16.out;subst eo53
                   go_wp2
                   repeat (go_quiet (fail);try go_wp2)
                   go_ret;exact ⟨by first | rfl | (simp [Zt,Zv] <;> rfl) | (simp [*,Zt,Zv] <;> rfl),by repeat (first | (with_reducible first | exact HB.out | apply Zc | apply Za | apply Zb) | exact HB.out)⟩
 · replace c6 := Bool.eq_false_iff.mpr c6
   subst c6
   have H1 : (some false) = some r := by rw [if_neg (show ¬ (false = true) by decide)] at H;exact H
   clear H;have H := H1;clear H1;obtain rfl := Option.some.inj H
   go_enter Try.func8,Try.ntmps8
   go_wp2_with (first | (go_at_call 9;(with_reducible refine (Z6.calls k  false _ A5.out).mono ?_);rintro e w54 ⟨rfl,hb⟩;have n0_ := Zd.mk (Z0 (by repeat (first | (with_reducible first | exact HB.out | apply Zc | apply Za | apply Zb) | exact HB.out)) hb);clear HB;have HB := n0_;clear n0_;(try clear hb);(try clear hb2);(try clear hk);(try clear hi)))
   repeat (go_quiet (first | (go_at_call 9;(with_reducible refine (Z6.calls k  false _ A5.out).mono ?_);rintro e w54 ⟨rfl,hb⟩;have n0_ := Zd.mk (Z0 (by repeat (first | (with_reducible first | exact HB.out | apply Zc | apply Za | apply Zb) | exact HB.out)) hb);clear HB;have HB := n0_;clear n0_;(try clear hb);(try clear hb2);(try clear hk);(try clear hi)));try go_wp2_with (first | (go_at_call 9;(with_reducible refine (Z6.calls k  false _ A5.out).mono ?_);rintro e w54 ⟨rfl,hb⟩;have n0_ := Zd.mk (Z0 (by repeat (first | (with_reducible first | exact HB.out | apply Zc | apply Za | apply Zb) | exact HB.out)) hb);clear HB;have HB := n0_;clear n0_;(try clear hb);(try clear hb2);(try clear hk);(try clear hi))))
   go_ret;exact ⟨by first | rfl | (simp [Zt,Zv] <;> rfl) | (simp [*,Zt,Zv] <;> rfl),by repeat (first | (with_reducible first | exact HB.out | apply Zc | apply Za | apply Zb) | exact HB.out)⟩
end Go.Proofs.Ytomlfbmfdoallaa.PA

namespace Go.Proofs.Ytomlfbmfdoallaa.PA
open Go.RowKit Go.Proofs.YtomlfbmfdoallaaW.PrintWords Go.Proofs.YtomlfbmfdoallaaW.PrintLast Go.Proofs.YtomlfbmfdoallaaW.PrintMore
attribute [local go_sem] Xf Xe Xj Xk ZV ZU Xd Xc
set_option linter.unusedVariables false
set_option linter.unusedSimpArgs false
end Go.Proofs.Ytomlfbmfdoallaa.PA

namespace Go.Proofs.Ytomlfbmfdoallaa.PA
open Go.RowKit Go.Proofs.YtomlfbmfdoallaaW.PrintWords Go.Proofs.YtomlfbmfdoallaaW.PrintLast Go.Proofs.YtomlfbmfdoallaaW.PrintMore
attribute [local go_sem] Xf Xe Xj Xk ZV ZU Xd Xc
set_option linter.unusedVariables false
set_option linter.unusedSimpArgs false
def Z5.j0 : Nat → List (S27) → Int → Int → Bool → Option (Int × Int)
 | 0,_,_,_,_ => none
 | k + 1,x0,x1,x2,x19 => if x19 = true then (some (0,7)) else ((Z4.f k x0 x1 x2).bind fun t268 => (if t268 > 1000000000 then (some (0,7)) else (some (t268,0))))
def Z5.f (k : Nat) (l0 : List (S27)) (a1 : Int) (a2 : Int) : Option (Int × Int) := (Zi.f k l0).bind fun t265 => (if t265 = true then ((Zx.f a1).bind fun t266 => (if t266 = true then ((Zx.f a2).bind fun t267 => (Z5.j0 k l0 a1 a2 (!t267))) else (Z5.j0 k l0 a1 a2 true))) else (some (0,1)))
theorem Z5.Xm : ∀ k,(∀ y0 y1 y2 y3,LeO (Z5.j0 k y0 y1 y2 y3) (Z5.j0 (k + 1) y0 y1 y2 y3))
 | 0 => fun _ _ _ _ r h => by simp [Z5.j0] at h
 | k + 1 => by
  have ih0 := Z5.Xm k
  · intro y0 y1 y2 y3
    unfold Z5.j0
    repeat' first
    | (with_reducible exact ih0 _ _ _ _)
    | (with_reducible exact Zi.mono _ _)
    | (with_reducible exact Z4.mono _ _ _ _)
    | (with_reducible exact LeO.refl _)
    | (with_reducible exact LeO.none _)
    | (with_reducible refine LeO.ite ?_ ?_)
    | (with_reducible refine LeO.bind ?_ (fun _ => ?_))
    | exact ih0 _ _ _ _
    | exact Zi.mono _ _
    | exact Z4.mono _ _ _ _
    | exact LeO.none _
    | refine LeO.ite ?_ ?_
    | refine LeO.bind ?_ (fun _ => ?_)
theorem Z5.mono : ∀ a0 a1 a2 k,LeO (Z5.f k a0 a1 a2) (Z5.f (k + 1) a0 a1 a2) := by
 intro a0 a1 a2 k;have ih0 := Z5.Xm k;unfold Z5.f
 repeat' first
  | (with_reducible exact ih0 _ _ _ _)
  | (with_reducible exact Zi.mono _ _)
  | (with_reducible exact Z4.mono _ _ _ _)
  | (with_reducible exact LeO.refl _)
  | (with_reducible exact LeO.none _)
  | (with_reducible refine LeO.ite ?_ ?_)
  | (with_reducible refine LeO.bind ?_ (fun _ => ?_))
  | exact ih0 _ _ _ _
  | exact Zi.mono _ _
  | exact Z4.mono _ _ _ _
  | exact LeO.none _
  | refine LeO.ite ?_ ?_
  | refine LeO.bind ?_ (fun _ => ?_)
set_option maxHeartbeats 8000000 in
set_option maxRecDepth 100000 in
theorem Z5.calls (k : Nat) (A0 : Option Addr) (c0 : Nat) (l0 : List (S27)) (a1 : Int) (a2 : Int) (r1 : Int) (r2 : Int) (w : World) (hr0 : Kd.C k27 w A0 l0.length l0) (hc0 : l0.length ≤ c0) (h : Z5.f k l0 a1 a2 = some (r1,r2)) :
 Calls Try.prog 24 #[.slice A0 l0.length c0,.int .i64 a1,.int .i64 a2] w fun e w' => e = .returned (.tuple #[.int .i64 r1,.int .i64 r2]) ∧ Below w.heap.size w w' := by
 have HR0 := Zd.mk hr0;have HC0 := Zd.mk hc0;clear hr0 hc0;have HB := Zd.mk (Below.refl w.heap.size w);have H : ((Zi.f k l0).bind fun t265 => (if t265 = true then ((Zx.f a1).bind fun t266 => (if t266 = true then ((Zx.f a2).bind fun t267 => (Z5.j0 k l0 a1 a2 (!t267))) else (Z5.j0 k l0 a1 a2 true))) else (some (0,1)))) = some (r1,r2) := h;clear h;replace H := Option.bind_eq_some_iff.mp H;obtain ⟨t265,A40,H⟩ := H;replace H : (if t265 = true then ((Zx.f a1).bind fun t266 => (if t266 = true then ((Zx.f a2).bind fun t267 => (Z5.j0 k l0 a1 a2 (!t267))) else (Z5.j0 k l0 a1 a2 true))) else (some (0,1))) = some (r1,r2) := H;have A4 := Zd.mk A40;clear A40
 by_cases c5 : t265 = true
 · subst c5
   have H1 : ((Zx.f a1).bind fun t266 => (if t266 = true then ((Zx.f a2).bind fun t267 => (Z5.j0 k l0 a1 a2 (!t267))) else (Z5.j0 k l0 a1 a2 true))) = some (r1,r2) := by rw [if_pos rfl] at H;exact H
   clear H;have H := H1;clear H1;have HC6 := Zd.mk H;clear H
   go_enter Try.func24,Try.ntmps24
   go_upto_region 3 with (first | ((with_reducible refine Z2 (f := 11) rfl ?_);refine ZP (some 10) rfl rfl Try.func11 (by kernel_rfl) rfl #[.slice A0 l0.length c0] rfl (by (try simp only [List.map_toArray,List.map_cons,List.map_nil]);first | done | rfl | (simp only [List.length_drop,List.length_take];rfl)) ?_;(with_reducible refine (Zi.calls k _ _ l0 true _ ?side1 ?side2 A4.out).mono ?_);(case side1 => repeat (first | exact HR0.out | (with_reducible refine Kd.Z8 ?_ _) | (with_reducible refine Kd.ZB ?_ _) | (with_reducible refine Kd.ZI ?_)));(case side2 => exact HC0.out);rintro e w7 ⟨rfl,hb⟩;refine ⟨_,rfl,?_⟩;have n0_ := Zd.mk (Z0 (by repeat (first | (with_reducible first | exact HB.out | apply Zc | apply Za | apply Zb) | exact HB.out)) hb);clear HB;have HB := n0_;clear n0_;(try clear hb);(try clear hb2);(try clear hk);(try clear hi)))
   (try simp only [Act.put,YV,YW,YX])
   go_cut [19] (fun v19 wc => ∃ (kq : Nat) (x19_5 : Bool),v19 = .bool x19_5 ∧ Zd (Z5.j0 kq l0 a1 a2 x19_5 = some (r1,r2)) ∧ Zd (kq ≤ k) ∧ Zd (Below w.heap.size w wc))
   case first =>
    have H := HC6.out;clear HC6;replace H := Option.bind_eq_some_iff.mp H;obtain ⟨t266,A80,H⟩ := H;replace H : (if t266 = true then ((Zx.f a2).bind fun t267 => (Z5.j0 k l0 a1 a2 (!t267))) else (Z5.j0 k l0 a1 a2 true)) = some (r1,r2) := H;have A8 := Zd.mk A80;clear A80
    by_cases c9 : t266 = true
    · subst c9
      have H1 : ((Zx.f a2).bind fun t267 => (Z5.j0 k l0 a1 a2 (!t267))) = some (r1,r2) := by rw [if_pos rfl] at H;exact H
      clear H;have H := H1;clear H1;replace H := Option.bind_eq_some_iff.mp H;obtain ⟨t267,A100,H⟩ := H;replace H : (Z5.j0 k l0 a1 a2 (!t267)) = some (r1,r2) := H;have A10 := Zd.mk A100;clear A100;have H' := Zd.mk H;clear H
      go_wp2_with (first | ((with_reducible refine Z2 (f := 50) rfl ?_);refine ZP (some 13) rfl rfl Try.func50 (by kernel_rfl) rfl #[.int .i64 a1] rfl (by (try simp only [List.map_toArray,List.map_cons,List.map_nil]);first | done | rfl | (simp only [List.length_drop,List.length_take];rfl)) ?_;(with_reducible refine (Zx.calls a1 true _ A8.out).mono ?_);rintro e w' ⟨rfl,⟨nd,rfl⟩⟩;refine ⟨_,rfl,?_⟩) | (go_at_call 50;(with_reducible refine (Zx.calls a2 t267 _ A10.out).mono ?_);rintro e w' ⟨rfl,⟨nd,rfl⟩⟩))
      go_meet
      case rel => exact ⟨_,(!t267),(by first | rfl | (simp;done) | (simp [*];done)),H',⟨by first | omega | exact Nat.le_refl _⟩,⟨by repeat (first | (with_reducible first | exact HB.out | apply Zc | apply Za | apply Zb) | exact HB.out)⟩⟩
    · replace c9 := Bool.eq_false_iff.mpr c9
      subst c9
      have H1 : (Z5.j0 k l0 a1 a2 true) = some (r1,r2) := by rw [if_neg (show ¬ (false = true) by decide)] at H;exact H
      clear H;have H := H1;clear H1;have H' := Zd.mk H;clear H
      go_wp2_with (first | ((with_reducible refine Z2 (f := 50) rfl ?_);refine ZP (some 13) rfl rfl Try.func50 (by kernel_rfl) rfl #[.int .i64 a1] rfl (by (try simp only [List.map_toArray,List.map_cons,List.map_nil]);first | done | rfl | (simp only [List.length_drop,List.length_take];rfl)) ?_;(with_reducible refine (Zx.calls a1 false _ A8.out).mono ?_);rintro e w' ⟨rfl,⟨nd,rfl⟩⟩;refine ⟨_,rfl,?_⟩))
      go_meet
      case rel => exact ⟨_,(true),(by first | rfl | (simp;done) | (simp [*];done)),H',⟨by first | omega | exact Nat.le_refl _⟩,⟨by repeat (first | (with_reducible first | exact HB.out | apply Zc | apply Za | apply Zb) | exact HB.out)⟩⟩
   case rest =>
    clear HC6
    (try clear c1); (try clear c2); (try clear p2); (try clear c5); (try clear c9)
    obtain ⟨kq,x19_5,rfl,HA,HJ5,HB⟩ := hcut
    cases kq with
    | zero => exact absurd HA.out (by simp [Z5.j0])
    | succ kj5 =>
     have H := HA.out;clear HA;simp only [Z5.j0] at H
     by_cases c11 : x19_5 = true
     · subst c11
       have H1 : (some (0,7)) = some (r1,r2) := by rw [if_pos rfl] at H;exact H
       clear H;have H := H1;clear H1;simp only [Option.some.injEq,Prod.mk.injEq] at H;obtain ⟨rfl,rfl⟩ := H
       go_wp2
       go_ret2
       exact ⟨by first | rfl | (simp [Zt,Zv] <;> rfl) | (simp [*,Zt,Zv] <;> rfl),by repeat (first | (with_reducible first | exact HB.out | apply Zc | apply Za | apply Zb) | exact HB.out)⟩
     · replace c11 := Bool.eq_false_iff.mpr c11
       subst c11
       have H1 : ((Z4.f kj5 l0 a1 a2).bind fun t268 => (if t268 > 1000000000 then (some (0,7)) else (some (t268,0)))) = some (r1,r2) := by rw [if_neg (show ¬ (false = true) by decide)] at H;exact H
       clear H;have H := H1;clear H1;replace H := Option.bind_eq_some_iff.mp H;obtain ⟨t268,A120,H⟩ := H;replace H : (if t268 > 1000000000 then (some (0,7)) else (some (t268,0))) = some (r1,r2) := H;have A12 := Zd.mk A120;clear A120
       by_cases c13 : t268 > 1000000000
       · rw [if_pos c13] at H
         have c13b0 : decide (1000000000 < t268) = true := decide_eq_true c13;clear c13;simp only [Option.some.injEq,Prod.mk.injEq] at H;obtain ⟨rfl,rfl⟩ := H
         go_wp2_with (first | ((with_reducible refine Z2 (f := 53) rfl ?_);refine ZP (some 23) rfl rfl Try.func53 (by kernel_rfl) rfl #[.slice A0 l0.length c0,.int .i64 a1,.int .i64 a2] rfl (by (try simp only [List.map_toArray,List.map_cons,List.map_nil]);first | done | rfl | (simp only [List.length_drop,List.length_take];rfl)) ?_;(with_reducible refine (Z4.calls kj5 _ _ l0 a1 a2 t268 _ ?side1 ?side2 A12.out).mono ?_);(case side1 => repeat (first | exact (Kd.ZK HR0.out HB.out) | (with_reducible refine Kd.Z8 ?_ _) | (with_reducible refine Kd.ZB ?_ _) | (with_reducible refine Kd.ZI ?_)));(case side2 => exact HC0.out);rintro e w' ⟨rfl,⟨nd,rfl⟩⟩;refine ⟨_,rfl,?_⟩))
         go_ret2
         exact ⟨by first | rfl | (simp [Zt,Zv] <;> rfl) | (simp [*,Zt,Zv] <;> rfl),by repeat (first | (with_reducible first | exact HB.out | apply Zc | apply Za | apply Zb) | exact HB.out)⟩
       · rw [if_neg c13] at H
         have c13b0 : decide (1000000000 < t268) = false := decide_eq_false c13;clear c13;simp only [Option.some.injEq,Prod.mk.injEq] at H;obtain ⟨rfl,rfl⟩ := H
         go_wp2_with (first | ((with_reducible refine Z2 (f := 53) rfl ?_);refine ZP (some 23) rfl rfl Try.func53 (by kernel_rfl) rfl #[.slice A0 l0.length c0,.int .i64 a1,.int .i64 a2] rfl (by (try simp only [List.map_toArray,List.map_cons,List.map_nil]);first | done | rfl | (simp only [List.length_drop,List.length_take];rfl)) ?_;(with_reducible refine (Z4.calls kj5 _ _ l0 a1 a2 t268 _ ?side1 ?side2 A12.out).mono ?_);(case side1 => repeat (first | exact (Kd.ZK HR0.out HB.out) | (with_reducible refine Kd.Z8 ?_ _) | (with_reducible refine Kd.ZB ?_ _) | (with_reducible refine Kd.ZI ?_)));(case side2 => exact HC0.out);rintro e w' ⟨rfl,⟨nd,rfl⟩⟩;refine ⟨_,rfl,?_⟩))
         go_ret2
         exact ⟨by first | rfl | (simp [Zt,Zv] <;> rfl) | (simp [*,Zt,Zv] <;> rfl),by repeat (first | (with_reducible first | exact HB.out | apply Zc | apply Za | apply Zb) | exact HB.out)⟩
 · replace c5 := Bool.eq_false_iff.mpr c5
   subst c5
   have H1 : (some (0,1)) = some (r1,r2) := by rw [if_neg (show ¬ (false = true) by decide)] at H;exact H
   clear H;have H := H1;clear H1;simp only [Option.some.injEq,Prod.mk.injEq] at H;obtain ⟨rfl,rfl⟩ := H
   go_enter Try.func24,Try.ntmps24
   go_wp2_with (first | ((with_reducible refine Z2 (f := 11) rfl ?_);refine ZP (some 10) rfl rfl Try.func11 (by kernel_rfl) rfl #[.slice A0 l0.length c0] rfl (by (try simp only [List.map_toArray,List.map_cons,List.map_nil]);first | done | rfl | (simp only [List.length_drop,List.length_take];rfl)) ?_;(with_reducible refine (Zi.calls k _ _ l0 false _ ?side1 ?side2 A4.out).mono ?_);(case side1 => repeat (first | exact HR0.out | (with_reducible refine Kd.Z8 ?_ _) | (with_reducible refine Kd.ZB ?_ _) | (with_reducible refine Kd.ZI ?_)));(case side2 => exact HC0.out);rintro e w14 ⟨rfl,hb⟩;refine ⟨_,rfl,?_⟩;have n0_ := Zd.mk (Z0 (by repeat (first | (with_reducible first | exact HB.out | apply Zc | apply Za | apply Zb) | exact HB.out)) hb);clear HB;have HB := n0_;clear n0_;(try clear hb);(try clear hb2);(try clear hk);(try clear hi)))
   go_ret2
   exact ⟨by first | rfl | (simp [Zt,Zv] <;> rfl) | (simp [*,Zt,Zv] <;> rfl),by repeat (first | (with_reducible first | exact HB.out | apply Zc | apply Za | apply Zb) | exact HB.out)⟩
end Go.Proofs.Ytomlfbmfdoallaa.PA

namespace Go.Proofs.Ytomlfbmfdoallaa.PA
open Go.RowKit Go.Proofs.YtomlfbmfdoallaaW.PrintWords Go.Proofs.YtomlfbmfdoallaaW.PrintLast Go.Proofs.YtomlfbmfdoallaaW.PrintMore
attribute [local go_sem] Xf Xe Xj Xk ZV ZU Xd Xc
set_option linter.unusedVariables false
set_option linter.unusedSimpArgs false
end Go.Proofs.Ytomlfbmfdoallaa.PA

namespace Go.Proofs.Ytomlfbmfdoallaa.PA
open Go.RowKit Go.Proofs.YtomlfbmfdoallaaW.PrintWords Go.Proofs.YtomlfbmfdoallaaW.PrintLast Go.Proofs.YtomlfbmfdoallaaW.PrintMore
attribute [local go_sem] Xf Xe Xj Xk ZV ZU Xd Xc
set_option linter.unusedVariables false
set_option linter.unusedSimpArgs false
def Xu.f (k : Nat) (l0 : List (S27)) (a1 : Int) (a2 : Int) : Option (Int × Int) := (ZO.f k l0 (([a1,a2] : List Int))).bind fun t272 => (if t272 = 0 then (if a2 < a1 then (some (0,7)) else ((X4.f l0 a1 a2).bind fun t273 => (some (t273,0)))) else (some (0,t272)))
theorem Xu.mono : ∀ a0 a1 a2 k,LeO (Xu.f k a0 a1 a2) (Xu.f (k + 1) a0 a1 a2) := by
 intro a0 a1 a2 k;unfold Xu.f
 repeat' first
  | (with_reducible exact ZO.mono _ _ _)
  | (with_reducible exact LeO.refl _)
  | (with_reducible exact LeO.none _)
  | (with_reducible refine LeO.ite ?_ ?_)
  | (with_reducible refine LeO.bind ?_ (fun _ => ?_))
  | exact ZO.mono _ _ _
  | exact LeO.none _
  | refine LeO.ite ?_ ?_
  | refine LeO.bind ?_ (fun _ => ?_)
set_option maxHeartbeats 8000000 in
set_option maxRecDepth 100000 in
theorem Xu.calls (k : Nat) (A0 : Option Addr) (c0 : Nat) (l0 : List (S27)) (a1 : Int) (a2 : Int) (r1 : Int) (r2 : Int) (w : World) (hr0 : Kd.C k27 w A0 l0.length l0) (hc0 : l0.length ≤ c0) (h : Xu.f k l0 a1 a2 = some (r1,r2)) :
 Calls Try.prog 26 #[.slice A0 l0.length c0,.int .i64 a1,.int .i64 a2] w fun e w' => e = .returned (.tuple #[.int .i64 r1,.int .i64 r2]) ∧ Below w.heap.size w w' := by
 have HR0 := Zd.mk hr0;have HC0 := Zd.mk hc0;clear hr0 hc0;have HB := Zd.mk (Below.refl w.heap.size w);have H : ((ZO.f k l0 (([a1,a2] : List Int))).bind fun t272 => (if t272 = 0 then (if a2 < a1 then (some (0,7)) else ((X4.f l0 a1 a2).bind fun t273 => (some (t273,0)))) else (some (0,t272)))) = some (r1,r2) := h;clear h
 obtain ⟨y269,hy269⟩ : ∃ y_ : List Int,y_ = (([a1,a2] : List Int)) := ⟨_,rfl⟩
 replace H : ((ZO.f k l0 y269).bind fun t272 => (if t272 = 0 then (if a2 < a1 then (some (0,7)) else ((X4.f l0 a1 a2).bind fun t273 => (some (t273,0)))) else (some (0,t272)))) = some (r1,r2) := by first | (rw [hy269];with_reducible exact H) | (have H2_ := (Option.bind_some _ _).symm.trans H;rw [hy269];with_reducible exact H2_) | (have H2_ := (Option.bind_some _ _).symm.trans H;with_reducible exact H2_) | with_reducible exact H | (rw [hy269];exact H) | exact H
 have Ny269 := Zd.mk hy269;clear hy269;replace H := Option.bind_eq_some_iff.mp H;obtain ⟨t272,A40,H⟩ := H;replace H : (if t272 = 0 then (if a2 < a1 then (some (0,7)) else ((X4.f l0 a1 a2).bind fun t273 => (some (t273,0)))) else (some (0,t272))) = some (r1,r2) := H;have A4 := Zd.mk A40;clear A40
 by_cases c5 : t272 = 0
 · rw [if_pos c5] at H
   have c5b0 : (t272 == 0) = true := beq_iff_eq.mpr c5;have c5b1 : (t272 != 0) = false := bne_eq_false_iff_eq.mpr c5;clear c5
   by_cases c6 : a2 < a1
   · rw [if_pos c6] at H
     have c6b0 : decide (a2 < a1) = true := decide_eq_true c6;clear c6;simp only [Option.some.injEq,Prod.mk.injEq] at H;obtain ⟨rfl,rfl⟩ := H
     go_enter Try.func26,Try.ntmps26
     go_wp2_with (first | ((with_reducible refine Xq (N := 12) rfl ?_);refine Kd.R_lit (Kd.int .i64) _ 3 ?hg (N := 12) ?hd (xs := ([a1,a2] : List Int)) (inner := [.int .i64 a1,.int .i64 a2]) (ok := fun _ => True) (okp := fun _ => True) ?hr ?hp (fun _ hk => hk) trivial (Below.refl _ _) (Nat.le_refl _) (by simp) ?_;(case hd => rfl);(case hg => rfl);(case hr => first | (go_simp;done) | (go_simp;rfl));(case hp => exact (Reps.one (show Kd.M (Kd.int .i64) _ _ _ a1 [.int .i64 a1] from rfl) (Reps.one (show Kd.M (Kd.int .i64) _ _ _ a2 [.int .i64 a2] from rfl) (Reps.none _ _))));intro v270 w7 ho8 hb hg_ hnew_;clear hg_ hnew_;(first | rw [← Ny269.out] at ho8 | (simp only [Int.reduceToNat] at ho8;rw [← Ny269.out] at ho8));have n0_ := Zd.mk (Kd.X5 ho8 (ZJ (by repeat (first | (with_reducible first | exact HB.out | apply Zc | apply Za | apply Zb) | exact HB.out))));have n1_ := Zd.mk (Z0 (by repeat (first | (with_reducible first | exact HB.out | apply Zc | apply Za | apply Zb) | exact HB.out)) hb);clear HB;have HO271 := n0_;have HB := n1_;clear n0_ n1_;clear hb ho8;obtain ⟨Ao9,co9,eo9⟩ := Kd.Xw HO271.out;subst eo9) | ((with_reducible refine Z2 (f := 40) rfl ?_);refine ZP (some 13) rfl rfl Try.func40 (by kernel_rfl) rfl #[.slice A0 l0.length c0,.slice Ao9 y269.length co9] rfl (by (try simp only [List.map_toArray,List.map_cons,List.map_nil]);first | done | rfl | (simp only [List.length_drop,List.length_take];rfl)) ?_;(with_reducible refine (ZO.calls k _ _ l0 _ _ y269 t272 _ ?side1 ?side2 ?side3 ?side4 A4.out).mono ?_);(case side1 => repeat (first | exact (Kd.ZK HR0.out HB.out) | (with_reducible refine Kd.Z8 ?_ _) | (with_reducible refine Kd.ZB ?_ _) | (with_reducible refine Kd.ZI ?_)));(case side2 => exact HC0.out);(case side3 => repeat (first | exact (Kd.Xp HO271.out).2.2 | (with_reducible refine Kd.Z8 ?_ _) | (with_reducible refine Kd.ZB ?_ _) | (with_reducible refine Kd.ZI ?_)));(case side4 => exact (Kd.Xp HO271.out).2.1);rintro e w10 ⟨rfl,hb⟩;refine ⟨_,rfl,?_⟩;have n0_ := Zd.mk (Kd.Xn (by (with_reducible repeat (first | apply Kd.ZF | apply Kd.ZG | apply Kd.ZN));exact HO271.out) hb);have n1_ := Zd.mk (Z0 (by repeat (first | (with_reducible first | exact HB.out | apply Zc | apply Za | apply Zb) | exact HB.out)) hb);clear HO271;clear HB;have HO271 := n0_;have HB := n1_;clear n0_ n1_;(try clear hb);(try clear hb2);(try clear hk);(try clear hi)))
     go_ret2
     exact ⟨by first | rfl | (simp [Zt,Zv] <;> rfl) | (simp [*,Zt,Zv] <;> rfl),by repeat (first | (with_reducible first | exact HB.out | apply Zc | apply Za | apply Zb) | exact HB.out)⟩
   · rw [if_neg c6] at H
     have c6b0 : decide (a2 < a1) = false := decide_eq_false c6;clear c6;replace H := Option.bind_eq_some_iff.mp H;obtain ⟨t273,A110,H⟩ := H;replace H : (some (t273,0)) = some (r1,r2) := H;have A11 := Zd.mk A110;clear A110;simp only [Option.some.injEq,Prod.mk.injEq] at H;obtain ⟨rfl,rfl⟩ := H
     go_enter Try.func26,Try.ntmps26
     go_wp2_with (first | ((with_reducible refine Xq (N := 12) rfl ?_);refine Kd.R_lit (Kd.int .i64) _ 3 ?hg (N := 12) ?hd (xs := ([a1,a2] : List Int)) (inner := [.int .i64 a1,.int .i64 a2]) (ok := fun _ => True) (okp := fun _ => True) ?hr ?hp (fun _ hk => hk) trivial (Below.refl _ _) (Nat.le_refl _) (by simp) ?_;(case hd => rfl);(case hg => rfl);(case hr => first | (go_simp;done) | (go_simp;rfl));(case hp => exact (Reps.one (show Kd.M (Kd.int .i64) _ _ _ a1 [.int .i64 a1] from rfl) (Reps.one (show Kd.M (Kd.int .i64) _ _ _ a2 [.int .i64 a2] from rfl) (Reps.none _ _))));intro v270 w12 ho13 hb hg_ hnew_;clear hg_ hnew_;(first | rw [← Ny269.out] at ho13 | (simp only [Int.reduceToNat] at ho13;rw [← Ny269.out] at ho13));have n0_ := Zd.mk (Kd.X5 ho13 (ZJ (by repeat (first | (with_reducible first | exact HB.out | apply Zc | apply Za | apply Zb) | exact HB.out))));have n1_ := Zd.mk (Z0 (by repeat (first | (with_reducible first | exact HB.out | apply Zc | apply Za | apply Zb) | exact HB.out)) hb);clear HB;have HO271 := n0_;have HB := n1_;clear n0_ n1_;clear hb ho13;obtain ⟨Ao14,co14,eo14⟩ := Kd.Xw HO271.out;subst eo14) | ((with_reducible refine Z2 (f := 40) rfl ?_);refine ZP (some 13) rfl rfl Try.func40 (by kernel_rfl) rfl #[.slice A0 l0.length c0,.slice Ao14 y269.length co14] rfl (by (try simp only [List.map_toArray,List.map_cons,List.map_nil]);first | done | rfl | (simp only [List.length_drop,List.length_take];rfl)) ?_;(with_reducible refine (ZO.calls k _ _ l0 _ _ y269 t272 _ ?side1 ?side2 ?side3 ?side4 A4.out).mono ?_);(case side1 => repeat (first | exact (Kd.ZK HR0.out HB.out) | (with_reducible refine Kd.Z8 ?_ _) | (with_reducible refine Kd.ZB ?_ _) | (with_reducible refine Kd.ZI ?_)));(case side2 => exact HC0.out);(case side3 => repeat (first | exact (Kd.Xp HO271.out).2.2 | (with_reducible refine Kd.Z8 ?_ _) | (with_reducible refine Kd.ZB ?_ _) | (with_reducible refine Kd.ZI ?_)));(case side4 => exact (Kd.Xp HO271.out).2.1);rintro e w15 ⟨rfl,hb⟩;refine ⟨_,rfl,?_⟩;have n0_ := Zd.mk (Kd.Xn (by (with_reducible repeat (first | apply Kd.ZF | apply Kd.ZG | apply Kd.ZN));exact HO271.out) hb);have n1_ := Zd.mk (Z0 (by repeat (first | (with_reducible first | exact HB.out | apply Zc | apply Za | apply Zb) | exact HB.out)) hb);clear HO271;clear HB;have HO271 := n0_;have HB := n1_;clear n0_ n1_;(try clear hb);(try clear hb2);(try clear hk);(try clear hi)) | ((with_reducible refine Z2 (f := 54) rfl ?_);refine ZP (some 23) rfl rfl Try.func54 (by kernel_rfl) rfl #[.slice A0 l0.length c0,.int .i64 a1,.int .i64 a2] rfl (by (try simp only [List.map_toArray,List.map_cons,List.map_nil]);first | done | rfl | (simp only [List.length_drop,List.length_take];rfl)) ?_;(with_reducible refine (X4.calls _ _ l0 a1 a2 t273 _ ?side1 ?side2 A11.out).mono ?_);(case side1 => repeat (first | exact (Kd.ZK HR0.out HB.out) | (with_reducible refine Kd.Z8 ?_ _) | (with_reducible refine Kd.ZB ?_ _) | (with_reducible refine Kd.ZI ?_)));(case side2 => exact HC0.out);rintro e w16 ⟨rfl,hb⟩;refine ⟨_,rfl,?_⟩;have n0_ := Zd.mk (Kd.Xn (by (with_reducible repeat (first | apply Kd.ZF | apply Kd.ZG | apply Kd.ZN));exact HO271.out) hb);have n1_ := Zd.mk (Z0 (by repeat (first | (with_reducible first | exact HB.out | apply Zc | apply Za | apply Zb) | exact HB.out)) hb);clear HO271;clear HB;have HO271 := n0_;have HB := n1_;clear n0_ n1_;(try clear hb);(try clear hb2);(try clear hk);(try clear hi)))
     go_ret2
     exact ⟨by first | rfl | (simp [Zt,Zv] <;> rfl) | (simp [*,Zt,Zv] <;> rfl),by repeat (first | (with_reducible first | exact HB.out | apply Zc | apply Za | apply Zb) | exact HB.out)⟩
 · rw [if_neg c5] at H
   have c5b0 : (t272 == 0) = false := beq_eq_false_iff_ne.mpr c5;have c5b1 : (t272 != 0) = true := bne_iff_ne.mpr c5;simp only [Option.some.injEq,Prod.mk.injEq] at H;obtain ⟨rfl,rfl⟩ := H
   go_enter Try.func26,Try.ntmps26
   go_wp2_with (first | ((with_reducible refine Xq (N := 12) rfl ?_);refine Kd.R_lit (Kd.int .i64) _ 3 ?hg (N := 12) ?hd (xs := ([a1,a2] : List Int)) (inner := [.int .i64 a1,.int .i64 a2]) (ok := fun _ => True) (okp := fun _ => True) ?hr ?hp (fun _ hk => hk) trivial (Below.refl _ _) (Nat.le_refl _) (by simp) ?_;(case hd => rfl);(case hg => rfl);(case hr => first | (go_simp;done) | (go_simp;rfl));(case hp => exact (Reps.one (show Kd.M (Kd.int .i64) _ _ _ a1 [.int .i64 a1] from rfl) (Reps.one (show Kd.M (Kd.int .i64) _ _ _ a2 [.int .i64 a2] from rfl) (Reps.none _ _))));intro v270 w17 ho18 hb hg_ hnew_;clear hg_ hnew_;(first | rw [← Ny269.out] at ho18 | (simp only [Int.reduceToNat] at ho18;rw [← Ny269.out] at ho18));have n0_ := Zd.mk (Kd.X5 ho18 (ZJ (by repeat (first | (with_reducible first | exact HB.out | apply Zc | apply Za | apply Zb) | exact HB.out))));have n1_ := Zd.mk (Z0 (by repeat (first | (with_reducible first | exact HB.out | apply Zc | apply Za | apply Zb) | exact HB.out)) hb);clear HB;have HO271 := n0_;have HB := n1_;clear n0_ n1_;clear hb ho18;obtain ⟨Ao19,co19,eo19⟩ := Kd.Xw HO271.out;subst eo19) | ((with_reducible refine Z2 (f := 40) rfl ?_);refine ZP (some 13) rfl rfl Try.func40 (by kernel_rfl) rfl #[.slice A0 l0.length c0,.slice Ao19 y269.length co19] rfl (by (try simp only [List.map_toArray,List.map_cons,List.map_nil]);first | done | rfl | (simp only [List.length_drop,List.length_take];rfl)) ?_;(with_reducible refine (ZO.calls k _ _ l0 _ _ y269 t272 _ ?side1 ?side2 ?side3 ?side4 A4.out).mono ?_);(case side1 => repeat (first | exact (Kd.ZK HR0.out HB.out) | (with_reducible refine Kd.Z8 ?_ _) | (with_reducible refine Kd.ZB ?_ _) | (with_reducible refine Kd.ZI ?_)));(case side2 => exact HC0.out);(case side3 => repeat (first | exact (Kd.Xp HO271.out).2.2 | (with_reducible refine Kd.Z8 ?_ _) | (with_reducible refine Kd.ZB ?_ _) | (with_reducible refine Kd.ZI ?_)));(case side4 => exact (Kd.Xp HO271.out).2.1);rintro e w20 ⟨rfl,hb⟩;refine ⟨_,rfl,?_⟩;have n0_ := Zd.mk (Kd.Xn (by (with_reducible repeat (first | apply Kd.ZF | apply Kd.ZG | apply Kd.ZN));exact HO271.out) hb);have n1_ := Zd.mk (Z0 (by repeat (first | (with_reducible first | exact HB.out | apply Zc | apply Za | apply Zb) | exact HB.out)) hb);clear HO271;clear HB;have HO271 := n0_;have HB := n1_;clear n0_ n1_;(try clear hb);(try clear hb2);(try clear hk);(try clear hi)))
   go_ret2
   exact ⟨by first | rfl | (simp [Zt,Zv] <;> rfl) | (simp [*,Zt,Zv] <;> rfl),by repeat (first | (with_reducible first | exact HB.out | apply Zc | apply Za | apply Zb) | exact HB.out)⟩
end Go.Proofs.Ytomlfbmfdoallaa.PA

namespace Go.Proofs.Ytomlfbmfdoallaa.PA
open Go.RowKit Go.Proofs.YtomlfbmfdoallaaW.PrintWords Go.Proofs.YtomlfbmfdoallaaW.PrintLast Go.Proofs.YtomlfbmfdoallaaW.PrintMore
attribute [local go_sem] Xf Xe Xj Xk ZV ZU Xd Xc
set_option linter.unusedVariables false
set_option linter.unusedSimpArgs false
def Xb.f (k : Nat) (l0 : List (S27)) (a1 : Int) (a2 : Int) : Option (Int × Int) := (Zi.f k l0).bind fun t275 => (if t275 = true then ((Zx.f a1).bind fun t276 => (if t276 = true then (if a2 < a1 then (some (0,7)) else (if a2 > 1000000000 then (some (0,7)) else ((Z3.f k l0 a1 a2).bind fun t277 => (some (t277,0))))) else (some (0,7)))) else (some (0,1)))
theorem Xb.mono : ∀ a0 a1 a2 k,LeO (Xb.f k a0 a1 a2) (Xb.f (k + 1) a0 a1 a2) := by
 intro a0 a1 a2 k;unfold Xb.f
 repeat' first
  | (with_reducible exact Zi.mono _ _)
  | (with_reducible exact Z3.mono _ _ _ _)
  | (with_reducible exact LeO.refl _)
  | (with_reducible exact LeO.none _)
  | (with_reducible refine LeO.ite ?_ ?_)
  | (with_reducible refine LeO.bind ?_ (fun _ => ?_))
  | exact Zi.mono _ _
  | exact Z3.mono _ _ _ _
  | exact LeO.none _
  | refine LeO.ite ?_ ?_
  | refine LeO.bind ?_ (fun _ => ?_)
set_option maxHeartbeats 8000000 in
set_option maxRecDepth 100000 in
theorem Xb.calls (k : Nat) (A0 : Option Addr) (c0 : Nat) (l0 : List (S27)) (a1 : Int) (a2 : Int) (r1 : Int) (r2 : Int) (w : World) (hr0 : Kd.C k27 w A0 l0.length l0) (hc0 : l0.length ≤ c0) (h : Xb.f k l0 a1 a2 = some (r1,r2)) :
 Calls Try.prog 27 #[.slice A0 l0.length c0,.int .i64 a1,.int .i64 a2] w fun e w' => e = .returned (.tuple #[.int .i64 r1,.int .i64 r2]) ∧ Below w.heap.size w w' := by
 have HR0 := Zd.mk hr0;have HC0 := Zd.mk hc0;clear hr0 hc0;have HB := Zd.mk (Below.refl w.heap.size w);have H : ((Zi.f k l0).bind fun t275 => (if t275 = true then ((Zx.f a1).bind fun t276 => (if t276 = true then (if a2 < a1 then (some (0,7)) else (if a2 > 1000000000 then (some (0,7)) else ((Z3.f k l0 a1 a2).bind fun t277 => (some (t277,0))))) else (some (0,7)))) else (some (0,1)))) = some (r1,r2) := h;clear h;replace H := Option.bind_eq_some_iff.mp H;obtain ⟨t275,A40,H⟩ := H;replace H : (if t275 = true then ((Zx.f a1).bind fun t276 => (if t276 = true then (if a2 < a1 then (some (0,7)) else (if a2 > 1000000000 then (some (0,7)) else ((Z3.f k l0 a1 a2).bind fun t277 => (some (t277,0))))) else (some (0,7)))) else (some (0,1))) = some (r1,r2) := H;have A4 := Zd.mk A40;clear A40
 by_cases c5 : t275 = true
 · subst c5
   have H1 : ((Zx.f a1).bind fun t276 => (if t276 = true then (if a2 < a1 then (some (0,7)) else (if a2 > 1000000000 then (some (0,7)) else ((Z3.f k l0 a1 a2).bind fun t277 => (some (t277,0))))) else (some (0,7)))) = some (r1,r2) := by rw [if_pos rfl] at H;exact H
   clear H;have H := H1;clear H1;replace H := Option.bind_eq_some_iff.mp H;obtain ⟨t276,A60,H⟩ := H;replace H : (if t276 = true then (if a2 < a1 then (some (0,7)) else (if a2 > 1000000000 then (some (0,7)) else ((Z3.f k l0 a1 a2).bind fun t277 => (some (t277,0))))) else (some (0,7))) = some (r1,r2) := H;have A6 := Zd.mk A60;clear A60
   by_cases c7 : t276 = true
   · subst c7
     have H1 : (if a2 < a1 then (some (0,7)) else (if a2 > 1000000000 then (some (0,7)) else ((Z3.f k l0 a1 a2).bind fun t277 => (some (t277,0))))) = some (r1,r2) := by rw [if_pos rfl] at H;exact H
     clear H;have H := H1;clear H1
     by_cases c8 : a2 < a1
     · rw [if_pos c8] at H
       have c8b0 : decide (a2 < a1) = true := decide_eq_true c8;clear c8;simp only [Option.some.injEq,Prod.mk.injEq] at H;obtain ⟨rfl,rfl⟩ := H
       go_enter Try.func27,Try.ntmps27
       go_wp2_with (first | ((with_reducible refine Z2 (f := 11) rfl ?_);refine ZP (some 9) rfl rfl Try.func11 (by kernel_rfl) rfl #[.slice A0 l0.length c0] rfl (by (try simp only [List.map_toArray,List.map_cons,List.map_nil]);first | done | rfl | (simp only [List.length_drop,List.length_take];rfl)) ?_;(with_reducible refine (Zi.calls k _ _ l0 true _ ?side1 ?side2 A4.out).mono ?_);(case side1 => repeat (first | exact HR0.out | (with_reducible refine Kd.Z8 ?_ _) | (with_reducible refine Kd.ZB ?_ _) | (with_reducible refine Kd.ZI ?_)));(case side2 => exact HC0.out);rintro e w9 ⟨rfl,hb⟩;refine ⟨_,rfl,?_⟩;have n0_ := Zd.mk (Z0 (by repeat (first | (with_reducible first | exact HB.out | apply Zc | apply Za | apply Zb) | exact HB.out)) hb);clear HB;have HB := n0_;clear n0_;(try clear hb);(try clear hb2);(try clear hk);(try clear hi)) | ((with_reducible refine Z2 (f := 50) rfl ?_);refine ZP (some 12) rfl rfl Try.func50 (by kernel_rfl) rfl #[.int .i64 a1] rfl (by (try simp only [List.map_toArray,List.map_cons,List.map_nil]);first | done | rfl | (simp only [List.length_drop,List.length_take];rfl)) ?_;(with_reducible refine (Zx.calls a1 true _ A6.out).mono ?_);rintro e w' ⟨rfl,⟨nd,rfl⟩⟩;refine ⟨_,rfl,?_⟩))
       go_ret2
       exact ⟨by first | rfl | (simp [Zt,Zv] <;> rfl) | (simp [*,Zt,Zv] <;> rfl),by repeat (first | (with_reducible first | exact HB.out | apply Zc | apply Za | apply Zb) | exact HB.out)⟩
     · rw [if_neg c8] at H
       have c8b0 : decide (a2 < a1) = false := decide_eq_false c8;clear c8
       by_cases c10 : a2 > 1000000000
       · rw [if_pos c10] at H
         have c10b0 : decide (1000000000 < a2) = true := decide_eq_true c10;clear c10;simp only [Option.some.injEq,Prod.mk.injEq] at H;obtain ⟨rfl,rfl⟩ := H
         go_enter Try.func27,Try.ntmps27
         go_wp2_with (first | ((with_reducible refine Z2 (f := 11) rfl ?_);refine ZP (some 9) rfl rfl Try.func11 (by kernel_rfl) rfl #[.slice A0 l0.length c0] rfl (by (try simp only [List.map_toArray,List.map_cons,List.map_nil]);first | done | rfl | (simp only [List.length_drop,List.length_take];rfl)) ?_;(with_reducible refine (Zi.calls k _ _ l0 true _ ?side1 ?side2 A4.out).mono ?_);(case side1 => repeat (first | exact HR0.out | (with_reducible refine Kd.Z8 ?_ _) | (with_reducible refine Kd.ZB ?_ _) | (with_reducible refine Kd.ZI ?_)));(case side2 => exact HC0.out);rintro e w11 ⟨rfl,hb⟩;refine ⟨_,rfl,?_⟩;have n0_ := Zd.mk (Z0 (by repeat (first | (with_reducible first | exact HB.out | apply Zc | apply Za | apply Zb) | exact HB.out)) hb);clear HB;have HB := n0_;clear n0_;(try clear hb);(try clear hb2);(try clear hk);(try clear hi)) | ((with_reducible refine Z2 (f := 50) rfl ?_);refine ZP (some 12) rfl rfl Try.func50 (by kernel_rfl) rfl #[.int .i64 a1] rfl (by (try simp only [List.map_toArray,List.map_cons,List.map_nil]);first | done | rfl | (simp only [List.length_drop,List.length_take];rfl)) ?_;(with_reducible refine (Zx.calls a1 true _ A6.out).mono ?_);rintro e w' ⟨rfl,⟨nd,rfl⟩⟩;refine ⟨_,rfl,?_⟩))
         go_ret2
         exact ⟨by first | rfl | (simp [Zt,Zv] <;> rfl) | (simp [*,Zt,Zv] <;> rfl),by repeat (first | (with_reducible first | exact HB.out | apply Zc | apply Za | apply Zb) | exact HB.out)⟩
       · rw [if_neg c10] at H
         have c10b0 : decide (1000000000 < a2) = false := decide_eq_false c10;clear c10;replace H := Option.bind_eq_some_iff.mp H;obtain ⟨t277,A120,H⟩ := H;replace H : (some (t277,0)) = some (r1,r2) := H;have A12 := Zd.mk A120;clear A120;simp only [Option.some.injEq,Prod.mk.injEq] at H;obtain ⟨rfl,rfl⟩ := H
         go_enter Try.func27,Try.ntmps27
         go_wp2_with (first | ((with_reducible refine Z2 (f := 11) rfl ?_);refine ZP (some 9) rfl rfl Try.func11 (by kernel_rfl) rfl #[.slice A0 l0.length c0] rfl (by (try simp only [List.map_toArray,List.map_cons,List.map_nil]);first | done | rfl | (simp only [List.length_drop,List.length_take];rfl)) ?_;(with_reducible refine (Zi.calls k _ _ l0 true _ ?side1 ?side2 A4.out).mono ?_);(case side1 => repeat (first | exact HR0.out | (with_reducible refine Kd.Z8 ?_ _) | (with_reducible refine Kd.ZB ?_ _) | (with_reducible refine Kd.ZI ?_)));(case side2 => exact HC0.out);rintro e w13 ⟨rfl,hb⟩;refine ⟨_,rfl,?_⟩;have n0_ := Zd.mk (Z0 (by repeat (first | (with_reducible first | exact HB.out | apply Zc | apply Za | apply Zb) | exact HB.out)) hb);clear HB;have HB := n0_;clear n0_;(try clear hb);(try clear hb2);(try clear hk);(try clear hi)) | ((with_reducible refine Z2 (f := 50) rfl ?_);refine ZP (some 12) rfl rfl Try.func50 (by kernel_rfl) rfl #[.int .i64 a1] rfl (by (try simp only [List.map_toArray,List.map_cons,List.map_nil]);first | done | rfl | (simp only [List.length_drop,List.length_take];rfl)) ?_;(with_reducible refine (Zx.calls a1 true _ A6.out).mono ?_);rintro e w' ⟨rfl,⟨nd,rfl⟩⟩;refine ⟨_,rfl,?_⟩) | ((with_reducible refine Z2 (f := 55) rfl ?_);refine ZP (some 26) rfl rfl Try.func55 (by kernel_rfl) rfl #[.slice A0 l0.length c0,.int .i64 a1,.int .i64 a2] rfl (by (try simp only [List.map_toArray,List.map_cons,List.map_nil]);first | done | rfl | (simp only [List.length_drop,List.length_take];rfl)) ?_;(with_reducible refine (Z3.calls k _ _ l0 a1 a2 t277 _ ?side1 ?side2 A12.out).mono ?_);(case side1 => repeat (first | exact (Kd.ZK HR0.out (by repeat (first | (with_reducible first | exact HB.out | apply Zc | apply Za | apply Zb) | exact HB.out))) | (with_reducible refine Kd.Z8 ?_ _) | (with_reducible refine Kd.ZB ?_ _) | (with_reducible refine Kd.ZI ?_)));(case side2 => exact HC0.out);rintro e w' ⟨rfl,⟨nd,rfl⟩⟩;refine ⟨_,rfl,?_⟩))
         go_ret2
         exact ⟨by first | rfl | (simp [Zt,Zv] <;> rfl) | (simp [*,Zt,Zv] <;> rfl),by repeat (first | (with_reducible first | exact HB.out | apply Zc | apply Za | apply Zb) | exact HB.out)⟩
   · replace c7 := Bool.eq_false_iff.mpr c7
     subst c7
     have H1 : (some (0,7)) = some (r1,r2) := by rw [if_neg (show ¬ (false = true) by decide)] at H;exact H
     clear H;have H := H1;clear H1;simp only [Option.some.injEq,Prod.mk.injEq] at H;obtain ⟨rfl,rfl⟩ := H
     go_enter Try.func27,Try.ntmps27
     go_wp2_with (first | ((with_reducible refine Z2 (f := 11) rfl ?_);refine ZP (some 9) rfl rfl Try.func11 (by kernel_rfl) rfl #[.slice A0 l0.length c0] rfl (by (try simp only [List.map_toArray,List.map_cons,List.map_nil]);first | done | rfl | (simp only [List.length_drop,List.length_take];rfl)) ?_;(with_reducible refine (Zi.calls k _ _ l0 true _ ?side1 ?side2 A4.out).mono ?_);(case side1 => repeat (first | exact HR0.out | (with_reducible refine Kd.Z8 ?_ _) | (with_reducible refine Kd.ZB ?_ _) | (with_reducible refine Kd.ZI ?_)));(case side2 => exact HC0.out);rintro e w14 ⟨rfl,hb⟩;refine ⟨_,rfl,?_⟩;have n0_ := Zd.mk (Z0 (by repeat (first | (with_reducible first | exact HB.out | apply Zc | apply Za | apply Zb) | exact HB.out)) hb);clear HB;have HB := n0_;clear n0_;(try clear hb);(try clear hb2);(try clear hk);(try clear hi)) | ((with_reducible refine Z2 (f := 50) rfl ?_);refine ZP (some 12) rfl rfl Try.func50 (by kernel_rfl) rfl #[.int .i64 a1] rfl (by (try simp only [List.map_toArray,List.map_cons,List.map_nil]);first | done | rfl | (simp only [List.length_drop,List.length_take];rfl)) ?_;(with_reducible refine (Zx.calls a1 false _ A6.out).mono ?_);rintro e w' ⟨rfl,⟨nd,rfl⟩⟩;refine ⟨_,rfl,?_⟩))
     go_ret2
     exact ⟨by first | rfl | (simp [Zt,Zv] <;> rfl) | (simp [*,Zt,Zv] <;> rfl),by repeat (first | (with_reducible first | exact HB.out | apply Zc | apply Za | apply Zb) | exact HB.out)⟩
 · replace c5 := Bool.eq_false_iff.mpr c5
   subst c5
   have H1 : (some (0,1)) = some (r1,r2) := by rw [if_neg (show ¬ (false = true) by decide)] at H;exact H
   clear H;have H := H1;clear H1;simp only [Option.some.injEq,Prod.mk.injEq] at H;obtain ⟨rfl,rfl⟩ := H
   go_enter Try.func27,Try.ntmps27
   go_wp2_with (first | ((with_reducible refine Z2 (f := 11) rfl ?_);refine ZP (some 9) rfl rfl Try.func11 (by kernel_rfl) rfl #[.slice A0 l0.length c0] rfl (by (try simp only [List.map_toArray,List.map_cons,List.map_nil]);first | done | rfl | (simp only [List.length_drop,List.length_take];rfl)) ?_;(with_reducible refine (Zi.calls k _ _ l0 false _ ?side1 ?side2 A4.out).mono ?_);(case side1 => repeat (first | exact HR0.out | (with_reducible refine Kd.Z8 ?_ _) | (with_reducible refine Kd.ZB ?_ _) | (with_reducible refine Kd.ZI ?_)));(case side2 => exact HC0.out);rintro e w15 ⟨rfl,hb⟩;refine ⟨_,rfl,?_⟩;have n0_ := Zd.mk (Z0 (by repeat (first | (with_reducible first | exact HB.out | apply Zc | apply Za | apply Zb) | exact HB.out)) hb);clear HB;have HB := n0_;clear n0_;(try clear hb);(try clear hb2);(try clear hk);(try clear hi)))
   go_ret2
   exact ⟨by first | rfl | (simp [Zt,Zv] <;> rfl) | (simp [*,Zt,Zv] <;> rfl),by repeat (first | (with_reducible first | exact HB.out | apply Zc | apply Za | apply Zb) | exact HB.out)⟩
end Go.Proofs.Ytomlfbmfdoallaa.PA
