/- TempoCurves, part 3: what the row is built on. -/
import Derived.Test.YtomlfbmfdoallaaCTempoCurves2
import Derived.Deep.RegionHeld3
import Derived.LoopTactic
import Derived.Lib.Hide
namespace Go.Proofs.Ytomlfbmfdoallaa.PA
open Go.RowKit Go.Shelf Go.Proofs.YtomlfbmfdoallaaW.PrintWords Go.Proofs.YtomlfbmfdoallaaW.PrintLast Go.Proofs.YtomlfbmfdoallaaW.PrintMore
set_option linter.unusedVariables false
set_option linter.unusedSimpArgs false
theorem crv_frames_calls (c : Crv) (n : Int) (h : c.Ok n) (w : World) : ∀ (f : Nat) (r : Value),(c.val = .iface 104 r ∧ f = 116 ∨ c.val = .iface 106 r ∧ f = 118) → Calls Try.prog f #[r,.int .i64 n] w fun e w' => e = .returned (.int .i64 (c.frames n)) ∧ Below w.heap.size w w' := by
 intro f r hr
 cases c with
 | even p =>
  obtain ⟨h1,h2,h3,h4⟩ := h;simp [Crv.val] at hr;obtain ⟨rfl,rfl⟩ := hr;exact X9.calls p n _ w (Qm p n h3 h4 h1 h2)
 | changing p q l =>
  obtain ⟨h1,h2,h3,h4,h5,h6,h7,h8⟩ := h;simp [Crv.val] at hr;obtain ⟨rfl,rfl⟩ := hr;exact X3.calls p q l n _ w (XT p q l n h7 (by omega) h5 h6 h1 h2 h3 h4)
def Xs.f (l0 : List S27) (a1 : Int) (a2 : Int) : Option Int :=
 if mapOkB l0 = true ∧ 0 ≤ a1 ∧ a1 ≤ 1000000000 ∧ 0 ≤ a2 ∧ a2 ≤ 1000000000 then some (fr l0 a1 a2) else none
set_option maxRecDepth 100000 in
set_option maxHeartbeats 2000000 in
theorem Xs.calls (A0 : Option Addr) (c0 : Nat) (l0 : List (S27)) (a1 : Int) (a2 : Int) (r : Int) (w : World) (hr0 : Kd.C k27 w A0 l0.length l0) (hc0 : l0.length ≤ c0) (h : Xs.f l0 a1 a2 = some r) :
 Calls Try.prog 42 #[.slice A0 l0.length c0,.int .i64 a1,.int .i64 a2] w fun e w' => e = .returned (.int .i64 r) ∧ Below w.heap.size w w' := by
 unfold Xs.f at h;split at h
 · rename_i hg
   obtain ⟨hok,hs0,hs1,ht0,ht1⟩ := hg;rw [Ye] at hok;obtain rfl := Option.some.inj h;obtain ⟨x,p1,p2,p3,p4,p5,p6,p7,p8⟩ := QF a2 ht1 l0 a1 hok.2.2.2 (by intro e;subst e;have := hok.1;simp at this) (fun t e => by rw [hok.2.2.1 t e];exact ht0);have HO := Lib.hid (Y9 A0 c0 l0 a1 a2 w hok hs0 hs1 hr0);rw [p1] at HO;have hlen := hok.2.1;clear hok hr0 p1 p3;rw [← p2];clear p2 h;obtain ⟨c,tk,fm,fn⟩ := x;dsimp only [prtCells] at HO p4 p5 p6 p7 p8 ⊢;have hb := p4.bound;generalize hv : c.frames (a2 - tk) = v at hb ⊢
   have HC := fun w => Lib.hid (crv_frames_calls c (a2 - tk) p4 w)
   rw [hv] at HC;clear hv p4
   cases c with
   | even p =>
    dsimp only [Crv.val] at HO HC
    go_enter Try.func42,Try.ntmps42
    go_wp2_with (fail)
    refine HO.out.mono ?_;rintro e w1 ⟨rfl,hb1⟩
    go_wp2_with (fail)
    have hme := QK p
    have HC1 := fun w => Lib.hid ((HC w).out 116 _ (.inl ⟨rfl,rfl⟩))
    clear HC HO;have hw1 : IntKind.i64.wrap (a2 - tk) = a2 - tk := (i64_w _).trans (w64 (by omega) (by omega));have hw2 : IntKind.i64.wrap (fm + v) = fm + v := (i64_w _).trans (w64 (by omega) (by omega))
    go_region_held3 (fun w' => w'.cell? ⟨w1.heap.size,0,none⟩ = some (.iface 104 (.agg #[.int .i64 p])) ∧ w'.cell? ⟨w1.heap.size,1,none⟩ = some (.int .i64 tk) ∧ w'.cell? ⟨w1.heap.size,2,none⟩ = some (.int .i64 fm)) (simp [go_sem,World.cell?_alloc_past, *])
     (first | (go_at_call 116;refine (HC1 _).out.mono ?_;rintro e w' ⟨rfl,hb2⟩;obtain ⟨hc2,hz2⟩ := bcell hb2))
    clear hw1 hw2
    go_wp2
    go_ret;exact ⟨rfl,hb1.trans ((((Below.refl _ w1).alloc (Nat.le_refl _) _).drew.trans (hb2.mono (by simp))).mono hb1.size)⟩
   | changing p q L =>
    dsimp only [Crv.val] at HO HC
    go_enter Try.func42,Try.ntmps42
    go_wp2_with (fail)
    refine HO.out.mono ?_;rintro e w1 ⟨rfl,hb1⟩
    go_wp2_with (fail)
    have hme := Qj p q L
    have HC1 := fun w => Lib.hid ((HC w).out 118 _ (.inr ⟨rfl,rfl⟩))
    clear HC HO;have hw1 : IntKind.i64.wrap (a2 - tk) = a2 - tk := (i64_w _).trans (w64 (by omega) (by omega));have hw2 : IntKind.i64.wrap (fm + v) = fm + v := (i64_w _).trans (w64 (by omega) (by omega))
    go_region_held3 (fun w' => w'.cell? ⟨w1.heap.size,0,none⟩ = some (.iface 106 (.agg #[.int .i64 p,.int .i64 q,.int .i64 L])) ∧ w'.cell? ⟨w1.heap.size,1,none⟩ = some (.int .i64 tk) ∧ w'.cell? ⟨w1.heap.size,2,none⟩ = some (.int .i64 fm)) (simp [go_sem,World.cell?_alloc_past, *])
     (first | (go_at_call 118;refine (HC1 _).out.mono ?_;rintro e w' ⟨rfl,hb2⟩;obtain ⟨hc2,hz2⟩ := bcell hb2))
    clear hw1 hw2
    go_wp2
    go_ret;exact ⟨rfl,hb1.trans ((((Below.refl _ w1).alloc (Nat.le_refl _) _).drew.trans (hb2.mono (by simp))).mono hb1.size)⟩
 · cases h
end Go.Proofs.Ytomlfbmfdoallaa.PA

namespace Go.Proofs.Ytomlfbmfdoallaa.PA
open Go.RowKit Go.Proofs.YtomlfbmfdoallaaW.PrintWords Go.Proofs.YtomlfbmfdoallaaW.PrintLast Go.Proofs.YtomlfbmfdoallaaW.PrintMore
attribute [local go_sem] Xf Xe Xj Xk ZV ZU Xd Xc
set_option linter.unusedVariables false
set_option linter.unusedSimpArgs false
end Go.Proofs.Ytomlfbmfdoallaa.PA

namespace Go.Proofs.Ytomlfbmfdoallaa.PA
open Go.RowKit Go.Proofs.YtomlfbmfdoallaaW.PrintWords Go.Proofs.YtomlfbmfdoallaaW.PrintLast Go.Proofs.YtomlfbmfdoallaaW.PrintMore
attribute [local go_sem] Xf Xe Xj Xk ZV ZU Xd Xc
set_option linter.unusedVariables false
set_option linter.unusedSimpArgs false
def ZY.f (k : Nat) (l0 : List (S27)) (a1 : Int) (a2 : Int) : Option (Int × Int) := (ZO.f k l0 (([a1,a2] : List Int))).bind fun t121 => (if t121 = 0 then ((Xs.f l0 a1 a2).bind fun t122 => (if t122 > 1000000000 then (some (0,7)) else (some (t122,0)))) else (some (0,t121)))
theorem ZY.mono : ∀ a0 a1 a2 k,LeO (ZY.f k a0 a1 a2) (ZY.f (k + 1) a0 a1 a2) := by
 intro a0 a1 a2 k;unfold ZY.f
 repeat' first
  | (with_reducible exact ZO.mono _ _ _)
  | (with_reducible exact LeO.refl _)
  | (with_reducible exact LeO.none _)
  | (with_reducible refine LeO.ite ?_ ?_)
  | (with_reducible refine LeO.bind ?_ (fun _ => ?_))
  | exact ZO.mono _ _ _
  | exact LeO.none _
  | refine LeO.ite ?_ ?_
  | refine LeO.bind ?_ (fun _ => ?_)
set_option maxHeartbeats 8000000 in
set_option maxRecDepth 100000 in
theorem ZY.calls (k : Nat) (A0 : Option Addr) (c0 : Nat) (l0 : List (S27)) (a1 : Int) (a2 : Int) (r1 : Int) (r2 : Int) (w : World) (hr0 : Kd.C k27 w A0 l0.length l0) (hc0 : l0.length ≤ c0) (h : ZY.f k l0 a1 a2 = some (r1,r2)) :
 Calls Try.prog 13 #[.slice A0 l0.length c0,.int .i64 a1,.int .i64 a2] w fun e w' => e = .returned (.tuple #[.int .i64 r1,.int .i64 r2]) ∧ Below w.heap.size w w' := by
 have HR0 := Zd.mk hr0;have HC0 := Zd.mk hc0;clear hr0 hc0;have HB := Zd.mk (Below.refl w.heap.size w);have H : ((ZO.f k l0 (([a1,a2] : List Int))).bind fun t121 => (if t121 = 0 then ((Xs.f l0 a1 a2).bind fun t122 => (if t122 > 1000000000 then (some (0,7)) else (some (t122,0)))) else (some (0,t121)))) = some (r1,r2) := h;clear h
 obtain ⟨y118,hy118⟩ : ∃ y_ : List Int,y_ = (([a1,a2] : List Int)) := ⟨_,rfl⟩
 replace H : ((ZO.f k l0 y118).bind fun t121 => (if t121 = 0 then ((Xs.f l0 a1 a2).bind fun t122 => (if t122 > 1000000000 then (some (0,7)) else (some (t122,0)))) else (some (0,t121)))) = some (r1,r2) := by first | (rw [hy118];with_reducible exact H) | (have H2_ := (Option.bind_some _ _).symm.trans H;rw [hy118];with_reducible exact H2_) | (have H2_ := (Option.bind_some _ _).symm.trans H;with_reducible exact H2_) | with_reducible exact H | (rw [hy118];exact H) | exact H
 have Ny118 := Zd.mk hy118;clear hy118;replace H := Option.bind_eq_some_iff.mp H;obtain ⟨t121,A40,H⟩ := H;replace H : (if t121 = 0 then ((Xs.f l0 a1 a2).bind fun t122 => (if t122 > 1000000000 then (some (0,7)) else (some (t122,0)))) else (some (0,t121))) = some (r1,r2) := H;have A4 := Zd.mk A40;clear A40
 by_cases c5 : t121 = 0
 · rw [if_pos c5] at H
   have c5b0 : (t121 == 0) = true := beq_iff_eq.mpr c5;have c5b1 : (t121 != 0) = false := bne_eq_false_iff_eq.mpr c5;clear c5;replace H := Option.bind_eq_some_iff.mp H;obtain ⟨t122,A60,H⟩ := H;replace H : (if t122 > 1000000000 then (some (0,7)) else (some (t122,0))) = some (r1,r2) := H;have A6 := Zd.mk A60;clear A60
   by_cases c7 : t122 > 1000000000
   · rw [if_pos c7] at H
     have c7b0 : decide (1000000000 < t122) = true := decide_eq_true c7;clear c7;simp only [Option.some.injEq,Prod.mk.injEq] at H;obtain ⟨rfl,rfl⟩ := H
     go_enter Try.func13,Try.ntmps13
     go_wp2_with (first | ((with_reducible refine Xq (N := 13) rfl ?_);refine Kd.R_lit (Kd.int .i64) _ 3 ?hg (N := 13) ?hd (xs := ([a1,a2] : List Int)) (inner := [.int .i64 a1,.int .i64 a2]) (ok := fun _ => True) (okp := fun _ => True) ?hr ?hp (fun _ hk => hk) trivial (Below.refl _ _) (Nat.le_refl _) (by simp) ?_;(case hd => rfl);(case hg => rfl);(case hr => first | (go_simp;done) | (go_simp;rfl));(case hp => exact (Reps.one (show Kd.M (Kd.int .i64) _ _ _ a1 [.int .i64 a1] from rfl) (Reps.one (show Kd.M (Kd.int .i64) _ _ _ a2 [.int .i64 a2] from rfl) (Reps.none _ _))));intro v119 w8 ho9 hb hg_ hnew_;clear hg_ hnew_;(first | rw [← Ny118.out] at ho9 | (simp only [Int.reduceToNat] at ho9;rw [← Ny118.out] at ho9));have n0_ := Zd.mk (Kd.X5 ho9 (ZJ (by repeat (first | (with_reducible first | exact HB.out | apply Zc | apply Za | apply Zb) | exact HB.out))));have n1_ := Zd.mk (Z0 (by repeat (first | (with_reducible first | exact HB.out | apply Zc | apply Za | apply Zb) | exact HB.out)) hb);clear HB;have HO120 := n0_;have HB := n1_;clear n0_ n1_;clear hb ho9;obtain ⟨Ao10,co10,eo10⟩ := Kd.Xw HO120.out;subst eo10) | ((with_reducible refine Z2 (f := 40) rfl ?_);refine ZP (some 14) rfl rfl Try.func40 (by kernel_rfl) rfl #[.slice A0 l0.length c0,.slice Ao10 y118.length co10] rfl (by (try simp only [List.map_toArray,List.map_cons,List.map_nil]);first | done | rfl | (simp only [List.length_drop,List.length_take];rfl)) ?_;(with_reducible refine (ZO.calls k _ _ l0 _ _ y118 t121 _ ?side1 ?side2 ?side3 ?side4 A4.out).mono ?_);(case side1 => repeat (first | exact (Kd.ZK HR0.out HB.out) | (with_reducible refine Kd.Z8 ?_ _) | (with_reducible refine Kd.ZB ?_ _) | (with_reducible refine Kd.ZI ?_)));(case side2 => exact HC0.out);(case side3 => repeat (first | exact (Kd.Xp HO120.out).2.2 | (with_reducible refine Kd.Z8 ?_ _) | (with_reducible refine Kd.ZB ?_ _) | (with_reducible refine Kd.ZI ?_)));(case side4 => exact (Kd.Xp HO120.out).2.1);rintro e w11 ⟨rfl,hb⟩;refine ⟨_,rfl,?_⟩;have n0_ := Zd.mk (Kd.Xn (by (with_reducible repeat (first | apply Kd.ZF | apply Kd.ZG | apply Kd.ZN));exact HO120.out) hb);have n1_ := Zd.mk (Z0 (by repeat (first | (with_reducible first | exact HB.out | apply Zc | apply Za | apply Zb) | exact HB.out)) hb);clear HO120;clear HB;have HO120 := n0_;have HB := n1_;clear n0_ n1_;(try clear hb);(try clear hb2);(try clear hk);(try clear hi)) | ((with_reducible refine Z2 (f := 42) rfl ?_);refine ZP (some 21) rfl rfl Try.func42 (by kernel_rfl) rfl #[.slice A0 l0.length c0,.int .i64 a1,.int .i64 a2] rfl (by (try simp only [List.map_toArray,List.map_cons,List.map_nil]);first | done | rfl | (simp only [List.length_drop,List.length_take];rfl)) ?_;(with_reducible refine (Xs.calls _ _ l0 a1 a2 t122 _ ?side1 ?side2 A6.out).mono ?_);(case side1 => repeat (first | exact (Kd.ZK HR0.out HB.out) | (with_reducible refine Kd.Z8 ?_ _) | (with_reducible refine Kd.ZB ?_ _) | (with_reducible refine Kd.ZI ?_)));(case side2 => exact HC0.out);rintro e w12 ⟨rfl,hb⟩;refine ⟨_,rfl,?_⟩;have n0_ := Zd.mk (Kd.Xn (by (with_reducible repeat (first | apply Kd.ZF | apply Kd.ZG | apply Kd.ZN));exact HO120.out) hb);have n1_ := Zd.mk (Z0 (by repeat (first | (with_reducible first | exact HB.out | apply Zc | apply Za | apply Zb) | exact HB.out)) hb);clear HO120;clear HB;have HO120 := n0_;have HB := n1_;clear n0_ n1_;(try clear hb);(try clear hb2);(try clear hk);(try clear hi)))
     go_ret2
     exact ⟨by first | rfl | (simp [Zt,Zv] <;> rfl) | (simp [*,Zt,Zv] <;> rfl),by repeat (first | (with_reducible first | exact HB.out | apply Zc | apply Za | apply Zb) | exact HB.out)⟩
   · rw [if_neg c7] at H
     have c7b0 : decide (1000000000 < t122) = false := decide_eq_false c7;clear c7;simp only [Option.some.injEq,Prod.mk.injEq] at H;obtain ⟨rfl,rfl⟩ := H
     go_enter Try.func13,Try.ntmps13
     go_wp2_with (first | ((with_reducible refine Xq (N := 13) rfl ?_);refine Kd.R_lit (Kd.int .i64) _ 3 ?hg (N := 13) ?hd (xs := ([a1,a2] : List Int)) (inner := [.int .i64 a1,.int .i64 a2]) (ok := fun _ => True) (okp := fun _ => True) ?hr ?hp (fun _ hk => hk) trivial (Below.refl _ _) (Nat.le_refl _) (by simp) ?_;(case hd => rfl);(case hg => rfl);(case hr => first | (go_simp;done) | (go_simp;rfl));(case hp => exact (Reps.one (show Kd.M (Kd.int .i64) _ _ _ a1 [.int .i64 a1] from rfl) (Reps.one (show Kd.M (Kd.int .i64) _ _ _ a2 [.int .i64 a2] from rfl) (Reps.none _ _))));intro v119 w13 ho14 hb hg_ hnew_;clear hg_ hnew_;(first | rw [← Ny118.out] at ho14 | (simp only [Int.reduceToNat] at ho14;rw [← Ny118.out] at ho14));have n0_ := Zd.mk (Kd.X5 ho14 (ZJ (by repeat (first | (with_reducible first | exact HB.out | apply Zc | apply Za | apply Zb) | exact HB.out))));have n1_ := Zd.mk (Z0 (by repeat (first | (with_reducible first | exact HB.out | apply Zc | apply Za | apply Zb) | exact HB.out)) hb);clear HB;have HO120 := n0_;have HB := n1_;clear n0_ n1_;clear hb ho14;obtain ⟨Ao15,co15,eo15⟩ := Kd.Xw HO120.out;subst eo15) | ((with_reducible refine Z2 (f := 40) rfl ?_);refine ZP (some 14) rfl rfl Try.func40 (by kernel_rfl) rfl #[.slice A0 l0.length c0,.slice Ao15 y118.length co15] rfl (by (try simp only [List.map_toArray,List.map_cons,List.map_nil]);first | done | rfl | (simp only [List.length_drop,List.length_take];rfl)) ?_;(with_reducible refine (ZO.calls k _ _ l0 _ _ y118 t121 _ ?side1 ?side2 ?side3 ?side4 A4.out).mono ?_);(case side1 => repeat (first | exact (Kd.ZK HR0.out HB.out) | (with_reducible refine Kd.Z8 ?_ _) | (with_reducible refine Kd.ZB ?_ _) | (with_reducible refine Kd.ZI ?_)));(case side2 => exact HC0.out);(case side3 => repeat (first | exact (Kd.Xp HO120.out).2.2 | (with_reducible refine Kd.Z8 ?_ _) | (with_reducible refine Kd.ZB ?_ _) | (with_reducible refine Kd.ZI ?_)));(case side4 => exact (Kd.Xp HO120.out).2.1);rintro e w16 ⟨rfl,hb⟩;refine ⟨_,rfl,?_⟩;have n0_ := Zd.mk (Kd.Xn (by (with_reducible repeat (first | apply Kd.ZF | apply Kd.ZG | apply Kd.ZN));exact HO120.out) hb);have n1_ := Zd.mk (Z0 (by repeat (first | (with_reducible first | exact HB.out | apply Zc | apply Za | apply Zb) | exact HB.out)) hb);clear HO120;clear HB;have HO120 := n0_;have HB := n1_;clear n0_ n1_;(try clear hb);(try clear hb2);(try clear hk);(try clear hi)) | ((with_reducible refine Z2 (f := 42) rfl ?_);refine ZP (some 21) rfl rfl Try.func42 (by kernel_rfl) rfl #[.slice A0 l0.length c0,.int .i64 a1,.int .i64 a2] rfl (by (try simp only [List.map_toArray,List.map_cons,List.map_nil]);first | done | rfl | (simp only [List.length_drop,List.length_take];rfl)) ?_;(with_reducible refine (Xs.calls _ _ l0 a1 a2 t122 _ ?side1 ?side2 A6.out).mono ?_);(case side1 => repeat (first | exact (Kd.ZK HR0.out HB.out) | (with_reducible refine Kd.Z8 ?_ _) | (with_reducible refine Kd.ZB ?_ _) | (with_reducible refine Kd.ZI ?_)));(case side2 => exact HC0.out);rintro e w17 ⟨rfl,hb⟩;refine ⟨_,rfl,?_⟩;have n0_ := Zd.mk (Kd.Xn (by (with_reducible repeat (first | apply Kd.ZF | apply Kd.ZG | apply Kd.ZN));exact HO120.out) hb);have n1_ := Zd.mk (Z0 (by repeat (first | (with_reducible first | exact HB.out | apply Zc | apply Za | apply Zb) | exact HB.out)) hb);clear HO120;clear HB;have HO120 := n0_;have HB := n1_;clear n0_ n1_;(try clear hb);(try clear hb2);(try clear hk);(try clear hi)))
     go_ret2
     exact ⟨by first | rfl | (simp [Zt,Zv] <;> rfl) | (simp [*,Zt,Zv] <;> rfl),by repeat (first | (with_reducible first | exact HB.out | apply Zc | apply Za | apply Zb) | exact HB.out)⟩
 · rw [if_neg c5] at H
   have c5b0 : (t121 == 0) = false := beq_eq_false_iff_ne.mpr c5;have c5b1 : (t121 != 0) = true := bne_iff_ne.mpr c5;simp only [Option.some.injEq,Prod.mk.injEq] at H;obtain ⟨rfl,rfl⟩ := H
   go_enter Try.func13,Try.ntmps13
   go_wp2_with (first | ((with_reducible refine Xq (N := 13) rfl ?_);refine Kd.R_lit (Kd.int .i64) _ 3 ?hg (N := 13) ?hd (xs := ([a1,a2] : List Int)) (inner := [.int .i64 a1,.int .i64 a2]) (ok := fun _ => True) (okp := fun _ => True) ?hr ?hp (fun _ hk => hk) trivial (Below.refl _ _) (Nat.le_refl _) (by simp) ?_;(case hd => rfl);(case hg => rfl);(case hr => first | (go_simp;done) | (go_simp;rfl));(case hp => exact (Reps.one (show Kd.M (Kd.int .i64) _ _ _ a1 [.int .i64 a1] from rfl) (Reps.one (show Kd.M (Kd.int .i64) _ _ _ a2 [.int .i64 a2] from rfl) (Reps.none _ _))));intro v119 w18 ho19 hb hg_ hnew_;clear hg_ hnew_;(first | rw [← Ny118.out] at ho19 | (simp only [Int.reduceToNat] at ho19;rw [← Ny118.out] at ho19));have n0_ := Zd.mk (Kd.X5 ho19 (ZJ (by repeat (first | (with_reducible first | exact HB.out | apply Zc | apply Za | apply Zb) | exact HB.out))));have n1_ := Zd.mk (Z0 (by repeat (first | (with_reducible first | exact HB.out | apply Zc | apply Za | apply Zb) | exact HB.out)) hb);clear HB;have HO120 := n0_;have HB := n1_;clear n0_ n1_;clear hb ho19;obtain ⟨Ao20,co20,eo20⟩ := Kd.Xw HO120.out;subst eo20) | ((with_reducible refine Z2 (f := 40) rfl ?_);refine ZP (some 14) rfl rfl Try.func40 (by kernel_rfl) rfl #[.slice A0 l0.length c0,.slice Ao20 y118.length co20] rfl (by (try simp only [List.map_toArray,List.map_cons,List.map_nil]);first | done | rfl | (simp only [List.length_drop,List.length_take];rfl)) ?_;(with_reducible refine (ZO.calls k _ _ l0 _ _ y118 t121 _ ?side1 ?side2 ?side3 ?side4 A4.out).mono ?_);(case side1 => repeat (first | exact (Kd.ZK HR0.out HB.out) | (with_reducible refine Kd.Z8 ?_ _) | (with_reducible refine Kd.ZB ?_ _) | (with_reducible refine Kd.ZI ?_)));(case side2 => exact HC0.out);(case side3 => repeat (first | exact (Kd.Xp HO120.out).2.2 | (with_reducible refine Kd.Z8 ?_ _) | (with_reducible refine Kd.ZB ?_ _) | (with_reducible refine Kd.ZI ?_)));(case side4 => exact (Kd.Xp HO120.out).2.1);rintro e w21 ⟨rfl,hb⟩;refine ⟨_,rfl,?_⟩;have n0_ := Zd.mk (Kd.Xn (by (with_reducible repeat (first | apply Kd.ZF | apply Kd.ZG | apply Kd.ZN));exact HO120.out) hb);have n1_ := Zd.mk (Z0 (by repeat (first | (with_reducible first | exact HB.out | apply Zc | apply Za | apply Zb) | exact HB.out)) hb);clear HO120;clear HB;have HO120 := n0_;have HB := n1_;clear n0_ n1_;(try clear hb);(try clear hb2);(try clear hk);(try clear hi)))
   go_ret2
   exact ⟨by first | rfl | (simp [Zt,Zv] <;> rfl) | (simp [*,Zt,Zv] <;> rfl),by repeat (first | (with_reducible first | exact HB.out | apply Zc | apply Za | apply Zb) | exact HB.out)⟩
end Go.Proofs.Ytomlfbmfdoallaa.PA

namespace Go.Proofs.Ytomlfbmfdoallaa.PA
open Go.RowKit Go.Proofs.YtomlfbmfdoallaaW.PrintWords Go.Proofs.YtomlfbmfdoallaaW.PrintLast Go.Proofs.YtomlfbmfdoallaaW.PrintMore
set_option linter.unusedVariables false
set_option linter.unusedSimpArgs false
def c72 (x : S72) : Array Value := #[.int .i64 x.f0.f0,.int .i64 x.f0.f1,.int .i64 x.f0.f2,.int .i64 x.f1]
def lastOr (p : S72 → Bool) : S72 → List S72 → S72
 | o,[] => o
 | o,m :: r => lastOr p (if p m = true then m else o) r
theorem set4' (W : World) (b : Nat) (cs : Array Value) (t : TypeId) (v0 v1 v2 v3 : Value) (h : Blk W b cs t) (h4 : cs.size = 4) :
 Blk ((((W.setCell ⟨b,0,none⟩ v0).setCell ⟨b,1,none⟩ v1).setCell ⟨b,2,none⟩ v2).setCell ⟨b,3,none⟩ v3) b #[v0,v1,v2,v3] t := by
 have := (((h.set 0 v0).set 1 v1).set 2 v2).set 3 v3;obtain ⟨l⟩ := cs
 match l,h4 with
 | [a,b,c,d],_ => exact this
theorem Qb {W : World} {a : Addr} {v : Value} (h : W.cell? a = some v) (o : Obj) : (W.alloc o).cell? a = some v := by
 have h1 := World.block_lt_of_cell? _ _ h;rw [World.cell?_alloc_lt _ _ _ h1];exact h
theorem rd72_drop {l r : List S72} {k : Nat} {t : S72} (h : l.drop k = t :: r) : XO l (k : Int) = t := by
 have : l[k]? = some t := by rw [← List.head?_drop,h];rfl
 simp [XO,this]
set_option maxRecDepth 100000 in
set_option maxHeartbeats 2000000 in
theorem QZ (p : S72 → Bool) (g : Nat) (lb : Array Value) (eg : ∀ args w,(callFunc g args).run Try.prog w = .ok (.enter g args) w) (A : Option Addr) (c : Nat) (l : List S72) (w : World) (h0 : 0 < l.length)
 (hp : PredB g lb (fun x => .agg (c72 x)) p w) (hr : Kd.C k72 w A l.length l) :
 Calls Try.prog 46 #[.slice A l.length c,.func (.func g) #[] lb] w fun e w' => e = .returned (.agg (c72 (lastOr p (XO l 0) l))) ∧ Below w.heap.size w w' := by
 have HR := Zd.mk hr;have HP := Zd.mk hp;have hmax : l.length ≤ 9223372036854775807 := Kd.C_max hr;clear hr hp;obtain ⟨ad,eA,hx0,hx1,hx2,hx3⟩ := YQ HR.out 0 (by omega) (by omega)
 cases eA
 simp only [Int.toNat_zero,Nat.zero_mul,Addr.add_zero'] at hx0 hx1 hx2 hx3
 have hz : (0 : Int) < (l.length : Int) := by omega
 generalize hq : XO l 0 = o0 at hx0 hx1 hx2 hx3 ⊢;have HQ := Zd.mk hq;clear hq;replace hx0 := Qb hx0;replace hx1 := Qb hx1;replace hx2 := Qb hx2;replace hx3 := Qb hx3
 go_enter Try.func46,Try.ntmps46
 go_wp2
 clear hx0 hx1 hx2 hx3
 obtain ⟨W0,hW0⟩ : ∃ W0,W0 = (w.alloc (.cells #[.int .i64 0,.int .i64 0,.int .i64 0,.int .i64 0] 72)).alloc (.cells (c72 o0) 72) := ⟨_,rfl⟩
 have k0 : Blk W0 w.heap.size #[.int .i64 0,.int .i64 0,.int .i64 0,.int .i64 0] 72 := by rw [hW0];exact (Blk.new w _ _).alloc _
 have k1 : Blk W0 (w.heap.size + 1) (c72 o0) 72 := by rw [hW0];have := Blk.new (w.alloc (.cells #[.int .i64 0,.int .i64 0,.int .i64 0,.int .i64 0] 72)) (c72 o0) 72;rw [World.size_alloc] at this;exact this
 have hb0 : Below w.heap.size w W0 := by rw [hW0];exact ((Below.refl _ w).alloc (Nat.le_refl _) _).alloc (by simp) _
 unfold c72 at hW0;rw [← hW0];clear hW0
 go_loopg [13] l.length (fun gg s13 wr => ∃ (k : Nat) (o : S72),k ≤ l.length ∧ l.length - k ≤ gg ∧ s13 = .int .i64 k ∧ Zd (lastOr p o0 l = lastOr p o (l.drop k)) ∧ Zd (Below w.heap.size w wr ∧ Blk wr w.heap.size #[.int .i64 0,.int .i64 0,.int .i64 0,.int .i64 0] 72 ∧ Blk wr (w.heap.size + 1) (c72 o) 72))
 case atStart => exact ⟨0,o0,Nat.zero_le _,by omega,rfl,⟨rfl⟩,⟨hb0,k0,k1⟩⟩
 case round =>
  clear k0 k1 hb0;obtain ⟨k,o,hk,hg,rfl,AI,HB⟩ := hrel
  by_cases hlt : k < l.length
  · have hltz : (k : Int) < (l.length : Int) := by omega
    obtain ⟨ad2,eA,hx0,hx1,hx2,hx3⟩ := YQ (Kd.ZK HR.out HB.out.1) (k : Int) (by omega) (by omega)
    cases eA
    simp only [Int.toNat_natCast] at hx0 hx1 hx2 hx3;generalize hq : XO l (k : Int) = m at hx0 hx1 hx2 hx3
    obtain ⟨m',r,hd⟩ : ∃ t r,l.drop k = t :: r := ⟨_,_,List.drop_eq_getElem_cons hlt⟩
    obtain rfl : m = m' := by rw [← hq,rd72_drop hd]
    have HD := Zd.mk hd;clear hd hq;obtain ⟨BW,B0,B1⟩ := HB.out;have hcall := HP.out (wr.alloc (.cells #[.int .i64 m.f0.f0,.int .i64 m.f0.f1,.int .i64 m.f0.f2,.int .i64 m.f1] 72)) m (BW.alloc BW.size _);unfold c72 at hcall;have i0 : wr.cell? ⟨w.heap.size + 1,0,none⟩ = some (.int .i64 o.f0.f0) := B1.cell 0 rfl;have i1 : wr.cell? ⟨w.heap.size + 1,1,none⟩ = some (.int .i64 o.f0.f1) := B1.cell 1 rfl;have i2 : wr.cell? ⟨w.heap.size + 1,2,none⟩ = some (.int .i64 o.f0.f2) := B1.cell 2 rfl;have i3 : wr.cell? ⟨w.heap.size + 1,3,none⟩ = some (.int .i64 o.f1) := B1.cell 3 rfl;have z0 := B1.frozen 0;have z1 := B1.frozen 1;have z2 := B1.frozen 2;have z3 := B1.frozen 3;have hlt0 := B1.lt;have HBW := Zd.mk BW;clear BW HB
    cases hq : p m with
    | true =>
     rw [hq] at hcall;have HQm := Zd.mk hq;clear hq
     go_wp2_with (fail)
     refine hcall.mono ?_;rintro e w1 ⟨rfl,hb1⟩;clear hcall;have BM : Blk w1 wr.heap.size (c72 m) 72 := (Blk.new wr (c72 m) 72).Xv hb1;have y0 : w1.cell? ⟨wr.heap.size,0,none⟩ = some (.int .i64 m.f0.f0) := BM.cell 0 rfl;have y1 : w1.cell? ⟨wr.heap.size,1,none⟩ = some (.int .i64 m.f0.f1) := BM.cell 1 rfl;have y2 : w1.cell? ⟨wr.heap.size,2,none⟩ = some (.int .i64 m.f0.f2) := BM.cell 2 rfl;have y3 : w1.cell? ⟨wr.heap.size,3,none⟩ = some (.int .i64 m.f1) := BM.cell 3 rfl;have B0' : Blk w1 w.heap.size _ 72 := (B0.alloc _).Xv hb1;have B1' : Blk w1 (w.heap.size + 1) _ 72 := (B1.alloc _).Xv hb1;have x0 : w1.cell? ⟨w.heap.size + 1,0,none⟩ = some (.int .i64 o.f0.f0) := B1'.cell 0 rfl;have x1 : w1.cell? ⟨w.heap.size + 1,1,none⟩ = some (.int .i64 o.f0.f1) := B1'.cell 1 rfl;have x2 : w1.cell? ⟨w.heap.size + 1,2,none⟩ = some (.int .i64 o.f0.f2) := B1'.cell 2 rfl;have x3 : w1.cell? ⟨w.heap.size + 1,3,none⟩ = some (.int .i64 o.f1) := B1'.cell 3 rfl;have t0 := B1'.frozen 0;have t1 := B1'.frozen 1;have t2 := B1'.frozen 2;have t3 := B1'.frozen 3;have hb2 : Below w.heap.size w w1 := (HBW.out.alloc HBW.out.size _).trans (hb1.mono (by simp;have := HBW.out.size;omega));have HX := Zd.mk (And.intro hb2 (And.intro B0' B1'));clear B0' B1' hb2 hb1 B0 B1 BM
     go_wp2_with (fail)
     go_roundg (l.length - (k + 1))
     case measure => omega
     case rel =>
      obtain ⟨hb2,B0',B1'⟩ := HX.out;refine ⟨k + 1,m,by omega,by omega,by go_num,⟨?_⟩,⟨?_,?_,set4' _ _ _ _ _ _ _ _ B1' rfl⟩⟩
      · rw [AI.out,HD.out,← List.drop_drop,HD.out];simp [lastOr,HQm.out]
      · exact (((hb2.setCell (by show _ ≤ w.heap.size + 1;omega) _).setCell (by show _ ≤ w.heap.size + 1;omega) _).setCell (by show _ ≤ w.heap.size + 1;omega) _).setCell (by show _ ≤ w.heap.size + 1;omega) _
      · exact (((B0'.other _ (by show _ ≠ w.heap.size + 1;omega)).other _ (by show _ ≠ w.heap.size + 1;omega)).other _ (by show _ ≠ w.heap.size + 1;omega)).other _ (by show _ ≠ w.heap.size + 1;omega)
    | false =>
     rw [hq] at hcall;have HQm := Zd.mk hq;clear hq
     go_wp2_with (fail)
     refine hcall.mono ?_;rintro e w1 ⟨rfl,hb1⟩;clear hcall;have B0' : Blk w1 w.heap.size _ 72 := (B0.alloc _).Xv hb1;have B1' : Blk w1 (w.heap.size + 1) _ 72 := (B1.alloc _).Xv hb1;have hb2 : Below w.heap.size w w1 := (HBW.out.alloc HBW.out.size _).trans (hb1.mono (by simp;have := HBW.out.size;omega));have HX := Zd.mk (And.intro hb2 (And.intro B0' B1'));clear B0' B1' hb2 hb1 B0 B1
     go_wp2_with (fail)
     go_roundg (l.length - (k + 1))
     case measure => omega
     case rel => exact ⟨k + 1,o,by omega,by omega,by go_num,⟨by rw [AI.out,HD.out,← List.drop_drop,HD.out];simp [lastOr,HQm.out]⟩,HX⟩
  · obtain ⟨BW,B0,B1⟩ := HB.out
    have i0 : wr.cell? ⟨w.heap.size + 1,0,none⟩ = some (.int .i64 o.f0.f0) := B1.cell 0 rfl;have i1 : wr.cell? ⟨w.heap.size + 1,1,none⟩ = some (.int .i64 o.f0.f1) := B1.cell 1 rfl;have i2 : wr.cell? ⟨w.heap.size + 1,2,none⟩ = some (.int .i64 o.f0.f2) := B1.cell 2 rfl;have i3 : wr.cell? ⟨w.heap.size + 1,3,none⟩ = some (.int .i64 o.f1) := B1.cell 3 rfl;have j0 : wr.cell? ⟨w.heap.size,0,none⟩ = some (.int .i64 0) := B0.cell 0 rfl;have j1 : wr.cell? ⟨w.heap.size,1,none⟩ = some (.int .i64 0) := B0.cell 1 rfl;have j2 : wr.cell? ⟨w.heap.size,2,none⟩ = some (.int .i64 0) := B0.cell 2 rfl;have j3 : wr.cell? ⟨w.heap.size,3,none⟩ = some (.int .i64 0) := B0.cell 3 rfl;have z0 := B0.frozen 0;have z1 := B0.frozen 1;have z2 := B0.frozen 2;have z3 := B0.frozen 3;have hs := set4' _ _ _ _ (.int .i64 o.f0.f0) (.int .i64 o.f0.f1) (.int .i64 o.f0.f2) (.int .i64 o.f1) B0 rfl;have HS := Zd.mk hs;have HBW := Zd.mk BW;clear hs BW B0 B1 HB
    go_wp2_with (fail)
    have g0 := HS.out.cell 0 rfl;have g1 := HS.out.cell 1 rfl;have g2 := HS.out.cell 2 rfl;have g3 := HS.out.cell 3 rfl;refine bodyPost_ret (v := .agg (c72 o)) (by simp [results,Try.results46,go_sem,g0,g1,g2,g3,c72]) rfl ⟨?_,?_⟩
    · rw [AI.out,List.drop_eq_nil_of_le (by omega)];rfl
    · exact (((HBW.out.setCell (Nat.le_refl _) _).setCell (Nat.le_refl _) _).setCell (Nat.le_refl _) _).setCell (Nat.le_refl _) _
end Go.Proofs.Ytomlfbmfdoallaa.PA

namespace Go.Proofs.Ytomlfbmfdoallaa.PA
open Go.RowKit Go.Proofs.YtomlfbmfdoallaaW.PrintWords Go.Proofs.YtomlfbmfdoallaaW.PrintLast Go.Proofs.YtomlfbmfdoallaaW.PrintMore
attribute [local go_sem] Xf Xe Xj Xk ZV ZU Xd Xc
set_option linter.unusedVariables false
set_option linter.unusedSimpArgs false
mutual
def Z7.j0 : Nat → List (S61) → Bool → Option (Bool)
 | 0,_,_ => none
 | k + 1,x0,x15 => if x15 = true then (some false) else (Z7.l0 k x0 x0 (x0.length : Int) 0)
def Z7.l0 : Nat → List (S61) → List (S61) → Int → Int → Option (Bool)
 | 0,_,_,_,_ => none
 | k + 1,x0,x16,x17,x18 => if x18 < x17 then (if 0 ≤ x18 then (if x18 < (x16.length : Int) then ((Z1.f ((ZR x16 x18).f0) 0 1000000000).bind fun t127 => (if t127 = true then ((Z1.f ((ZR x16 x18).f1) 1 32).bind fun t128 => (if t128 = true then ((Z1.f ((ZR x16 x18).f2) 1 10000).bind fun t129 => (if t129 = true then (if x18 > 0 then (none) else (Z7.l0 k x0 x16 x17 (wrap64 (x18 + 1)))) else (none))) else (none))) else (none))) else (none)) else (none)) else (some true)
end
def Z7.f (k : Nat) (l0 : List (S61)) : Option (Bool) := (Z1.f (l0.length : Int) 1 50).bind fun t123 => (if t123 = true then (if 0 < (l0.length : Int) then (Z7.j0 k l0 (((ZR l0 0).f0) != 0)) else (none)) else (Z7.j0 k l0 true))
theorem Z7.Xm : ∀ k,(∀ y0 y1,LeO (Z7.j0 k y0 y1) (Z7.j0 (k + 1) y0 y1)) ∧ (∀ y0 y1 y2 y3,LeO (Z7.l0 k y0 y1 y2 y3) (Z7.l0 (k + 1) y0 y1 y2 y3))
 | 0 => ⟨fun _ _ r h => by simp [Z7.j0] at h,fun _ _ _ _ r h => by simp [Z7.l0] at h⟩
 | k + 1 => by
  obtain ⟨ih0,ih1⟩ := Z7.Xm k;refine ⟨?_,?_⟩
  · intro y0 y1
    unfold Z7.j0
    repeat' first
    | (with_reducible exact ih0 _ _)
    | (with_reducible exact ih1 _ _ _ _)
    | (with_reducible exact LeO.refl _)
    | (with_reducible exact LeO.none _)
    | (with_reducible refine LeO.ite ?_ ?_)
    | (with_reducible refine LeO.bind ?_ (fun _ => ?_))
    | exact ih0 _ _
    | exact ih1 _ _ _ _
    | exact LeO.none _
    | refine LeO.ite ?_ ?_
    | refine LeO.bind ?_ (fun _ => ?_)
  · intro y0 y1 y2 y3
    unfold Z7.l0
    repeat' first
    | (with_reducible exact ih0 _ _)
    | (with_reducible exact ih1 _ _ _ _)
    | (with_reducible exact LeO.refl _)
    | (with_reducible exact LeO.none _)
    | (with_reducible refine LeO.ite ?_ ?_)
    | (with_reducible refine LeO.bind ?_ (fun _ => ?_))
    | exact ih0 _ _
    | exact ih1 _ _ _ _
    | exact LeO.none _
    | refine LeO.ite ?_ ?_
    | refine LeO.bind ?_ (fun _ => ?_)
theorem Z7.mono : ∀ a0 k,LeO (Z7.f k a0) (Z7.f (k + 1) a0) := by
 intro a0 k;obtain ⟨ih0,ih1⟩ := Z7.Xm k;unfold Z7.f
 repeat' first
  | (with_reducible exact ih0 _ _)
  | (with_reducible exact ih1 _ _ _ _)
  | (with_reducible exact LeO.refl _)
  | (with_reducible exact LeO.none _)
  | (with_reducible refine LeO.ite ?_ ?_)
  | (with_reducible refine LeO.bind ?_ (fun _ => ?_))
  | exact ih0 _ _
  | exact ih1 _ _ _ _
  | exact LeO.none _
  | refine LeO.ite ?_ ?_
  | refine LeO.bind ?_ (fun _ => ?_)
def Z7.T6 : Bool × List (List Nat × List Nat) := (true,[([],[]),([0],[0]),([1],[1]),([2],[2]),([3,2],[3]),([4],[4]),([5,4],[4,5]),([6,4,4],[4,6]),([7,4],[4,7]),([4,8],[4,8]),([9,7],[9]),([10],[10]),([11,10],[10,11]),([12,10,10],[10,12]),([13,10],[10,13]),([10,14],[10,14]),([15,13],[15]),([16],[16]),([17,16],[16,17]),([18,16,16],[16,18]),([19],[19]),([19],[19]),([21,19],[19,21]),([20,22,19],[19,20,22]),([23,19],[19,23]),([24,19],[19,24]),([19],[19]),([26,19],[19,26]),([25,27,19],[19,25,27]),([19,28,16],[16,19,28]),([16,29],[16,29])])
def Z7.B6 : List Nat := [0,1,3,7,15,31,63,127,255,511,1023,2047,4095,8191,16383,32767,65535,131071,262143,524287,1048575,1048575,3145727,8388607,16777215,33554431,1048575,68157439,268435455,536870911,1073741823]
theorem Z7.tab6 : rtab .any (opsOf Try.f18 6) = Z7.T6 := by kernel_rfl
theorem Z7.bits6 : waitsOk Z7.T6.2 Z7.B6 = true := by kernel_rfl
set_option maxHeartbeats 8000000 in
set_option maxRecDepth 100000 in
theorem Z7.calls (k : Nat) (A0 : Option Addr) (c0 : Nat) (l0 : List (S61)) (r : Bool) (w : World) (hr0 : Kd.C k61 w A0 l0.length l0) (hc0 : l0.length ≤ c0) (h : Z7.f k l0 = some r) :
 Calls Try.prog 18 #[.slice A0 l0.length c0] w fun e w' => e = .returned (.bool r) ∧ Below w.heap.size w w' := by
 have hu61 := Try.underlying61;have HR0 := Zd.mk hr0;have HC0 := Zd.mk hc0;clear hr0 hc0;have HB := Zd.mk (Below.refl w.heap.size w);have H : ((Z1.f (l0.length : Int) 1 50).bind fun t123 => (if t123 = true then (if 0 < (l0.length : Int) then (Z7.j0 k l0 (((ZR l0 0).f0) != 0)) else (none)) else (Z7.j0 k l0 true))) = some r := h;clear h;have HC2 := Zd.mk H;clear H
 go_enter Try.func18,Try.ntmps18
 go_upto_region 1 with (fail)
 go_cut [15] (fun v15 wc => ∃ (kq : Nat) (x15_1 : Bool),v15 = .bool x15_1 ∧ Zd (Z7.j0 kq l0 x15_1 = some r) ∧ Zd (kq ≤ k) ∧ Zd (Below w.heap.size w wc))
 case first =>
  have H := HC2.out;clear HC2;replace H := Option.bind_eq_some_iff.mp H;obtain ⟨t123,A30,H⟩ := H;replace H : (if t123 = true then (if 0 < (l0.length : Int) then (Z7.j0 k l0 (((ZR l0 0).f0) != 0)) else (none)) else (Z7.j0 k l0 true)) = some r := H;have A3 := Zd.mk A30;clear A30
  by_cases c4 : t123 = true
  · subst c4
    have H1 : (if 0 < (l0.length : Int) then (Z7.j0 k l0 (((ZR l0 0).f0) != 0)) else (none)) = some r := by rw [if_pos rfl] at H;exact H
    clear H;have H := H1;clear H1
    by_cases c5 : 0 < (l0.length : Int)
    · rw [if_pos c5] at H
      have c5b0 : decide (0 < (l0.length : Int)) = true := decide_eq_true c5;have c5b1 : decide (0 < l0.length) = true := decide_eq_true (by omega);clear c5
      (first | rw [c5b0] | (simp only [i64_w,i32_w];rw [c5b0]) | skip)
      have H' := Zd.mk H;clear H
      go_wp2_with (first | ((with_reducible refine Z2 (f := 43) rfl ?_);refine ZP (some 7) rfl rfl Try.func43 (by kernel_rfl) rfl #[.int .i64 (l0.length : Int),.int .i64 1,.int .i64 50] rfl (by (try simp only [List.map_toArray,List.map_cons,List.map_nil]);first | done | rfl | (simp only [List.length_drop,List.length_take];rfl)) ?_;(with_reducible refine (Z1.calls (l0.length : Int) 1 50 true _ A3.out).mono ?_);rintro e w' ⟨rfl,⟨nd,rfl⟩⟩;refine ⟨_,rfl,?_⟩;have p124 : 0 ≤ (0 : Int) := (by omega);have q124 : 0 < (l0.length : Int) := of_decide_eq_true (by first | (with_reducible assumption) | assumption);obtain ⟨ad124,e124,hx124_0,hx124_1,hx124_2⟩ := YB HR0.out 0 p124 q124;cases e124;have qi124 : (0 < l0.length) = True := eq_true (by omega);(try rw [show ((0 : Int)).toNat = 0 from rfl] at hx124_0);(try rw [show 0 * 3 = 0 from rfl] at hx124_0);(try rw [Addr.add_zero'] at hx124_0);(try rw [show ((0 : Int)).toNat = 0 from rfl] at hx124_1);(try rw [show 0 * 3 = 0 from rfl] at hx124_1);(try rw [Addr.add_zero'] at hx124_1);(try rw [show ((0 : Int)).toNat = 0 from rfl] at hx124_2);(try rw [show 0 * 3 = 0 from rfl] at hx124_2);(try rw [Addr.add_zero'] at hx124_2);replace hx124_0 := (HB.out.cell (World.block_lt_of_cell? w _ hx124_0)).trans hx124_0;replace hx124_1 := (HB.out.cell (World.block_lt_of_cell? w _ hx124_1)).trans hx124_1;replace hx124_2 := (HB.out.cell (World.block_lt_of_cell? w _ hx124_2)).trans hx124_2;replace p124 := eq_true p124;replace q124 := eq_true q124))
      go_meet
      case rel => exact ⟨_,((((ZR l0 0).f0) != 0)),(by first | rfl | (simp;done) | (simp [*];done)),H',⟨by first | omega | exact Nat.le_refl _⟩,⟨by repeat (first | (with_reducible first | exact HB.out | apply Zc | apply Za | apply Zb) | exact HB.out)⟩⟩
    · rw [if_neg c5] at H
      exact absurd H (by simp)
  · replace c4 := Bool.eq_false_iff.mpr c4
    subst c4
    have H1 : (Z7.j0 k l0 true) = some r := by rw [if_neg (show ¬ (false = true) by decide)] at H;exact H
    clear H;have H := H1;clear H1;have H' := Zd.mk H;clear H
    go_wp2_with (first | ((with_reducible refine Z2 (f := 43) rfl ?_);refine ZP (some 7) rfl rfl Try.func43 (by kernel_rfl) rfl #[.int .i64 (l0.length : Int),.int .i64 1,.int .i64 50] rfl (by (try simp only [List.map_toArray,List.map_cons,List.map_nil]);first | done | rfl | (simp only [List.length_drop,List.length_take];rfl)) ?_;(with_reducible refine (Z1.calls (l0.length : Int) 1 50 false _ A3.out).mono ?_);rintro e w' ⟨rfl,⟨nd,rfl⟩⟩;refine ⟨_,rfl,?_⟩))
    go_meet
    case rel => exact ⟨_,(true),(by first | rfl | (simp;done) | (simp [*];done)),H',⟨by first | omega | exact Nat.le_refl _⟩,⟨by repeat (first | (with_reducible first | exact HB.out | apply Zc | apply Za | apply Zb) | exact HB.out)⟩⟩
 case rest =>
  clear HC2
  (try clear c1); (try clear p1); (try clear q1); (try clear hx1); (try clear qi1); (try clear p2); (try clear c4); (try clear c5); (try clear c5b0); (try clear c5b1); (try clear hx124_0); (try clear hx124_1); (try clear hx124_2); (try clear p124); (try clear q124)
  obtain ⟨kq,x15_1,rfl,HA,HJ1,HB⟩ := hcut
  cases kq with
  | zero => exact absurd HA.out (by simp [Z7.j0])
  | succ kj1 =>
   have H := HA.out;clear HA;simp only [Z7.j0] at H
   by_cases c6 : x15_1 = true
   · subst c6
     have H1 : (some false) = some r := by rw [if_pos rfl] at H;exact H
     clear H;have H := H1;clear H1;obtain rfl := Option.some.inj H
     go_wp2
     go_ret;exact ⟨by first | rfl | (simp [Zt,Zv] <;> rfl) | (simp [*,Zt,Zv] <;> rfl),by repeat (first | (with_reducible first | exact HB.out | apply Zc | apply Za | apply Zb) | exact HB.out)⟩
   · replace c6 := Bool.eq_false_iff.mpr c6
     subst c6
     have H1 : (Z7.l0 kj1 l0 l0 (l0.length : Int) 0) = some r := by rw [if_neg (show ¬ (false = true) by decide)] at H;exact H
     clear H;have H := H1;clear H1;have H' := Zd.mk H;clear H
     go_wp2
     go_loopg [18] kj1 (fun kq v18 w' => ∃ (x18_2 : Int),v18 = .int .i64 x18_2 ∧ Zd (Z7.l0 kq l0 l0 (l0.length : Int) x18_2 = some r) ∧ Zd (kq ≤ kj1) ∧ Zd (Below w.heap.size w w'))
     case atStart => exact ⟨(0),(by first | rfl | (simp;done) | (simp [*];done)),H',⟨Nat.le_refl _⟩,⟨by repeat (first | (with_reducible first | exact HB.out | apply Zc | apply Za | apply Zb) | exact HB.out)⟩⟩
     case round =>
      clear H'
      (try clear c1); (try clear p1); (try clear q1); (try clear hx1); (try clear qi1); (try clear p2); (try clear c4); (try clear c5); (try clear c5b0); (try clear c5b1); (try clear c6); (try clear hx124_0); (try clear hx124_1); (try clear hx124_2); (try clear p1); (try clear p124); (try clear p2); (try clear q1); (try clear q124)
      obtain ⟨x18_2,rfl,HA,HK2,HB⟩ := hrel
      cases gk with
      | zero => exact absurd HA.out (by simp [Z7.l0])
      | succ k2 =>
       have H := HA.out;clear HA;simp only [Z7.l0] at H
       by_cases c7 : x18_2 < (l0.length : Int)
       · rw [if_pos c7] at H
         have c7b0 : decide (x18_2 < (l0.length : Int)) = true := decide_eq_true c7;clear c7
         by_cases c8 : 0 ≤ x18_2
         · rw [if_pos c8] at H
           have c8b0 : decide (0 ≤ x18_2) = true := decide_eq_true c8;clear c8
           by_cases c9 : x18_2 < (l0.length : Int)
           · rw [if_pos c9] at H
             have c9b0 : decide (x18_2 < (l0.length : Int)) = true := decide_eq_true c9;clear c9;replace H := Option.bind_eq_some_iff.mp H;obtain ⟨t127,A100,H⟩ := H;replace H : (if t127 = true then ((Z1.f ((ZR l0 x18_2).f1) 1 32).bind fun t128 => (if t128 = true then ((Z1.f ((ZR l0 x18_2).f2) 1 10000).bind fun t129 => (if t129 = true then (if x18_2 > 0 then (none) else (Z7.l0 k2 l0 l0 (l0.length : Int) (wrap64 (x18_2 + 1)))) else (none))) else (none))) else (none)) = some r := H;have A10 := Zd.mk A100;clear A100
             by_cases c11 : t127 = true
             · subst c11
               have H1 : ((Z1.f ((ZR l0 x18_2).f1) 1 32).bind fun t128 => (if t128 = true then ((Z1.f ((ZR l0 x18_2).f2) 1 10000).bind fun t129 => (if t129 = true then (if x18_2 > 0 then (none) else (Z7.l0 k2 l0 l0 (l0.length : Int) (wrap64 (x18_2 + 1)))) else (none))) else (none))) = some r := by rw [if_pos rfl] at H;exact H
               clear H;have H := H1;clear H1;replace H := Option.bind_eq_some_iff.mp H;obtain ⟨t128,A120,H⟩ := H;replace H : (if t128 = true then ((Z1.f ((ZR l0 x18_2).f2) 1 10000).bind fun t129 => (if t129 = true then (if x18_2 > 0 then (none) else (Z7.l0 k2 l0 l0 (l0.length : Int) (wrap64 (x18_2 + 1)))) else (none))) else (none)) = some r := H;have A12 := Zd.mk A120;clear A120
               by_cases c13 : t128 = true
               · subst c13
                 have H1 : ((Z1.f ((ZR l0 x18_2).f2) 1 10000).bind fun t129 => (if t129 = true then (if x18_2 > 0 then (none) else (Z7.l0 k2 l0 l0 (l0.length : Int) (wrap64 (x18_2 + 1)))) else (none))) = some r := by rw [if_pos rfl] at H;exact H
                 clear H;have H := H1;clear H1;replace H := Option.bind_eq_some_iff.mp H;obtain ⟨t129,A140,H⟩ := H;replace H : (if t129 = true then (if x18_2 > 0 then (none) else (Z7.l0 k2 l0 l0 (l0.length : Int) (wrap64 (x18_2 + 1)))) else (none)) = some r := H;have A14 := Zd.mk A140;clear A140
                 by_cases c15 : t129 = true
                 · subst c15
                   have H1 : (if x18_2 > 0 then (none) else (Z7.l0 k2 l0 l0 (l0.length : Int) (wrap64 (x18_2 + 1)))) = some r := by rw [if_pos rfl] at H;exact H
                   clear H;have H := H1;clear H1
                   by_cases c16 : x18_2 > 0
                   · rw [if_pos c16] at H;exact absurd H (by simp)
                   · rw [if_neg c16] at H
                     have c16b0 : decide (0 < x18_2) = false := decide_eq_false c16;clear c16;have H' := Zd.mk H;clear H;have p125 : 0 ≤ (x18_2 : Int) := of_decide_eq_true (by first | (with_reducible assumption) | assumption);have q125 : x18_2 < (l0.length : Int) := of_decide_eq_true (by first | (with_reducible assumption) | assumption);obtain ⟨ad125,e125,hx125_0,hx125_1,hx125_2⟩ := YB HR0.out x18_2 p125 q125
                     cases e125
                     replace hx125_0 := (HB.out.cell (World.block_lt_of_cell? w _ hx125_0)).trans hx125_0;replace hx125_1 := (HB.out.cell (World.block_lt_of_cell? w _ hx125_1)).trans hx125_1;replace hx125_2 := (HB.out.cell (World.block_lt_of_cell? w _ hx125_2)).trans hx125_2;replace p125 := eq_true p125;replace q125 := eq_true q125
                     try go_wp2_with (first | ((with_reducible refine Xq (N := 4) rfl ?_);refine Xy ?hg (N := 4) ?hd (cs := #[.int .i64 0,.int .i64 0,.int .i64 0]) (t := 61) ?hr ?_;(case hd => rfl);(case hg => rfl);(case hr => first | (go_simp;done) | (go_simp;rfl));intro gb126 hg w29 hbox hb;have n0_ := Zd.mk (Z0 (by repeat (first | (with_reducible first | exact HB.out | apply Zc | apply Za | apply Zb) | exact HB.out)) hb);have n1_ := Zd.mk (hbox);have n2_ := Zd.mk ((by rw [hg];exact (ZJ (by repeat (first | (with_reducible first | exact HB.out | apply Zc | apply Za | apply Zb) | exact HB.out))) : w.heap.size ≤ gb126));have n3_ := Zd.mk ((by rw [hg];exact (ZJ (by repeat (first | (with_reducible first | exact HB.out | apply Zc | apply Za | apply Zb) | exact HB.out))) : w.heap.size ≤ gb126));clear HB;have HB := n0_;have BK126 := n1_;have GW126 := n2_;have GE126 := n3_;clear n0_ n1_ n2_ n3_;clear hb hbox hg;have hcz30_0 : w29.cell? ⟨gb126,0,none⟩ = some (.int .i64 0) := (Zm BK126.out 0).trans rfl;have hcz30_1 : w29.cell? ⟨gb126,1,none⟩ = some (.int .i64 0) := (Zm BK126.out 1).trans rfl;have hcz30_2 : w29.cell? ⟨gb126,2,none⟩ = some (.int .i64 0) := (Zm BK126.out 2).trans rfl;have hfz30_0 := Zr BK126.out 0;have hfz30_1 := Zr BK126.out 1;have hfz30_2 := Zr BK126.out 2))
                     have n0_ : Zd ((((w29.setCell ⟨gb126,0,none⟩ (.int .i64 ((ZR l0 x18_2).f0))).setCell ⟨gb126,1,none⟩ (.int .i64 ((ZR l0 x18_2).f1))).setCell ⟨gb126,2,none⟩ (.int .i64 ((ZR l0 x18_2).f2))).heap[gb126]? = some (.cells #[.int .i64 ((ZR l0 x18_2).f0),.int .i64 ((ZR l0 x18_2).f1),.int .i64 ((ZR l0 x18_2).f2)] 61 (0,0))) := ⟨by (with_reducible repeat (first | refine Zu ?_ _ | refine Zw ?_ | refine Zs ?_ _));refine ZE (cs := #[.int .i64 ((ZR l0 x18_2).f0),.int .i64 ((ZR l0 x18_2).f1),.int .i64 0]) ?_ 2 _ rfl;(with_reducible repeat (first | refine Zu ?_ _ | refine Zw ?_ | refine Zs ?_ _));refine ZE (cs := #[.int .i64 ((ZR l0 x18_2).f0),.int .i64 0,.int .i64 0]) ?_ 1 _ rfl;(with_reducible repeat (first | refine Zu ?_ _ | refine Zw ?_ | refine Zs ?_ _));refine ZE (cs := #[.int .i64 0,.int .i64 0,.int .i64 0]) ?_ 0 _ rfl;(with_reducible repeat (first | refine Zu ?_ _ | refine Zw ?_ | refine Zs ?_ _));exact BK126.out⟩
                     have n1_ : Zd (Below w.heap.size w (((w29.setCell ⟨gb126,0,none⟩ (.int .i64 ((ZR l0 x18_2).f0))).setCell ⟨gb126,1,none⟩ (.int .i64 ((ZR l0 x18_2).f1))).setCell ⟨gb126,2,none⟩ (.int .i64 ((ZR l0 x18_2).f2)))) := ⟨by repeat (first | (with_reducible first | exact HB.out | apply Zc | apply Za | apply Zb | refine Z9 ?_ GE126.out) | exact HB.out)⟩
                     (try clear BK126)
                     (try clear HB)
                     generalize (((w29.setCell ⟨gb126,0,none⟩ (.int .i64 ((ZR l0 x18_2).f0))).setCell ⟨gb126,1,none⟩ (.int .i64 ((ZR l0 x18_2).f1))).setCell ⟨gb126,2,none⟩ (.int .i64 ((ZR l0 x18_2).f2))) = w31 at n0_ n1_ ⊢;have BK126 := n0_;have HB := n1_;clear n0_ n1_;have n0_ := Zd.mk (Zw BK126.out);have n1_ := Zd.mk (Zb HB.out);clear BK126;clear HB;have BK126 := n0_;have HB := n1_;clear n0_ n1_;refine XE (n := 31) (S := fun w' => w'.cell? ⟨gb126,0,none⟩ = some (.int .i64 ((ZR l0 x18_2).f0)) ∧ w'.cell? ⟨gb126,1,none⟩ = some (.int .i64 ((ZR l0 x18_2).f1)) ∧ w'.cell? ⟨gb126,2,none⟩ = some (.int .i64 ((ZR l0 x18_2).f2))) (ds := []) #[U,U,U,U,U,U,U,U,U,U,U,U,U,U,U,U,U,U,U,U,U,U,U,U,U,U,U,U,U,U,U] (by kernel_rfl) rfl rfl ⟨(Zm BK126.out 0).trans rfl,(Zm BK126.out 1).trans rfl,(Zm BK126.out 2).trans rfl⟩ (fun hHeld => ?_);refine X2 Z7.tab6 Z7.bits6 (fun HT_ HW_ => ?_);generalize w31.drew = w32 at BK126 HB hHeld ⊢;refine pure_ (i := 0) (N := some 23) (v := ?_) (a' := ?_) #[Y,U,U,U,U,U,U,U,U,U,U,U,U,U,U,U,U,U,U,U,U,U,U,U,U,U,U,U,U,U,U] rfl rfl (Zn HT_.out (by kernel_rfl)) (fun _ _ _ h => h) (Or.inl ⟨by rfl,?_⟩) ?_ ?_;rotate_left
                     · intro w'
                       go_simp;with_reducible rfl
                     rotate_left
                     · simp only [Act.put,YV,YW,YX,i64_w,i32_w]
                       rfl
                     refine take_ (i := 1) (N := some 24) (v := ?_) (a' := ?_) #[Y,Y,U,U,U,U,U,U,U,U,U,U,U,U,U,U,U,U,U,U,U,U,U,U,U,U,U,U,U,U,U] rfl rfl (Xh HT_.out HW_.out (by kernel_rfl)) (fun _ _ _ h => h) (Or.inl ⟨by rfl,?_⟩) hHeld ?_ ?_;rotate_left
                     · rintro w' ⟨s0,s1,s2⟩
                       go_simp;with_reducible rfl
                     rotate_left
                     · simp only [Act.put,YV,YW,YX,i64_w,i32_w]
                       rfl
                     refine one_ (i := 2) (N := some 25) #[Y,Y,Y,U,U,U,U,U,U,U,U,U,U,U,U,U,U,U,U,U,U,U,U,U,U,U,U,U,U,U,U] rfl rfl (X7 HT_.out (by kernel_rfl)) (by decide) (fun K hK => ?_);refine goes_ Try.func43 (by kernel_rfl) rfl #[.int .i64 ((ZR l0 x18_2).f0),.int .i64 0,.int .i64 1000000000] (by rfl) rfl rfl (by (try simp only [List.map_toArray,List.map_cons,List.map_nil]);first | done | rfl | (simp only [List.length_drop,List.length_take];rfl)) ?_
                     with_reducible refine (Z1.calls ((ZR l0 x18_2).f0) 0 1000000000 true _ A10.out).mono ?_
                     rintro e w' ⟨rfl,⟨nd,rfl⟩⟩;refine ⟨_,rfl,?_⟩;refine hK.out _ _ ⟨(Zm BK126.out 0).trans rfl,(Zm BK126.out 1).trans rfl,(Zm BK126.out 2).trans rfl⟩ (fun hHeld => ?_);clear hK K;refine norm_ (a' := ?_) ?_ ?_;rotate_left
                     · show Act.put _ (some 25) _ = _
                       simp only [Act.put,YV,YW,YX,i64_w,i32_w];rfl
                     refine pure_ (i := 3) (N := some 26) (v := ?_) (a' := ?_) #[Y,Y,Y,Y,U,U,U,U,U,U,U,U,U,U,U,U,U,U,U,U,U,U,U,U,U,U,U,U,U,U,U] rfl rfl (Zn HT_.out (by kernel_rfl)) (fun _ _ _ h => h) (Or.inl ⟨by rfl,?_⟩) ?_ ?_;rotate_left
                     · intro w'
                       go_simp;with_reducible rfl
                     rotate_left
                     · simp only [Act.put,YV,YW,YX,i64_w,i32_w]
                       rfl
                     refine pure_ (i := 4) (N := some 27) (v := ?_) (a' := ?_) #[Y,Y,Y,Y,Y,U,U,U,U,U,U,U,U,U,U,U,U,U,U,U,U,U,U,U,U,U,U,U,U,U,U] rfl rfl (Zn HT_.out (by kernel_rfl)) (fun _ _ _ h => h) (Or.inl ⟨by rfl,?_⟩) ?_ ?_;rotate_left
                     · intro w'
                       go_simp;with_reducible rfl
                     rotate_left
                     · simp only [Act.put,YV,YW,YX,i64_w,i32_w]
                       rfl
                     refine pure_ (i := 5) (N := some 28) (v := ?_) (a' := ?_) #[Y,Y,Y,Y,Y,Y,U,U,U,U,U,U,U,U,U,U,U,U,U,U,U,U,U,U,U,U,U,U,U,U,U] rfl rfl (Zn HT_.out (by kernel_rfl)) (fun _ _ _ h => h) (Or.inl ⟨by rfl,?_⟩) ?_ ?_;rotate_left
                     · intro w'
                       go_simp;with_reducible rfl
                     rotate_left
                     · simp only [Act.put,YV,YW,YX,i64_w,i32_w]
                       rfl
                     refine take_ (i := 6) (N := some 29) (v := ?_) (a' := ?_) #[Y,Y,Y,Y,Y,Y,Y,U,U,U,U,U,U,U,U,U,U,U,U,U,U,U,U,U,U,U,U,U,U,U,U] rfl rfl (Xh HT_.out HW_.out (by kernel_rfl)) (fun _ _ _ h => h) (Or.inl ⟨by rfl,?_⟩) hHeld ?_ ?_;rotate_left
                     · rintro w' ⟨s0,s1,s2⟩
                       go_simp;with_reducible rfl
                     rotate_left
                     · simp only [Act.put,YV,YW,YX,i64_w,i32_w]
                       rfl
                     refine one_ (i := 7) (N := some 30) #[Y,Y,Y,Y,Y,Y,Y,Y,U,U,U,U,U,U,U,U,U,U,U,U,U,U,U,U,U,U,U,U,U,U,U] rfl rfl (X7 HT_.out (by kernel_rfl)) (by decide) (fun K hK => ?_);refine goes_ Try.func43 (by kernel_rfl) rfl #[.int .i64 ((ZR l0 x18_2).f1),.int .i64 1,.int .i64 32] (by rfl) rfl rfl (by (try simp only [List.map_toArray,List.map_cons,List.map_nil]);first | done | rfl | (simp only [List.length_drop,List.length_take];rfl)) ?_
                     with_reducible refine (Z1.calls ((ZR l0 x18_2).f1) 1 32 true _ A12.out).mono ?_
                     rintro e w' ⟨rfl,⟨nd,rfl⟩⟩;refine ⟨_,rfl,?_⟩;refine hK.out _ _ ⟨(Zm BK126.out 0).trans rfl,(Zm BK126.out 1).trans rfl,(Zm BK126.out 2).trans rfl⟩ (fun hHeld => ?_);clear hK K;refine norm_ (a' := ?_) ?_ ?_;rotate_left
                     · show Act.put _ (some 30) _ = _
                       simp only [Act.put,YV,YW,YX,i64_w,i32_w];rfl
                     refine pure_ (i := 8) (N := some 31) (v := ?_) (a' := ?_) #[Y,Y,Y,Y,Y,Y,Y,Y,Y,U,U,U,U,U,U,U,U,U,U,U,U,U,U,U,U,U,U,U,U,U,U] rfl rfl (Zn HT_.out (by kernel_rfl)) (fun _ _ _ h => h) (Or.inl ⟨by rfl,?_⟩) ?_ ?_;rotate_left
                     · intro w'
                       go_simp;with_reducible rfl
                     rotate_left
                     · simp only [Act.put,YV,YW,YX,i64_w,i32_w]
                       rfl
                     refine pure_ (i := 9) (N := some 32) (v := ?_) (a' := ?_) #[Y,Y,Y,Y,Y,Y,Y,Y,Y,Y,U,U,U,U,U,U,U,U,U,U,U,U,U,U,U,U,U,U,U,U,U] rfl rfl (Zn HT_.out (by kernel_rfl)) (fun _ _ _ h => h) (Or.inl ⟨by rfl,?_⟩) ?_ ?_;rotate_left
                     · intro w'
                       go_simp;with_reducible rfl
                     rotate_left
                     · simp only [Act.put,YV,YW,YX,i64_w,i32_w]
                       rfl
                     refine pure_ (i := 10) (N := some 33) (v := ?_) (a' := ?_) #[Y,Y,Y,Y,Y,Y,Y,Y,Y,Y,Y,U,U,U,U,U,U,U,U,U,U,U,U,U,U,U,U,U,U,U,U] rfl rfl (Zn HT_.out (by kernel_rfl)) (fun _ _ _ h => h) (Or.inl ⟨by rfl,?_⟩) ?_ ?_;rotate_left
                     · intro w'
                       go_simp;with_reducible rfl
                     rotate_left
                     · simp only [Act.put,YV,YW,YX,i64_w,i32_w]
                       rfl
                     refine pure_ (i := 11) (N := some 34) (v := ?_) (a' := ?_) #[Y,Y,Y,Y,Y,Y,Y,Y,Y,Y,Y,Y,U,U,U,U,U,U,U,U,U,U,U,U,U,U,U,U,U,U,U] rfl rfl (Zn HT_.out (by kernel_rfl)) (fun _ _ _ h => h) (Or.inl ⟨by rfl,?_⟩) ?_ ?_;rotate_left
                     · intro w'
                       go_simp;with_reducible rfl
                     rotate_left
                     · simp only [Act.put,YV,YW,YX,i64_w,i32_w]
                       rfl
                     refine take_ (i := 12) (N := some 35) (v := ?_) (a' := ?_) #[Y,Y,Y,Y,Y,Y,Y,Y,Y,Y,Y,Y,Y,U,U,U,U,U,U,U,U,U,U,U,U,U,U,U,U,U,U] rfl rfl (Xh HT_.out HW_.out (by kernel_rfl)) (fun _ _ _ h => h) (Or.inl ⟨by rfl,?_⟩) hHeld ?_ ?_;rotate_left
                     · rintro w' ⟨s0,s1,s2⟩
                       go_simp;with_reducible rfl
                     rotate_left
                     · simp only [Act.put,YV,YW,YX,i64_w,i32_w]
                       rfl
                     refine one_ (i := 13) (N := some 36) #[Y,Y,Y,Y,Y,Y,Y,Y,Y,Y,Y,Y,Y,Y,U,U,U,U,U,U,U,U,U,U,U,U,U,U,U,U,U] rfl rfl (X7 HT_.out (by kernel_rfl)) (by decide) (fun K hK => ?_);refine goes_ Try.func43 (by kernel_rfl) rfl #[.int .i64 ((ZR l0 x18_2).f2),.int .i64 1,.int .i64 10000] (by rfl) rfl rfl (by (try simp only [List.map_toArray,List.map_cons,List.map_nil]);first | done | rfl | (simp only [List.length_drop,List.length_take];rfl)) ?_
                     with_reducible refine (Z1.calls ((ZR l0 x18_2).f2) 1 10000 true _ A14.out).mono ?_
                     rintro e w' ⟨rfl,⟨nd,rfl⟩⟩;refine ⟨_,rfl,?_⟩;refine hK.out _ _ ⟨(Zm BK126.out 0).trans rfl,(Zm BK126.out 1).trans rfl,(Zm BK126.out 2).trans rfl⟩ (fun hHeld => ?_);clear hK K;refine norm_ (a' := ?_) ?_ ?_;rotate_left
                     · show Act.put _ (some 36) _ = _
                       simp only [Act.put,YV,YW,YX,i64_w,i32_w];rfl
                     refine pure_ (i := 14) (N := some 37) (v := ?_) (a' := ?_) #[Y,Y,Y,Y,Y,Y,Y,Y,Y,Y,Y,Y,Y,Y,Y,U,U,U,U,U,U,U,U,U,U,U,U,U,U,U,U] rfl rfl (Zn HT_.out (by kernel_rfl)) (fun _ _ _ h => h) (Or.inl ⟨by rfl,?_⟩) ?_ ?_;rotate_left
                     · intro w'
                       go_simp;with_reducible rfl
                     rotate_left
                     · simp only [Act.put,YV,YW,YX,i64_w,i32_w]
                       rfl
                     refine pure_ (i := 15) (N := some 38) (v := ?_) (a' := ?_) #[Y,Y,Y,Y,Y,Y,Y,Y,Y,Y,Y,Y,Y,Y,Y,Y,U,U,U,U,U,U,U,U,U,U,U,U,U,U,U] rfl rfl (Zn HT_.out (by kernel_rfl)) (fun _ _ _ h => h) (Or.inl ⟨by rfl,?_⟩) ?_ ?_;rotate_left
                     · intro w'
                       go_simp;with_reducible rfl
                     rotate_left
                     · simp only [Act.put,YV,YW,YX,i64_w,i32_w]
                       rfl
                     refine pure_ (i := 16) (N := some 39) (v := ?_) (a' := ?_) #[Y,Y,Y,Y,Y,Y,Y,Y,Y,Y,Y,Y,Y,Y,Y,Y,Y,U,U,U,U,U,U,U,U,U,U,U,U,U,U] rfl rfl (Zn HT_.out (by kernel_rfl)) (fun _ _ _ h => h) (Or.inl ⟨by rfl,?_⟩) ?_ ?_;rotate_left
                     · intro w'
                       go_simp;with_reducible rfl
                     rotate_left
                     · simp only [Act.put,YV,YW,YX,i64_w,i32_w]
                       rfl
                     refine pure_ (i := 17) (N := some 40) (v := ?_) (a' := ?_) #[Y,Y,Y,Y,Y,Y,Y,Y,Y,Y,Y,Y,Y,Y,Y,Y,Y,Y,U,U,U,U,U,U,U,U,U,U,U,U,U] rfl rfl (Zn HT_.out (by kernel_rfl)) (fun _ _ _ h => h) (Or.inl ⟨by rfl,?_⟩) ?_ ?_;rotate_left
                     · intro w'
                       go_simp;with_reducible rfl
                     rotate_left
                     · simp only [Act.put,YV,YW,YX,i64_w,i32_w]
                       rfl
                     refine pure_ (i := 18) (N := some 41) (v := ?_) (a' := ?_) #[Y,Y,Y,Y,Y,Y,Y,Y,Y,Y,Y,Y,Y,Y,Y,Y,Y,Y,Y,U,U,U,U,U,U,U,U,U,U,U,U] rfl rfl (Zn HT_.out (by kernel_rfl)) (fun _ _ _ h => h) (Or.inl ⟨by rfl,?_⟩) ?_ ?_;rotate_left
                     · intro w'
                       go_simp;with_reducible rfl
                     rotate_left
                     · simp only [Act.put,YV,YW,YX,i64_w,i32_w]
                       rfl
                     refine pure_ (i := 19) (N := some 42) (v := ?_) (a' := ?_) #[Y,Y,Y,Y,Y,Y,Y,Y,Y,Y,Y,Y,Y,Y,Y,Y,Y,Y,Y,Y,U,U,U,U,U,U,U,U,U,U,U] rfl rfl (Zn HT_.out (by kernel_rfl)) (fun _ _ _ h => h) (Or.inl ⟨by rfl,?_⟩) ?_ ?_;rotate_left
                     · intro w'
                       go_simp;with_reducible rfl
                     rotate_left
                     · simp only [Act.put,YV,YW,YX,i64_w,i32_w]
                       rfl
                     refine pure_ (i := 20) (N := some 43) (v := undef) (a' := ?_) #[Y,Y,Y,Y,Y,Y,Y,Y,Y,Y,Y,Y,Y,Y,Y,Y,Y,Y,Y,Y,Y,U,U,U,U,U,U,U,U,U,U] rfl rfl (Zn HT_.out (by kernel_rfl)) (fun _ _ _ h => h) (Or.inr ⟨by rfl,rfl⟩) ?_ ?_;rotate_left
                     · simp only [Act.put,YV,YW,YX,i64_w,i32_w]
                       rfl
                     refine pure_ (i := 21) (N := some 44) (v := undef) (a' := ?_) #[Y,Y,Y,Y,Y,Y,Y,Y,Y,Y,Y,Y,Y,Y,Y,Y,Y,Y,Y,Y,Y,Y,U,U,U,U,U,U,U,U,U] rfl rfl (Zn HT_.out (by kernel_rfl)) (fun _ _ _ h => h) (Or.inr ⟨by rfl,rfl⟩) ?_ ?_;rotate_left
                     · simp only [Act.put,YV,YW,YX,i64_w,i32_w]
                       rfl
                     refine pure_ (i := 22) (N := some 45) (v := undef) (a' := ?_) #[Y,Y,Y,Y,Y,Y,Y,Y,Y,Y,Y,Y,Y,Y,Y,Y,Y,Y,Y,Y,Y,Y,Y,U,U,U,U,U,U,U,U] rfl rfl (Zn HT_.out (by kernel_rfl)) (fun _ _ _ h => h) (Or.inr ⟨by rfl,rfl⟩) ?_ ?_;rotate_left
                     · simp only [Act.put,YV,YW,YX,i64_w,i32_w]
                       rfl
                     refine pure_ (i := 23) (N := some 46) (v := undef) (a' := ?_) #[Y,Y,Y,Y,Y,Y,Y,Y,Y,Y,Y,Y,Y,Y,Y,Y,Y,Y,Y,Y,Y,Y,Y,Y,U,U,U,U,U,U,U] rfl rfl (Zn HT_.out (by kernel_rfl)) (fun _ _ _ h => h) (Or.inr ⟨by rfl,rfl⟩) ?_ ?_;rotate_left
                     · simp only [Act.put,YV,YW,YX,i64_w,i32_w]
                       rfl
                     refine pure_ (i := 24) (N := some 47) (v := undef) (a' := ?_) #[Y,Y,Y,Y,Y,Y,Y,Y,Y,Y,Y,Y,Y,Y,Y,Y,Y,Y,Y,Y,Y,Y,Y,Y,Y,U,U,U,U,U,U] rfl rfl (Zn HT_.out (by kernel_rfl)) (fun _ _ _ h => h) (Or.inr ⟨by rfl,rfl⟩) ?_ ?_;rotate_left
                     · simp only [Act.put,YV,YW,YX,i64_w,i32_w]
                       rfl
                     refine pure_ (i := 25) (N := some 48) (v := undef) (a' := ?_) #[Y,Y,Y,Y,Y,Y,Y,Y,Y,Y,Y,Y,Y,Y,Y,Y,Y,Y,Y,Y,Y,Y,Y,Y,Y,Y,U,U,U,U,U] rfl rfl (Zn HT_.out (by kernel_rfl)) (fun _ _ _ h => h) (Or.inr ⟨by rfl,rfl⟩) ?_ ?_;rotate_left
                     · simp only [Act.put,YV,YW,YX,i64_w,i32_w]
                       rfl
                     refine pure_ (i := 26) (N := some 49) (v := undef) (a' := ?_) #[Y,Y,Y,Y,Y,Y,Y,Y,Y,Y,Y,Y,Y,Y,Y,Y,Y,Y,Y,Y,Y,Y,Y,Y,Y,Y,Y,U,U,U,U] rfl rfl (Zn HT_.out (by kernel_rfl)) (fun _ _ _ h => h) (Or.inr ⟨by rfl,rfl⟩) ?_ ?_;rotate_left
                     · simp only [Act.put,YV,YW,YX,i64_w,i32_w]
                       rfl
                     refine pure_ (i := 27) (N := some 50) (v := undef) (a' := ?_) #[Y,Y,Y,Y,Y,Y,Y,Y,Y,Y,Y,Y,Y,Y,Y,Y,Y,Y,Y,Y,Y,Y,Y,Y,Y,Y,Y,Y,U,U,U] rfl rfl (Zn HT_.out (by kernel_rfl)) (fun _ _ _ h => h) (Or.inr ⟨by rfl,rfl⟩) ?_ ?_;rotate_left
                     · simp only [Act.put,YV,YW,YX,i64_w,i32_w]
                       rfl
                     refine pure_ (i := 28) (N := some 51) (v := undef) (a' := ?_) #[Y,Y,Y,Y,Y,Y,Y,Y,Y,Y,Y,Y,Y,Y,Y,Y,Y,Y,Y,Y,Y,Y,Y,Y,Y,Y,Y,Y,Y,U,U] rfl rfl (Zn HT_.out (by kernel_rfl)) (fun _ _ _ h => h) (Or.inr ⟨by rfl,rfl⟩) ?_ ?_;rotate_left
                     · simp only [Act.put,YV,YW,YX,i64_w,i32_w]
                       rfl
                     refine pure_ (i := 29) (N := some 52) (v := ?_) (a' := ?_) #[Y,Y,Y,Y,Y,Y,Y,Y,Y,Y,Y,Y,Y,Y,Y,Y,Y,Y,Y,Y,Y,Y,Y,Y,Y,Y,Y,Y,Y,Y,U] rfl rfl (Zn HT_.out (by kernel_rfl)) (fun _ _ _ h => h) (Or.inl ⟨by rfl,?_⟩) ?_ ?_;rotate_left
                     · intro w'
                       go_simp;with_reducible rfl
                     rotate_left
                     · simp only [Act.put,YV,YW,YX,i64_w,i32_w]
                       rfl
                     refine pure_ (i := 30) (N := some 53) (v := ?_) (a' := ?_) #[Y,Y,Y,Y,Y,Y,Y,Y,Y,Y,Y,Y,Y,Y,Y,Y,Y,Y,Y,Y,Y,Y,Y,Y,Y,Y,Y,Y,Y,Y,Y] rfl rfl (Zn HT_.out (by kernel_rfl)) (fun _ _ _ h => h) (Or.inl ⟨by rfl,?_⟩) ?_ ?_;rotate_left
                     · intro w'
                       go_simp;with_reducible rfl
                     rotate_left
                     · simp only [Act.put,YV,YW,YX,i64_w,i32_w]
                       rfl
                     refine done_ (XA HT_.out (by kernel_rfl)) ?_
                     try go_wp2
                     go_roundg k2
                     case measure => have := HJ1.out;have := HK2.out;omega
                     case rel => exact ⟨(wrap64 (x18_2 + 1)),(by first | rfl | (simp;done) | (simp [*];done)),H',⟨by have := HJ1.out;have := HK2.out;omega⟩,⟨by repeat (first | (with_reducible first | exact HB.out | apply Zc | apply Za | apply Zb | refine Z9 ?_ GE126.out) | exact HB.out)⟩⟩
                 · rw [if_neg c15] at H;exact absurd H (by simp)
               · rw [if_neg c13] at H;exact absurd H (by simp)
             · rw [if_neg c11] at H;exact absurd H (by simp)
           · rw [if_neg c9] at H
             exact absurd H (by simp)
         · rw [if_neg c8] at H
           exact absurd H (by simp)
       · rw [if_neg c7] at H
         have c7b0 : decide (x18_2 < (l0.length : Int)) = false := decide_eq_false c7;clear c7;obtain rfl := Option.some.inj H
         go_wp2
         go_ret;exact ⟨by first | rfl | (simp [Zt,Zv] <;> rfl) | (simp [*,Zt,Zv] <;> rfl),by repeat (first | (with_reducible first | exact HB.out | apply Zc | apply Za | apply Zb) | exact HB.out)⟩
end Go.Proofs.Ytomlfbmfdoallaa.PA

namespace Go.Proofs.Ytomlfbmfdoallaa.PA
open Go.RowKit Go.Proofs.YtomlfbmfdoallaaW.PrintWords Go.Proofs.YtomlfbmfdoallaaW.PrintLast Go.Proofs.YtomlfbmfdoallaaW.PrintMore
attribute [local go_sem] Xf Xe Xj Xk ZV ZU Xd Xc
set_option linter.unusedVariables false
set_option linter.unusedSimpArgs false
def Xz.f (a0_0 : Int) (a0_1 : Int) (a0_2 : Int) (a0_3 : Int) : Option (Int) := some (wrap64 (a0_1 * a0_2))
set_option maxHeartbeats 8000000 in
set_option maxRecDepth 100000 in
theorem Xz.calls (a0_0 : Int) (a0_1 : Int) (a0_2 : Int) (a0_3 : Int) (r : Int) (w : World) (h : Xz.f a0_0 a0_1 a0_2 a0_3 = some r) :
 Calls Try.prog 49 #[.agg #[.int .i64 a0_0,.int .i64 a0_1,.int .i64 a0_2,.int .i64 a0_3]] w fun e w' => e = .returned (.int .i64 r) ∧ Below w.heap.size w w' := by
 have hu72 := Try.underlying72;have HB := Zd.mk (Below.refl w.heap.size w);have H : (some (wrap64 (a0_1 * a0_2))) = some r := h;clear h;obtain rfl := Option.some.inj H
 go_enter Try.func49,Try.ntmps49
 go_wp2_with (first | ((with_reducible refine Xq (N := 1) rfl ?_);refine Xy ?hg (N := 1) ?hd (cs := #[.int .i64 a0_0,.int .i64 a0_1,.int .i64 a0_2,.int .i64 a0_3]) (t := 72) ?hr ?_;(case hd => rfl);(case hg => rfl);(case hr => first | (go_simp;done) | (go_simp;rfl));intro gb123 hg w2 hbox hb;have n0_ := Zd.mk (Z0 (by repeat (first | (with_reducible first | exact HB.out | apply Zc | apply Za | apply Zb) | exact HB.out)) hb);have n1_ := Zd.mk (hbox);have n2_ := Zd.mk ((by rw [hg];exact (ZJ (by repeat (first | (with_reducible first | exact HB.out | apply Zc | apply Za | apply Zb) | exact HB.out))) : w.heap.size ≤ gb123));have n3_ := Zd.mk ((by rw [hg];exact (ZJ (by repeat (first | (with_reducible first | exact HB.out | apply Zc | apply Za | apply Zb) | exact HB.out))) : w.heap.size ≤ gb123));clear HB;have HB := n0_;have BK123 := n1_;have GW123 := n2_;have GE123 := n3_;clear n0_ n1_ n2_ n3_;clear hb hbox hg;have hcz3_0 : w2.cell? ⟨gb123,0,none⟩ = some (.int .i64 a0_0) := (Zm BK123.out 0).trans rfl;have hcz3_1 : w2.cell? ⟨gb123,1,none⟩ = some (.int .i64 a0_1) := (Zm BK123.out 1).trans rfl;have hcz3_2 : w2.cell? ⟨gb123,2,none⟩ = some (.int .i64 a0_2) := (Zm BK123.out 2).trans rfl;have hcz3_3 : w2.cell? ⟨gb123,3,none⟩ = some (.int .i64 a0_3) := (Zm BK123.out 3).trans rfl;have hfz3_0 := Zr BK123.out 0;have hfz3_1 := Zr BK123.out 1;have hfz3_2 := Zr BK123.out 2;have hfz3_3 := Zr BK123.out 3))
 go_ret;exact ⟨by first | rfl | (simp [Zt,Zv] <;> rfl) | (simp [*,Zt,Zv] <;> rfl),by repeat (first | (with_reducible first | exact HB.out | apply Zc | apply Za | apply Zb | refine Z9 ?_ GE123.out) | exact HB.out)⟩
end Go.Proofs.Ytomlfbmfdoallaa.PA

namespace Go.Proofs.Ytomlfbmfdoallaa.PA
open Go.RowKit Go.Proofs.YtomlfbmfdoallaaW.PrintWords Go.Proofs.YtomlfbmfdoallaaW.PrintLast Go.Proofs.YtomlfbmfdoallaaW.PrintMore
attribute [local go_sem] Xf Xe Xj Xk ZV ZU Xd Xc
set_option linter.unusedVariables false
set_option linter.unusedSimpArgs false
theorem info72g : (Try.prog.info? 72).map (fun i => (i.zero,i.size,i.bytes)) = some (some (.agg #[(.int .i64 0),(.int .i64 0),(.int .i64 0),(.int .i64 0)]),4,32) := by kernel_rfl
def ZW.l0 : Nat → List (S72) → List (S61) → Int → Int → Option ((List (S72)))
 | 0,_,_,_,_ => none
 | k + 1,x3,x8,x9,x10 => if x10 < x9 then (if 0 ≤ x10 then (if x10 < (x8.length : Int) then (if (wrap64 ((x3.length : Int) - 1)) ≥ 0 then (none) else (if x3.length < 4398046511104 then (ZW.l0 k (x3 ++ [(⟨(⟨(ZR x8 x10).f0,(ZR x8 x10).f1,(ZR x8 x10).f2⟩ : S61),0⟩ : S72)]) x8 x9 (wrap64 (x10 + 1))) else (none))) else (none)) else (none)) else (some x3)
def ZW.f (k : Nat) (l0 : List (S61)) : Option ((List (S72))) := ZW.l0 k ([] : List (S72)) l0 (l0.length : Int) 0
theorem ZW.Xm : ∀ k,(∀ y0 y1 y2 y3,LeO (ZW.l0 k y0 y1 y2 y3) (ZW.l0 (k + 1) y0 y1 y2 y3))
 | 0 => fun _ _ _ _ r h => by simp [ZW.l0] at h
 | k + 1 => by
  have ih0 := ZW.Xm k
  · intro y0 y1 y2 y3
    unfold ZW.l0
    repeat' first
    | (with_reducible exact ih0 _ _ _ _)
    | (with_reducible exact LeO.refl _)
    | (with_reducible exact LeO.none _)
    | (with_reducible refine LeO.ite ?_ ?_)
    | (with_reducible refine LeO.bind ?_ (fun _ => ?_))
    | exact ih0 _ _ _ _
    | exact LeO.none _
    | refine LeO.ite ?_ ?_
    | refine LeO.bind ?_ (fun _ => ?_)
theorem ZW.mono : ∀ a0 k,LeO (ZW.f k a0) (ZW.f (k + 1) a0) := by
 intro a0 k;have ih0 := ZW.Xm k;unfold ZW.f
 repeat' first
  | (with_reducible exact ih0 _ _ _ _)
  | (with_reducible exact LeO.refl _)
  | (with_reducible exact LeO.none _)
  | (with_reducible refine LeO.ite ?_ ?_)
  | (with_reducible refine LeO.bind ?_ (fun _ => ?_))
  | exact ih0 _ _ _ _
  | exact LeO.none _
  | refine LeO.ite ?_ ?_
  | refine LeO.bind ?_ (fun _ => ?_)
def ZW.T8 : Bool × List (List Nat × List Nat) := (true,[([],[]),([],[]),([0,1],[0,1]),([2],[2]),([3],[3]),([],[]),([5],[5]),([],[]),([],[]),([7,8],[7,8]),([9],[9]),([10],[10]),([11],[11]),([6,12],[6,12]),([],[]),([],[]),([14,15],[14,15]),([16],[16]),([17],[17]),([13,18],[13,18]),([4,19],[4,19]),([0,1,2,3,4,5,6,7,8,9,10,11,12,13,14,15,16,17,18,19,20],[]),([21,20,18,0,1,2,3,4,5,6,7,8,9,10,11,12,13,14,15,16,17,18,19,20],[20,21])])
def ZW.B8 : List Nat := [0,0,3,7,15,0,32,0,0,384,896,1920,3968,8160,0,0,49152,114688,245760,524256,1048575,2097151,4194303]
theorem ZW.tab8 : rtab .any (opsOf Try.f47 8) = ZW.T8 := by kernel_rfl
theorem ZW.bits8 : waitsOk ZW.T8.2 ZW.B8 = true := by kernel_rfl
set_option maxHeartbeats 8000000 in
set_option maxRecDepth 100000 in
theorem ZW.calls (k : Nat) (A0 : Option Addr) (c0 : Nat) (l0 : List (S61)) (r : List (S72)) (w : World) (hr0 : Kd.C k61 w A0 l0.length l0) (hc0 : l0.length ≤ c0) (h : ZW.f k l0 = some r) :
 Calls Try.prog 47 #[.slice A0 l0.length c0] w fun e w' => ∃ v0_ : Value,e = .returned (v0_) ∧ Kd.R k72 72 w' w.heap.size (fun _ => True) v0_ r ∧ Below w.heap.size w w' := by
 have hu61 := Try.underlying61;have hu72 := Try.underlying72;have HR0 := Zd.mk hr0;have HC0 := Zd.mk hc0;clear hr0 hc0;have HB := Zd.mk (Below.refl w.heap.size w);have H : (ZW.l0 k ([] : List (S72)) l0 (l0.length : Int) 0) = some r := h;clear h;have H' := Zd.mk H;clear H
 go_enter Try.func47,Try.ntmps47
 go_wp2
 go_loopg [3,10] k (fun kq v3 v10 w' => ∃ (x3_1 : List (S72)) (x10_1 : Int),v10 = .int .i64 x10_1 ∧ Zd (ZW.l0 kq x3_1 l0 (l0.length : Int) x10_1 = some r) ∧ Zd (kq ≤ k) ∧ Zd (Kd.R k72 72 w' w.heap.size (fun _ => True) v3 x3_1) ∧ Zd (Below w.heap.size w w'))
 case atStart => exact ⟨(([] : List (S72))),(0),(by first | rfl | (simp;done) | (simp [*];done)),H',⟨Nat.le_refl _⟩,⟨by first | exact Kd.R_nil _ _ _ _ _ | exact Kd.N_nil _ _ _ _ _ | exact Kd.V_nil _ _ _ _ _ | exact Kd.Q_nil _ _ _ _ _ | exact Kd.S_nil _ _ _ _ _⟩,⟨by repeat (first | (with_reducible first | exact HB.out | apply Zc | apply Za | apply Zb) | exact HB.out)⟩⟩
 case round =>
  clear H';obtain ⟨x3_1,x10_1,rfl,HA,HK1,HO_3,HB⟩ := hrel
  cases gk with
  | zero => exact absurd HA.out (by simp [ZW.l0])
  | succ k1 =>
   have H := HA.out;clear HA;simp only [ZW.l0] at H
   by_cases c2 : x10_1 < (l0.length : Int)
   · rw [if_pos c2] at H
     have c2b0 : decide (x10_1 < (l0.length : Int)) = true := decide_eq_true c2;clear c2
     by_cases c3 : 0 ≤ x10_1
     · rw [if_pos c3] at H
       have c3b0 : decide (0 ≤ x10_1) = true := decide_eq_true c3;clear c3
       by_cases c4 : x10_1 < (l0.length : Int)
       · rw [if_pos c4] at H
         have c4b0 : decide (x10_1 < (l0.length : Int)) = true := decide_eq_true c4;clear c4
         by_cases c5 : (wrap64 ((x3_1.length : Int) - 1)) ≥ 0
         · rw [if_pos c5] at H;exact absurd H (by simp)
         · rw [if_neg c5] at H
           have c5b0 : decide (0 ≤ (wrap64 ((x3_1.length : Int) - 1))) = false := decide_eq_false c5;clear c5
           by_cases c23 : x3_1.length < 4398046511104
           · rw [if_pos c23] at H
             have LMc23 := Zd.mk c23;clear c23
             obtain ⟨y142,hy142⟩ : ∃ y_ : List (S72),y_ = (x3_1 ++ [(⟨(⟨(ZR l0 x10_1).f0,(ZR l0 x10_1).f1,(ZR l0 x10_1).f2⟩ : S61),0⟩ : S72)]) := ⟨_,rfl⟩
             replace H : (ZW.l0 k1 y142 l0 (l0.length : Int) (wrap64 (x10_1 + 1))) = some r := by first | (rw [hy142];with_reducible exact H) | (have H2_ := (Option.bind_some _ _).symm.trans H;rw [hy142];with_reducible exact H2_) | (have H2_ := (Option.bind_some _ _).symm.trans H;with_reducible exact H2_) | with_reducible exact H | (rw [hy142];exact H) | exact H
             have Ny142 := Zd.mk hy142;clear hy142;have H' := Zd.mk H;clear H;have p132 : 0 ≤ (x10_1 : Int) := of_decide_eq_true (by first | (with_reducible assumption) | assumption);have q132 : x10_1 < (l0.length : Int) := of_decide_eq_true (by first | (with_reducible assumption) | assumption);obtain ⟨ad132,e132,hx132_0,hx132_1,hx132_2⟩ := YB HR0.out x10_1 p132 q132
             cases e132
             replace hx132_0 := (HB.out.cell (World.block_lt_of_cell? w _ hx132_0)).trans hx132_0;replace hx132_1 := (HB.out.cell (World.block_lt_of_cell? w _ hx132_1)).trans hx132_1;replace hx132_2 := (HB.out.cell (World.block_lt_of_cell? w _ hx132_2)).trans hx132_2;replace p132 := eq_true p132;replace q132 := eq_true q132
             go_wp2_with (first | ((with_reducible refine Xq (N := 5) rfl ?_);refine Xy ?hg (N := 5) ?hd (cs := #[.int .i64 0,.int .i64 0,.int .i64 0]) (t := 61) ?hr ?_;(case hd => rfl);(case hg => rfl);(case hr => first | (go_simp;done) | (go_simp;rfl));intro gb133 hg w24 hbox hb;have n0_ := Zd.mk (Kd.Xn (by (with_reducible repeat (first | apply Kd.ZF | apply Kd.ZG | apply Kd.ZN));exact HO_3.out) hb);have n1_ := Zd.mk (Z0 (by repeat (first | (with_reducible first | exact HB.out | apply Zc | apply Za | apply Zb) | exact HB.out)) hb);have n2_ := Zd.mk (hbox);have n3_ := Zd.mk ((by rw [hg];exact (ZJ (by repeat (first | (with_reducible first | exact HB.out | apply Zc | apply Za | apply Zb) | exact HB.out))) : w.heap.size ≤ gb133));have n4_ := Zd.mk ((by rw [hg];exact (ZJ (by repeat (first | (with_reducible first | exact HB.out | apply Zc | apply Za | apply Zb) | exact HB.out))) : w.heap.size ≤ gb133));clear HO_3;clear HB;have HO_3 := n0_;have HB := n1_;have BK133 := n2_;have GW133 := n3_;have GE133 := n4_;clear n0_ n1_ n2_ n3_ n4_;clear hb hbox hg;have hcz25_0 : w24.cell? ⟨gb133,0,none⟩ = some (.int .i64 0) := (Zm BK133.out 0).trans rfl;have hcz25_1 : w24.cell? ⟨gb133,1,none⟩ = some (.int .i64 0) := (Zm BK133.out 1).trans rfl;have hcz25_2 : w24.cell? ⟨gb133,2,none⟩ = some (.int .i64 0) := (Zm BK133.out 2).trans rfl;have hfz25_0 := Zr BK133.out 0;have hfz25_1 := Zr BK133.out 1;have hfz25_2 := Zr BK133.out 2) | ((with_reducible refine Xq (N := 6) rfl ?_);refine Xy ?hg (N := 6) ?hd (cs := #[.int .i64 0,.int .i64 0,.int .i64 0,.int .i64 0]) (t := 72) ?hr ?_;(case hd => rfl);(case hg => rfl);(case hr => first | (go_simp;done) | (go_simp;rfl));intro gb134 hg w26 hbox hb;have n0_ := Zd.mk (Kd.Xn (Kd.Y3 (by (with_reducible repeat (first | apply Kd.ZF | apply Kd.ZG | apply Kd.ZN));exact (Kd.X1 (Kd.R_far (p := ⟨gb133,2,none⟩) (Kd.R_far (p := ⟨gb133,1,none⟩) (Kd.R_far (p := ⟨gb133,0,none⟩) (Kd.R_types HO_3.out BK133.out (by decide)) (fun _ hk => hk.2) (.int .i64 ((ZR l0 x10_1).f0))) (fun _ hk => hk.2) (.int .i64 ((ZR l0 x10_1).f1))) (fun _ hk => hk.2) (.int .i64 ((ZR l0 x10_1).f2))) (fun _ h_ => h_.1))) gb134 (Nat.le_of_eq hg.symm)) hb);have n1_ := Zd.mk (blk_below (g := gb133) (o := .cells #[.int .i64 ((ZR l0 x10_1).f0),.int .i64 ((ZR l0 x10_1).f1),.int .i64 ((ZR l0 x10_1).f2)] 61 (0,0)) (by (with_reducible repeat (first | refine Zu ?_ _ | refine Zw ?_ | refine Zs ?_ _));refine ZE (cs := #[.int .i64 ((ZR l0 x10_1).f0),.int .i64 ((ZR l0 x10_1).f1),.int .i64 0]) ?_ 2 _ rfl;(with_reducible repeat (first | refine Zu ?_ _ | refine Zw ?_ | refine Zs ?_ _));refine ZE (cs := #[.int .i64 ((ZR l0 x10_1).f0),.int .i64 0,.int .i64 0]) ?_ 1 _ rfl;(with_reducible repeat (first | refine Zu ?_ _ | refine Zw ?_ | refine Zs ?_ _));refine ZE (cs := #[.int .i64 0,.int .i64 0,.int .i64 0]) ?_ 0 _ rfl;(with_reducible repeat (first | refine Zu ?_ _ | refine Zw ?_ | refine Zs ?_ _));exact BK133.out) hb);have n2_ := Zd.mk (Z0 (by repeat (first | (with_reducible first | exact HB.out | apply Zc | apply Za | apply Zb | refine Z9 ?_ GE133.out) | exact HB.out)) hb);have n3_ := Zd.mk (hbox);have n4_ := Zd.mk ((by rw [hg];exact (ZJ (by repeat (first | (with_reducible first | exact HB.out | apply Zc | apply Za | apply Zb | refine Z9 ?_ GE133.out) | exact HB.out))) : w.heap.size ≤ gb134));have n5_ := Zd.mk ((by rw [hg];exact (ZJ (by repeat (first | (with_reducible first | exact HB.out | apply Zc | apply Za | apply Zb | refine Z9 ?_ GE133.out) | exact HB.out))) : w.heap.size ≤ gb134));have n6_ := Zd.mk ((by rw [hg];exact Nat.ne_of_lt (Qx (g := gb133) (o := .cells #[.int .i64 ((ZR l0 x10_1).f0),.int .i64 ((ZR l0 x10_1).f1),.int .i64 ((ZR l0 x10_1).f2)] 61 (0,0)) (by (with_reducible repeat (first | refine Zu ?_ _ | refine Zw ?_ | refine Zs ?_ _));refine ZE (cs := #[.int .i64 ((ZR l0 x10_1).f0),.int .i64 ((ZR l0 x10_1).f1),.int .i64 0]) ?_ 2 _ rfl;(with_reducible repeat (first | refine Zu ?_ _ | refine Zw ?_ | refine Zs ?_ _));refine ZE (cs := #[.int .i64 ((ZR l0 x10_1).f0),.int .i64 0,.int .i64 0]) ?_ 1 _ rfl;(with_reducible repeat (first | refine Zu ?_ _ | refine Zw ?_ | refine Zs ?_ _));refine ZE (cs := #[.int .i64 0,.int .i64 0,.int .i64 0]) ?_ 0 _ rfl;(with_reducible repeat (first | refine Zu ?_ _ | refine Zw ?_ | refine Zs ?_ _));exact BK133.out)) : gb133 ≠ gb134));have n7_ := Zd.mk ((by rw [hg];exact Nat.ne_of_gt (Qx (g := gb133) (o := .cells #[.int .i64 ((ZR l0 x10_1).f0),.int .i64 ((ZR l0 x10_1).f1),.int .i64 ((ZR l0 x10_1).f2)] 61 (0,0)) (by (with_reducible repeat (first | refine Zu ?_ _ | refine Zw ?_ | refine Zs ?_ _));refine ZE (cs := #[.int .i64 ((ZR l0 x10_1).f0),.int .i64 ((ZR l0 x10_1).f1),.int .i64 0]) ?_ 2 _ rfl;(with_reducible repeat (first | refine Zu ?_ _ | refine Zw ?_ | refine Zs ?_ _));refine ZE (cs := #[.int .i64 ((ZR l0 x10_1).f0),.int .i64 0,.int .i64 0]) ?_ 1 _ rfl;(with_reducible repeat (first | refine Zu ?_ _ | refine Zw ?_ | refine Zs ?_ _));refine ZE (cs := #[.int .i64 0,.int .i64 0,.int .i64 0]) ?_ 0 _ rfl;(with_reducible repeat (first | refine Zu ?_ _ | refine Zw ?_ | refine Zs ?_ _));exact BK133.out)) : gb134 ≠ gb133));clear HO_3;clear BK133;clear HB;have HO_3 := n0_;have BK133 := n1_;have HB := n2_;have BK134 := n3_;have GW134 := n4_;have GE134 := n5_;have NB133_134 := n6_;have NB134_133 := n7_;clear n0_ n1_ n2_ n3_ n4_ n5_ n6_ n7_;clear hb hbox hg;have hnb27 := NB134_133.out;have hnc27 := NB133_134.out;have hcz28_0 : w26.cell? ⟨gb134,0,none⟩ = some (.int .i64 0) := (Zm BK134.out 0).trans rfl;have hcz28_1 : w26.cell? ⟨gb134,1,none⟩ = some (.int .i64 0) := (Zm BK134.out 1).trans rfl;have hcz28_2 : w26.cell? ⟨gb134,2,none⟩ = some (.int .i64 0) := (Zm BK134.out 2).trans rfl;have hcz28_3 : w26.cell? ⟨gb134,3,none⟩ = some (.int .i64 0) := (Zm BK134.out 3).trans rfl;have hfz28_0 := Zr BK134.out 0;have hfz28_1 := Zr BK134.out 1;have hfz28_2 := Zr BK134.out 2;have hfz28_3 := Zr BK134.out 3;obtain ⟨Ao29,co29,eo29⟩ := Kd.Xw HO_3.out;subst eo29) | ((with_reducible refine X8 (b := .append) (xs := #[.tmp 43,.tmp 45]) rfl ?_);at_builtin;refine Kd.XG k72 (w0 := w) w.heap.size rfl (.tmp 43) (.tmp 45) 74 72 (.agg #[(.int .i64 0),(.int .i64 0),(.int .i64 0),(.int .i64 0)]) 32 rfl Try.underlying74 info72g rfl (by decide) (by omega) (.slice Ao29 x3_1.length co29) x3_1 (⟨(⟨(ZR l0 x10_1).f0,(ZR l0 x10_1).f1,(ZR l0 x10_1).f2⟩ : S61),0⟩ : S72) [.int .i64 ((ZR l0 x10_1).f0),.int .i64 ((ZR l0 x10_1).f1),.int .i64 ((ZR l0 x10_1).f2),.int .i64 0] (fun k_ => k_ ≠ gb134) (fun _ => False) rfl (by first | (go_simp;done) | (go_simp;rfl)) ?aP (fun _ hk => hk.elim) ?aF ?aO ?aB ?aS ?aL ?_;(case aP => exact k72_mkM _ _ _ (⟨(⟨(ZR l0 x10_1).f0,(ZR l0 x10_1).f1,(ZR l0 x10_1).f2⟩ : S61),0⟩ : S72));(case aB => exact (by repeat (first | (with_reducible first | exact HB.out | apply Zc | apply Za | apply Zb | refine Z9 ?_ GE133.out | refine Z9 ?_ GE134.out) | exact HB.out)));(case aF => exact (fun k_ hk => Kd.freshB (g := gb134) (o := .cells #[.int .i64 ((ZR l0 x10_1).f0),.int .i64 ((ZR l0 x10_1).f1),.int .i64 ((ZR l0 x10_1).f2),.int .i64 0] 72 (0,0)) (by (with_reducible repeat (first | refine Zu ?_ _ | refine Zw ?_ | refine Zs ?_ _));refine ZE (cs := #[.int .i64 ((ZR l0 x10_1).f0),.int .i64 ((ZR l0 x10_1).f1),.int .i64 ((ZR l0 x10_1).f2),.int .i64 0]) ?_ 3 _ rfl;(with_reducible repeat (first | refine Zu ?_ _ | refine Zw ?_ | refine Zs ?_ _));refine ZE (cs := #[.int .i64 ((ZR l0 x10_1).f0),.int .i64 ((ZR l0 x10_1).f1),.int .i64 0,.int .i64 0]) ?_ 2 _ rfl;(with_reducible repeat (first | refine Zu ?_ _ | refine Zw ?_ | refine Zs ?_ _));refine ZE (cs := #[.int .i64 ((ZR l0 x10_1).f0),.int .i64 0,.int .i64 0,.int .i64 0]) ?_ 1 _ rfl;(with_reducible repeat (first | refine Zu ?_ _ | refine Zw ?_ | refine Zs ?_ _));refine ZE (cs := #[.int .i64 0,.int .i64 0,.int .i64 0,.int .i64 0]) ?_ 0 _ rfl;(with_reducible repeat (first | refine Zu ?_ _ | refine Zw ?_ | refine Zs ?_ _));exact BK134.out) k_ hk));(case aO => exact (by (with_reducible repeat (first | apply Kd.ZF | apply Kd.ZG | apply Kd.ZN));exact Kd.X1 (Kd.R_far (p := ⟨gb134,3,none⟩) (Kd.R_far (p := ⟨gb134,2,none⟩) (Kd.R_far (p := ⟨gb134,1,none⟩) (Kd.R_far (p := ⟨gb134,0,none⟩) (Kd.X1 HO_3.out (fun k_ hk => (⟨hk,hk.2⟩ : _ ∧ k_ ≠ gb134))) (fun _ hk => hk.2) (.int .i64 ((ZR l0 x10_1).f0))) (fun _ hk => hk.2) (.int .i64 ((ZR l0 x10_1).f1))) (fun _ hk => hk.2) (.int .i64 ((ZR l0 x10_1).f2))) (fun _ hk => hk.2) (.int .i64 0)) (fun _ hk => hk.1.2)));(case aS => exact (ZJ (by repeat (first | (with_reducible first | exact HB.out | apply Zc | apply Za | apply Zb | refine Z9 ?_ GE133.out | refine Z9 ?_ GE134.out) | exact HB.out))));(case aL => have := LMc23.out;omega);intro v143 w30 ho hb hg hat;rw [← Ny142.out] at ho;have n0_ := Zd.mk (XQ (g := gb133) (o := .cells #[.int .i64 ((ZR l0 x10_1).f0),.int .i64 ((ZR l0 x10_1).f1),.int .i64 ((ZR l0 x10_1).f2)] 61 (0,0)) (by (with_reducible repeat (first | refine Zu ?_ _ | refine Zw ?_ | refine Zs ?_ _));refine QM ?_ NB133_134.out _;(with_reducible repeat (first | refine Zu ?_ _ | refine Zw ?_ | refine Zs ?_ _));refine QM ?_ NB133_134.out _;(with_reducible repeat (first | refine Zu ?_ _ | refine Zw ?_ | refine Zs ?_ _));refine QM ?_ NB133_134.out _;(with_reducible repeat (first | refine Zu ?_ _ | refine Zw ?_ | refine Zs ?_ _));refine QM ?_ NB133_134.out _;(with_reducible repeat (first | refine Zu ?_ _ | refine Zw ?_ | refine Zs ?_ _));exact BK133.out) hg (Kd.R_ne HO_3.out BK133.out (by decide)));have n1_ := Zd.mk (XQ (g := gb134) (o := .cells #[.int .i64 ((ZR l0 x10_1).f0),.int .i64 ((ZR l0 x10_1).f1),.int .i64 ((ZR l0 x10_1).f2),.int .i64 0] 72 (0,0)) (by (with_reducible repeat (first | refine Zu ?_ _ | refine Zw ?_ | refine Zs ?_ _));refine ZE (cs := #[.int .i64 ((ZR l0 x10_1).f0),.int .i64 ((ZR l0 x10_1).f1),.int .i64 ((ZR l0 x10_1).f2),.int .i64 0]) ?_ 3 _ rfl;(with_reducible repeat (first | refine Zu ?_ _ | refine Zw ?_ | refine Zs ?_ _));refine ZE (cs := #[.int .i64 ((ZR l0 x10_1).f0),.int .i64 ((ZR l0 x10_1).f1),.int .i64 0,.int .i64 0]) ?_ 2 _ rfl;(with_reducible repeat (first | refine Zu ?_ _ | refine Zw ?_ | refine Zs ?_ _));refine ZE (cs := #[.int .i64 ((ZR l0 x10_1).f0),.int .i64 0,.int .i64 0,.int .i64 0]) ?_ 1 _ rfl;(with_reducible repeat (first | refine Zu ?_ _ | refine Zw ?_ | refine Zs ?_ _));refine ZE (cs := #[.int .i64 0,.int .i64 0,.int .i64 0,.int .i64 0]) ?_ 0 _ rfl;(with_reducible repeat (first | refine Zu ?_ _ | refine Zw ?_ | refine Zs ?_ _));exact BK134.out) hg (Kd.QT HO_3.out (fun _ hk => hk.2)));have n2_ := Zd.mk (hb);have n3_ := Zd.mk (ho);clear BK133;clear BK134;clear HB;clear HO_3;have BK133 := n0_;have BK134 := n1_;have HB := n2_;have HO144 := n3_;clear n0_ n1_ n2_ n3_;clear ho hb hg hat))
             go_roundg k1
             case measure => have := HK1.out;omega
             case rel => exact ⟨(y142),(wrap64 (x10_1 + 1)),(by first | rfl | (simp;done) | (simp [*];done)),H',⟨by have := HK1.out;omega⟩,⟨by (with_reducible repeat (first | apply Kd.ZF | apply Kd.ZG | apply Kd.ZN));exact Kd.X1 HO144.out (fun _ hk => trivial)⟩,⟨by repeat (first | (with_reducible first | exact HB.out | apply Zc | apply Za | apply Zb | refine Z9 ?_ GE133.out | refine Z9 ?_ GE134.out) | exact HB.out)⟩⟩
           · rw [if_neg c23] at H
             exact absurd H (by simp)
       · rw [if_neg c4] at H
         exact absurd H (by simp)
     · rw [if_neg c3] at H
       exact absurd H (by simp)
   · rw [if_neg c2] at H
     have c2b0 : decide (x10_1 < (l0.length : Int)) = false := decide_eq_false c2;clear c2;obtain rfl := Option.some.inj H
     go_wp2
     go_ret;exact ⟨_,by first | rfl | (simp [Zt,Zv] <;> rfl) | (simp [*,Zt,Zv] <;> rfl),by (with_reducible repeat (first | apply Kd.ZF | apply Kd.ZG | apply Kd.ZN));exact HO_3.out,by repeat (first | (with_reducible first | exact HB.out | apply Zc | apply Za | apply Zb) | exact HB.out)⟩
end Go.Proofs.Ytomlfbmfdoallaa.PA

namespace Go.Proofs.Ytomlfbmfdoallaa.PA
open Go.RowKit Go.Proofs.YtomlfbmfdoallaaW.PrintWords Go.Proofs.YtomlfbmfdoallaaW.PrintLast Go.Proofs.YtomlfbmfdoallaaW.PrintMore
set_option linter.unusedVariables false
set_option linter.unusedSimpArgs false
theorem enters48 : ∀ args w,(callFunc 48 args).run Try.prog w = .ok (.enter 48 args) w := Go.Proofs.enters_of Try.func48 (by kernel_rfl) rfl
theorem enters69 : ∀ args w,(callFunc 69 args).run Try.prog w = .ok (.enter 69 args) w := Go.Proofs.enters_of Try.func69 (by kernel_rfl) rfl
theorem Blk.call {W W1 W' : World} {b : Nat} {cs : Array Value} {t : TypeId} (h : Blk W b cs t) (hb : Below W1.heap.size W1 W') (e : W1.heap = W.heap) : Blk W' b cs t := by
 have := hb.block b (by rw [e];exact h.lt);rw [e] at this;exact h.same this
theorem Below.call_ {B : Nat} {w W W1 W' : World} (h : Below B w W) (hB : B ≤ W.heap.size) (hb : Below W1.heap.size W1 W') (e : W1.heap = W.heap ∧ W1.os = W.os ∧ W1.tape = W.tape ∧ W1.output = W.output) : Below B w W' :=
 ⟨hb.os.trans (e.2.1.trans h.os),hb.tape.trans (e.2.2.1.trans h.tape),hb.output.trans (e.2.2.2.trans h.output),Nat.le_trans h.size (by rw [← e.1];exact hb.size),fun k hk => by have := hb.block k (by rw [e.1];omega);rw [this,e.1];exact h.block k hk⟩
theorem set3' (W : World) (b : Nat) (cs : Array Value) (t : TypeId) (v0 v1 v2 : Value) (h : Blk W b cs t) (h3 : cs.size = 3) :
 Blk (((W.setCell ⟨b,0,none⟩ v0).setCell ⟨b,1,none⟩ v1).setCell ⟨b,2,none⟩ v2) b #[v0,v1,v2] t := by
 have := ((h.set 0 v0).set 1 v1).set 2 v2;obtain ⟨l⟩ := cs
 match l,h3 with
 | [a,b,c],_ => exact this
theorem place1_calls (x : S72) (b : Nat) (at_ : Int) (W : World) (hb : W.cell? ⟨b,0,none⟩ = some (.int .i64 at_)) :
 Calls Try.prog 48 #[.agg (c72 x),.pointer (some ⟨b,0,none⟩)] W fun e w' => e = .returned (.bool (decide (x.f1 ≤ at_))) ∧ Below W.heap.size W w' := by
 have l1 : b < W.heap.size := World.block_lt_of_cell? _ _ hb;unfold c72
 go_enter Try.func48,Try.ntmps48
 go_wp2
 go_ret;exact ⟨rfl,(Below.refl _ _).alloc (Nat.le_refl _) _⟩
theorem bar1_calls (x : S72) (b : Nat) (n : Int) (W : World) (hb : W.cell? ⟨b,0,none⟩ = some (.int .i64 n)) :
 Calls Try.prog 69 #[.agg (c72 x),.pointer (some ⟨b,0,none⟩)] W fun e w' => e = .returned (.bool (decide (x.f0.f0 ≤ n))) ∧ Below W.heap.size W w' := by
 have l1 : b < W.heap.size := World.block_lt_of_cell? _ _ hb;unfold c72
 go_enter Try.func69,Try.ntmps69
 go_wp2
 go_ret;exact ⟨rfl,(Below.refl _ _).alloc (Nat.le_refl _) _⟩
def okM (m : S72) (n : Int) : Bool := decide (0 ≤ m.f0.f0) && decide (m.f0.f0 ≤ 1000000000) && decide (1 ≤ m.f0.f1) && decide (m.f0.f1 ≤ 32) && decide (1 ≤ m.f0.f2) && decide (m.f0.f2 ≤ 10000) && decide (0 ≤ m.f1) && decide (m.f1 ≤ 1000000000000000) && decide (0 ≤ n) && decide (n ≤ 1000000000)
def XN.f (k : Nat) (l0 : List S61) (a1 : Int) : Option (Int × Int × Int × Int × Int) :=
 (ZW.f k l0).bind fun ms => if ms.length = 0 then none else (fun m : S72 => if okM m a1 = true then some (m.f0.f0,m.f0.f1,m.f0.f2,m.f1,m.f1 + (a1 - m.f0.f0) * (m.f0.f1 * m.f0.f2)) else none) (lastOr (fun x => decide (x.f0.f0 ≤ a1)) (XO ms 0) ms)
theorem XN.mono : ∀ a0 a1 k,LeO (XN.f k a0 a1) (XN.f (k + 1) a0 a1) := by
 intro a0 a1 k;unfold XN.f;exact LeO.bind (ZW.mono _ _) (fun _ => LeO.refl _)
set_option maxRecDepth 100000 in
set_option maxHeartbeats 2000000 in
theorem XN.calls (k : Nat) (A0 : Option Addr) (c0 : Nat) (l0 : List (S61)) (a1 : Int) (r1 r2 r3 r4 r5 : Int) (w : World) (hr0 : Kd.C k61 w A0 l0.length l0) (hc0 : l0.length ≤ c0) (h : XN.f k l0 a1 = some (r1,r2,r3,r4,r5)) :
 Calls Try.prog 52 #[.slice A0 l0.length c0,.int .i64 a1] w fun e w' => e = .returned (.tuple #[.agg #[.int .i64 r1,.int .i64 r2,.int .i64 r3,.int .i64 r4],.int .i64 r5]) ∧ Below w.heap.size w w' := by
 unfold XN.f at h;obtain ⟨ms,hms,h'⟩ := Option.bind_eq_some_iff.mp h;clear h;split at h'
 · cases h'
 rename_i hne
 dsimp only at h'
 have HM := fun w1 (hb : Below w.heap.size w w1) => Lib.hid (ZW.calls k A0 c0 l0 ms w1 (Kd.ZK hr0 hb) hc0 hms)
 clear hr0 hms
 have hmf : ∀ (fn : Fn) (first cap : Array Value) (w : World),(Instr.makeFunc fn first cap).run Try.prog w = .ok (.func fn first cap) w := fun _ _ _ _ => rfl
 go_enter Try.func52,Try.ntmps52
 go_wp2_with (fail)
 obtain ⟨W0,hW0⟩ : ∃ W0,W0 = (w.alloc (.cells #[.int .i64 a1] 3)).alloc (.cells #[.int .i64 0,.int .i64 0,.int .i64 0,.int .i64 0] 72) := ⟨_,rfl⟩
 have k0 : Blk W0 w.heap.size #[.int .i64 a1] 3 := by rw [hW0];exact (Blk.new w _ _).alloc _
 have k1 : Blk W0 (w.heap.size + 1) #[.int .i64 0,.int .i64 0,.int .i64 0,.int .i64 0] 72 := by rw [hW0];have := Blk.new (w.alloc (.cells #[.int .i64 a1] 3)) #[.int .i64 0,.int .i64 0,.int .i64 0,.int .i64 0] 72;rw [World.size_alloc] at this;exact this
 have hb0 : Below w.heap.size w W0 := by rw [hW0];exact ((Below.refl _ w).alloc (Nat.le_refl _) _).alloc (by simp) _
 rw [← hW0];clear hW0;refine (HM W0 hb0).out.mono ?_;rintro e w1 ⟨v0,rfl,hR,hb1⟩;obtain ⟨A2,c2,rfl,hc2,hC2⟩ := Kd.Q4 hR;clear hR;replace k0 := k0.Xv hb1;replace k1 := k1.Xv hb1;replace hb0 := hb0.trans (hb1.mono hb0.size);clear hb1
 go_wp2_with (fail)
 refine (QZ (fun x => decide (x.f0.f0 ≤ a1)) 69 #[.pointer (some ⟨w.heap.size,0,none⟩)] enters69 A2 c2 ms w1 (by omega) (fun W x hW => bar1_calls x _ a1 W ((hW.cell (p := ⟨w.heap.size,0,none⟩) k0.lt).trans (k0.cell 0 rfl))) hC2).mono ?_;clear hC2;generalize lastOr (fun x => decide (x.f0.f0 ≤ a1)) (XO ms 0) ms = m at h';split at h'
 · rename_i hok
   simp only [okM,Bool.and_eq_true,decide_eq_true_eq] at hok;obtain ⟨⟨⟨⟨⟨⟨⟨⟨⟨o1,o2⟩,o3⟩,o4⟩,o5⟩,o6⟩,o7⟩,o8⟩,o9⟩,o10⟩ := hok;simp only [Option.some.injEq,Prod.mk.injEq] at h';obtain ⟨rfl,rfl,rfl,rfl,rfl⟩ := h';unfold c72;rintro e w2 ⟨rfl,hb2⟩;replace k0 := k0.Xv hb2;replace k1 := k1.Xv hb2;replace hb0 := hb0.trans (hb2.mono hb0.size);clear hb2
   go_wp2_with (fail)
   have hne1 : ¬ w2.heap.size = w.heap.size + 1 := by have := k1.lt;omega
   have hne2 : ¬ w.heap.size + 1 = w2.heap.size := by have := k1.lt;omega
   have k6 := Blk.new w2 #[.int .i64 m.f0.f0,.int .i64 m.f0.f1,.int .i64 m.f0.f2,.int .i64 m.f1] 72;have hb3 := hb0.alloc hb0.size (.cells #[.int .i64 m.f0.f0,.int .i64 m.f0.f1,.int .i64 m.f0.f2,.int .i64 m.f1] 72);replace k0 := k0.alloc (.cells #[.int .i64 m.f0.f0,.int .i64 m.f0.f1,.int .i64 m.f0.f2,.int .i64 m.f1] 72);replace k1 := k1.alloc (.cells #[.int .i64 m.f0.f0,.int .i64 m.f0.f1,.int .i64 m.f0.f2,.int .i64 m.f1] 72);generalize w2.alloc (.cells #[.int .i64 m.f0.f0,.int .i64 m.f0.f1,.int .i64 m.f0.f2,.int .i64 m.f1] 72) = W3 at k0 k1 k6 hb3 ⊢;generalize w2.heap.size = b6 at k6 hne1 hne2 ⊢;have g0 : W3.cell? ⟨w.heap.size,0,none⟩ = some (.int .i64 a1) := k0.cell 0 rfl;have g1 : W3.cell? ⟨b6,0,none⟩ = some (.int .i64 m.f0.f0) := k6.cell 0 rfl;have g2 : W3.cell? ⟨b6,1,none⟩ = some (.int .i64 m.f0.f1) := k6.cell 1 rfl;have g3 : W3.cell? ⟨b6,2,none⟩ = some (.int .i64 m.f0.f2) := k6.cell 2 rfl;have g4 : W3.cell? ⟨b6,3,none⟩ = some (.int .i64 m.f1) := k6.cell 3 rfl;have v1 := mulb (by omega : 0 ≤ m.f0.f1) o4 (by omega : 0 ≤ m.f0.f2) o6
   have v2 : -320000000000000 ≤ (a1 - m.f0.f0) * (m.f0.f1 * m.f0.f2) ∧ (a1 - m.f0.f0) * (m.f0.f1 * m.f0.f2) ≤ 320000000000000 := by
    have e1 := mulb o9 o10 v1.1 v1.2;have e2 := mulb o1 o2 v1.1 v1.2;rw [Int.sub_mul];omega
   have hl : Xz.f m.f0.f0 m.f0.f1 m.f0.f2 m.f1 = some (m.f0.f1 * m.f0.f2) := by unfold Xz.f;rw [w64 (by omega) (by omega)]
   have HL := fun w => Lib.hid (Xz.calls m.f0.f0 m.f0.f1 m.f0.f2 m.f1 _ w hl)
   clear hl;generalize hlg : m.f0.f1 * m.f0.f2 = lg at v1 v2 HL;have HLG := Zd.mk hlg;clear hlg;have u1 : IntKind.i64.wrap (a1 - m.f0.f0) = a1 - m.f0.f0 := (i64_w _).trans (w64 (by omega) (by omega));have u2 : IntKind.i64.wrap ((a1 - m.f0.f0) * lg) = (a1 - m.f0.f0) * lg := (i64_w _).trans (w64 (by omega) (by omega));have u3 : IntKind.i64.wrap (m.f1 + (a1 - m.f0.f0) * lg) = m.f1 + (a1 - m.f0.f0) * lg := (i64_w _).trans (w64 (by omega) (by omega));clear hb0 HM
   go_region_held3 (fun w' => w'.cell? ⟨w.heap.size,0,none⟩ = some (.int .i64 a1) ∧ w'.cell? ⟨b6,0,none⟩ = some (.int .i64 m.f0.f0) ∧ w'.cell? ⟨b6,1,none⟩ = some (.int .i64 m.f0.f1) ∧ w'.cell? ⟨b6,2,none⟩ = some (.int .i64 m.f0.f2) ∧ w'.cell? ⟨b6,3,none⟩ = some (.int .i64 m.f1)) (simp [go_sem, *])
    (first | (go_at_call 49;refine (HL _).out.mono ?_;rintro e w' ⟨rfl,hb4⟩;have y0 := (k0.drew.Xv hb4).cell 0 rfl;have y1 := (k6.drew.Xv hb4).cell 0 rfl;have y2 := (k6.drew.Xv hb4).cell 1 rfl;have y3 := (k6.drew.Xv hb4).cell 2 rfl;have y4 := (k6.drew.Xv hb4).cell 3 rfl;have x0 := (k1.drew.Xv hb4).cell 0 (v := .int .i64 0) rfl;have x1 := (k1.drew.Xv hb4).cell 1 (v := .int .i64 0) rfl;have x2 := (k1.drew.Xv hb4).cell 2 (v := .int .i64 0) rfl;have x3 := (k1.drew.Xv hb4).cell 3 (v := .int .i64 0) rfl;have z0 := (k1.drew.Xv hb4).frozen 0;have z1 := (k1.drew.Xv hb4).frozen 1;have z2 := (k1.drew.Xv hb4).frozen 2;have z3 := (k1.drew.Xv hb4).frozen 3))
   clear u1 u2 u3
   go_wp2
   have s1 := set4' _ _ _ _ (.int .i64 m.f0.f0) (.int .i64 m.f0.f1) (.int .i64 m.f0.f2) (.int .i64 m.f1) (k1.drew.Xv hb4) rfl;have p0 := s1.cell 0 (v := .int .i64 m.f0.f0) rfl;have p1 := s1.cell 1 (v := .int .i64 m.f0.f1) rfl;have p2 := s1.cell 2 (v := .int .i64 m.f0.f2) rfl;have p3 := s1.cell 3 (v := .int .i64 m.f1) rfl;refine bodyPost_ret (v := .tuple #[.agg #[.int .i64 m.f0.f0,.int .i64 m.f0.f1,.int .i64 m.f0.f2,.int .i64 m.f1],.int .i64 (m.f1 + (a1 - m.f0.f0) * lg)]) (by simp [results,Try.results52,go_sem,p0,p1,p2,p3]) rfl ⟨by rw [HLG.out],?_⟩;have hb5 : Below w.heap.size w w' := hb3.drew.trans (hb4.mono (by have := hb3.size;simp;omega));exact (((hb5.setCell (by show _ ≤ w.heap.size + 1;omega) _).setCell (by show _ ≤ w.heap.size + 1;omega) _).setCell (by show _ ≤ w.heap.size + 1;omega) _).setCell (by show _ ≤ w.heap.size + 1;omega) _
 · cases h'
def Xx.f (k : Nat) (l0 : List S61) (a1 : Int) : Option (Int × Int × Int × Int) :=
 (Z7.f k l0).bind fun v => if v = true then (if 0 ≤ a1 ∧ a1 ≤ 1000000000 then ((ZW.f k l0).bind fun ms => if ms.length = 0 then none else
  (fun m : S72 => if okM m a1 = true ∧ m.f1 ≤ a1 then some (m.f0.f0 + (a1 - m.f1) / (m.f0.f1 * m.f0.f2),(a1 - m.f1) % (m.f0.f1 * m.f0.f2) / m.f0.f2,(a1 - m.f1) % m.f0.f2,0) else none) (lastOr (fun x => decide (x.f1 ≤ a1)) (XO ms 0) ms)) else some (0,0,0,7)) else some (0,0,0,1)
theorem Xx.mono : ∀ a0 a1 k,LeO (Xx.f k a0 a1) (Xx.f (k + 1) a0 a1) := by
 intro a0 a1 k;unfold Xx.f;exact LeO.bind (Z7.mono _ _) (fun _ => LeO.ite (LeO.ite (LeO.bind (ZW.mono _ _) (fun _ => LeO.refl _)) (LeO.refl _)) (LeO.refl _))
set_option maxRecDepth 100000 in
set_option maxHeartbeats 2000000 in
theorem Xx.calls (k : Nat) (A0 : Option Addr) (c0 : Nat) (l0 : List (S61)) (a1 : Int) (r1 r2 r3 r4 : Int) (w : World) (hr0 : Kd.C k61 w A0 l0.length l0) (hc0 : l0.length ≤ c0) (h : Xx.f k l0 a1 = some (r1,r2,r3,r4)) :
 Calls Try.prog 16 #[.slice A0 l0.length c0,.int .i64 a1] w fun e w' => e = .returned (.tuple #[.agg #[.int .i64 r1,.int .i64 r2,.int .i64 r3],.int .i64 r4]) ∧ Below w.heap.size w w' := by
 unfold Xx.f at h;obtain ⟨v,hv,h'⟩ := Option.bind_eq_some_iff.mp h;clear h
 have HV := fun w1 (hb : Below w.heap.size w w1) => Lib.hid (Z7.calls k A0 c0 l0 v w1 (Kd.ZK hr0 hb) hc0 hv)
 clear hv
 have hmf : ∀ (fn : Fn) (first cap : Array Value) (w : World),(Instr.makeFunc fn first cap).run Try.prog w = .ok (.func fn first cap) w := fun _ _ _ _ => rfl
 obtain ⟨W0,hW0⟩ : ∃ W0,W0 = (w.alloc (.cells #[.int .i64 a1] 3)).alloc (.cells #[.int .i64 0,.int .i64 0,.int .i64 0] 37) := ⟨_,rfl⟩
 have k0 : Blk W0 w.heap.size #[.int .i64 a1] 3 := by rw [hW0];exact (Blk.new w _ _).alloc _
 have k1 : Blk W0 (w.heap.size + 1) #[.int .i64 0,.int .i64 0,.int .i64 0] 37 := by rw [hW0];have := Blk.new (w.alloc (.cells #[.int .i64 a1] 3)) #[.int .i64 0,.int .i64 0,.int .i64 0] 37;rw [World.size_alloc] at this;exact this
 have hb0 : Below w.heap.size w W0 := by rw [hW0];exact ((Below.refl _ w).alloc (Nat.le_refl _) _).alloc (by simp) _
 have HW0 := Zd.mk hW0;clear hW0
 cases v with
 | false =>
  simp only [Bool.false_eq_true,if_false,Option.some.injEq,Prod.mk.injEq] at h';obtain ⟨rfl,rfl,rfl,rfl⟩ := h'
  go_enter Try.func16,Try.ntmps16
  go_wp2_with (fail)
  rw [← HW0.out];refine (HV W0 hb0).out.mono ?_;rintro e w1 ⟨rfl,hb1⟩;replace k1 := k1.Xv hb1;replace hb0 := hb0.trans (hb1.mono hb0.size);clear hb1 k0;have x0 := k1.cell 0 (v := .int .i64 0) rfl;have x1 := k1.cell 1 (v := .int .i64 0) rfl;have x2 := k1.cell 2 (v := .int .i64 0) rfl;have z0 := k1.frozen 0;have z1 := k1.frozen 1;have z2 := k1.frozen 2
  go_wp2_with (fail)
  have s1 := set3' _ _ _ _ (.int .i64 0) (.int .i64 0) (.int .i64 0) k1 rfl;have p0 := s1.cell 0 (v := .int .i64 0) rfl;have p1 := s1.cell 1 (v := .int .i64 0) rfl;have p2 := s1.cell 2 (v := .int .i64 0) rfl;refine bodyPost_ret (v := .tuple #[.agg #[.int .i64 0,.int .i64 0,.int .i64 0],.int .i64 1]) (by simp [results,Try.results16,go_sem,p0,p1,p2]) rfl ⟨rfl,?_⟩;exact ((hb0.setCell (by show _ ≤ w.heap.size + 1;omega) _).setCell (by show _ ≤ w.heap.size + 1;omega) _).setCell (by show _ ≤ w.heap.size + 1;omega) _
 | true =>
  simp only [if_true] at h'
  have hw43 : ∀ w1,Calls Try.prog 43 #[.int .i64 a1,.int .i64 0,.int .i64 1000000000] w1 fun e w' => e = .returned (.bool (decide (0 ≤ a1) && decide (a1 ≤ 1000000000))) ∧ Drawn0 w1 w' := fun w1 => Z1.calls a1 0 1000000000 _ w1 (Z1.eq _ _ _)
  by_cases hin : 0 ≤ a1 ∧ a1 ≤ 1000000000
  · rw [if_pos hin] at h'
    rw [show (decide (0 ≤ a1) && decide (a1 ≤ 1000000000)) = true by simp [hin]] at hw43
    have HW43 := fun w => Lib.hid (hw43 w)
    clear hw43;obtain ⟨i1,i2⟩ := hin;obtain ⟨ms,hms,h'⟩ := Option.bind_eq_some_iff.mp h';split at h'
    · cases h'
    rename_i hne
    have HM := fun w1 (hb : Below w.heap.size w w1) => Lib.hid (ZW.calls k A0 c0 l0 ms w1 (Kd.ZK hr0 hb) hc0 hms)
    clear hr0 hms
    go_enter Try.func16,Try.ntmps16
    go_wp2_with (fail)
    rw [← HW0.out];refine (HV W0 hb0).out.mono ?_;rintro e w1 ⟨rfl,hb1⟩;replace k0 := k0.Xv hb1;replace k1 := k1.Xv hb1;replace hb0 := hb0.trans (hb1.mono hb0.size);clear hb1;have g0 : w1.cell? ⟨w.heap.size,0,none⟩ = some (.int .i64 a1) := k0.cell 0 rfl
    go_wp2_with (fail)
    refine (HW43 _).out.mono ?_;rintro e w2 ⟨rfl,⟨nd,rfl⟩⟩;replace k0 := k0.drewN nd;replace k1 := k1.drewN nd;replace hb0 : Below w.heap.size w (w1.drewN nd) := Za hb0 nd;clear g0;generalize w1.drewN nd = w2 at k0 k1 hb0 ⊢
    go_wp2_with (fail)
    refine (HM w2 hb0).out.mono ?_;rintro e w3 ⟨v0,rfl,hR,hb1⟩;obtain ⟨A2,c2,rfl,hc2,hC2⟩ := Kd.Q4 hR;clear hR;replace k0 := k0.Xv hb1;replace k1 := k1.Xv hb1;replace hb0 := hb0.trans (hb1.mono hb0.size);clear hb1
    go_wp2_with (fail)
    refine (QZ (fun x => decide (x.f1 ≤ a1)) 48 #[.pointer (some ⟨w.heap.size,0,none⟩)] enters48 A2 c2 ms w3 (by omega) (fun W x hW => place1_calls x _ a1 W ((hW.cell (p := ⟨w.heap.size,0,none⟩) k0.lt).trans (k0.cell 0 rfl))) hC2).mono ?_;clear hC2;generalize lastOr (fun x => decide (x.f1 ≤ a1)) (XO ms 0) ms = m at h';split at h'
    · rename_i hok
      obtain ⟨hok,hle⟩ := hok;simp only [okM,Bool.and_eq_true,decide_eq_true_eq] at hok;obtain ⟨⟨⟨⟨⟨⟨⟨⟨⟨o1,o2⟩,o3⟩,o4⟩,o5⟩,o6⟩,o7⟩,o8⟩,o9⟩,o10⟩ := hok;simp only [Option.some.injEq,Prod.mk.injEq] at h';obtain ⟨rfl,rfl,rfl,rfl⟩ := h';unfold c72;rintro e w4 ⟨rfl,hb2⟩;replace k0 := k0.Xv hb2;replace k1 := k1.Xv hb2;replace hb0 := hb0.trans (hb2.mono hb0.size);clear hb2;have g0 : w4.cell? ⟨w.heap.size,0,none⟩ = some (.int .i64 a1) := k0.cell 0 rfl;have g0lt := k0.lt
      go_wp2_with (fail)
      clear g0
      have hne1 : ¬ w4.heap.size = w.heap.size + 1 := by have := k1.lt;omega
      have hne2 : ¬ w.heap.size + 1 = w4.heap.size := by have := k1.lt;omega
      have k6 := Blk.new w4 #[.int .i64 m.f0.f0,.int .i64 m.f0.f1,.int .i64 m.f0.f2,.int .i64 m.f1] 72;have hb3 := hb0.alloc hb0.size (.cells #[.int .i64 m.f0.f0,.int .i64 m.f0.f1,.int .i64 m.f0.f2,.int .i64 m.f1] 72);replace k1 := k1.alloc (.cells #[.int .i64 m.f0.f0,.int .i64 m.f0.f1,.int .i64 m.f0.f2,.int .i64 m.f1] 72);generalize w4.alloc (.cells #[.int .i64 m.f0.f0,.int .i64 m.f0.f1,.int .i64 m.f0.f2,.int .i64 m.f1] 72) = W3 at k1 k6 hb3 ⊢;generalize w4.heap.size = b6 at k6 hne1 hne2 ⊢;have g1 : W3.cell? ⟨b6,0,none⟩ = some (.int .i64 m.f0.f0) := k6.cell 0 rfl;have g2 : W3.cell? ⟨b6,1,none⟩ = some (.int .i64 m.f0.f1) := k6.cell 1 rfl;have g3 : W3.cell? ⟨b6,2,none⟩ = some (.int .i64 m.f0.f2) := k6.cell 2 rfl;have g4 : W3.cell? ⟨b6,3,none⟩ = some (.int .i64 m.f1) := k6.cell 3 rfl;have v1 := mulb (by omega : 0 ≤ m.f0.f1) o4 (by omega : 0 ≤ m.f0.f2) o6
      have v3 : 1 ≤ m.f0.f1 * m.f0.f2 := by
       have := Int.mul_le_mul o3 o5 (by omega) (by omega);omega
      have hl : Xz.f m.f0.f0 m.f0.f1 m.f0.f2 m.f1 = some (m.f0.f1 * m.f0.f2) := by unfold Xz.f;rw [w64 (by omega) (by omega)]
      have HL := fun w => Lib.hid (Xz.calls m.f0.f0 m.f0.f1 m.f0.f2 m.f1 _ w hl)
      clear hl;generalize hlg : m.f0.f1 * m.f0.f2 = lg at v1 v3 HL;have HLG := Zd.mk hlg;clear hlg
      have e0 : 0 ≤ a1 - m.f1 := by omega
      have u1 : IntKind.i64.wrap ((a1 - m.f1).tdiv lg) = (a1 - m.f1) / lg := by
       rw [Int.tdiv_eq_ediv_of_nonneg e0,i64_w];have h1 : 0 ≤ (a1 - m.f1) / lg := Int.ediv_nonneg e0 (by omega);have h2 : (a1 - m.f1) / lg ≤ a1 - m.f1 := Int.ediv_le_self _ e0;exact w64 (by omega) (by omega)
      have u2 : IntKind.i64.wrap (m.f0.f0 + (a1 - m.f1) / lg) = m.f0.f0 + (a1 - m.f1) / lg := by
       rw [i64_w];have h1 : 0 ≤ (a1 - m.f1) / lg := Int.ediv_nonneg e0 (by omega);have h2 : (a1 - m.f1) / lg ≤ a1 - m.f1 := Int.ediv_le_self _ e0;exact w64 (by omega) (by omega)
      have u3 : (a1 - m.f1).tmod lg = (a1 - m.f1) % lg := Int.tmod_eq_emod_of_nonneg e0
      have u4 : IntKind.i64.wrap (((a1 - m.f1) % lg).tdiv m.f0.f2) = (a1 - m.f1) % lg / m.f0.f2 := by
       have h0 : 0 ≤ (a1 - m.f1) % lg := Int.emod_nonneg _ (by omega);have h3 : (a1 - m.f1) % lg < lg := Int.emod_lt_of_pos _ (by omega);rw [Int.tdiv_eq_ediv_of_nonneg h0,i64_w];have h1 : 0 ≤ (a1 - m.f1) % lg / m.f0.f2 := Int.ediv_nonneg h0 (by omega);have h2 : (a1 - m.f1) % lg / m.f0.f2 ≤ (a1 - m.f1) % lg := Int.ediv_le_self _ h0;exact w64 (by omega) (by omega)
      have u5 : (a1 - m.f1).tmod m.f0.f2 = (a1 - m.f1) % m.f0.f2 := Int.tmod_eq_emod_of_nonneg e0
      have u6 : ¬ lg = 0 := by omega
      have u7 : ¬ m.f0.f2 = 0 := by omega
      have u8 : (lg == 0) = false := beq_eq_false_iff_ne.2 u6;have u9 : (m.f0.f2 == 0) = false := beq_eq_false_iff_ne.2 u7;clear hb0 HM
      go_region_held3 (fun w' => w'.cell? ⟨b6,0,none⟩ = some (.int .i64 m.f0.f0) ∧ w'.cell? ⟨b6,1,none⟩ = some (.int .i64 m.f0.f1) ∧ w'.cell? ⟨b6,2,none⟩ = some (.int .i64 m.f0.f2) ∧ w'.cell? ⟨b6,3,none⟩ = some (.int .i64 m.f1)) (simp [go_sem, *])
       (first | (go_at_call 49;refine (HL _).out.mono ?_;rintro e w' ⟨rfl,hb4⟩;have hb3' := Below.call_ hb3 hb3.size hb4 ⟨rfl,rfl,rfl,rfl⟩;have k1' := Blk.call k1 hb4 rfl;have k6' := Blk.call k6 hb4 rfl;clear hb3 k1 k6 hb4;have hb3 := hb3';have k1 := k1';have k6 := k6';clear hb3' k1' k6';have y1 := k6.cell 0 (v := .int .i64 m.f0.f0) rfl;have y2 := k6.cell 1 (v := .int .i64 m.f0.f1) rfl;have y3 := k6.cell 2 (v := .int .i64 m.f0.f2) rfl;have y4 := k6.cell 3 (v := .int .i64 m.f1) rfl;have x0 := k1.cell 0 (v := .int .i64 0) rfl;have x1 := k1.cell 1 (v := .int .i64 0) rfl;have x2 := k1.cell 2 (v := .int .i64 0) rfl;have z0 := k1.frozen 0;have z1 := k1.frozen 1;have z2 := k1.frozen 2))
      clear u1 u2 u3 u4 u5 u6 u7 u8 u9
      go_wp2
      have s1 := set3' _ _ _ _ (.int .i64 (m.f0.f0 + (a1 - m.f1) / lg)) (.int .i64 ((a1 - m.f1) % lg / m.f0.f2)) (.int .i64 ((a1 - m.f1) % m.f0.f2)) k1 rfl;have p0 := s1.cell 0 (v := .int .i64 (m.f0.f0 + (a1 - m.f1) / lg)) rfl;have p1 := s1.cell 1 (v := .int .i64 ((a1 - m.f1) % lg / m.f0.f2)) rfl;have p2 := s1.cell 2 (v := .int .i64 ((a1 - m.f1) % m.f0.f2)) rfl;refine bodyPost_ret (v := .tuple #[.agg #[.int .i64 (m.f0.f0 + (a1 - m.f1) / lg),.int .i64 ((a1 - m.f1) % lg / m.f0.f2),.int .i64 ((a1 - m.f1) % m.f0.f2)],.int .i64 0]) (by simp [results,Try.results16,go_sem,p0,p1,p2]) rfl ⟨by rw [HLG.out],?_⟩;exact ((hb3.setCell (by show _ ≤ w.heap.size + 1;omega) _).setCell (by show _ ≤ w.heap.size + 1;omega) _).setCell (by show _ ≤ w.heap.size + 1;omega) _
    · cases h'
  · rw [if_neg hin] at h'
    rw [show (decide (0 ≤ a1) && decide (a1 ≤ 1000000000)) = false by by_cases h : 0 ≤ a1 <;> simp_all] at hw43
    have HW43 := fun w => Lib.hid (hw43 w)
    clear hw43 hr0;simp only [Option.some.injEq,Prod.mk.injEq] at h';obtain ⟨rfl,rfl,rfl,rfl⟩ := h'
    go_enter Try.func16,Try.ntmps16
    go_wp2_with (fail)
    rw [← HW0.out];refine (HV W0 hb0).out.mono ?_;rintro e w1 ⟨rfl,hb1⟩;replace k0 := k0.Xv hb1;replace k1 := k1.Xv hb1;replace hb0 := hb0.trans (hb1.mono hb0.size);clear hb1;have g0 : w1.cell? ⟨w.heap.size,0,none⟩ = some (.int .i64 a1) := k0.cell 0 rfl
    go_wp2_with (fail)
    refine (HW43 _).out.mono ?_;rintro e w2 ⟨rfl,⟨nd,rfl⟩⟩;replace k1 := k1.drewN nd;replace hb0 : Below w.heap.size w (w1.drewN nd) := Za hb0 nd;clear g0 k0;generalize w1.drewN nd = w2 at k1 hb0 ⊢;have x0 := k1.cell 0 (v := .int .i64 0) rfl;have x1 := k1.cell 1 (v := .int .i64 0) rfl;have x2 := k1.cell 2 (v := .int .i64 0) rfl;have z0 := k1.frozen 0;have z1 := k1.frozen 1;have z2 := k1.frozen 2
    go_wp2_with (fail)
    have s1 := set3' _ _ _ _ (.int .i64 0) (.int .i64 0) (.int .i64 0) k1 rfl;have p0 := s1.cell 0 (v := .int .i64 0) rfl;have p1 := s1.cell 1 (v := .int .i64 0) rfl;have p2 := s1.cell 2 (v := .int .i64 0) rfl;refine bodyPost_ret (v := .tuple #[.agg #[.int .i64 0,.int .i64 0,.int .i64 0],.int .i64 7]) (by simp [results,Try.results16,go_sem,p0,p1,p2]) rfl ⟨rfl,?_⟩;exact ((hb0.setCell (by show _ ≤ w.heap.size + 1;omega) _).setCell (by show _ ≤ w.heap.size + 1;omega) _).setCell (by show _ ≤ w.heap.size + 1;omega) _
end Go.Proofs.Ytomlfbmfdoallaa.PA

namespace Go.Proofs.Ytomlfbmfdoallaa.PA
open Go.RowKit Go.Proofs.YtomlfbmfdoallaaW.PrintWords Go.Proofs.YtomlfbmfdoallaaW.PrintLast Go.Proofs.YtomlfbmfdoallaaW.PrintMore
attribute [local go_sem] Xf Xe Xj Xk ZV ZU Xd Xc
set_option linter.unusedVariables false
set_option linter.unusedSimpArgs false
end Go.Proofs.Ytomlfbmfdoallaa.PA

namespace Go.Proofs.Ytomlfbmfdoallaa.PA
open Go.RowKit Go.Proofs.YtomlfbmfdoallaaW.PrintWords Go.Proofs.YtomlfbmfdoallaaW.PrintLast Go.Proofs.YtomlfbmfdoallaaW.PrintMore
attribute [local go_sem] Xf Xe Xj Xk ZV ZU Xd Xc
set_option linter.unusedVariables false
set_option linter.unusedSimpArgs false
attribute [local go_sem high] eqA37
def Z6.f (k : Nat)  : Option (Bool) := (ZY.f k (([(⟨0,131072,0⟩ : S27),(⟨10,196608,0⟩ : S27)] : List (S27))) 5 12).bind fun bt127 => (if bt127.1 = 31 then (if bt127.2 = 0 then ((Xx.f k (([(⟨0,4,10⟩ : S61)] : List (S61))) 95).bind fun bt132 => (if bt132.2.2.2 = 0 then (some (bt132.1 == 2 && (bt132.2.1 == 1 && (bt132.2.2.1 == 5)))) else (some false))) else (some false)) else (some false))
theorem Z6.mono : ∀ k,LeO (Z6.f k ) (Z6.f (k + 1) ) := by
 intro  k;unfold Z6.f
 repeat' first
  | (with_reducible exact ZY.mono _ _ _ _)
  | (with_reducible exact Xx.mono _ _ _)
  | (with_reducible exact LeO.refl _)
  | (with_reducible exact LeO.none _)
  | (with_reducible refine LeO.ite ?_ ?_)
  | (with_reducible refine LeO.bind ?_ (fun _ => ?_))
  | exact ZY.mono _ _ _ _
  | exact Xx.mono _ _ _
  | exact LeO.none _
  | refine LeO.ite ?_ ?_
  | refine LeO.bind ?_ (fun _ => ?_)
set_option maxHeartbeats 8000000 in
set_option maxRecDepth 100000 in
theorem Z6.calls (k : Nat)  (r : Bool) (w : World) (h : Z6.f k  = some r) :
 Calls Try.prog 9 #[] w fun e w' => e = .returned (.bool r) ∧ Below w.heap.size w w' := by
 have hu27 := Try.underlying27;have hu61 := Try.underlying61;have hu37 := Try.underlying37;have HB := Zd.mk (Below.refl w.heap.size w);have H : ((ZY.f k (([(⟨0,131072,0⟩ : S27),(⟨10,196608,0⟩ : S27)] : List (S27))) 5 12).bind fun bt127 => (if bt127.1 = 31 then (if bt127.2 = 0 then ((Xx.f k (([(⟨0,4,10⟩ : S61)] : List (S61))) 95).bind fun bt132 => (if bt132.2.2.2 = 0 then (some (bt132.1 == 2 && (bt132.2.1 == 1 && (bt132.2.2.1 == 5)))) else (some false))) else (some false)) else (some false))) = some r := h;clear h
 obtain ⟨y124,hy124⟩ : ∃ y_ : List (S27),y_ = (([(⟨0,131072,0⟩ : S27),(⟨10,196608,0⟩ : S27)] : List (S27))) := ⟨_,rfl⟩
 replace H : ((ZY.f k y124 5 12).bind fun bt127 => (if bt127.1 = 31 then (if bt127.2 = 0 then ((Xx.f k (([(⟨0,4,10⟩ : S61)] : List (S61))) 95).bind fun bt132 => (if bt132.2.2.2 = 0 then (some (bt132.1 == 2 && (bt132.2.1 == 1 && (bt132.2.2.1 == 5)))) else (some false))) else (some false)) else (some false))) = some r := by first | (rw [hy124];with_reducible exact H) | (have H2_ := (Option.bind_some _ _).symm.trans H;rw [hy124];with_reducible exact H2_) | (have H2_ := (Option.bind_some _ _).symm.trans H;with_reducible exact H2_) | with_reducible exact H | (rw [hy124];exact H) | exact H
 have Ny124 := Zd.mk hy124;clear hy124;replace H := Option.bind_eq_some_iff.mp H;obtain ⟨⟨t127,t128⟩,A10,H⟩ := H;replace H : (if t127 = 31 then (if t128 = 0 then ((Xx.f k (([(⟨0,4,10⟩ : S61)] : List (S61))) 95).bind fun bt132 => (if bt132.2.2.2 = 0 then (some (bt132.1 == 2 && (bt132.2.1 == 1 && (bt132.2.2.1 == 5)))) else (some false))) else (some false)) else (some false)) = some r := H;have A1 := Zd.mk A10;clear A10
 by_cases c2 : t127 = 31
 · rw [if_pos c2] at H
   have c2b0 : (t127 == 31) = true := beq_iff_eq.mpr c2;have c2b1 : (t127 != 31) = false := bne_eq_false_iff_eq.mpr c2;clear c2
   by_cases c3 : t128 = 0
   · rw [if_pos c3] at H
     have c3b0 : (t128 == 0) = true := beq_iff_eq.mpr c3;have c3b1 : (t128 != 0) = false := bne_eq_false_iff_eq.mpr c3;clear c3
     obtain ⟨y129,hy129⟩ : ∃ y_ : List (S61),y_ = (([(⟨0,4,10⟩ : S61)] : List (S61))) := ⟨_,rfl⟩
     replace H : ((Xx.f k y129 95).bind fun bt132 => (if bt132.2.2.2 = 0 then (some (bt132.1 == 2 && (bt132.2.1 == 1 && (bt132.2.2.1 == 5)))) else (some false))) = some r := by first | (rw [hy129];with_reducible exact H) | (have H2_ := (Option.bind_some _ _).symm.trans H;rw [hy129];with_reducible exact H2_) | (have H2_ := (Option.bind_some _ _).symm.trans H;with_reducible exact H2_) | with_reducible exact H | (rw [hy129];exact H) | exact H
     have Ny129 := Zd.mk hy129;clear hy129;replace H := Option.bind_eq_some_iff.mp H;obtain ⟨⟨t132,t133,t134,t135⟩,A40,H⟩ := H;replace H : (if t135 = 0 then (some (t132 == 2 && (t133 == 1 && (t134 == 5)))) else (some false)) = some r := H;have A4 := Zd.mk A40;clear A40
     by_cases c5 : t135 = 0
     · rw [if_pos c5] at H
       have c5b0 : (t135 == 0) = true := beq_iff_eq.mpr c5;have c5b1 : (t135 != 0) = false := bne_eq_false_iff_eq.mpr c5;clear c5;obtain rfl := Option.some.inj H
       go_enter Try.func9,Try.ntmps9
       go_wp2_with (first | ((with_reducible refine Xq (N := 7) rfl ?_);refine Kd.R_lit k27 _ 27 ?hg (N := 7) ?hd (xs := ([(⟨0,131072,0⟩ : S27),(⟨10,196608,0⟩ : S27)] : List (S27))) (inner := [.int .i64 0,.int .i64 131072,.int .i64 0,.int .i64 10,.int .i64 196608,.int .i64 0]) (ok := fun _ => True) (okp := fun _ => True) ?hr ?hp (fun _ hk => hk) trivial (Below.refl _ _) (Nat.le_refl _) (by simp) ?_;(case hd => rfl);(case hg => rfl);(case hr => first | (go_simp;done) | (go_simp;rfl));(case hp => exact (Reps.c3 (show Kd.M k27 _ _ _ (⟨0,131072,0⟩ : S27) [.int .i64 0,.int .i64 131072,.int .i64 0] from (Qa _ _ _ (⟨0,131072,0⟩ : S27) )) (Reps.c3 (show Kd.M k27 _ _ _ (⟨10,196608,0⟩ : S27) [.int .i64 10,.int .i64 196608,.int .i64 0] from (Qa _ _ _ (⟨10,196608,0⟩ : S27) )) (Reps.none _ _))));intro v125 w6 ho7 hb hg_ hnew_;clear hg_ hnew_;(first | rw [← Ny124.out] at ho7 | (simp only [Int.reduceToNat] at ho7;rw [← Ny124.out] at ho7));have n0_ := Zd.mk (Kd.X5 ho7 (ZJ (by repeat (first | (with_reducible first | exact HB.out | apply Zc | apply Za | apply Zb) | exact HB.out))));have n1_ := Zd.mk (Z0 (by repeat (first | (with_reducible first | exact HB.out | apply Zc | apply Za | apply Zb) | exact HB.out)) hb);clear HB;have HO126 := n0_;have HB := n1_;clear n0_ n1_;clear hb ho7;obtain ⟨Ao8,co8,eo8⟩ := Kd.Xw HO126.out;subst eo8) | ((with_reducible refine Z2 (f := 13) rfl ?_);refine ZP (some 10) rfl rfl Try.func13 (by kernel_rfl) rfl #[.slice Ao8 y124.length co8,.int .i64 5,.int .i64 12] rfl (by (try simp only [List.map_toArray,List.map_cons,List.map_nil]);first | done | rfl | (simp only [List.length_drop,List.length_take];rfl)) ?_;(with_reducible refine (ZY.calls k _ _ y124 5 12 t127 t128 _ ?side1 ?side2 A1.out).mono ?_);(case side1 => repeat (first | exact (Kd.Xp HO126.out).2.2 | (with_reducible refine Kd.Z8 ?_ _) | (with_reducible refine Kd.ZB ?_ _) | (with_reducible refine Kd.ZI ?_)));(case side2 => exact (Kd.Xp HO126.out).2.1);rintro e w9 ⟨rfl,hb⟩;refine ⟨_,rfl,?_⟩;have n0_ := Zd.mk (Kd.Xn (by (with_reducible repeat (first | apply Kd.ZF | apply Kd.ZG | apply Kd.ZN));exact HO126.out) hb);have n1_ := Zd.mk (Z0 (by repeat (first | (with_reducible first | exact HB.out | apply Zc | apply Za | apply Zb) | exact HB.out)) hb);clear HO126;clear HB;have HO126 := n0_;have HB := n1_;clear n0_ n1_;(try clear hb);(try clear hb2);(try clear hk);(try clear hi)) | ((with_reducible refine Xq (N := 21) rfl ?_);refine Kd.R_lit k61 _ 61 ?hg (N := 21) ?hd (xs := ([(⟨0,4,10⟩ : S61)] : List (S61))) (inner := [.int .i64 0,.int .i64 4,.int .i64 10]) (ok := fun _ => True) (okp := fun _ => True) ?hr ?hp (fun _ hk => hk) trivial (Below.refl _ _) (Nat.le_refl _) (by simp) ?_;(case hd => rfl);(case hg => rfl);(case hr => first | (go_simp;done) | (go_simp;rfl));(case hp => exact (Reps.c3 (show Kd.M k61 _ _ _ (⟨0,4,10⟩ : S61) [.int .i64 0,.int .i64 4,.int .i64 10] from (Yu _ _ _ (⟨0,4,10⟩ : S61) )) (Reps.none _ _)));intro v130 w10 ho11 hb hg_ hnew_;clear hg_ hnew_;(first | rw [← Ny129.out] at ho11 | (simp only [Int.reduceToNat] at ho11;rw [← Ny129.out] at ho11));have n0_ := Zd.mk (Kd.Xn (by (with_reducible repeat (first | apply Kd.ZF | apply Kd.ZG | apply Kd.ZN));exact HO126.out) hb);have n1_ := Zd.mk (Kd.X5 ho11 (ZJ (by repeat (first | (with_reducible first | exact HB.out | apply Zc | apply Za | apply Zb) | exact HB.out))));have n2_ := Zd.mk (Z0 (by repeat (first | (with_reducible first | exact HB.out | apply Zc | apply Za | apply Zb) | exact HB.out)) hb);clear HO126;clear HB;have HO126 := n0_;have HO131 := n1_;have HB := n2_;clear n0_ n1_ n2_;clear hb ho11;obtain ⟨Ao12,co12,eo12⟩ := Kd.Xw HO131.out;subst eo12) | ((with_reducible refine Z2 (f := 16) rfl ?_);refine ZP (some 22) rfl rfl Try.func16 (by kernel_rfl) rfl #[.slice Ao12 y129.length co12,.int .i64 95] rfl (by (try simp only [List.map_toArray,List.map_cons,List.map_nil]);first | done | rfl | (simp only [List.length_drop,List.length_take];rfl)) ?_;(with_reducible refine (Xx.calls k _ _ y129 95 t132 t133 t134 t135 _ ?side1 ?side2 A4.out).mono ?_);(case side1 => repeat (first | exact (Kd.Xp HO131.out).2.2 | (with_reducible refine Kd.Z8 ?_ _) | (with_reducible refine Kd.ZB ?_ _) | (with_reducible refine Kd.ZI ?_)));(case side2 => exact (Kd.Xp HO131.out).2.1);rintro e w13 ⟨rfl,hb⟩;refine ⟨_,rfl,?_⟩;have n0_ := Zd.mk (Kd.Xn (by (with_reducible repeat (first | apply Kd.ZF | apply Kd.ZG | apply Kd.ZN));exact HO126.out) hb);have n1_ := Zd.mk (Kd.Xn (by (with_reducible repeat (first | apply Kd.ZF | apply Kd.ZG | apply Kd.ZN));exact HO131.out) hb);have n2_ := Zd.mk (Z0 (by repeat (first | (with_reducible first | exact HB.out | apply Zc | apply Za | apply Zb) | exact HB.out)) hb);clear HO126;clear HO131;clear HB;have HO126 := n0_;have HO131 := n1_;have HB := n2_;clear n0_ n1_ n2_;(try clear hb);(try clear hb2);(try clear hk);(try clear hi)) | ((with_reducible refine Xq (N := 4) rfl ?_);refine Xy ?hg (N := 4) ?hd (cs := #[.int .i64 0,.int .i64 0,.int .i64 0]) (t := 37) ?hr ?_;(case hd => rfl);(case hg => rfl);(case hr => first | (go_simp;done) | (go_simp;rfl));intro gb136 hg w14 hbox hb;have n0_ := Zd.mk (Kd.Xn (by (with_reducible repeat (first | apply Kd.ZF | apply Kd.ZG | apply Kd.ZN));exact HO126.out) hb);have n1_ := Zd.mk (Kd.Xn (by (with_reducible repeat (first | apply Kd.ZF | apply Kd.ZG | apply Kd.ZN));exact HO131.out) hb);have n2_ := Zd.mk (Z0 (by repeat (first | (with_reducible first | exact HB.out | apply Zc | apply Za | apply Zb) | exact HB.out)) hb);have n3_ := Zd.mk (hbox);have n4_ := Zd.mk ((by rw [hg];exact (ZJ (by repeat (first | (with_reducible first | exact HB.out | apply Zc | apply Za | apply Zb) | exact HB.out))) : w.heap.size ≤ gb136));have n5_ := Zd.mk ((by rw [hg];exact (ZJ (by repeat (first | (with_reducible first | exact HB.out | apply Zc | apply Za | apply Zb) | exact HB.out))) : w.heap.size ≤ gb136));clear HO126;clear HO131;clear HB;have HO126 := n0_;have HO131 := n1_;have HB := n2_;have BK136 := n3_;have GW136 := n4_;have GE136 := n5_;clear n0_ n1_ n2_ n3_ n4_ n5_;clear hb hbox hg;have hcz15_0 : w14.cell? ⟨gb136,0,none⟩ = some (.int .i64 0) := (Zm BK136.out 0).trans rfl;have hcz15_1 : w14.cell? ⟨gb136,1,none⟩ = some (.int .i64 0) := (Zm BK136.out 1).trans rfl;have hcz15_2 : w14.cell? ⟨gb136,2,none⟩ = some (.int .i64 0) := (Zm BK136.out 2).trans rfl;have hfz15_0 := Zr BK136.out 0;have hfz15_1 := Zr BK136.out 1;have hfz15_2 := Zr BK136.out 2))
       go_ret;exact ⟨by first | rfl | (simp [Zt,Zv] <;> rfl) | (simp [*,Zt,Zv] <;> rfl),by repeat (first | (with_reducible first | exact HB.out | apply Zc | apply Za | apply Zb | refine Z9 ?_ GE136.out) | exact HB.out)⟩
     · rw [if_neg c5] at H
       have c5b0 : (t135 == 0) = false := beq_eq_false_iff_ne.mpr c5;have c5b1 : (t135 != 0) = true := bne_iff_ne.mpr c5;obtain rfl := Option.some.inj H
       go_enter Try.func9,Try.ntmps9
       go_wp2_with (first | ((with_reducible refine Xq (N := 7) rfl ?_);refine Kd.R_lit k27 _ 27 ?hg (N := 7) ?hd (xs := ([(⟨0,131072,0⟩ : S27),(⟨10,196608,0⟩ : S27)] : List (S27))) (inner := [.int .i64 0,.int .i64 131072,.int .i64 0,.int .i64 10,.int .i64 196608,.int .i64 0]) (ok := fun _ => True) (okp := fun _ => True) ?hr ?hp (fun _ hk => hk) trivial (Below.refl _ _) (Nat.le_refl _) (by simp) ?_;(case hd => rfl);(case hg => rfl);(case hr => first | (go_simp;done) | (go_simp;rfl));(case hp => exact (Reps.c3 (show Kd.M k27 _ _ _ (⟨0,131072,0⟩ : S27) [.int .i64 0,.int .i64 131072,.int .i64 0] from (Qa _ _ _ (⟨0,131072,0⟩ : S27) )) (Reps.c3 (show Kd.M k27 _ _ _ (⟨10,196608,0⟩ : S27) [.int .i64 10,.int .i64 196608,.int .i64 0] from (Qa _ _ _ (⟨10,196608,0⟩ : S27) )) (Reps.none _ _))));intro v125 w16 ho17 hb hg_ hnew_;clear hg_ hnew_;(first | rw [← Ny124.out] at ho17 | (simp only [Int.reduceToNat] at ho17;rw [← Ny124.out] at ho17));have n0_ := Zd.mk (Kd.X5 ho17 (ZJ (by repeat (first | (with_reducible first | exact HB.out | apply Zc | apply Za | apply Zb) | exact HB.out))));have n1_ := Zd.mk (Z0 (by repeat (first | (with_reducible first | exact HB.out | apply Zc | apply Za | apply Zb) | exact HB.out)) hb);clear HB;have HO126 := n0_;have HB := n1_;clear n0_ n1_;clear hb ho17;obtain ⟨Ao18,co18,eo18⟩ := Kd.Xw HO126.out;subst eo18) | ((with_reducible refine Z2 (f := 13) rfl ?_);refine ZP (some 10) rfl rfl Try.func13 (by kernel_rfl) rfl #[.slice Ao18 y124.length co18,.int .i64 5,.int .i64 12] rfl (by (try simp only [List.map_toArray,List.map_cons,List.map_nil]);first | done | rfl | (simp only [List.length_drop,List.length_take];rfl)) ?_;(with_reducible refine (ZY.calls k _ _ y124 5 12 t127 t128 _ ?side1 ?side2 A1.out).mono ?_);(case side1 => repeat (first | exact (Kd.Xp HO126.out).2.2 | (with_reducible refine Kd.Z8 ?_ _) | (with_reducible refine Kd.ZB ?_ _) | (with_reducible refine Kd.ZI ?_)));(case side2 => exact (Kd.Xp HO126.out).2.1);rintro e w19 ⟨rfl,hb⟩;refine ⟨_,rfl,?_⟩;have n0_ := Zd.mk (Kd.Xn (by (with_reducible repeat (first | apply Kd.ZF | apply Kd.ZG | apply Kd.ZN));exact HO126.out) hb);have n1_ := Zd.mk (Z0 (by repeat (first | (with_reducible first | exact HB.out | apply Zc | apply Za | apply Zb) | exact HB.out)) hb);clear HO126;clear HB;have HO126 := n0_;have HB := n1_;clear n0_ n1_;(try clear hb);(try clear hb2);(try clear hk);(try clear hi)) | ((with_reducible refine Xq (N := 21) rfl ?_);refine Kd.R_lit k61 _ 61 ?hg (N := 21) ?hd (xs := ([(⟨0,4,10⟩ : S61)] : List (S61))) (inner := [.int .i64 0,.int .i64 4,.int .i64 10]) (ok := fun _ => True) (okp := fun _ => True) ?hr ?hp (fun _ hk => hk) trivial (Below.refl _ _) (Nat.le_refl _) (by simp) ?_;(case hd => rfl);(case hg => rfl);(case hr => first | (go_simp;done) | (go_simp;rfl));(case hp => exact (Reps.c3 (show Kd.M k61 _ _ _ (⟨0,4,10⟩ : S61) [.int .i64 0,.int .i64 4,.int .i64 10] from (Yu _ _ _ (⟨0,4,10⟩ : S61) )) (Reps.none _ _)));intro v130 w20 ho21 hb hg_ hnew_;clear hg_ hnew_;(first | rw [← Ny129.out] at ho21 | (simp only [Int.reduceToNat] at ho21;rw [← Ny129.out] at ho21));have n0_ := Zd.mk (Kd.Xn (by (with_reducible repeat (first | apply Kd.ZF | apply Kd.ZG | apply Kd.ZN));exact HO126.out) hb);have n1_ := Zd.mk (Kd.X5 ho21 (ZJ (by repeat (first | (with_reducible first | exact HB.out | apply Zc | apply Za | apply Zb) | exact HB.out))));have n2_ := Zd.mk (Z0 (by repeat (first | (with_reducible first | exact HB.out | apply Zc | apply Za | apply Zb) | exact HB.out)) hb);clear HO126;clear HB;have HO126 := n0_;have HO131 := n1_;have HB := n2_;clear n0_ n1_ n2_;clear hb ho21;obtain ⟨Ao22,co22,eo22⟩ := Kd.Xw HO131.out;subst eo22) | ((with_reducible refine Z2 (f := 16) rfl ?_);refine ZP (some 22) rfl rfl Try.func16 (by kernel_rfl) rfl #[.slice Ao22 y129.length co22,.int .i64 95] rfl (by (try simp only [List.map_toArray,List.map_cons,List.map_nil]);first | done | rfl | (simp only [List.length_drop,List.length_take];rfl)) ?_;(with_reducible refine (Xx.calls k _ _ y129 95 t132 t133 t134 t135 _ ?side1 ?side2 A4.out).mono ?_);(case side1 => repeat (first | exact (Kd.Xp HO131.out).2.2 | (with_reducible refine Kd.Z8 ?_ _) | (with_reducible refine Kd.ZB ?_ _) | (with_reducible refine Kd.ZI ?_)));(case side2 => exact (Kd.Xp HO131.out).2.1);rintro e w23 ⟨rfl,hb⟩;refine ⟨_,rfl,?_⟩;have n0_ := Zd.mk (Kd.Xn (by (with_reducible repeat (first | apply Kd.ZF | apply Kd.ZG | apply Kd.ZN));exact HO126.out) hb);have n1_ := Zd.mk (Kd.Xn (by (with_reducible repeat (first | apply Kd.ZF | apply Kd.ZG | apply Kd.ZN));exact HO131.out) hb);have n2_ := Zd.mk (Z0 (by repeat (first | (with_reducible first | exact HB.out | apply Zc | apply Za | apply Zb) | exact HB.out)) hb);clear HO126;clear HO131;clear HB;have HO126 := n0_;have HO131 := n1_;have HB := n2_;clear n0_ n1_ n2_;(try clear hb);(try clear hb2);(try clear hk);(try clear hi)) | ((with_reducible refine Xq (N := 4) rfl ?_);refine Xy ?hg (N := 4) ?hd (cs := #[.int .i64 0,.int .i64 0,.int .i64 0]) (t := 37) ?hr ?_;(case hd => rfl);(case hg => rfl);(case hr => first | (go_simp;done) | (go_simp;rfl));intro gb136 hg w24 hbox hb;have n0_ := Zd.mk (Kd.Xn (by (with_reducible repeat (first | apply Kd.ZF | apply Kd.ZG | apply Kd.ZN));exact HO126.out) hb);have n1_ := Zd.mk (Kd.Xn (by (with_reducible repeat (first | apply Kd.ZF | apply Kd.ZG | apply Kd.ZN));exact HO131.out) hb);have n2_ := Zd.mk (Z0 (by repeat (first | (with_reducible first | exact HB.out | apply Zc | apply Za | apply Zb) | exact HB.out)) hb);have n3_ := Zd.mk (hbox);have n4_ := Zd.mk ((by rw [hg];exact (ZJ (by repeat (first | (with_reducible first | exact HB.out | apply Zc | apply Za | apply Zb) | exact HB.out))) : w.heap.size ≤ gb136));have n5_ := Zd.mk ((by rw [hg];exact (ZJ (by repeat (first | (with_reducible first | exact HB.out | apply Zc | apply Za | apply Zb) | exact HB.out))) : w.heap.size ≤ gb136));clear HO126;clear HO131;clear HB;have HO126 := n0_;have HO131 := n1_;have HB := n2_;have BK136 := n3_;have GW136 := n4_;have GE136 := n5_;clear n0_ n1_ n2_ n3_ n4_ n5_;clear hb hbox hg;have hcz25_0 : w24.cell? ⟨gb136,0,none⟩ = some (.int .i64 0) := (Zm BK136.out 0).trans rfl;have hcz25_1 : w24.cell? ⟨gb136,1,none⟩ = some (.int .i64 0) := (Zm BK136.out 1).trans rfl;have hcz25_2 : w24.cell? ⟨gb136,2,none⟩ = some (.int .i64 0) := (Zm BK136.out 2).trans rfl;have hfz25_0 := Zr BK136.out 0;have hfz25_1 := Zr BK136.out 1;have hfz25_2 := Zr BK136.out 2))
       go_ret;exact ⟨by first | rfl | (simp [Zt,Zv] <;> rfl) | (simp [*,Zt,Zv] <;> rfl),by repeat (first | (with_reducible first | exact HB.out | apply Zc | apply Za | apply Zb | refine Z9 ?_ GE136.out) | exact HB.out)⟩
   · rw [if_neg c3] at H
     have c3b0 : (t128 == 0) = false := beq_eq_false_iff_ne.mpr c3;have c3b1 : (t128 != 0) = true := bne_iff_ne.mpr c3;obtain rfl := Option.some.inj H
     go_enter Try.func9,Try.ntmps9
     go_wp2_with (first | ((with_reducible refine Xq (N := 7) rfl ?_);refine Kd.R_lit k27 _ 27 ?hg (N := 7) ?hd (xs := ([(⟨0,131072,0⟩ : S27),(⟨10,196608,0⟩ : S27)] : List (S27))) (inner := [.int .i64 0,.int .i64 131072,.int .i64 0,.int .i64 10,.int .i64 196608,.int .i64 0]) (ok := fun _ => True) (okp := fun _ => True) ?hr ?hp (fun _ hk => hk) trivial (Below.refl _ _) (Nat.le_refl _) (by simp) ?_;(case hd => rfl);(case hg => rfl);(case hr => first | (go_simp;done) | (go_simp;rfl));(case hp => exact (Reps.c3 (show Kd.M k27 _ _ _ (⟨0,131072,0⟩ : S27) [.int .i64 0,.int .i64 131072,.int .i64 0] from (Qa _ _ _ (⟨0,131072,0⟩ : S27) )) (Reps.c3 (show Kd.M k27 _ _ _ (⟨10,196608,0⟩ : S27) [.int .i64 10,.int .i64 196608,.int .i64 0] from (Qa _ _ _ (⟨10,196608,0⟩ : S27) )) (Reps.none _ _))));intro v125 w26 ho27 hb hg_ hnew_;clear hg_ hnew_;(first | rw [← Ny124.out] at ho27 | (simp only [Int.reduceToNat] at ho27;rw [← Ny124.out] at ho27));have n0_ := Zd.mk (Kd.X5 ho27 (ZJ (by repeat (first | (with_reducible first | exact HB.out | apply Zc | apply Za | apply Zb) | exact HB.out))));have n1_ := Zd.mk (Z0 (by repeat (first | (with_reducible first | exact HB.out | apply Zc | apply Za | apply Zb) | exact HB.out)) hb);clear HB;have HO126 := n0_;have HB := n1_;clear n0_ n1_;clear hb ho27;obtain ⟨Ao28,co28,eo28⟩ := Kd.Xw HO126.out;subst eo28) | ((with_reducible refine Z2 (f := 13) rfl ?_);refine ZP (some 10) rfl rfl Try.func13 (by kernel_rfl) rfl #[.slice Ao28 y124.length co28,.int .i64 5,.int .i64 12] rfl (by (try simp only [List.map_toArray,List.map_cons,List.map_nil]);first | done | rfl | (simp only [List.length_drop,List.length_take];rfl)) ?_;(with_reducible refine (ZY.calls k _ _ y124 5 12 t127 t128 _ ?side1 ?side2 A1.out).mono ?_);(case side1 => repeat (first | exact (Kd.Xp HO126.out).2.2 | (with_reducible refine Kd.Z8 ?_ _) | (with_reducible refine Kd.ZB ?_ _) | (with_reducible refine Kd.ZI ?_)));(case side2 => exact (Kd.Xp HO126.out).2.1);rintro e w29 ⟨rfl,hb⟩;refine ⟨_,rfl,?_⟩;have n0_ := Zd.mk (Kd.Xn (by (with_reducible repeat (first | apply Kd.ZF | apply Kd.ZG | apply Kd.ZN));exact HO126.out) hb);have n1_ := Zd.mk (Z0 (by repeat (first | (with_reducible first | exact HB.out | apply Zc | apply Za | apply Zb) | exact HB.out)) hb);clear HO126;clear HB;have HO126 := n0_;have HB := n1_;clear n0_ n1_;(try clear hb);(try clear hb2);(try clear hk);(try clear hi)))
     go_ret;exact ⟨by first | rfl | (simp [Zt,Zv] <;> rfl) | (simp [*,Zt,Zv] <;> rfl),by repeat (first | (with_reducible first | exact HB.out | apply Zc | apply Za | apply Zb) | exact HB.out)⟩
 · rw [if_neg c2] at H
   have c2b0 : (t127 == 31) = false := beq_eq_false_iff_ne.mpr c2;have c2b1 : (t127 != 31) = true := bne_iff_ne.mpr c2;obtain rfl := Option.some.inj H
   go_enter Try.func9,Try.ntmps9
   go_wp2_with (first | ((with_reducible refine Xq (N := 7) rfl ?_);refine Kd.R_lit k27 _ 27 ?hg (N := 7) ?hd (xs := ([(⟨0,131072,0⟩ : S27),(⟨10,196608,0⟩ : S27)] : List (S27))) (inner := [.int .i64 0,.int .i64 131072,.int .i64 0,.int .i64 10,.int .i64 196608,.int .i64 0]) (ok := fun _ => True) (okp := fun _ => True) ?hr ?hp (fun _ hk => hk) trivial (Below.refl _ _) (Nat.le_refl _) (by simp) ?_;(case hd => rfl);(case hg => rfl);(case hr => first | (go_simp;done) | (go_simp;rfl));(case hp => exact (Reps.c3 (show Kd.M k27 _ _ _ (⟨0,131072,0⟩ : S27) [.int .i64 0,.int .i64 131072,.int .i64 0] from (Qa _ _ _ (⟨0,131072,0⟩ : S27) )) (Reps.c3 (show Kd.M k27 _ _ _ (⟨10,196608,0⟩ : S27) [.int .i64 10,.int .i64 196608,.int .i64 0] from (Qa _ _ _ (⟨10,196608,0⟩ : S27) )) (Reps.none _ _))));intro v125 w30 ho31 hb hg_ hnew_;clear hg_ hnew_;(first | rw [← Ny124.out] at ho31 | (simp only [Int.reduceToNat] at ho31;rw [← Ny124.out] at ho31));have n0_ := Zd.mk (Kd.X5 ho31 (ZJ (by repeat (first | (with_reducible first | exact HB.out | apply Zc | apply Za | apply Zb) | exact HB.out))));have n1_ := Zd.mk (Z0 (by repeat (first | (with_reducible first | exact HB.out | apply Zc | apply Za | apply Zb) | exact HB.out)) hb);clear HB;have HO126 := n0_;have HB := n1_;clear n0_ n1_;clear hb ho31;obtain ⟨Ao32,co32,eo32⟩ := Kd.Xw HO126.out;subst eo32) | ((with_reducible refine Z2 (f := 13) rfl ?_);refine ZP (some 10) rfl rfl Try.func13 (by kernel_rfl) rfl #[.slice Ao32 y124.length co32,.int .i64 5,.int .i64 12] rfl (by (try simp only [List.map_toArray,List.map_cons,List.map_nil]);first | done | rfl | (simp only [List.length_drop,List.length_take];rfl)) ?_;(with_reducible refine (ZY.calls k _ _ y124 5 12 t127 t128 _ ?side1 ?side2 A1.out).mono ?_);(case side1 => repeat (first | exact (Kd.Xp HO126.out).2.2 | (with_reducible refine Kd.Z8 ?_ _) | (with_reducible refine Kd.ZB ?_ _) | (with_reducible refine Kd.ZI ?_)));(case side2 => exact (Kd.Xp HO126.out).2.1);rintro e w33 ⟨rfl,hb⟩;refine ⟨_,rfl,?_⟩;have n0_ := Zd.mk (Kd.Xn (by (with_reducible repeat (first | apply Kd.ZF | apply Kd.ZG | apply Kd.ZN));exact HO126.out) hb);have n1_ := Zd.mk (Z0 (by repeat (first | (with_reducible first | exact HB.out | apply Zc | apply Za | apply Zb) | exact HB.out)) hb);clear HO126;clear HB;have HO126 := n0_;have HB := n1_;clear n0_ n1_;(try clear hb);(try clear hb2);(try clear hk);(try clear hi)))
   go_ret;exact ⟨by first | rfl | (simp [Zt,Zv] <;> rfl) | (simp [*,Zt,Zv] <;> rfl),by repeat (first | (with_reducible first | exact HB.out | apply Zc | apply Za | apply Zb) | exact HB.out)⟩
end Go.Proofs.Ytomlfbmfdoallaa.PA

namespace Go.Proofs.Ytomlfbmfdoallaa.PA
open Go.RowKit Go.Proofs.YtomlfbmfdoallaaW.PrintWords Go.Proofs.YtomlfbmfdoallaaW.PrintLast Go.Proofs.YtomlfbmfdoallaaW.PrintMore
attribute [local go_sem] Xf Xe Xj Xk ZV ZU Xd Xc
set_option linter.unusedVariables false
set_option linter.unusedSimpArgs false
def Xa.f (l0 : List (S27)) (l1 : List (S61)) (l2 : List (S56)) : Option (Bool) := if (l0.length : Int) > 60 then (some true) else (if (l1.length : Int) > 60 then (some true) else (some (decide ((l2.length : Int) > 120))))
set_option maxHeartbeats 8000000 in
set_option maxRecDepth 100000 in
theorem Xa.calls (A0 : Option Addr) (c0 : Nat) (l0 : List (S27)) (A1 : Option Addr) (c1 : Nat) (l1 : List (S61)) (A2 : Option Addr) (c2 : Nat) (l2 : List (S56)) (r : Bool) (w : World) (hr0 : Kd.C k27 w A0 l0.length l0) (hc0 : l0.length ≤ c0) (hr1 : Kd.C k61 w A1 l1.length l1) (hc1 : l1.length ≤ c1) (hr2 : Kd.C k56 w A2 l2.length l2) (hc2 : l2.length ≤ c2) (h : Xa.f l0 l1 l2 = some r) :
 Calls Try.prog 10 #[.slice A0 l0.length c0,.slice A1 l1.length c1,.slice A2 l2.length c2] w fun e w' => e = .returned (.bool r) ∧ Drawn0 w w' := by
 have HR0 := Zd.mk hr0;have HC0 := Zd.mk hc0;clear hr0 hc0;have HR1 := Zd.mk hr1;have HC1 := Zd.mk hc1;clear hr1 hc1;have HR2 := Zd.mk hr2;have HC2 := Zd.mk hc2;clear hr2 hc2;have H : (if (l0.length : Int) > 60 then (some true) else (if (l1.length : Int) > 60 then (some true) else (some (decide ((l2.length : Int) > 120))))) = some r := h;clear h
 by_cases c4 : (l0.length : Int) > 60
 · rw [if_pos c4] at H
   have c4b0 : decide (60 < (l0.length : Int)) = true := decide_eq_true c4;have c4b1 : decide (60 < l0.length) = true := decide_eq_true (by omega);clear c4;obtain rfl := Option.some.inj H
   go_enter Try.func10,Try.ntmps10
   go_wp2
   go_ret;exact ⟨by first | rfl | (simp;done) | (simp [*];done),by repeat (first | exact Drawn0.refl _ | apply Drawn0.step)⟩
 · rw [if_neg c4] at H
   have c4b0 : decide (60 < (l0.length : Int)) = false := decide_eq_false c4;have c4b1 : decide (60 < l0.length) = false := decide_eq_false (by omega);clear c4
   by_cases c5 : (l1.length : Int) > 60
   · rw [if_pos c5] at H
     have c5b0 : decide (60 < (l1.length : Int)) = true := decide_eq_true c5;have c5b1 : decide (60 < l1.length) = true := decide_eq_true (by omega);clear c5;obtain rfl := Option.some.inj H
     go_enter Try.func10,Try.ntmps10
     go_wp2
     go_ret;exact ⟨by first | rfl | (simp;done) | (simp [*];done),by repeat (first | exact Drawn0.refl _ | apply Drawn0.step)⟩
   · rw [if_neg c5] at H
     have c5b0 : decide (60 < (l1.length : Int)) = false := decide_eq_false c5;have c5b1 : decide (60 < l1.length) = false := decide_eq_false (by omega);clear c5;obtain rfl := Option.some.inj H
     go_enter Try.func10,Try.ntmps10
     go_wp2
     go_ret;exact ⟨by first | rfl | (simp;done) | (simp [*];done),by repeat (first | exact Drawn0.refl _ | apply Drawn0.step)⟩
end Go.Proofs.Ytomlfbmfdoallaa.PA
