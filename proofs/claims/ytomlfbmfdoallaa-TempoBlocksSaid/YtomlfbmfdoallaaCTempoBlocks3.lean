/- TempoBlocks, part 3: what the row is built on. -/
import Derived.Test.YtomlfbmfdoallaaCTempoBlocks2
import Derived.Deep.RegionHeld3
import Derived.LoopTactic
import Derived.Lib.Hide
namespace Go.Proofs.Ytomlfbmfdoallaa.PA
open Go.RowKit Go.Shelf Go.Proofs.YtomlfbmfdoallaaW.PrintWords Go.Proofs.YtomlfbmfdoallaaW.PrintLast Go.Proofs.YtomlfbmfdoallaaW.PrintMore
set_option linter.unusedVariables false
set_option linter.unusedSimpArgs false
theorem crv_frames_calls (c : Crv) (n : Int) (h : c.Ok n) (w : World) : ∀ (f : Nat) (r : Value),(c.val = .iface 104 r ∧ f = 116 ∨ c.val = .iface 106 r ∧ f = 118) → Calls Try.prog f #[r,.int .i64 n] w fun e w' => e = .returned (.int .i64 (c.frames n)) ∧ Below w.heap.size w w' := by
 intro f r hr
 cases c with
 | even p =>
  obtain ⟨h1,h2,h3,h4⟩ := h; simp [Crv.val] at hr; obtain ⟨rfl,rfl⟩ := hr; exact X6.calls p n _ w (Qp p n h3 h4 h1 h2)
 | changing p q l =>
  obtain ⟨h1,h2,h3,h4,h5,h6,h7,h8⟩ := h; simp [Crv.val] at hr; obtain ⟨rfl,rfl⟩ := hr; exact X3.calls p q l n _ w (XT p q l n h7 (by omega) h5 h6 h1 h2 h3 h4)
def Xj.f (l0 : List S27) (a1 : Int) (a2 : Int) : Option Int :=
 if mapOkB l0 = true ∧ 0 ≤ a1 ∧ a1 ≤ 1000000000 ∧ 0 ≤ a2 ∧ a2 ≤ 1000000000 then some (fr l0 a1 a2) else none
set_option maxRecDepth 100000 in
set_option maxHeartbeats 2000000 in
theorem Xj.calls (A0 : Option Addr) (c0 : Nat) (l0 : List (S27)) (a1 : Int) (a2 : Int) (r : Int) (w : World) (hr0 : Kd.C k27 w A0 l0.length l0) (hc0 : l0.length ≤ c0) (h : Xj.f l0 a1 a2 = some r) :
 Calls Try.prog 42 #[.slice A0 l0.length c0,.int .i64 a1,.int .i64 a2] w fun e w' => e = .returned (.int .i64 r) ∧ Below w.heap.size w w' := by
 unfold Xj.f at h; split at h
 · rename_i hg
   obtain ⟨hok,hs0,hs1,ht0,ht1⟩ := hg; rw [X9] at hok; obtain rfl := Option.some.inj h; obtain ⟨x,p1,p2,p3,p4,p5,p6,p7,p8⟩ := Q7 a2 ht1 l0 a1 hok.2.2.2 (by intro e; subst e; have := hok.1; simp at this) (fun t e => by rw [hok.2.2.1 t e]; exact ht0); have HO := Lib.hid (Ys A0 c0 l0 a1 a2 w hok hs0 hs1 hr0); rw [p1] at HO; have hlen := hok.2.1; clear hok hr0 p1 p3; rw [← p2]; clear p2 h; obtain ⟨c,tk,fm,fn⟩ := x; dsimp only [prtCells] at HO p4 p5 p6 p7 p8 ⊢; have hb := p4.bound; generalize hv : c.frames (a2 - tk) = v at hb ⊢
   have HC := fun w => Lib.hid (crv_frames_calls c (a2 - tk) p4 w)
   rw [hv] at HC; clear hv p4
   cases c with
   | even p =>
    dsimp only [Crv.val] at HO HC
    go_enter Try.func42,Try.ntmps42
    go_wp2_with (fail)
    refine HO.out.mono ?_; rintro e w1 ⟨rfl,hb1⟩
    go_wp2_with (fail)
    have hme := QJ p
    have HC1 := fun w => Lib.hid ((HC w).out 116 _ (.inl ⟨rfl,rfl⟩))
    clear HC HO; have hw1 : IntKind.i64.wrap (a2 - tk) = a2 - tk := (i64_w _).trans (w64 (by omega) (by omega)); have hw2 : IntKind.i64.wrap (fm + v) = fm + v := (i64_w _).trans (w64 (by omega) (by omega))
    go_region_held3 (fun w' => w'.cell? ⟨w1.heap.size,0,none⟩ = some (.iface 104 (.agg #[.int .i64 p])) ∧ w'.cell? ⟨w1.heap.size,1,none⟩ = some (.int .i64 tk) ∧ w'.cell? ⟨w1.heap.size,2,none⟩ = some (.int .i64 fm)) (simp [go_sem,World.cell?_alloc_past, *])
     (first | (go_at_call 116; refine (HC1 _).out.mono ?_; rintro e w' ⟨rfl,hb2⟩; obtain ⟨hc2,hz2⟩ := bcell hb2))
    clear hw1 hw2
    go_wp2
    go_ret; exact ⟨rfl,hb1.trans ((((Below.refl _ w1).alloc (Nat.le_refl _) _).drew.trans (hb2.mono (by simp))).mono hb1.size)⟩
   | changing p q L =>
    dsimp only [Crv.val] at HO HC
    go_enter Try.func42,Try.ntmps42
    go_wp2_with (fail)
    refine HO.out.mono ?_; rintro e w1 ⟨rfl,hb1⟩
    go_wp2_with (fail)
    have hme := Qk p q L
    have HC1 := fun w => Lib.hid ((HC w).out 118 _ (.inr ⟨rfl,rfl⟩))
    clear HC HO; have hw1 : IntKind.i64.wrap (a2 - tk) = a2 - tk := (i64_w _).trans (w64 (by omega) (by omega)); have hw2 : IntKind.i64.wrap (fm + v) = fm + v := (i64_w _).trans (w64 (by omega) (by omega))
    go_region_held3 (fun w' => w'.cell? ⟨w1.heap.size,0,none⟩ = some (.iface 106 (.agg #[.int .i64 p,.int .i64 q,.int .i64 L])) ∧ w'.cell? ⟨w1.heap.size,1,none⟩ = some (.int .i64 tk) ∧ w'.cell? ⟨w1.heap.size,2,none⟩ = some (.int .i64 fm)) (simp [go_sem,World.cell?_alloc_past, *])
     (first | (go_at_call 118; refine (HC1 _).out.mono ?_; rintro e w' ⟨rfl,hb2⟩; obtain ⟨hc2,hz2⟩ := bcell hb2))
    clear hw1 hw2
    go_wp2
    go_ret; exact ⟨rfl,hb1.trans ((((Below.refl _ w1).alloc (Nat.le_refl _) _).drew.trans (hb2.mono (by simp))).mono hb1.size)⟩
 · cases h
end Go.Proofs.Ytomlfbmfdoallaa.PA

namespace Go.Proofs.Ytomlfbmfdoallaa.PA
open Go.RowKit Go.Proofs.YtomlfbmfdoallaaW.PrintWords Go.Proofs.YtomlfbmfdoallaaW.PrintLast Go.Proofs.YtomlfbmfdoallaaW.PrintMore
attribute [local go_sem] Xf Xg Xo Xn Xa ZZ Xh Xi
set_option linter.unusedVariables false
set_option linter.unusedSimpArgs false
end Go.Proofs.Ytomlfbmfdoallaa.PA

namespace Go.Proofs.Ytomlfbmfdoallaa.PA
open Go.RowKit Go.Proofs.YtomlfbmfdoallaaW.PrintWords Go.Proofs.YtomlfbmfdoallaaW.PrintLast Go.Proofs.YtomlfbmfdoallaaW.PrintMore
attribute [local go_sem] Xf Xg Xo Xn Xa ZZ Xh Xi
set_option linter.unusedVariables false
set_option linter.unusedSimpArgs false
def ZX.f (k : Nat) (l0 : List (S27)) (a1 : Int) (a2 : Int) : Option (Int × Int) := (ZP.f k l0 (([a1,a2] : List Int))).bind fun t121 => (if t121 = 0 then ((Xj.f l0 a1 a2).bind fun t122 => (if t122 > 1000000000 then (some (0,7)) else (some (t122,0)))) else (some (0,t121)))
theorem ZX.mono : ∀ a0 a1 a2 k,LeO (ZX.f k a0 a1 a2) (ZX.f (k + 1) a0 a1 a2) := by
 intro a0 a1 a2 k; unfold ZX.f
 repeat' first
  | (with_reducible exact ZP.mono _ _ _)
  | (with_reducible exact LeO.refl _)
  | (with_reducible exact LeO.none _)
  | (with_reducible refine LeO.ite ?_ ?_)
  | (with_reducible refine LeO.bind ?_ (fun _ => ?_))
  | exact ZP.mono _ _ _
  | exact LeO.none _
  | refine LeO.ite ?_ ?_
  | refine LeO.bind ?_ (fun _ => ?_)
set_option maxHeartbeats 8000000 in
set_option maxRecDepth 100000 in
theorem ZX.calls (k : Nat) (A0 : Option Addr) (c0 : Nat) (l0 : List (S27)) (a1 : Int) (a2 : Int) (r1 : Int) (r2 : Int) (w : World) (hr0 : Kd.C k27 w A0 l0.length l0) (hc0 : l0.length ≤ c0) (h : ZX.f k l0 a1 a2 = some (r1,r2)) :
 Calls Try.prog 13 #[.slice A0 l0.length c0,.int .i64 a1,.int .i64 a2] w fun e w' => e = .returned (.tuple #[.int .i64 r1,.int .i64 r2]) ∧ Below w.heap.size w w' := by
 have HR0 := Zc.mk hr0; have HC0 := Zc.mk hc0; clear hr0 hc0; have HB := Zc.mk (Below.refl w.heap.size w); have H : ((ZP.f k l0 (([a1,a2] : List Int))).bind fun t121 => (if t121 = 0 then ((Xj.f l0 a1 a2).bind fun t122 => (if t122 > 1000000000 then (some (0,7)) else (some (t122,0)))) else (some (0,t121)))) = some (r1,r2) := h; clear h
 obtain ⟨y118,hy118⟩ : ∃ y_ : List Int,y_ = (([a1,a2] : List Int)) := ⟨_,rfl⟩
 replace H : ((ZP.f k l0 y118).bind fun t121 => (if t121 = 0 then ((Xj.f l0 a1 a2).bind fun t122 => (if t122 > 1000000000 then (some (0,7)) else (some (t122,0)))) else (some (0,t121)))) = some (r1,r2) := by first | (rw [hy118]; with_reducible exact H) | (have H2_ := (Option.bind_some _ _).symm.trans H; rw [hy118]; with_reducible exact H2_) | (have H2_ := (Option.bind_some _ _).symm.trans H; with_reducible exact H2_) | with_reducible exact H | (rw [hy118]; exact H) | exact H
 have Ny118 := Zc.mk hy118; clear hy118; replace H := Option.bind_eq_some_iff.mp H; obtain ⟨t121,A40,H⟩ := H; replace H : (if t121 = 0 then ((Xj.f l0 a1 a2).bind fun t122 => (if t122 > 1000000000 then (some (0,7)) else (some (t122,0)))) else (some (0,t121))) = some (r1,r2) := H; have A4 := Zc.mk A40; clear A40
 by_cases c5 : t121 = 0
 · rw [if_pos c5] at H
   have c5b0 : (t121 == 0) = true := beq_iff_eq.mpr c5; have c5b1 : (t121 != 0) = false := bne_eq_false_iff_eq.mpr c5; clear c5; replace H := Option.bind_eq_some_iff.mp H; obtain ⟨t122,A60,H⟩ := H; replace H : (if t122 > 1000000000 then (some (0,7)) else (some (t122,0))) = some (r1,r2) := H; have A6 := Zc.mk A60; clear A60
   by_cases c7 : t122 > 1000000000
   · rw [if_pos c7] at H
     have c7b0 : decide (1000000000 < t122) = true := decide_eq_true c7; clear c7; simp only [Option.some.injEq,Prod.mk.injEq] at H; obtain ⟨rfl,rfl⟩ := H
     go_enter Try.func13,Try.ntmps13
     go_wp2_with (first | ((with_reducible refine Xr (N := 13) rfl ?_); refine Kd.R_lit (Kd.int .i64) _ 3 ?hg (N := 13) ?hd (xs := ([a1,a2] : List Int)) (inner := [.int .i64 a1,.int .i64 a2]) (ok := fun _ => True) (okp := fun _ => True) ?hr ?hp (fun _ hk => hk) trivial (Below.refl _ _) (Nat.le_refl _) (by simp) ?_; (case hd => rfl); (case hg => rfl); (case hr => first | (go_simp; done) | (go_simp; rfl)); (case hp => exact (Reps.one (show Kd.M (Kd.int .i64) _ _ _ a1 [.int .i64 a1] from rfl) (Reps.one (show Kd.M (Kd.int .i64) _ _ _ a2 [.int .i64 a2] from rfl) (Reps.none _ _)))); intro v119 w8 ho9 hb hg_ hnew_; clear hg_ hnew_; (first | rw [← Ny118.out] at ho9 | (simp only [Int.reduceToNat] at ho9; rw [← Ny118.out] at ho9)); have n0_ := Zc.mk (Kd.Xs ho9 (ZH (by repeat (first | (with_reducible first | exact HB.out | apply Zd | apply Za | apply Zb) | exact HB.out)))); have n1_ := Zc.mk (Z3 (by repeat (first | (with_reducible first | exact HB.out | apply Zd | apply Za | apply Zb) | exact HB.out)) hb); clear HB; have HO120 := n0_; have HB := n1_; clear n0_ n1_; clear hb ho9; obtain ⟨Ao10,co10,eo10⟩ := Kd.Xd HO120.out; subst eo10) | ((with_reducible refine Z1 (f := 40) rfl ?_); refine ZQ (some 14) rfl rfl Try.func40 (by kernel_rfl) rfl #[.slice A0 l0.length c0,.slice Ao10 y118.length co10] rfl (by (try simp only [List.map_toArray,List.map_cons,List.map_nil]); first | done | rfl | (simp only [List.length_drop,List.length_take]; rfl)) ?_; (with_reducible refine (ZP.calls k _ _ l0 _ _ y118 t121 _ ?side1 ?side2 ?side3 ?side4 A4.out).mono ?_); (case side1 => repeat (first | exact (Kd.ZO HR0.out HB.out) | (with_reducible refine Kd.ZA ?_ _) | (with_reducible refine Kd.Z9 ?_ _) | (with_reducible refine Kd.ZI ?_))); (case side2 => exact HC0.out); (case side3 => repeat (first | exact (Kd.ZL HO120.out).2.2 | (with_reducible refine Kd.ZA ?_ _) | (with_reducible refine Kd.Z9 ?_ _) | (with_reducible refine Kd.ZI ?_))); (case side4 => exact (Kd.ZL HO120.out).2.1); rintro e w11 ⟨rfl,hb⟩; refine ⟨_,rfl,?_⟩; have n0_ := Zc.mk (Kd.Xl (by (with_reducible repeat (first | apply Kd.Zl | apply Kd.Zk | apply Kd.Zs)); exact HO120.out) hb); have n1_ := Zc.mk (Z3 (by repeat (first | (with_reducible first | exact HB.out | apply Zd | apply Za | apply Zb) | exact HB.out)) hb); clear HO120; clear HB; have HO120 := n0_; have HB := n1_; clear n0_ n1_; (try clear hb); (try clear hb2); (try clear hk); (try clear hi)) | ((with_reducible refine Z1 (f := 42) rfl ?_); refine ZQ (some 21) rfl rfl Try.func42 (by kernel_rfl) rfl #[.slice A0 l0.length c0,.int .i64 a1,.int .i64 a2] rfl (by (try simp only [List.map_toArray,List.map_cons,List.map_nil]); first | done | rfl | (simp only [List.length_drop,List.length_take]; rfl)) ?_; (with_reducible refine (Xj.calls _ _ l0 a1 a2 t122 _ ?side1 ?side2 A6.out).mono ?_); (case side1 => repeat (first | exact (Kd.ZO HR0.out HB.out) | (with_reducible refine Kd.ZA ?_ _) | (with_reducible refine Kd.Z9 ?_ _) | (with_reducible refine Kd.ZI ?_))); (case side2 => exact HC0.out); rintro e w12 ⟨rfl,hb⟩; refine ⟨_,rfl,?_⟩; have n0_ := Zc.mk (Kd.Xl (by (with_reducible repeat (first | apply Kd.Zl | apply Kd.Zk | apply Kd.Zs)); exact HO120.out) hb); have n1_ := Zc.mk (Z3 (by repeat (first | (with_reducible first | exact HB.out | apply Zd | apply Za | apply Zb) | exact HB.out)) hb); clear HO120; clear HB; have HO120 := n0_; have HB := n1_; clear n0_ n1_; (try clear hb); (try clear hb2); (try clear hk); (try clear hi)))
     go_ret2
     exact ⟨by first | rfl | (simp [Zv,Zu] <;> rfl) | (simp [*,Zv,Zu] <;> rfl),by repeat (first | (with_reducible first | exact HB.out | apply Zd | apply Za | apply Zb) | exact HB.out)⟩
   · rw [if_neg c7] at H
     have c7b0 : decide (1000000000 < t122) = false := decide_eq_false c7; clear c7; simp only [Option.some.injEq,Prod.mk.injEq] at H; obtain ⟨rfl,rfl⟩ := H
     go_enter Try.func13,Try.ntmps13
     go_wp2_with (first | ((with_reducible refine Xr (N := 13) rfl ?_); refine Kd.R_lit (Kd.int .i64) _ 3 ?hg (N := 13) ?hd (xs := ([a1,a2] : List Int)) (inner := [.int .i64 a1,.int .i64 a2]) (ok := fun _ => True) (okp := fun _ => True) ?hr ?hp (fun _ hk => hk) trivial (Below.refl _ _) (Nat.le_refl _) (by simp) ?_; (case hd => rfl); (case hg => rfl); (case hr => first | (go_simp; done) | (go_simp; rfl)); (case hp => exact (Reps.one (show Kd.M (Kd.int .i64) _ _ _ a1 [.int .i64 a1] from rfl) (Reps.one (show Kd.M (Kd.int .i64) _ _ _ a2 [.int .i64 a2] from rfl) (Reps.none _ _)))); intro v119 w13 ho14 hb hg_ hnew_; clear hg_ hnew_; (first | rw [← Ny118.out] at ho14 | (simp only [Int.reduceToNat] at ho14; rw [← Ny118.out] at ho14)); have n0_ := Zc.mk (Kd.Xs ho14 (ZH (by repeat (first | (with_reducible first | exact HB.out | apply Zd | apply Za | apply Zb) | exact HB.out)))); have n1_ := Zc.mk (Z3 (by repeat (first | (with_reducible first | exact HB.out | apply Zd | apply Za | apply Zb) | exact HB.out)) hb); clear HB; have HO120 := n0_; have HB := n1_; clear n0_ n1_; clear hb ho14; obtain ⟨Ao15,co15,eo15⟩ := Kd.Xd HO120.out; subst eo15) | ((with_reducible refine Z1 (f := 40) rfl ?_); refine ZQ (some 14) rfl rfl Try.func40 (by kernel_rfl) rfl #[.slice A0 l0.length c0,.slice Ao15 y118.length co15] rfl (by (try simp only [List.map_toArray,List.map_cons,List.map_nil]); first | done | rfl | (simp only [List.length_drop,List.length_take]; rfl)) ?_; (with_reducible refine (ZP.calls k _ _ l0 _ _ y118 t121 _ ?side1 ?side2 ?side3 ?side4 A4.out).mono ?_); (case side1 => repeat (first | exact (Kd.ZO HR0.out HB.out) | (with_reducible refine Kd.ZA ?_ _) | (with_reducible refine Kd.Z9 ?_ _) | (with_reducible refine Kd.ZI ?_))); (case side2 => exact HC0.out); (case side3 => repeat (first | exact (Kd.ZL HO120.out).2.2 | (with_reducible refine Kd.ZA ?_ _) | (with_reducible refine Kd.Z9 ?_ _) | (with_reducible refine Kd.ZI ?_))); (case side4 => exact (Kd.ZL HO120.out).2.1); rintro e w16 ⟨rfl,hb⟩; refine ⟨_,rfl,?_⟩; have n0_ := Zc.mk (Kd.Xl (by (with_reducible repeat (first | apply Kd.Zl | apply Kd.Zk | apply Kd.Zs)); exact HO120.out) hb); have n1_ := Zc.mk (Z3 (by repeat (first | (with_reducible first | exact HB.out | apply Zd | apply Za | apply Zb) | exact HB.out)) hb); clear HO120; clear HB; have HO120 := n0_; have HB := n1_; clear n0_ n1_; (try clear hb); (try clear hb2); (try clear hk); (try clear hi)) | ((with_reducible refine Z1 (f := 42) rfl ?_); refine ZQ (some 21) rfl rfl Try.func42 (by kernel_rfl) rfl #[.slice A0 l0.length c0,.int .i64 a1,.int .i64 a2] rfl (by (try simp only [List.map_toArray,List.map_cons,List.map_nil]); first | done | rfl | (simp only [List.length_drop,List.length_take]; rfl)) ?_; (with_reducible refine (Xj.calls _ _ l0 a1 a2 t122 _ ?side1 ?side2 A6.out).mono ?_); (case side1 => repeat (first | exact (Kd.ZO HR0.out HB.out) | (with_reducible refine Kd.ZA ?_ _) | (with_reducible refine Kd.Z9 ?_ _) | (with_reducible refine Kd.ZI ?_))); (case side2 => exact HC0.out); rintro e w17 ⟨rfl,hb⟩; refine ⟨_,rfl,?_⟩; have n0_ := Zc.mk (Kd.Xl (by (with_reducible repeat (first | apply Kd.Zl | apply Kd.Zk | apply Kd.Zs)); exact HO120.out) hb); have n1_ := Zc.mk (Z3 (by repeat (first | (with_reducible first | exact HB.out | apply Zd | apply Za | apply Zb) | exact HB.out)) hb); clear HO120; clear HB; have HO120 := n0_; have HB := n1_; clear n0_ n1_; (try clear hb); (try clear hb2); (try clear hk); (try clear hi)))
     go_ret2
     exact ⟨by first | rfl | (simp [Zv,Zu] <;> rfl) | (simp [*,Zv,Zu] <;> rfl),by repeat (first | (with_reducible first | exact HB.out | apply Zd | apply Za | apply Zb) | exact HB.out)⟩
 · rw [if_neg c5] at H
   have c5b0 : (t121 == 0) = false := beq_eq_false_iff_ne.mpr c5; have c5b1 : (t121 != 0) = true := bne_iff_ne.mpr c5; simp only [Option.some.injEq,Prod.mk.injEq] at H; obtain ⟨rfl,rfl⟩ := H
   go_enter Try.func13,Try.ntmps13
   go_wp2_with (first | ((with_reducible refine Xr (N := 13) rfl ?_); refine Kd.R_lit (Kd.int .i64) _ 3 ?hg (N := 13) ?hd (xs := ([a1,a2] : List Int)) (inner := [.int .i64 a1,.int .i64 a2]) (ok := fun _ => True) (okp := fun _ => True) ?hr ?hp (fun _ hk => hk) trivial (Below.refl _ _) (Nat.le_refl _) (by simp) ?_; (case hd => rfl); (case hg => rfl); (case hr => first | (go_simp; done) | (go_simp; rfl)); (case hp => exact (Reps.one (show Kd.M (Kd.int .i64) _ _ _ a1 [.int .i64 a1] from rfl) (Reps.one (show Kd.M (Kd.int .i64) _ _ _ a2 [.int .i64 a2] from rfl) (Reps.none _ _)))); intro v119 w18 ho19 hb hg_ hnew_; clear hg_ hnew_; (first | rw [← Ny118.out] at ho19 | (simp only [Int.reduceToNat] at ho19; rw [← Ny118.out] at ho19)); have n0_ := Zc.mk (Kd.Xs ho19 (ZH (by repeat (first | (with_reducible first | exact HB.out | apply Zd | apply Za | apply Zb) | exact HB.out)))); have n1_ := Zc.mk (Z3 (by repeat (first | (with_reducible first | exact HB.out | apply Zd | apply Za | apply Zb) | exact HB.out)) hb); clear HB; have HO120 := n0_; have HB := n1_; clear n0_ n1_; clear hb ho19; obtain ⟨Ao20,co20,eo20⟩ := Kd.Xd HO120.out; subst eo20) | ((with_reducible refine Z1 (f := 40) rfl ?_); refine ZQ (some 14) rfl rfl Try.func40 (by kernel_rfl) rfl #[.slice A0 l0.length c0,.slice Ao20 y118.length co20] rfl (by (try simp only [List.map_toArray,List.map_cons,List.map_nil]); first | done | rfl | (simp only [List.length_drop,List.length_take]; rfl)) ?_; (with_reducible refine (ZP.calls k _ _ l0 _ _ y118 t121 _ ?side1 ?side2 ?side3 ?side4 A4.out).mono ?_); (case side1 => repeat (first | exact (Kd.ZO HR0.out HB.out) | (with_reducible refine Kd.ZA ?_ _) | (with_reducible refine Kd.Z9 ?_ _) | (with_reducible refine Kd.ZI ?_))); (case side2 => exact HC0.out); (case side3 => repeat (first | exact (Kd.ZL HO120.out).2.2 | (with_reducible refine Kd.ZA ?_ _) | (with_reducible refine Kd.Z9 ?_ _) | (with_reducible refine Kd.ZI ?_))); (case side4 => exact (Kd.ZL HO120.out).2.1); rintro e w21 ⟨rfl,hb⟩; refine ⟨_,rfl,?_⟩; have n0_ := Zc.mk (Kd.Xl (by (with_reducible repeat (first | apply Kd.Zl | apply Kd.Zk | apply Kd.Zs)); exact HO120.out) hb); have n1_ := Zc.mk (Z3 (by repeat (first | (with_reducible first | exact HB.out | apply Zd | apply Za | apply Zb) | exact HB.out)) hb); clear HO120; clear HB; have HO120 := n0_; have HB := n1_; clear n0_ n1_; (try clear hb); (try clear hb2); (try clear hk); (try clear hi)))
   go_ret2
   exact ⟨by first | rfl | (simp [Zv,Zu] <;> rfl) | (simp [*,Zv,Zu] <;> rfl),by repeat (first | (with_reducible first | exact HB.out | apply Zd | apply Za | apply Zb) | exact HB.out)⟩
end Go.Proofs.Ytomlfbmfdoallaa.PA

namespace Go.Proofs.Ytomlfbmfdoallaa.PA
open Go.RowKit Go.Proofs.YtomlfbmfdoallaaW.PrintWords Go.Proofs.YtomlfbmfdoallaaW.PrintLast Go.Proofs.YtomlfbmfdoallaaW.PrintMore
set_option linter.unusedVariables false
set_option linter.unusedSimpArgs false
def c72 (x : S72) : Array Value := #[.int .i64 x.f0.f0,.int .i64 x.f0.f1,.int .i64 x.f0.f2,.int .i64 x.f1]
def lastOr (p : S72 → Bool) : S72 → List S72 → S72
 | o,[] => o
 | o,m :: r => lastOr p (if p m = true then m else o) r
theorem set4' (W : World) (b : Nat) (cs : Array Value) (t : TypeId) (v0 v1 v2 v3 : Value) (h : Blk W b cs t) (h4 : cs.size = 4) :
 Blk ((((W.setCell ⟨b,0,none⟩ v0).setCell ⟨b,1,none⟩ v1).setCell ⟨b,2,none⟩ v2).setCell ⟨b,3,none⟩ v3) b #[v0,v1,v2,v3] t := by
 have := (((h.set 0 v0).set 1 v1).set 2 v2).set 3 v3; obtain ⟨l⟩ := cs
 match l,h4 with
 | [a,b,c,d],_ => exact this
theorem Qd {W : World} {a : Addr} {v : Value} (h : W.cell? a = some v) (o : Obj) : (W.alloc o).cell? a = some v := by
 have h1 := World.block_lt_of_cell? _ _ h; rw [World.cell?_alloc_lt _ _ _ h1]; exact h
theorem rd72_drop {l r : List S72} {k : Nat} {t : S72} (h : l.drop k = t :: r) : XO l (k : Int) = t := by
 have : l[k]? = some t := by rw [← List.head?_drop,h]; rfl
 simp [XO,this]
set_option maxRecDepth 100000 in
set_option maxHeartbeats 2000000 in
theorem QR (p : S72 → Bool) (g : Nat) (lb : Array Value) (eg : ∀ args w,(callFunc g args).run Try.prog w = .ok (.enter g args) w) (A : Option Addr) (c : Nat) (l : List S72) (w : World) (h0 : 0 < l.length)
 (hp : PredB g lb (fun x => .agg (c72 x)) p w) (hr : Kd.C k72 w A l.length l) :
 Calls Try.prog 46 #[.slice A l.length c,.func (.func g) #[] lb] w fun e w' => e = .returned (.agg (c72 (lastOr p (XO l 0) l))) ∧ Below w.heap.size w w' := by
 have HR := Zc.mk hr; have HP := Zc.mk hp; have hmax : l.length ≤ 9223372036854775807 := Kd.C_max hr; clear hr hp; obtain ⟨ad,eA,hx0,hx1,hx2,hx3⟩ := Y9 HR.out 0 (by omega) (by omega)
 cases eA
 simp only [Int.toNat_zero,Nat.zero_mul,Addr.add_zero'] at hx0 hx1 hx2 hx3
 have hz : (0 : Int) < (l.length : Int) := by omega
 generalize hq : XO l 0 = o0 at hx0 hx1 hx2 hx3 ⊢; have HQ := Zc.mk hq; clear hq; replace hx0 := Qd hx0; replace hx1 := Qd hx1; replace hx2 := Qd hx2; replace hx3 := Qd hx3
 go_enter Try.func46,Try.ntmps46
 go_wp2
 clear hx0 hx1 hx2 hx3
 obtain ⟨W0,hW0⟩ : ∃ W0,W0 = (w.alloc (.cells #[.int .i64 0,.int .i64 0,.int .i64 0,.int .i64 0] 72)).alloc (.cells (c72 o0) 72) := ⟨_,rfl⟩
 have k0 : Blk W0 w.heap.size #[.int .i64 0,.int .i64 0,.int .i64 0,.int .i64 0] 72 := by rw [hW0]; exact (Blk.new w _ _).alloc _
 have k1 : Blk W0 (w.heap.size + 1) (c72 o0) 72 := by rw [hW0]; have := Blk.new (w.alloc (.cells #[.int .i64 0,.int .i64 0,.int .i64 0,.int .i64 0] 72)) (c72 o0) 72; rw [World.size_alloc] at this; exact this
 have hb0 : Below w.heap.size w W0 := by rw [hW0]; exact ((Below.refl _ w).alloc (Nat.le_refl _) _).alloc (by simp) _
 unfold c72 at hW0; rw [← hW0]; clear hW0
 go_loopg [13] l.length (fun gg s13 wr => ∃ (k : Nat) (o : S72),k ≤ l.length ∧ l.length - k ≤ gg ∧ s13 = .int .i64 k ∧ Zc (lastOr p o0 l = lastOr p o (l.drop k)) ∧ Zc (Below w.heap.size w wr ∧ Blk wr w.heap.size #[.int .i64 0,.int .i64 0,.int .i64 0,.int .i64 0] 72 ∧ Blk wr (w.heap.size + 1) (c72 o) 72))
 case atStart => exact ⟨0,o0,Nat.zero_le _,by omega,rfl,⟨rfl⟩,⟨hb0,k0,k1⟩⟩
 case round =>
  clear k0 k1 hb0; obtain ⟨k,o,hk,hg,rfl,AI,HB⟩ := hrel
  by_cases hlt : k < l.length
  · have hltz : (k : Int) < (l.length : Int) := by omega
    obtain ⟨ad2,eA,hx0,hx1,hx2,hx3⟩ := Y9 (Kd.ZO HR.out HB.out.1) (k : Int) (by omega) (by omega)
    cases eA
    simp only [Int.toNat_natCast] at hx0 hx1 hx2 hx3; generalize hq : XO l (k : Int) = m at hx0 hx1 hx2 hx3
    obtain ⟨m',r,hd⟩ : ∃ t r,l.drop k = t :: r := ⟨_,_,List.drop_eq_getElem_cons hlt⟩
    obtain rfl : m = m' := by rw [← hq,rd72_drop hd]
    have HD := Zc.mk hd; clear hd hq; obtain ⟨BW,B0,B1⟩ := HB.out; have hcall := HP.out (wr.alloc (.cells #[.int .i64 m.f0.f0,.int .i64 m.f0.f1,.int .i64 m.f0.f2,.int .i64 m.f1] 72)) m (BW.alloc BW.size _); unfold c72 at hcall; have i0 : wr.cell? ⟨w.heap.size + 1,0,none⟩ = some (.int .i64 o.f0.f0) := B1.cell 0 rfl; have i1 : wr.cell? ⟨w.heap.size + 1,1,none⟩ = some (.int .i64 o.f0.f1) := B1.cell 1 rfl; have i2 : wr.cell? ⟨w.heap.size + 1,2,none⟩ = some (.int .i64 o.f0.f2) := B1.cell 2 rfl; have i3 : wr.cell? ⟨w.heap.size + 1,3,none⟩ = some (.int .i64 o.f1) := B1.cell 3 rfl; have z0 := B1.frozen 0; have z1 := B1.frozen 1; have z2 := B1.frozen 2; have z3 := B1.frozen 3; have hlt0 := B1.lt; have HBW := Zc.mk BW; clear BW HB
    cases hq : p m with
    | true =>
     rw [hq] at hcall; have HQm := Zc.mk hq; clear hq
     go_wp2_with (fail)
     refine hcall.mono ?_; rintro e w1 ⟨rfl,hb1⟩; clear hcall; have BM : Blk w1 wr.heap.size (c72 m) 72 := (Blk.new wr (c72 m) 72).Xv hb1; have y0 : w1.cell? ⟨wr.heap.size,0,none⟩ = some (.int .i64 m.f0.f0) := BM.cell 0 rfl; have y1 : w1.cell? ⟨wr.heap.size,1,none⟩ = some (.int .i64 m.f0.f1) := BM.cell 1 rfl; have y2 : w1.cell? ⟨wr.heap.size,2,none⟩ = some (.int .i64 m.f0.f2) := BM.cell 2 rfl; have y3 : w1.cell? ⟨wr.heap.size,3,none⟩ = some (.int .i64 m.f1) := BM.cell 3 rfl; have B0' : Blk w1 w.heap.size _ 72 := (B0.alloc _).Xv hb1; have B1' : Blk w1 (w.heap.size + 1) _ 72 := (B1.alloc _).Xv hb1; have x0 : w1.cell? ⟨w.heap.size + 1,0,none⟩ = some (.int .i64 o.f0.f0) := B1'.cell 0 rfl; have x1 : w1.cell? ⟨w.heap.size + 1,1,none⟩ = some (.int .i64 o.f0.f1) := B1'.cell 1 rfl; have x2 : w1.cell? ⟨w.heap.size + 1,2,none⟩ = some (.int .i64 o.f0.f2) := B1'.cell 2 rfl; have x3 : w1.cell? ⟨w.heap.size + 1,3,none⟩ = some (.int .i64 o.f1) := B1'.cell 3 rfl; have t0 := B1'.frozen 0; have t1 := B1'.frozen 1; have t2 := B1'.frozen 2; have t3 := B1'.frozen 3; have hb2 : Below w.heap.size w w1 := (HBW.out.alloc HBW.out.size _).trans (hb1.mono (by simp; have := HBW.out.size; omega)); have HX := Zc.mk (And.intro hb2 (And.intro B0' B1')); clear B0' B1' hb2 hb1 B0 B1 BM
     go_wp2_with (fail)
     go_roundg (l.length - (k + 1))
     case measure => omega
     case rel =>
      obtain ⟨hb2,B0',B1'⟩ := HX.out; refine ⟨k + 1,m,by omega,by omega,by go_num,⟨?_⟩,⟨?_,?_,set4' _ _ _ _ _ _ _ _ B1' rfl⟩⟩
      · rw [AI.out,HD.out,← List.drop_drop,HD.out]; simp [lastOr,HQm.out]
      · exact (((hb2.setCell (by show _ ≤ w.heap.size + 1; omega) _).setCell (by show _ ≤ w.heap.size + 1; omega) _).setCell (by show _ ≤ w.heap.size + 1; omega) _).setCell (by show _ ≤ w.heap.size + 1; omega) _
      · exact (((B0'.other _ (by show _ ≠ w.heap.size + 1; omega)).other _ (by show _ ≠ w.heap.size + 1; omega)).other _ (by show _ ≠ w.heap.size + 1; omega)).other _ (by show _ ≠ w.heap.size + 1; omega)
    | false =>
     rw [hq] at hcall; have HQm := Zc.mk hq; clear hq
     go_wp2_with (fail)
     refine hcall.mono ?_; rintro e w1 ⟨rfl,hb1⟩; clear hcall; have B0' : Blk w1 w.heap.size _ 72 := (B0.alloc _).Xv hb1; have B1' : Blk w1 (w.heap.size + 1) _ 72 := (B1.alloc _).Xv hb1; have hb2 : Below w.heap.size w w1 := (HBW.out.alloc HBW.out.size _).trans (hb1.mono (by simp; have := HBW.out.size; omega)); have HX := Zc.mk (And.intro hb2 (And.intro B0' B1')); clear B0' B1' hb2 hb1 B0 B1
     go_wp2_with (fail)
     go_roundg (l.length - (k + 1))
     case measure => omega
     case rel => exact ⟨k + 1,o,by omega,by omega,by go_num,⟨by rw [AI.out,HD.out,← List.drop_drop,HD.out]; simp [lastOr,HQm.out]⟩,HX⟩
  · obtain ⟨BW,B0,B1⟩ := HB.out
    have i0 : wr.cell? ⟨w.heap.size + 1,0,none⟩ = some (.int .i64 o.f0.f0) := B1.cell 0 rfl; have i1 : wr.cell? ⟨w.heap.size + 1,1,none⟩ = some (.int .i64 o.f0.f1) := B1.cell 1 rfl; have i2 : wr.cell? ⟨w.heap.size + 1,2,none⟩ = some (.int .i64 o.f0.f2) := B1.cell 2 rfl; have i3 : wr.cell? ⟨w.heap.size + 1,3,none⟩ = some (.int .i64 o.f1) := B1.cell 3 rfl; have j0 : wr.cell? ⟨w.heap.size,0,none⟩ = some (.int .i64 0) := B0.cell 0 rfl; have j1 : wr.cell? ⟨w.heap.size,1,none⟩ = some (.int .i64 0) := B0.cell 1 rfl; have j2 : wr.cell? ⟨w.heap.size,2,none⟩ = some (.int .i64 0) := B0.cell 2 rfl; have j3 : wr.cell? ⟨w.heap.size,3,none⟩ = some (.int .i64 0) := B0.cell 3 rfl; have z0 := B0.frozen 0; have z1 := B0.frozen 1; have z2 := B0.frozen 2; have z3 := B0.frozen 3; have hs := set4' _ _ _ _ (.int .i64 o.f0.f0) (.int .i64 o.f0.f1) (.int .i64 o.f0.f2) (.int .i64 o.f1) B0 rfl; have HS := Zc.mk hs; have HBW := Zc.mk BW; clear hs BW B0 B1 HB
    go_wp2_with (fail)
    have g0 := HS.out.cell 0 rfl; have g1 := HS.out.cell 1 rfl; have g2 := HS.out.cell 2 rfl; have g3 := HS.out.cell 3 rfl; refine bodyPost_ret (v := .agg (c72 o)) (by simp [results,Try.results46,go_sem,g0,g1,g2,g3,c72]) rfl ⟨?_,?_⟩
    · rw [AI.out,List.drop_eq_nil_of_le (by omega)]; rfl
    · exact (((HBW.out.setCell (Nat.le_refl _) _).setCell (Nat.le_refl _) _).setCell (Nat.le_refl _) _).setCell (Nat.le_refl _) _
end Go.Proofs.Ytomlfbmfdoallaa.PA

namespace Go.Proofs.Ytomlfbmfdoallaa.PA
open Go.RowKit Go.Proofs.YtomlfbmfdoallaaW.PrintWords Go.Proofs.YtomlfbmfdoallaaW.PrintLast Go.Proofs.YtomlfbmfdoallaaW.PrintMore
attribute [local go_sem] Xf Xg Xo Xn Xa ZZ Xh Xi
set_option linter.unusedVariables false
set_option linter.unusedSimpArgs false
mutual
def ZD.j0 : Nat → List (S61) → Bool → Option (Bool)
 | 0,_,_ => none
 | k + 1,x0,x15 => if x15 = true then (some false) else (ZD.l0 k x0 x0 (x0.length : Int) 0)
def ZD.l0 : Nat → List (S61) → List (S61) → Int → Int → Option (Bool)
 | 0,_,_,_,_ => none
 | k + 1,x0,x16,x17,x18 => if x18 < x17 then (if 0 ≤ x18 then (if x18 < (x16.length : Int) then ((Z6.f ((ZR x16 x18).f0) 0 1000000000).bind fun t127 => (if t127 = true then ((Z6.f ((ZR x16 x18).f1) 1 32).bind fun t128 => (if t128 = true then ((Z6.f ((ZR x16 x18).f2) 1 10000).bind fun t129 => (if t129 = true then (if x18 > 0 then (none) else (ZD.l0 k x0 x16 x17 (wrap64 (x18 + 1)))) else (none))) else (none))) else (none))) else (none)) else (none)) else (some true)
end
def ZD.f (k : Nat) (l0 : List (S61)) : Option (Bool) := (Z6.f (l0.length : Int) 1 50).bind fun t123 => (if t123 = true then (if 0 < (l0.length : Int) then (ZD.j0 k l0 (((ZR l0 0).f0) != 0)) else (none)) else (ZD.j0 k l0 true))
theorem ZD.Xq : ∀ k,(∀ y0 y1,LeO (ZD.j0 k y0 y1) (ZD.j0 (k + 1) y0 y1)) ∧ (∀ y0 y1 y2 y3,LeO (ZD.l0 k y0 y1 y2 y3) (ZD.l0 (k + 1) y0 y1 y2 y3))
 | 0 => ⟨fun _ _ r h => by simp [ZD.j0] at h,fun _ _ _ _ r h => by simp [ZD.l0] at h⟩
 | k + 1 => by
  obtain ⟨ih0,ih1⟩ := ZD.Xq k; refine ⟨?_,?_⟩
  · intro y0 y1
    unfold ZD.j0
    repeat' first
    | (with_reducible exact ih0 _ _)
    | (with_reducible exact ih1 _ _ _ _)
    | (with_reducible exact LeO.refl _)
    | (with_reducible exact LeO.none _)
    | (with_reducible refine LeO.ite ?_ ?_)
    | (with_reducible refine LeO.bind ?_ (fun _ => ?_))
    | exact ih0 _ _
    | exact ih1 _ _ _ _
    | exact LeO.none _
    | refine LeO.ite ?_ ?_
    | refine LeO.bind ?_ (fun _ => ?_)
  · intro y0 y1 y2 y3
    unfold ZD.l0
    repeat' first
    | (with_reducible exact ih0 _ _)
    | (with_reducible exact ih1 _ _ _ _)
    | (with_reducible exact LeO.refl _)
    | (with_reducible exact LeO.none _)
    | (with_reducible refine LeO.ite ?_ ?_)
    | (with_reducible refine LeO.bind ?_ (fun _ => ?_))
    | exact ih0 _ _
    | exact ih1 _ _ _ _
    | exact LeO.none _
    | refine LeO.ite ?_ ?_
    | refine LeO.bind ?_ (fun _ => ?_)
theorem ZD.mono : ∀ a0 k,LeO (ZD.f k a0) (ZD.f (k + 1) a0) := by
 intro a0 k; obtain ⟨ih0,ih1⟩ := ZD.Xq k; unfold ZD.f
 repeat' first
  | (with_reducible exact ih0 _ _)
  | (with_reducible exact ih1 _ _ _ _)
  | (with_reducible exact LeO.refl _)
  | (with_reducible exact LeO.none _)
  | (with_reducible refine LeO.ite ?_ ?_)
  | (with_reducible refine LeO.bind ?_ (fun _ => ?_))
  | exact ih0 _ _
  | exact ih1 _ _ _ _
  | exact LeO.none _
  | refine LeO.ite ?_ ?_
  | refine LeO.bind ?_ (fun _ => ?_)
def ZD.T6 : Bool × List (List Nat × List Nat) := (true,[([],[]),([0],[0]),([1],[1]),([2],[2]),([3,2],[3]),([4],[4]),([5,4],[4,5]),([6,4,4],[4,6]),([7,4],[4,7]),([4,8],[4,8]),([9,7],[9]),([10],[10]),([11,10],[10,11]),([12,10,10],[10,12]),([13,10],[10,13]),([10,14],[10,14]),([15,13],[15]),([16],[16]),([17,16],[16,17]),([18,16,16],[16,18]),([19],[19]),([19],[19]),([21,19],[19,21]),([20,22,19],[19,20,22]),([23,19],[19,23]),([24,19],[19,24]),([19],[19]),([26,19],[19,26]),([25,27,19],[19,25,27]),([19,28,16],[16,19,28]),([16,29],[16,29])])
def ZD.B6 : List Nat := [0,1,3,7,15,31,63,127,255,511,1023,2047,4095,8191,16383,32767,65535,131071,262143,524287,1048575,1048575,3145727,8388607,16777215,33554431,1048575,68157439,268435455,536870911,1073741823]
theorem ZD.tab6 : rtab .any (opsOf Try.f18 6) = ZD.T6 := by kernel_rfl
theorem ZD.bits6 : waitsOk ZD.T6.2 ZD.B6 = true := by kernel_rfl
set_option maxHeartbeats 8000000 in
set_option maxRecDepth 100000 in
theorem ZD.calls (k : Nat) (A0 : Option Addr) (c0 : Nat) (l0 : List (S61)) (r : Bool) (w : World) (hr0 : Kd.C k61 w A0 l0.length l0) (hc0 : l0.length ≤ c0) (h : ZD.f k l0 = some r) :
 Calls Try.prog 18 #[.slice A0 l0.length c0] w fun e w' => e = .returned (.bool r) ∧ Below w.heap.size w w' := by
 have hu61 := Try.underlying61; have HR0 := Zc.mk hr0; have HC0 := Zc.mk hc0; clear hr0 hc0; have HB := Zc.mk (Below.refl w.heap.size w); have H : ((Z6.f (l0.length : Int) 1 50).bind fun t123 => (if t123 = true then (if 0 < (l0.length : Int) then (ZD.j0 k l0 (((ZR l0 0).f0) != 0)) else (none)) else (ZD.j0 k l0 true))) = some r := h; clear h; have HC2 := Zc.mk H; clear H
 go_enter Try.func18,Try.ntmps18
 go_upto_region 1 with (fail)
 go_cut [15] (fun v15 wc => ∃ (kq : Nat) (x15_1 : Bool),v15 = .bool x15_1 ∧ Zc (ZD.j0 kq l0 x15_1 = some r) ∧ Zc (kq ≤ k) ∧ Zc (Below w.heap.size w wc))
 case first =>
  have H := HC2.out; clear HC2; replace H := Option.bind_eq_some_iff.mp H; obtain ⟨t123,A30,H⟩ := H; replace H : (if t123 = true then (if 0 < (l0.length : Int) then (ZD.j0 k l0 (((ZR l0 0).f0) != 0)) else (none)) else (ZD.j0 k l0 true)) = some r := H; have A3 := Zc.mk A30; clear A30
  by_cases c4 : t123 = true
  · subst c4
    have H1 : (if 0 < (l0.length : Int) then (ZD.j0 k l0 (((ZR l0 0).f0) != 0)) else (none)) = some r := by rw [if_pos rfl] at H; exact H
    clear H; have H := H1; clear H1
    by_cases c5 : 0 < (l0.length : Int)
    · rw [if_pos c5] at H
      have c5b0 : decide (0 < (l0.length : Int)) = true := decide_eq_true c5; have c5b1 : decide (0 < l0.length) = true := decide_eq_true (by omega); clear c5
      (first | rw [c5b0] | (simp only [i64_w,i32_w]; rw [c5b0]) | skip)
      have H' := Zc.mk H; clear H
      go_wp2_with (first | ((with_reducible refine Z1 (f := 43) rfl ?_); refine ZQ (some 7) rfl rfl Try.func43 (by kernel_rfl) rfl #[.int .i64 (l0.length : Int),.int .i64 1,.int .i64 50] rfl (by (try simp only [List.map_toArray,List.map_cons,List.map_nil]); first | done | rfl | (simp only [List.length_drop,List.length_take]; rfl)) ?_; (with_reducible refine (Z6.calls (l0.length : Int) 1 50 true _ A3.out).mono ?_); rintro e w' ⟨rfl,⟨nd,rfl⟩⟩; refine ⟨_,rfl,?_⟩; have p124 : 0 ≤ (0 : Int) := (by omega); have q124 : 0 < (l0.length : Int) := of_decide_eq_true (by first | (with_reducible assumption) | assumption); obtain ⟨ad124,e124,hx124_0,hx124_1,hx124_2⟩ := Yw HR0.out 0 p124 q124; cases e124; have qi124 : (0 < l0.length) = True := eq_true (by omega); (try rw [show ((0 : Int)).toNat = 0 from rfl] at hx124_0); (try rw [show 0 * 3 = 0 from rfl] at hx124_0); (try rw [Addr.add_zero'] at hx124_0); (try rw [show ((0 : Int)).toNat = 0 from rfl] at hx124_1); (try rw [show 0 * 3 = 0 from rfl] at hx124_1); (try rw [Addr.add_zero'] at hx124_1); (try rw [show ((0 : Int)).toNat = 0 from rfl] at hx124_2); (try rw [show 0 * 3 = 0 from rfl] at hx124_2); (try rw [Addr.add_zero'] at hx124_2); replace hx124_0 := (HB.out.cell (World.block_lt_of_cell? w _ hx124_0)).trans hx124_0; replace hx124_1 := (HB.out.cell (World.block_lt_of_cell? w _ hx124_1)).trans hx124_1; replace hx124_2 := (HB.out.cell (World.block_lt_of_cell? w _ hx124_2)).trans hx124_2; replace p124 := eq_true p124; replace q124 := eq_true q124))
      go_meet
      case rel => exact ⟨_,((((ZR l0 0).f0) != 0)),(by first | rfl | (simp; done) | (simp [*]; done)),H',⟨by first | omega | exact Nat.le_refl _⟩,⟨by repeat (first | (with_reducible first | exact HB.out | apply Zd | apply Za | apply Zb) | exact HB.out)⟩⟩
    · rw [if_neg c5] at H
      exact absurd H (by simp)
  · replace c4 := Bool.eq_false_iff.mpr c4
    subst c4
    have H1 : (ZD.j0 k l0 true) = some r := by rw [if_neg (show ¬ (false = true) by decide)] at H; exact H
    clear H; have H := H1; clear H1; have H' := Zc.mk H; clear H
    go_wp2_with (first | ((with_reducible refine Z1 (f := 43) rfl ?_); refine ZQ (some 7) rfl rfl Try.func43 (by kernel_rfl) rfl #[.int .i64 (l0.length : Int),.int .i64 1,.int .i64 50] rfl (by (try simp only [List.map_toArray,List.map_cons,List.map_nil]); first | done | rfl | (simp only [List.length_drop,List.length_take]; rfl)) ?_; (with_reducible refine (Z6.calls (l0.length : Int) 1 50 false _ A3.out).mono ?_); rintro e w' ⟨rfl,⟨nd,rfl⟩⟩; refine ⟨_,rfl,?_⟩))
    go_meet
    case rel => exact ⟨_,(true),(by first | rfl | (simp; done) | (simp [*]; done)),H',⟨by first | omega | exact Nat.le_refl _⟩,⟨by repeat (first | (with_reducible first | exact HB.out | apply Zd | apply Za | apply Zb) | exact HB.out)⟩⟩
 case rest =>
  clear HC2
  (try clear c1); (try clear p1); (try clear q1); (try clear hx1); (try clear qi1); (try clear p2); (try clear c4); (try clear c5); (try clear c5b0); (try clear c5b1); (try clear hx124_0); (try clear hx124_1); (try clear hx124_2); (try clear p124); (try clear q124)
  obtain ⟨kq,x15_1,rfl,HA,HJ1,HB⟩ := hcut
  cases kq with
  | zero => exact absurd HA.out (by simp [ZD.j0])
  | succ kj1 =>
   have H := HA.out; clear HA; simp only [ZD.j0] at H
   by_cases c6 : x15_1 = true
   · subst c6
     have H1 : (some false) = some r := by rw [if_pos rfl] at H; exact H
     clear H; have H := H1; clear H1; obtain rfl := Option.some.inj H
     go_wp2
     go_ret; exact ⟨by first | rfl | (simp [Zv,Zu] <;> rfl) | (simp [*,Zv,Zu] <;> rfl),by repeat (first | (with_reducible first | exact HB.out | apply Zd | apply Za | apply Zb) | exact HB.out)⟩
   · replace c6 := Bool.eq_false_iff.mpr c6
     subst c6
     have H1 : (ZD.l0 kj1 l0 l0 (l0.length : Int) 0) = some r := by rw [if_neg (show ¬ (false = true) by decide)] at H; exact H
     clear H; have H := H1; clear H1; have H' := Zc.mk H; clear H
     go_wp2
     go_loopg [18] kj1 (fun kq v18 w' => ∃ (x18_2 : Int),v18 = .int .i64 x18_2 ∧ Zc (ZD.l0 kq l0 l0 (l0.length : Int) x18_2 = some r) ∧ Zc (kq ≤ kj1) ∧ Zc (Below w.heap.size w w'))
     case atStart => exact ⟨(0),(by first | rfl | (simp; done) | (simp [*]; done)),H',⟨Nat.le_refl _⟩,⟨by repeat (first | (with_reducible first | exact HB.out | apply Zd | apply Za | apply Zb) | exact HB.out)⟩⟩
     case round =>
      clear H'
      (try clear c1); (try clear p1); (try clear q1); (try clear hx1); (try clear qi1); (try clear p2); (try clear c4); (try clear c5); (try clear c5b0); (try clear c5b1); (try clear c6); (try clear hx124_0); (try clear hx124_1); (try clear hx124_2); (try clear p1); (try clear p124); (try clear p2); (try clear q1); (try clear q124)
      obtain ⟨x18_2,rfl,HA,HK2,HB⟩ := hrel
      cases gk with
      | zero => exact absurd HA.out (by simp [ZD.l0])
      | succ k2 =>
       have H := HA.out; clear HA; simp only [ZD.l0] at H
       by_cases c7 : x18_2 < (l0.length : Int)
       · rw [if_pos c7] at H
         have c7b0 : decide (x18_2 < (l0.length : Int)) = true := decide_eq_true c7; clear c7
         by_cases c8 : 0 ≤ x18_2
         · rw [if_pos c8] at H
           have c8b0 : decide (0 ≤ x18_2) = true := decide_eq_true c8; clear c8
           by_cases c9 : x18_2 < (l0.length : Int)
           · rw [if_pos c9] at H
             have c9b0 : decide (x18_2 < (l0.length : Int)) = true := decide_eq_true c9; clear c9; replace H := Option.bind_eq_some_iff.mp H; obtain ⟨t127,A100,H⟩ := H; replace H : (if t127 = true then ((Z6.f ((ZR l0 x18_2).f1) 1 32).bind fun t128 => (if t128 = true then ((Z6.f ((ZR l0 x18_2).f2) 1 10000).bind fun t129 => (if t129 = true then (if x18_2 > 0 then (none) else (ZD.l0 k2 l0 l0 (l0.length : Int) (wrap64 (x18_2 + 1)))) else (none))) else (none))) else (none)) = some r := H; have A10 := Zc.mk A100; clear A100
             by_cases c11 : t127 = true
             · subst c11
               have H1 : ((Z6.f ((ZR l0 x18_2).f1) 1 32).bind fun t128 => (if t128 = true then ((Z6.f ((ZR l0 x18_2).f2) 1 10000).bind fun t129 => (if t129 = true then (if x18_2 > 0 then (none) else (ZD.l0 k2 l0 l0 (l0.length : Int) (wrap64 (x18_2 + 1)))) else (none))) else (none))) = some r := by rw [if_pos rfl] at H; exact H
               clear H; have H := H1; clear H1; replace H := Option.bind_eq_some_iff.mp H; obtain ⟨t128,A120,H⟩ := H; replace H : (if t128 = true then ((Z6.f ((ZR l0 x18_2).f2) 1 10000).bind fun t129 => (if t129 = true then (if x18_2 > 0 then (none) else (ZD.l0 k2 l0 l0 (l0.length : Int) (wrap64 (x18_2 + 1)))) else (none))) else (none)) = some r := H; have A12 := Zc.mk A120; clear A120
               by_cases c13 : t128 = true
               · subst c13
                 have H1 : ((Z6.f ((ZR l0 x18_2).f2) 1 10000).bind fun t129 => (if t129 = true then (if x18_2 > 0 then (none) else (ZD.l0 k2 l0 l0 (l0.length : Int) (wrap64 (x18_2 + 1)))) else (none))) = some r := by rw [if_pos rfl] at H; exact H
                 clear H; have H := H1; clear H1; replace H := Option.bind_eq_some_iff.mp H; obtain ⟨t129,A140,H⟩ := H; replace H : (if t129 = true then (if x18_2 > 0 then (none) else (ZD.l0 k2 l0 l0 (l0.length : Int) (wrap64 (x18_2 + 1)))) else (none)) = some r := H; have A14 := Zc.mk A140; clear A140
                 by_cases c15 : t129 = true
                 · subst c15
                   have H1 : (if x18_2 > 0 then (none) else (ZD.l0 k2 l0 l0 (l0.length : Int) (wrap64 (x18_2 + 1)))) = some r := by rw [if_pos rfl] at H; exact H
                   clear H; have H := H1; clear H1
                   by_cases c16 : x18_2 > 0
                   · rw [if_pos c16] at H; exact absurd H (by simp)
                   · rw [if_neg c16] at H
                     have c16b0 : decide (0 < x18_2) = false := decide_eq_false c16; clear c16; have H' := Zc.mk H; clear H; have p125 : 0 ≤ (x18_2 : Int) := of_decide_eq_true (by first | (with_reducible assumption) | assumption); have q125 : x18_2 < (l0.length : Int) := of_decide_eq_true (by first | (with_reducible assumption) | assumption); obtain ⟨ad125,e125,hx125_0,hx125_1,hx125_2⟩ := Yw HR0.out x18_2 p125 q125
                     cases e125
                     replace hx125_0 := (HB.out.cell (World.block_lt_of_cell? w _ hx125_0)).trans hx125_0; replace hx125_1 := (HB.out.cell (World.block_lt_of_cell? w _ hx125_1)).trans hx125_1; replace hx125_2 := (HB.out.cell (World.block_lt_of_cell? w _ hx125_2)).trans hx125_2; replace p125 := eq_true p125; replace q125 := eq_true q125
                     try go_wp2_with (first | ((with_reducible refine Xr (N := 4) rfl ?_); refine X2 ?hg (N := 4) ?hd (cs := #[.int .i64 0,.int .i64 0,.int .i64 0]) (t := 61) ?hr ?_; (case hd => rfl); (case hg => rfl); (case hr => first | (go_simp; done) | (go_simp; rfl)); intro gb126 hg w29 hbox hb; have n0_ := Zc.mk (Z3 (by repeat (first | (with_reducible first | exact HB.out | apply Zd | apply Za | apply Zb) | exact HB.out)) hb); have n1_ := Zc.mk (hbox); have n2_ := Zc.mk ((by rw [hg]; exact (ZH (by repeat (first | (with_reducible first | exact HB.out | apply Zd | apply Za | apply Zb) | exact HB.out))) : w.heap.size ≤ gb126)); have n3_ := Zc.mk ((by rw [hg]; exact (ZH (by repeat (first | (with_reducible first | exact HB.out | apply Zd | apply Za | apply Zb) | exact HB.out))) : w.heap.size ≤ gb126)); clear HB; have HB := n0_; have BK126 := n1_; have GW126 := n2_; have GE126 := n3_; clear n0_ n1_ n2_ n3_; clear hb hbox hg; have hcz30_0 : w29.cell? ⟨gb126,0,none⟩ = some (.int .i64 0) := (Zn BK126.out 0).trans rfl; have hcz30_1 : w29.cell? ⟨gb126,1,none⟩ = some (.int .i64 0) := (Zn BK126.out 1).trans rfl; have hcz30_2 : w29.cell? ⟨gb126,2,none⟩ = some (.int .i64 0) := (Zn BK126.out 2).trans rfl; have hfz30_0 := Zz BK126.out 0; have hfz30_1 := Zz BK126.out 1; have hfz30_2 := Zz BK126.out 2))
                     have n0_ : Zc ((((w29.setCell ⟨gb126,0,none⟩ (.int .i64 ((ZR l0 x18_2).f0))).setCell ⟨gb126,1,none⟩ (.int .i64 ((ZR l0 x18_2).f1))).setCell ⟨gb126,2,none⟩ (.int .i64 ((ZR l0 x18_2).f2))).heap[gb126]? = some (.cells #[.int .i64 ((ZR l0 x18_2).f0),.int .i64 ((ZR l0 x18_2).f1),.int .i64 ((ZR l0 x18_2).f2)] 61 (0,0))) := ⟨by (with_reducible repeat (first | refine Zy ?_ _ | refine Z0 ?_ | refine Zx ?_ _)); refine ZJ (cs := #[.int .i64 ((ZR l0 x18_2).f0),.int .i64 ((ZR l0 x18_2).f1),.int .i64 0]) ?_ 2 _ rfl; (with_reducible repeat (first | refine Zy ?_ _ | refine Z0 ?_ | refine Zx ?_ _)); refine ZJ (cs := #[.int .i64 ((ZR l0 x18_2).f0),.int .i64 0,.int .i64 0]) ?_ 1 _ rfl; (with_reducible repeat (first | refine Zy ?_ _ | refine Z0 ?_ | refine Zx ?_ _)); refine ZJ (cs := #[.int .i64 0,.int .i64 0,.int .i64 0]) ?_ 0 _ rfl; (with_reducible repeat (first | refine Zy ?_ _ | refine Z0 ?_ | refine Zx ?_ _)); exact BK126.out⟩
                     have n1_ : Zc (Below w.heap.size w (((w29.setCell ⟨gb126,0,none⟩ (.int .i64 ((ZR l0 x18_2).f0))).setCell ⟨gb126,1,none⟩ (.int .i64 ((ZR l0 x18_2).f1))).setCell ⟨gb126,2,none⟩ (.int .i64 ((ZR l0 x18_2).f2)))) := ⟨by repeat (first | (with_reducible first | exact HB.out | apply Zd | apply Za | apply Zb | refine ZK ?_ GE126.out) | exact HB.out)⟩
                     (try clear BK126)
                     (try clear HB)
                     generalize (((w29.setCell ⟨gb126,0,none⟩ (.int .i64 ((ZR l0 x18_2).f0))).setCell ⟨gb126,1,none⟩ (.int .i64 ((ZR l0 x18_2).f1))).setCell ⟨gb126,2,none⟩ (.int .i64 ((ZR l0 x18_2).f2))) = w31 at n0_ n1_ ⊢; have BK126 := n0_; have HB := n1_; clear n0_ n1_; have n0_ := Zc.mk (Z0 BK126.out); have n1_ := Zc.mk (Zb HB.out); clear BK126; clear HB; have BK126 := n0_; have HB := n1_; clear n0_ n1_; refine XC (n := 31) (S := fun w' => w'.cell? ⟨gb126,0,none⟩ = some (.int .i64 ((ZR l0 x18_2).f0)) ∧ w'.cell? ⟨gb126,1,none⟩ = some (.int .i64 ((ZR l0 x18_2).f1)) ∧ w'.cell? ⟨gb126,2,none⟩ = some (.int .i64 ((ZR l0 x18_2).f2))) (ds := []) #[G,G,G,G,G,G,G,G,G,G,G,G,G,G,G,G,G,G,G,G,G,G,G,G,G,G,G,G,G,G,G] (by kernel_rfl) rfl rfl ⟨(Zn BK126.out 0).trans rfl,(Zn BK126.out 1).trans rfl,(Zn BK126.out 2).trans rfl⟩ (fun hHeld => ?_); refine X1 ZD.tab6 ZD.bits6 (fun HT_ HW_ => ?_); generalize w31.drew = w32 at BK126 HB hHeld ⊢; refine pure_ (i := 0) (N := some 23) (v := ?_) (a' := ?_) #[O,G,G,G,G,G,G,G,G,G,G,G,G,G,G,G,G,G,G,G,G,G,G,G,G,G,G,G,G,G,G] rfl rfl (Zp HT_.out (by kernel_rfl)) (fun _ _ _ h => h) (Or.inl ⟨by rfl,?_⟩) ?_ ?_; rotate_left
                     · intro w'
                       go_simp; with_reducible rfl
                     rotate_left
                     · simp only [Act.put,YD,YE,YF,i64_w,i32_w]
                       rfl
                     refine take_ (i := 1) (N := some 24) (v := ?_) (a' := ?_) #[O,O,G,G,G,G,G,G,G,G,G,G,G,G,G,G,G,G,G,G,G,G,G,G,G,G,G,G,G,G,G] rfl rfl (Xe HT_.out HW_.out (by kernel_rfl)) (fun _ _ _ h => h) (Or.inl ⟨by rfl,?_⟩) hHeld ?_ ?_; rotate_left
                     · rintro w' ⟨s0,s1,s2⟩
                       go_simp; with_reducible rfl
                     rotate_left
                     · simp only [Act.put,YD,YE,YF,i64_w,i32_w]
                       rfl
                     refine one_ (i := 2) (N := some 25) #[O,O,O,G,G,G,G,G,G,G,G,G,G,G,G,G,G,G,G,G,G,G,G,G,G,G,G,G,G,G,G] rfl rfl (X4 HT_.out (by kernel_rfl)) (by decide) (fun K hK => ?_); refine goes_ Try.func43 (by kernel_rfl) rfl #[.int .i64 ((ZR l0 x18_2).f0),.int .i64 0,.int .i64 1000000000] (by rfl) rfl rfl (by (try simp only [List.map_toArray,List.map_cons,List.map_nil]); first | done | rfl | (simp only [List.length_drop,List.length_take]; rfl)) ?_
                     with_reducible refine (Z6.calls ((ZR l0 x18_2).f0) 0 1000000000 true _ A10.out).mono ?_
                     rintro e w' ⟨rfl,⟨nd,rfl⟩⟩; refine ⟨_,rfl,?_⟩; refine hK.out _ _ ⟨(Zn BK126.out 0).trans rfl,(Zn BK126.out 1).trans rfl,(Zn BK126.out 2).trans rfl⟩ (fun hHeld => ?_); clear hK K; refine norm_ (a' := ?_) ?_ ?_; rotate_left
                     · show Act.put _ (some 25) _ = _
                       simp only [Act.put,YD,YE,YF,i64_w,i32_w]; rfl
                     refine pure_ (i := 3) (N := some 26) (v := ?_) (a' := ?_) #[O,O,O,O,G,G,G,G,G,G,G,G,G,G,G,G,G,G,G,G,G,G,G,G,G,G,G,G,G,G,G] rfl rfl (Zp HT_.out (by kernel_rfl)) (fun _ _ _ h => h) (Or.inl ⟨by rfl,?_⟩) ?_ ?_; rotate_left
                     · intro w'
                       go_simp; with_reducible rfl
                     rotate_left
                     · simp only [Act.put,YD,YE,YF,i64_w,i32_w]
                       rfl
                     refine pure_ (i := 4) (N := some 27) (v := ?_) (a' := ?_) #[O,O,O,O,O,G,G,G,G,G,G,G,G,G,G,G,G,G,G,G,G,G,G,G,G,G,G,G,G,G,G] rfl rfl (Zp HT_.out (by kernel_rfl)) (fun _ _ _ h => h) (Or.inl ⟨by rfl,?_⟩) ?_ ?_; rotate_left
                     · intro w'
                       go_simp; with_reducible rfl
                     rotate_left
                     · simp only [Act.put,YD,YE,YF,i64_w,i32_w]
                       rfl
                     refine pure_ (i := 5) (N := some 28) (v := ?_) (a' := ?_) #[O,O,O,O,O,O,G,G,G,G,G,G,G,G,G,G,G,G,G,G,G,G,G,G,G,G,G,G,G,G,G] rfl rfl (Zp HT_.out (by kernel_rfl)) (fun _ _ _ h => h) (Or.inl ⟨by rfl,?_⟩) ?_ ?_; rotate_left
                     · intro w'
                       go_simp; with_reducible rfl
                     rotate_left
                     · simp only [Act.put,YD,YE,YF,i64_w,i32_w]
                       rfl
                     refine take_ (i := 6) (N := some 29) (v := ?_) (a' := ?_) #[O,O,O,O,O,O,O,G,G,G,G,G,G,G,G,G,G,G,G,G,G,G,G,G,G,G,G,G,G,G,G] rfl rfl (Xe HT_.out HW_.out (by kernel_rfl)) (fun _ _ _ h => h) (Or.inl ⟨by rfl,?_⟩) hHeld ?_ ?_; rotate_left
                     · rintro w' ⟨s0,s1,s2⟩
                       go_simp; with_reducible rfl
                     rotate_left
                     · simp only [Act.put,YD,YE,YF,i64_w,i32_w]
                       rfl
                     refine one_ (i := 7) (N := some 30) #[O,O,O,O,O,O,O,O,G,G,G,G,G,G,G,G,G,G,G,G,G,G,G,G,G,G,G,G,G,G,G] rfl rfl (X4 HT_.out (by kernel_rfl)) (by decide) (fun K hK => ?_); refine goes_ Try.func43 (by kernel_rfl) rfl #[.int .i64 ((ZR l0 x18_2).f1),.int .i64 1,.int .i64 32] (by rfl) rfl rfl (by (try simp only [List.map_toArray,List.map_cons,List.map_nil]); first | done | rfl | (simp only [List.length_drop,List.length_take]; rfl)) ?_
                     with_reducible refine (Z6.calls ((ZR l0 x18_2).f1) 1 32 true _ A12.out).mono ?_
                     rintro e w' ⟨rfl,⟨nd,rfl⟩⟩; refine ⟨_,rfl,?_⟩; refine hK.out _ _ ⟨(Zn BK126.out 0).trans rfl,(Zn BK126.out 1).trans rfl,(Zn BK126.out 2).trans rfl⟩ (fun hHeld => ?_); clear hK K; refine norm_ (a' := ?_) ?_ ?_; rotate_left
                     · show Act.put _ (some 30) _ = _
                       simp only [Act.put,YD,YE,YF,i64_w,i32_w]; rfl
                     refine pure_ (i := 8) (N := some 31) (v := ?_) (a' := ?_) #[O,O,O,O,O,O,O,O,O,G,G,G,G,G,G,G,G,G,G,G,G,G,G,G,G,G,G,G,G,G,G] rfl rfl (Zp HT_.out (by kernel_rfl)) (fun _ _ _ h => h) (Or.inl ⟨by rfl,?_⟩) ?_ ?_; rotate_left
                     · intro w'
                       go_simp; with_reducible rfl
                     rotate_left
                     · simp only [Act.put,YD,YE,YF,i64_w,i32_w]
                       rfl
                     refine pure_ (i := 9) (N := some 32) (v := ?_) (a' := ?_) #[O,O,O,O,O,O,O,O,O,O,G,G,G,G,G,G,G,G,G,G,G,G,G,G,G,G,G,G,G,G,G] rfl rfl (Zp HT_.out (by kernel_rfl)) (fun _ _ _ h => h) (Or.inl ⟨by rfl,?_⟩) ?_ ?_; rotate_left
                     · intro w'
                       go_simp; with_reducible rfl
                     rotate_left
                     · simp only [Act.put,YD,YE,YF,i64_w,i32_w]
                       rfl
                     refine pure_ (i := 10) (N := some 33) (v := ?_) (a' := ?_) #[O,O,O,O,O,O,O,O,O,O,O,G,G,G,G,G,G,G,G,G,G,G,G,G,G,G,G,G,G,G,G] rfl rfl (Zp HT_.out (by kernel_rfl)) (fun _ _ _ h => h) (Or.inl ⟨by rfl,?_⟩) ?_ ?_; rotate_left
                     · intro w'
                       go_simp; with_reducible rfl
                     rotate_left
                     · simp only [Act.put,YD,YE,YF,i64_w,i32_w]
                       rfl
                     refine pure_ (i := 11) (N := some 34) (v := ?_) (a' := ?_) #[O,O,O,O,O,O,O,O,O,O,O,O,G,G,G,G,G,G,G,G,G,G,G,G,G,G,G,G,G,G,G] rfl rfl (Zp HT_.out (by kernel_rfl)) (fun _ _ _ h => h) (Or.inl ⟨by rfl,?_⟩) ?_ ?_; rotate_left
                     · intro w'
                       go_simp; with_reducible rfl
                     rotate_left
                     · simp only [Act.put,YD,YE,YF,i64_w,i32_w]
                       rfl
                     refine take_ (i := 12) (N := some 35) (v := ?_) (a' := ?_) #[O,O,O,O,O,O,O,O,O,O,O,O,O,G,G,G,G,G,G,G,G,G,G,G,G,G,G,G,G,G,G] rfl rfl (Xe HT_.out HW_.out (by kernel_rfl)) (fun _ _ _ h => h) (Or.inl ⟨by rfl,?_⟩) hHeld ?_ ?_; rotate_left
                     · rintro w' ⟨s0,s1,s2⟩
                       go_simp; with_reducible rfl
                     rotate_left
                     · simp only [Act.put,YD,YE,YF,i64_w,i32_w]
                       rfl
                     refine one_ (i := 13) (N := some 36) #[O,O,O,O,O,O,O,O,O,O,O,O,O,O,G,G,G,G,G,G,G,G,G,G,G,G,G,G,G,G,G] rfl rfl (X4 HT_.out (by kernel_rfl)) (by decide) (fun K hK => ?_); refine goes_ Try.func43 (by kernel_rfl) rfl #[.int .i64 ((ZR l0 x18_2).f2),.int .i64 1,.int .i64 10000] (by rfl) rfl rfl (by (try simp only [List.map_toArray,List.map_cons,List.map_nil]); first | done | rfl | (simp only [List.length_drop,List.length_take]; rfl)) ?_
                     with_reducible refine (Z6.calls ((ZR l0 x18_2).f2) 1 10000 true _ A14.out).mono ?_
                     rintro e w' ⟨rfl,⟨nd,rfl⟩⟩; refine ⟨_,rfl,?_⟩; refine hK.out _ _ ⟨(Zn BK126.out 0).trans rfl,(Zn BK126.out 1).trans rfl,(Zn BK126.out 2).trans rfl⟩ (fun hHeld => ?_); clear hK K; refine norm_ (a' := ?_) ?_ ?_; rotate_left
                     · show Act.put _ (some 36) _ = _
                       simp only [Act.put,YD,YE,YF,i64_w,i32_w]; rfl
                     refine pure_ (i := 14) (N := some 37) (v := ?_) (a' := ?_) #[O,O,O,O,O,O,O,O,O,O,O,O,O,O,O,G,G,G,G,G,G,G,G,G,G,G,G,G,G,G,G] rfl rfl (Zp HT_.out (by kernel_rfl)) (fun _ _ _ h => h) (Or.inl ⟨by rfl,?_⟩) ?_ ?_; rotate_left
                     · intro w'
                       go_simp; with_reducible rfl
                     rotate_left
                     · simp only [Act.put,YD,YE,YF,i64_w,i32_w]
                       rfl
                     refine pure_ (i := 15) (N := some 38) (v := ?_) (a' := ?_) #[O,O,O,O,O,O,O,O,O,O,O,O,O,O,O,O,G,G,G,G,G,G,G,G,G,G,G,G,G,G,G] rfl rfl (Zp HT_.out (by kernel_rfl)) (fun _ _ _ h => h) (Or.inl ⟨by rfl,?_⟩) ?_ ?_; rotate_left
                     · intro w'
                       go_simp; with_reducible rfl
                     rotate_left
                     · simp only [Act.put,YD,YE,YF,i64_w,i32_w]
                       rfl
                     refine pure_ (i := 16) (N := some 39) (v := ?_) (a' := ?_) #[O,O,O,O,O,O,O,O,O,O,O,O,O,O,O,O,O,G,G,G,G,G,G,G,G,G,G,G,G,G,G] rfl rfl (Zp HT_.out (by kernel_rfl)) (fun _ _ _ h => h) (Or.inl ⟨by rfl,?_⟩) ?_ ?_; rotate_left
                     · intro w'
                       go_simp; with_reducible rfl
                     rotate_left
                     · simp only [Act.put,YD,YE,YF,i64_w,i32_w]
                       rfl
                     refine pure_ (i := 17) (N := some 40) (v := ?_) (a' := ?_) #[O,O,O,O,O,O,O,O,O,O,O,O,O,O,O,O,O,O,G,G,G,G,G,G,G,G,G,G,G,G,G] rfl rfl (Zp HT_.out (by kernel_rfl)) (fun _ _ _ h => h) (Or.inl ⟨by rfl,?_⟩) ?_ ?_; rotate_left
                     · intro w'
                       go_simp; with_reducible rfl
                     rotate_left
                     · simp only [Act.put,YD,YE,YF,i64_w,i32_w]
                       rfl
                     refine pure_ (i := 18) (N := some 41) (v := ?_) (a' := ?_) #[O,O,O,O,O,O,O,O,O,O,O,O,O,O,O,O,O,O,O,G,G,G,G,G,G,G,G,G,G,G,G] rfl rfl (Zp HT_.out (by kernel_rfl)) (fun _ _ _ h => h) (Or.inl ⟨by rfl,?_⟩) ?_ ?_; rotate_left
                     · intro w'
                       go_simp; with_reducible rfl
                     rotate_left
                     · simp only [Act.put,YD,YE,YF,i64_w,i32_w]
                       rfl
                     refine pure_ (i := 19) (N := some 42) (v := ?_) (a' := ?_) #[O,O,O,O,O,O,O,O,O,O,O,O,O,O,O,O,O,O,O,O,G,G,G,G,G,G,G,G,G,G,G] rfl rfl (Zp HT_.out (by kernel_rfl)) (fun _ _ _ h => h) (Or.inl ⟨by rfl,?_⟩) ?_ ?_; rotate_left
                     · intro w'
                       go_simp; with_reducible rfl
                     rotate_left
                     · simp only [Act.put,YD,YE,YF,i64_w,i32_w]
                       rfl
                     refine pure_ (i := 20) (N := some 43) (v := undef) (a' := ?_) #[O,O,O,O,O,O,O,O,O,O,O,O,O,O,O,O,O,O,O,O,O,G,G,G,G,G,G,G,G,G,G] rfl rfl (Zp HT_.out (by kernel_rfl)) (fun _ _ _ h => h) (Or.inr ⟨by rfl,rfl⟩) ?_ ?_; rotate_left
                     · simp only [Act.put,YD,YE,YF,i64_w,i32_w]
                       rfl
                     refine pure_ (i := 21) (N := some 44) (v := undef) (a' := ?_) #[O,O,O,O,O,O,O,O,O,O,O,O,O,O,O,O,O,O,O,O,O,O,G,G,G,G,G,G,G,G,G] rfl rfl (Zp HT_.out (by kernel_rfl)) (fun _ _ _ h => h) (Or.inr ⟨by rfl,rfl⟩) ?_ ?_; rotate_left
                     · simp only [Act.put,YD,YE,YF,i64_w,i32_w]
                       rfl
                     refine pure_ (i := 22) (N := some 45) (v := undef) (a' := ?_) #[O,O,O,O,O,O,O,O,O,O,O,O,O,O,O,O,O,O,O,O,O,O,O,G,G,G,G,G,G,G,G] rfl rfl (Zp HT_.out (by kernel_rfl)) (fun _ _ _ h => h) (Or.inr ⟨by rfl,rfl⟩) ?_ ?_; rotate_left
                     · simp only [Act.put,YD,YE,YF,i64_w,i32_w]
                       rfl
                     refine pure_ (i := 23) (N := some 46) (v := undef) (a' := ?_) #[O,O,O,O,O,O,O,O,O,O,O,O,O,O,O,O,O,O,O,O,O,O,O,O,G,G,G,G,G,G,G] rfl rfl (Zp HT_.out (by kernel_rfl)) (fun _ _ _ h => h) (Or.inr ⟨by rfl,rfl⟩) ?_ ?_; rotate_left
                     · simp only [Act.put,YD,YE,YF,i64_w,i32_w]
                       rfl
                     refine pure_ (i := 24) (N := some 47) (v := undef) (a' := ?_) #[O,O,O,O,O,O,O,O,O,O,O,O,O,O,O,O,O,O,O,O,O,O,O,O,O,G,G,G,G,G,G] rfl rfl (Zp HT_.out (by kernel_rfl)) (fun _ _ _ h => h) (Or.inr ⟨by rfl,rfl⟩) ?_ ?_; rotate_left
                     · simp only [Act.put,YD,YE,YF,i64_w,i32_w]
                       rfl
                     refine pure_ (i := 25) (N := some 48) (v := undef) (a' := ?_) #[O,O,O,O,O,O,O,O,O,O,O,O,O,O,O,O,O,O,O,O,O,O,O,O,O,O,G,G,G,G,G] rfl rfl (Zp HT_.out (by kernel_rfl)) (fun _ _ _ h => h) (Or.inr ⟨by rfl,rfl⟩) ?_ ?_; rotate_left
                     · simp only [Act.put,YD,YE,YF,i64_w,i32_w]
                       rfl
                     refine pure_ (i := 26) (N := some 49) (v := undef) (a' := ?_) #[O,O,O,O,O,O,O,O,O,O,O,O,O,O,O,O,O,O,O,O,O,O,O,O,O,O,O,G,G,G,G] rfl rfl (Zp HT_.out (by kernel_rfl)) (fun _ _ _ h => h) (Or.inr ⟨by rfl,rfl⟩) ?_ ?_; rotate_left
                     · simp only [Act.put,YD,YE,YF,i64_w,i32_w]
                       rfl
                     refine pure_ (i := 27) (N := some 50) (v := undef) (a' := ?_) #[O,O,O,O,O,O,O,O,O,O,O,O,O,O,O,O,O,O,O,O,O,O,O,O,O,O,O,O,G,G,G] rfl rfl (Zp HT_.out (by kernel_rfl)) (fun _ _ _ h => h) (Or.inr ⟨by rfl,rfl⟩) ?_ ?_; rotate_left
                     · simp only [Act.put,YD,YE,YF,i64_w,i32_w]
                       rfl
                     refine pure_ (i := 28) (N := some 51) (v := undef) (a' := ?_) #[O,O,O,O,O,O,O,O,O,O,O,O,O,O,O,O,O,O,O,O,O,O,O,O,O,O,O,O,O,G,G] rfl rfl (Zp HT_.out (by kernel_rfl)) (fun _ _ _ h => h) (Or.inr ⟨by rfl,rfl⟩) ?_ ?_; rotate_left
                     · simp only [Act.put,YD,YE,YF,i64_w,i32_w]
                       rfl
                     refine pure_ (i := 29) (N := some 52) (v := ?_) (a' := ?_) #[O,O,O,O,O,O,O,O,O,O,O,O,O,O,O,O,O,O,O,O,O,O,O,O,O,O,O,O,O,O,G] rfl rfl (Zp HT_.out (by kernel_rfl)) (fun _ _ _ h => h) (Or.inl ⟨by rfl,?_⟩) ?_ ?_; rotate_left
                     · intro w'
                       go_simp; with_reducible rfl
                     rotate_left
                     · simp only [Act.put,YD,YE,YF,i64_w,i32_w]
                       rfl
                     refine pure_ (i := 30) (N := some 53) (v := ?_) (a' := ?_) #[O,O,O,O,O,O,O,O,O,O,O,O,O,O,O,O,O,O,O,O,O,O,O,O,O,O,O,O,O,O,O] rfl rfl (Zp HT_.out (by kernel_rfl)) (fun _ _ _ h => h) (Or.inl ⟨by rfl,?_⟩) ?_ ?_; rotate_left
                     · intro w'
                       go_simp; with_reducible rfl
                     rotate_left
                     · simp only [Act.put,YD,YE,YF,i64_w,i32_w]
                       rfl
                     refine done_ (X7 HT_.out (by kernel_rfl)) ?_
                     try go_wp2
                     go_roundg k2
                     case measure => have := HJ1.out; have := HK2.out; omega
                     case rel => exact ⟨(wrap64 (x18_2 + 1)),(by first | rfl | (simp; done) | (simp [*]; done)),H',⟨by have := HJ1.out; have := HK2.out; omega⟩,⟨by repeat (first | (with_reducible first | exact HB.out | apply Zd | apply Za | apply Zb | refine ZK ?_ GE126.out) | exact HB.out)⟩⟩
                 · rw [if_neg c15] at H; exact absurd H (by simp)
               · rw [if_neg c13] at H; exact absurd H (by simp)
             · rw [if_neg c11] at H; exact absurd H (by simp)
           · rw [if_neg c9] at H
             exact absurd H (by simp)
         · rw [if_neg c8] at H
           exact absurd H (by simp)
       · rw [if_neg c7] at H
         have c7b0 : decide (x18_2 < (l0.length : Int)) = false := decide_eq_false c7; clear c7; obtain rfl := Option.some.inj H
         go_wp2
         go_ret; exact ⟨by first | rfl | (simp [Zv,Zu] <;> rfl) | (simp [*,Zv,Zu] <;> rfl),by repeat (first | (with_reducible first | exact HB.out | apply Zd | apply Za | apply Zb) | exact HB.out)⟩
end Go.Proofs.Ytomlfbmfdoallaa.PA

namespace Go.Proofs.Ytomlfbmfdoallaa.PA
open Go.RowKit Go.Proofs.YtomlfbmfdoallaaW.PrintWords Go.Proofs.YtomlfbmfdoallaaW.PrintLast Go.Proofs.YtomlfbmfdoallaaW.PrintMore
attribute [local go_sem] Xf Xg Xo Xn Xa ZZ Xh Xi
set_option linter.unusedVariables false
set_option linter.unusedSimpArgs false
def X0.f (a0_0 : Int) (a0_1 : Int) (a0_2 : Int) (a0_3 : Int) : Option (Int) := some (wrap64 (a0_1 * a0_2))
set_option maxHeartbeats 8000000 in
set_option maxRecDepth 100000 in
theorem X0.calls (a0_0 : Int) (a0_1 : Int) (a0_2 : Int) (a0_3 : Int) (r : Int) (w : World) (h : X0.f a0_0 a0_1 a0_2 a0_3 = some r) :
 Calls Try.prog 49 #[.agg #[.int .i64 a0_0,.int .i64 a0_1,.int .i64 a0_2,.int .i64 a0_3]] w fun e w' => e = .returned (.int .i64 r) ∧ Below w.heap.size w w' := by
 have hu72 := Try.underlying72; have HB := Zc.mk (Below.refl w.heap.size w); have H : (some (wrap64 (a0_1 * a0_2))) = some r := h; clear h; obtain rfl := Option.some.inj H
 go_enter Try.func49,Try.ntmps49
 go_wp2_with (first | ((with_reducible refine Xr (N := 1) rfl ?_); refine X2 ?hg (N := 1) ?hd (cs := #[.int .i64 a0_0,.int .i64 a0_1,.int .i64 a0_2,.int .i64 a0_3]) (t := 72) ?hr ?_; (case hd => rfl); (case hg => rfl); (case hr => first | (go_simp; done) | (go_simp; rfl)); intro gb131 hg w2 hbox hb; have n0_ := Zc.mk (Z3 (by repeat (first | (with_reducible first | exact HB.out | apply Zd | apply Za | apply Zb) | exact HB.out)) hb); have n1_ := Zc.mk (hbox); have n2_ := Zc.mk ((by rw [hg]; exact (ZH (by repeat (first | (with_reducible first | exact HB.out | apply Zd | apply Za | apply Zb) | exact HB.out))) : w.heap.size ≤ gb131)); have n3_ := Zc.mk ((by rw [hg]; exact (ZH (by repeat (first | (with_reducible first | exact HB.out | apply Zd | apply Za | apply Zb) | exact HB.out))) : w.heap.size ≤ gb131)); clear HB; have HB := n0_; have BK131 := n1_; have GW131 := n2_; have GE131 := n3_; clear n0_ n1_ n2_ n3_; clear hb hbox hg; have hcz3_0 : w2.cell? ⟨gb131,0,none⟩ = some (.int .i64 a0_0) := (Zn BK131.out 0).trans rfl; have hcz3_1 : w2.cell? ⟨gb131,1,none⟩ = some (.int .i64 a0_1) := (Zn BK131.out 1).trans rfl; have hcz3_2 : w2.cell? ⟨gb131,2,none⟩ = some (.int .i64 a0_2) := (Zn BK131.out 2).trans rfl; have hcz3_3 : w2.cell? ⟨gb131,3,none⟩ = some (.int .i64 a0_3) := (Zn BK131.out 3).trans rfl; have hfz3_0 := Zz BK131.out 0; have hfz3_1 := Zz BK131.out 1; have hfz3_2 := Zz BK131.out 2; have hfz3_3 := Zz BK131.out 3))
 go_ret; exact ⟨by first | rfl | (simp [Zv,Zu] <;> rfl) | (simp [*,Zv,Zu] <;> rfl),by repeat (first | (with_reducible first | exact HB.out | apply Zd | apply Za | apply Zb | refine ZK ?_ GE131.out) | exact HB.out)⟩
end Go.Proofs.Ytomlfbmfdoallaa.PA

namespace Go.Proofs.Ytomlfbmfdoallaa.PA
open Go.RowKit Go.Proofs.YtomlfbmfdoallaaW.PrintWords Go.Proofs.YtomlfbmfdoallaaW.PrintLast Go.Proofs.YtomlfbmfdoallaaW.PrintMore
attribute [local go_sem] Xf Xg Xo Xn Xa ZZ Xh Xi
set_option linter.unusedVariables false
set_option linter.unusedSimpArgs false
def ZU.l0 : Nat → List (S72) → List (S61) → Int → Int → Option ((List (S72)))
 | 0,_,_,_,_ => none
 | k + 1,x3,x8,x9,x10 => if x10 < x9 then (if 0 ≤ x10 then (if x10 < (x8.length : Int) then (if (wrap64 ((x3.length : Int) - 1)) ≥ 0 then (none) else (if x3.length < 4398046511104 then (ZU.l0 k (x3 ++ [(⟨(⟨(ZR x8 x10).f0,(ZR x8 x10).f1,(ZR x8 x10).f2⟩ : S61),0⟩ : S72)]) x8 x9 (wrap64 (x10 + 1))) else (none))) else (none)) else (none)) else (some x3)
def ZU.f (k : Nat) (l0 : List (S61)) : Option ((List (S72))) := ZU.l0 k ([] : List (S72)) l0 (l0.length : Int) 0
theorem ZU.Xq : ∀ k,(∀ y0 y1 y2 y3,LeO (ZU.l0 k y0 y1 y2 y3) (ZU.l0 (k + 1) y0 y1 y2 y3))
 | 0 => fun _ _ _ _ r h => by simp [ZU.l0] at h
 | k + 1 => by
  have ih0 := ZU.Xq k
  · intro y0 y1 y2 y3
    unfold ZU.l0
    repeat' first
    | (with_reducible exact ih0 _ _ _ _)
    | (with_reducible exact LeO.refl _)
    | (with_reducible exact LeO.none _)
    | (with_reducible refine LeO.ite ?_ ?_)
    | (with_reducible refine LeO.bind ?_ (fun _ => ?_))
    | exact ih0 _ _ _ _
    | exact LeO.none _
    | refine LeO.ite ?_ ?_
    | refine LeO.bind ?_ (fun _ => ?_)
theorem ZU.mono : ∀ a0 k,LeO (ZU.f k a0) (ZU.f (k + 1) a0) := by
 intro a0 k; have ih0 := ZU.Xq k; unfold ZU.f
 repeat' first
  | (with_reducible exact ih0 _ _ _ _)
  | (with_reducible exact LeO.refl _)
  | (with_reducible exact LeO.none _)
  | (with_reducible refine LeO.ite ?_ ?_)
  | (with_reducible refine LeO.bind ?_ (fun _ => ?_))
  | exact ih0 _ _ _ _
  | exact LeO.none _
  | refine LeO.ite ?_ ?_
  | refine LeO.bind ?_ (fun _ => ?_)
def ZU.T8 : Bool × List (List Nat × List Nat) := (true,[([],[]),([],[]),([0,1],[0,1]),([2],[2]),([3],[3]),([],[]),([5],[5]),([],[]),([],[]),([7,8],[7,8]),([9],[9]),([10],[10]),([11],[11]),([6,12],[6,12]),([],[]),([],[]),([14,15],[14,15]),([16],[16]),([17],[17]),([13,18],[13,18]),([4,19],[4,19]),([0,1,2,3,4,5,6,7,8,9,10,11,12,13,14,15,16,17,18,19,20],[]),([21,20,18,0,1,2,3,4,5,6,7,8,9,10,11,12,13,14,15,16,17,18,19,20],[20,21])])
def ZU.B8 : List Nat := [0,0,3,7,15,0,32,0,0,384,896,1920,3968,8160,0,0,49152,114688,245760,524256,1048575,2097151,4194303]
theorem ZU.tab8 : rtab .any (opsOf Try.f47 8) = ZU.T8 := by kernel_rfl
theorem ZU.bits8 : waitsOk ZU.T8.2 ZU.B8 = true := by kernel_rfl
set_option maxHeartbeats 8000000 in
set_option maxRecDepth 100000 in
theorem ZU.calls (k : Nat) (A0 : Option Addr) (c0 : Nat) (l0 : List (S61)) (r : List (S72)) (w : World) (hr0 : Kd.C k61 w A0 l0.length l0) (hc0 : l0.length ≤ c0) (h : ZU.f k l0 = some r) :
 Calls Try.prog 47 #[.slice A0 l0.length c0] w fun e w' => ∃ v0_ : Value,e = .returned (v0_) ∧ Kd.R k72 72 w' w.heap.size (fun _ => True) v0_ r ∧ Below w.heap.size w w' := by
 have hu61 := Try.underlying61; have hu72 := Try.underlying72; have HR0 := Zc.mk hr0; have HC0 := Zc.mk hc0; clear hr0 hc0; have HB := Zc.mk (Below.refl w.heap.size w); have H : (ZU.l0 k ([] : List (S72)) l0 (l0.length : Int) 0) = some r := h; clear h; have H' := Zc.mk H; clear H
 go_enter Try.func47,Try.ntmps47
 go_wp2
 go_loopg [3,10] k (fun kq v3 v10 w' => ∃ (x3_1 : List (S72)) (x10_1 : Int),v10 = .int .i64 x10_1 ∧ Zc (ZU.l0 kq x3_1 l0 (l0.length : Int) x10_1 = some r) ∧ Zc (kq ≤ k) ∧ Zc (Kd.R k72 72 w' w.heap.size (fun _ => True) v3 x3_1) ∧ Zc (Below w.heap.size w w'))
 case atStart => exact ⟨(([] : List (S72))),(0),(by first | rfl | (simp; done) | (simp [*]; done)),H',⟨Nat.le_refl _⟩,⟨by first | exact Kd.R_nil _ _ _ _ _ | exact Kd.N_nil _ _ _ _ _ | exact Kd.V_nil _ _ _ _ _ | exact Kd.Q_nil _ _ _ _ _ | exact Kd.S_nil _ _ _ _ _⟩,⟨by repeat (first | (with_reducible first | exact HB.out | apply Zd | apply Za | apply Zb) | exact HB.out)⟩⟩
 case round =>
  clear H'; obtain ⟨x3_1,x10_1,rfl,HA,HK1,HO_3,HB⟩ := hrel
  cases gk with
  | zero => exact absurd HA.out (by simp [ZU.l0])
  | succ k1 =>
   have H := HA.out; clear HA; simp only [ZU.l0] at H
   by_cases c2 : x10_1 < (l0.length : Int)
   · rw [if_pos c2] at H
     have c2b0 : decide (x10_1 < (l0.length : Int)) = true := decide_eq_true c2; clear c2
     by_cases c3 : 0 ≤ x10_1
     · rw [if_pos c3] at H
       have c3b0 : decide (0 ≤ x10_1) = true := decide_eq_true c3; clear c3
       by_cases c4 : x10_1 < (l0.length : Int)
       · rw [if_pos c4] at H
         have c4b0 : decide (x10_1 < (l0.length : Int)) = true := decide_eq_true c4; clear c4
         by_cases c5 : (wrap64 ((x3_1.length : Int) - 1)) ≥ 0
         · rw [if_pos c5] at H; exact absurd H (by simp)
         · rw [if_neg c5] at H
           have c5b0 : decide (0 ≤ (wrap64 ((x3_1.length : Int) - 1))) = false := decide_eq_false c5; clear c5
           by_cases c23 : x3_1.length < 4398046511104
           · rw [if_pos c23] at H
             have LMc23 := Zc.mk c23; clear c23
             obtain ⟨y142,hy142⟩ : ∃ y_ : List (S72),y_ = (x3_1 ++ [(⟨(⟨(ZR l0 x10_1).f0,(ZR l0 x10_1).f1,(ZR l0 x10_1).f2⟩ : S61),0⟩ : S72)]) := ⟨_,rfl⟩
             replace H : (ZU.l0 k1 y142 l0 (l0.length : Int) (wrap64 (x10_1 + 1))) = some r := by first | (rw [hy142]; with_reducible exact H) | (have H2_ := (Option.bind_some _ _).symm.trans H; rw [hy142]; with_reducible exact H2_) | (have H2_ := (Option.bind_some _ _).symm.trans H; with_reducible exact H2_) | with_reducible exact H | (rw [hy142]; exact H) | exact H
             have Ny142 := Zc.mk hy142; clear hy142; have H' := Zc.mk H; clear H; have p132 : 0 ≤ (x10_1 : Int) := of_decide_eq_true (by first | (with_reducible assumption) | assumption); have q132 : x10_1 < (l0.length : Int) := of_decide_eq_true (by first | (with_reducible assumption) | assumption); obtain ⟨ad132,e132,hx132_0,hx132_1,hx132_2⟩ := Yw HR0.out x10_1 p132 q132
             cases e132
             replace hx132_0 := (HB.out.cell (World.block_lt_of_cell? w _ hx132_0)).trans hx132_0; replace hx132_1 := (HB.out.cell (World.block_lt_of_cell? w _ hx132_1)).trans hx132_1; replace hx132_2 := (HB.out.cell (World.block_lt_of_cell? w _ hx132_2)).trans hx132_2; replace p132 := eq_true p132; replace q132 := eq_true q132
             go_wp2_with (first | ((with_reducible refine Xr (N := 5) rfl ?_); refine X2 ?hg (N := 5) ?hd (cs := #[.int .i64 0,.int .i64 0,.int .i64 0]) (t := 61) ?hr ?_; (case hd => rfl); (case hg => rfl); (case hr => first | (go_simp; done) | (go_simp; rfl)); intro gb133 hg w24 hbox hb; have n0_ := Zc.mk (Kd.Xl (by (with_reducible repeat (first | apply Kd.Zl | apply Kd.Zk | apply Kd.Zs)); exact HO_3.out) hb); have n1_ := Zc.mk (Z3 (by repeat (first | (with_reducible first | exact HB.out | apply Zd | apply Za | apply Zb) | exact HB.out)) hb); have n2_ := Zc.mk (hbox); have n3_ := Zc.mk ((by rw [hg]; exact (ZH (by repeat (first | (with_reducible first | exact HB.out | apply Zd | apply Za | apply Zb) | exact HB.out))) : w.heap.size ≤ gb133)); have n4_ := Zc.mk ((by rw [hg]; exact (ZH (by repeat (first | (with_reducible first | exact HB.out | apply Zd | apply Za | apply Zb) | exact HB.out))) : w.heap.size ≤ gb133)); clear HO_3; clear HB; have HO_3 := n0_; have HB := n1_; have BK133 := n2_; have GW133 := n3_; have GE133 := n4_; clear n0_ n1_ n2_ n3_ n4_; clear hb hbox hg; have hcz25_0 : w24.cell? ⟨gb133,0,none⟩ = some (.int .i64 0) := (Zn BK133.out 0).trans rfl; have hcz25_1 : w24.cell? ⟨gb133,1,none⟩ = some (.int .i64 0) := (Zn BK133.out 1).trans rfl; have hcz25_2 : w24.cell? ⟨gb133,2,none⟩ = some (.int .i64 0) := (Zn BK133.out 2).trans rfl; have hfz25_0 := Zz BK133.out 0; have hfz25_1 := Zz BK133.out 1; have hfz25_2 := Zz BK133.out 2) | ((with_reducible refine Xr (N := 6) rfl ?_); refine X2 ?hg (N := 6) ?hd (cs := #[.int .i64 0,.int .i64 0,.int .i64 0,.int .i64 0]) (t := 72) ?hr ?_; (case hd => rfl); (case hg => rfl); (case hr => first | (go_simp; done) | (go_simp; rfl)); intro gb134 hg w26 hbox hb; have n0_ := Zc.mk (Kd.Xl (Kd.R_elderB (by (with_reducible repeat (first | apply Kd.Zl | apply Kd.Zk | apply Kd.Zs)); exact (Kd.ZN (Kd.R_far (p := ⟨gb133,2,none⟩) (Kd.R_far (p := ⟨gb133,1,none⟩) (Kd.R_far (p := ⟨gb133,0,none⟩) (Kd.R_types HO_3.out BK133.out (by decide)) (fun _ hk => hk.2) (.int .i64 ((ZR l0 x10_1).f0))) (fun _ hk => hk.2) (.int .i64 ((ZR l0 x10_1).f1))) (fun _ hk => hk.2) (.int .i64 ((ZR l0 x10_1).f2))) (fun _ h_ => h_.1))) gb134 (Nat.le_of_eq hg.symm)) hb); have n1_ := Zc.mk (blk_below (g := gb133) (o := .cells #[.int .i64 ((ZR l0 x10_1).f0),.int .i64 ((ZR l0 x10_1).f1),.int .i64 ((ZR l0 x10_1).f2)] 61 (0,0)) (by (with_reducible repeat (first | refine Zy ?_ _ | refine Z0 ?_ | refine Zx ?_ _)); refine ZJ (cs := #[.int .i64 ((ZR l0 x10_1).f0),.int .i64 ((ZR l0 x10_1).f1),.int .i64 0]) ?_ 2 _ rfl; (with_reducible repeat (first | refine Zy ?_ _ | refine Z0 ?_ | refine Zx ?_ _)); refine ZJ (cs := #[.int .i64 ((ZR l0 x10_1).f0),.int .i64 0,.int .i64 0]) ?_ 1 _ rfl; (with_reducible repeat (first | refine Zy ?_ _ | refine Z0 ?_ | refine Zx ?_ _)); refine ZJ (cs := #[.int .i64 0,.int .i64 0,.int .i64 0]) ?_ 0 _ rfl; (with_reducible repeat (first | refine Zy ?_ _ | refine Z0 ?_ | refine Zx ?_ _)); exact BK133.out) hb); have n2_ := Zc.mk (Z3 (by repeat (first | (with_reducible first | exact HB.out | apply Zd | apply Za | apply Zb | refine ZK ?_ GE133.out) | exact HB.out)) hb); have n3_ := Zc.mk (hbox); have n4_ := Zc.mk ((by rw [hg]; exact (ZH (by repeat (first | (with_reducible first | exact HB.out | apply Zd | apply Za | apply Zb | refine ZK ?_ GE133.out) | exact HB.out))) : w.heap.size ≤ gb134)); have n5_ := Zc.mk ((by rw [hg]; exact (ZH (by repeat (first | (with_reducible first | exact HB.out | apply Zd | apply Za | apply Zb | refine ZK ?_ GE133.out) | exact HB.out))) : w.heap.size ≤ gb134)); have n6_ := Zc.mk ((by rw [hg]; exact Nat.ne_of_lt (Qx (g := gb133) (o := .cells #[.int .i64 ((ZR l0 x10_1).f0),.int .i64 ((ZR l0 x10_1).f1),.int .i64 ((ZR l0 x10_1).f2)] 61 (0,0)) (by (with_reducible repeat (first | refine Zy ?_ _ | refine Z0 ?_ | refine Zx ?_ _)); refine ZJ (cs := #[.int .i64 ((ZR l0 x10_1).f0),.int .i64 ((ZR l0 x10_1).f1),.int .i64 0]) ?_ 2 _ rfl; (with_reducible repeat (first | refine Zy ?_ _ | refine Z0 ?_ | refine Zx ?_ _)); refine ZJ (cs := #[.int .i64 ((ZR l0 x10_1).f0),.int .i64 0,.int .i64 0]) ?_ 1 _ rfl; (with_reducible repeat (first | refine Zy ?_ _ | refine Z0 ?_ | refine Zx ?_ _)); refine ZJ (cs := #[.int .i64 0,.int .i64 0,.int .i64 0]) ?_ 0 _ rfl; (with_reducible repeat (first | refine Zy ?_ _ | refine Z0 ?_ | refine Zx ?_ _)); exact BK133.out)) : gb133 ≠ gb134)); have n7_ := Zc.mk ((by rw [hg]; exact Nat.ne_of_gt (Qx (g := gb133) (o := .cells #[.int .i64 ((ZR l0 x10_1).f0),.int .i64 ((ZR l0 x10_1).f1),.int .i64 ((ZR l0 x10_1).f2)] 61 (0,0)) (by (with_reducible repeat (first | refine Zy ?_ _ | refine Z0 ?_ | refine Zx ?_ _)); refine ZJ (cs := #[.int .i64 ((ZR l0 x10_1).f0),.int .i64 ((ZR l0 x10_1).f1),.int .i64 0]) ?_ 2 _ rfl; (with_reducible repeat (first | refine Zy ?_ _ | refine Z0 ?_ | refine Zx ?_ _)); refine ZJ (cs := #[.int .i64 ((ZR l0 x10_1).f0),.int .i64 0,.int .i64 0]) ?_ 1 _ rfl; (with_reducible repeat (first | refine Zy ?_ _ | refine Z0 ?_ | refine Zx ?_ _)); refine ZJ (cs := #[.int .i64 0,.int .i64 0,.int .i64 0]) ?_ 0 _ rfl; (with_reducible repeat (first | refine Zy ?_ _ | refine Z0 ?_ | refine Zx ?_ _)); exact BK133.out)) : gb134 ≠ gb133)); clear HO_3; clear BK133; clear HB; have HO_3 := n0_; have BK133 := n1_; have HB := n2_; have BK134 := n3_; have GW134 := n4_; have GE134 := n5_; have NB133_134 := n6_; have NB134_133 := n7_; clear n0_ n1_ n2_ n3_ n4_ n5_ n6_ n7_; clear hb hbox hg; have hnb27 := NB134_133.out; have hnc27 := NB133_134.out; have hcz28_0 : w26.cell? ⟨gb134,0,none⟩ = some (.int .i64 0) := (Zn BK134.out 0).trans rfl; have hcz28_1 : w26.cell? ⟨gb134,1,none⟩ = some (.int .i64 0) := (Zn BK134.out 1).trans rfl; have hcz28_2 : w26.cell? ⟨gb134,2,none⟩ = some (.int .i64 0) := (Zn BK134.out 2).trans rfl; have hcz28_3 : w26.cell? ⟨gb134,3,none⟩ = some (.int .i64 0) := (Zn BK134.out 3).trans rfl; have hfz28_0 := Zz BK134.out 0; have hfz28_1 := Zz BK134.out 1; have hfz28_2 := Zz BK134.out 2; have hfz28_3 := Zz BK134.out 3; obtain ⟨Ao29,co29,eo29⟩ := Kd.Xd HO_3.out; subst eo29) | ((with_reducible refine X8 (b := .append) (xs := #[.tmp 43,.tmp 45]) rfl ?_); at_builtin; refine Kd.XY k72 (w0 := w) w.heap.size rfl (.tmp 43) (.tmp 45) 74 72 (.agg #[(.int .i64 0),(.int .i64 0),(.int .i64 0),(.int .i64 0)]) 32 rfl Try.underlying74 info72 rfl (by decide) (by omega) (.slice Ao29 x3_1.length co29) x3_1 (⟨(⟨(ZR l0 x10_1).f0,(ZR l0 x10_1).f1,(ZR l0 x10_1).f2⟩ : S61),0⟩ : S72) [.int .i64 ((ZR l0 x10_1).f0),.int .i64 ((ZR l0 x10_1).f1),.int .i64 ((ZR l0 x10_1).f2),.int .i64 0] (fun k_ => k_ ≠ gb134) (fun _ => False) rfl (by first | (go_simp; done) | (go_simp; rfl)) ?aP (fun _ hk => hk.elim) ?aF ?aO ?aB ?aS ?aL ?_; (case aP => exact k72_mkM _ _ _ (⟨(⟨(ZR l0 x10_1).f0,(ZR l0 x10_1).f1,(ZR l0 x10_1).f2⟩ : S61),0⟩ : S72)); (case aB => exact (by repeat (first | (with_reducible first | exact HB.out | apply Zd | apply Za | apply Zb | refine ZK ?_ GE133.out | refine ZK ?_ GE134.out) | exact HB.out))); (case aF => exact (fun k_ hk => Kd.freshB (g := gb134) (o := .cells #[.int .i64 ((ZR l0 x10_1).f0),.int .i64 ((ZR l0 x10_1).f1),.int .i64 ((ZR l0 x10_1).f2),.int .i64 0] 72 (0,0)) (by (with_reducible repeat (first | refine Zy ?_ _ | refine Z0 ?_ | refine Zx ?_ _)); refine ZJ (cs := #[.int .i64 ((ZR l0 x10_1).f0),.int .i64 ((ZR l0 x10_1).f1),.int .i64 ((ZR l0 x10_1).f2),.int .i64 0]) ?_ 3 _ rfl; (with_reducible repeat (first | refine Zy ?_ _ | refine Z0 ?_ | refine Zx ?_ _)); refine ZJ (cs := #[.int .i64 ((ZR l0 x10_1).f0),.int .i64 ((ZR l0 x10_1).f1),.int .i64 0,.int .i64 0]) ?_ 2 _ rfl; (with_reducible repeat (first | refine Zy ?_ _ | refine Z0 ?_ | refine Zx ?_ _)); refine ZJ (cs := #[.int .i64 ((ZR l0 x10_1).f0),.int .i64 0,.int .i64 0,.int .i64 0]) ?_ 1 _ rfl; (with_reducible repeat (first | refine Zy ?_ _ | refine Z0 ?_ | refine Zx ?_ _)); refine ZJ (cs := #[.int .i64 0,.int .i64 0,.int .i64 0,.int .i64 0]) ?_ 0 _ rfl; (with_reducible repeat (first | refine Zy ?_ _ | refine Z0 ?_ | refine Zx ?_ _)); exact BK134.out) k_ hk)); (case aO => exact (by (with_reducible repeat (first | apply Kd.Zl | apply Kd.Zk | apply Kd.Zs)); exact Kd.ZN (Kd.R_far (p := ⟨gb134,3,none⟩) (Kd.R_far (p := ⟨gb134,2,none⟩) (Kd.R_far (p := ⟨gb134,1,none⟩) (Kd.R_far (p := ⟨gb134,0,none⟩) (Kd.ZN HO_3.out (fun k_ hk => (⟨hk,hk.2⟩ : _ ∧ k_ ≠ gb134))) (fun _ hk => hk.2) (.int .i64 ((ZR l0 x10_1).f0))) (fun _ hk => hk.2) (.int .i64 ((ZR l0 x10_1).f1))) (fun _ hk => hk.2) (.int .i64 ((ZR l0 x10_1).f2))) (fun _ hk => hk.2) (.int .i64 0)) (fun _ hk => hk.1.2))); (case aS => exact (ZH (by repeat (first | (with_reducible first | exact HB.out | apply Zd | apply Za | apply Zb | refine ZK ?_ GE133.out | refine ZK ?_ GE134.out) | exact HB.out)))); (case aL => have := LMc23.out; omega); intro v143 w30 ho hb hg hat; rw [← Ny142.out] at ho; have n0_ := Zc.mk (Yh (g := gb133) (o := .cells #[.int .i64 ((ZR l0 x10_1).f0),.int .i64 ((ZR l0 x10_1).f1),.int .i64 ((ZR l0 x10_1).f2)] 61 (0,0)) (by (with_reducible repeat (first | refine Zy ?_ _ | refine Z0 ?_ | refine Zx ?_ _)); refine QK ?_ NB133_134.out _; (with_reducible repeat (first | refine Zy ?_ _ | refine Z0 ?_ | refine Zx ?_ _)); refine QK ?_ NB133_134.out _; (with_reducible repeat (first | refine Zy ?_ _ | refine Z0 ?_ | refine Zx ?_ _)); refine QK ?_ NB133_134.out _; (with_reducible repeat (first | refine Zy ?_ _ | refine Z0 ?_ | refine Zx ?_ _)); refine QK ?_ NB133_134.out _; (with_reducible repeat (first | refine Zy ?_ _ | refine Z0 ?_ | refine Zx ?_ _)); exact BK133.out) hg (Kd.R_ne HO_3.out BK133.out (by decide))); have n1_ := Zc.mk (Yh (g := gb134) (o := .cells #[.int .i64 ((ZR l0 x10_1).f0),.int .i64 ((ZR l0 x10_1).f1),.int .i64 ((ZR l0 x10_1).f2),.int .i64 0] 72 (0,0)) (by (with_reducible repeat (first | refine Zy ?_ _ | refine Z0 ?_ | refine Zx ?_ _)); refine ZJ (cs := #[.int .i64 ((ZR l0 x10_1).f0),.int .i64 ((ZR l0 x10_1).f1),.int .i64 ((ZR l0 x10_1).f2),.int .i64 0]) ?_ 3 _ rfl; (with_reducible repeat (first | refine Zy ?_ _ | refine Z0 ?_ | refine Zx ?_ _)); refine ZJ (cs := #[.int .i64 ((ZR l0 x10_1).f0),.int .i64 ((ZR l0 x10_1).f1),.int .i64 0,.int .i64 0]) ?_ 2 _ rfl; (with_reducible repeat (first | refine Zy ?_ _ | refine Z0 ?_ | refine Zx ?_ _)); refine ZJ (cs := #[.int .i64 ((ZR l0 x10_1).f0),.int .i64 0,.int .i64 0,.int .i64 0]) ?_ 1 _ rfl; (with_reducible repeat (first | refine Zy ?_ _ | refine Z0 ?_ | refine Zx ?_ _)); refine ZJ (cs := #[.int .i64 0,.int .i64 0,.int .i64 0,.int .i64 0]) ?_ 0 _ rfl; (with_reducible repeat (first | refine Zy ?_ _ | refine Z0 ?_ | refine Zx ?_ _)); exact BK134.out) hg (Kd.R_away HO_3.out (fun _ hk => hk.2))); have n2_ := Zc.mk (hb); have n3_ := Zc.mk (ho); clear BK133; clear BK134; clear HB; clear HO_3; have BK133 := n0_; have BK134 := n1_; have HB := n2_; have HO144 := n3_; clear n0_ n1_ n2_ n3_; clear ho hb hg hat))
             go_roundg k1
             case measure => have := HK1.out; omega
             case rel => exact ⟨(y142),(wrap64 (x10_1 + 1)),(by first | rfl | (simp; done) | (simp [*]; done)),H',⟨by have := HK1.out; omega⟩,⟨by (with_reducible repeat (first | apply Kd.Zl | apply Kd.Zk | apply Kd.Zs)); exact Kd.ZN HO144.out (fun _ hk => trivial)⟩,⟨by repeat (first | (with_reducible first | exact HB.out | apply Zd | apply Za | apply Zb | refine ZK ?_ GE133.out | refine ZK ?_ GE134.out) | exact HB.out)⟩⟩
           · rw [if_neg c23] at H
             exact absurd H (by simp)
       · rw [if_neg c4] at H
         exact absurd H (by simp)
     · rw [if_neg c3] at H
       exact absurd H (by simp)
   · rw [if_neg c2] at H
     have c2b0 : decide (x10_1 < (l0.length : Int)) = false := decide_eq_false c2; clear c2; obtain rfl := Option.some.inj H
     go_wp2
     go_ret; exact ⟨_,by first | rfl | (simp [Zv,Zu] <;> rfl) | (simp [*,Zv,Zu] <;> rfl),by (with_reducible repeat (first | apply Kd.Zl | apply Kd.Zk | apply Kd.Zs)); exact HO_3.out,by repeat (first | (with_reducible first | exact HB.out | apply Zd | apply Za | apply Zb) | exact HB.out)⟩
end Go.Proofs.Ytomlfbmfdoallaa.PA

namespace Go.Proofs.Ytomlfbmfdoallaa.PA
open Go.RowKit Go.Proofs.YtomlfbmfdoallaaW.PrintWords Go.Proofs.YtomlfbmfdoallaaW.PrintLast Go.Proofs.YtomlfbmfdoallaaW.PrintMore
set_option linter.unusedVariables false
set_option linter.unusedSimpArgs false
theorem enters48 : ∀ args w,(callFunc 48 args).run Try.prog w = .ok (.enter 48 args) w := Go.Proofs.enters_of Try.func48 (by kernel_rfl) rfl
theorem enters69 : ∀ args w,(callFunc 69 args).run Try.prog w = .ok (.enter 69 args) w := Go.Proofs.enters_of Try.func69 (by kernel_rfl) rfl
theorem Blk.call {W W1 W' : World} {b : Nat} {cs : Array Value} {t : TypeId} (h : Blk W b cs t) (hb : Below W1.heap.size W1 W') (e : W1.heap = W.heap) : Blk W' b cs t := by
 have := hb.block b (by rw [e]; exact h.lt); rw [e] at this; exact h.same this
theorem Below.call_ {B : Nat} {w W W1 W' : World} (h : Below B w W) (hB : B ≤ W.heap.size) (hb : Below W1.heap.size W1 W') (e : W1.heap = W.heap ∧ W1.os = W.os ∧ W1.tape = W.tape ∧ W1.output = W.output) : Below B w W' :=
 ⟨hb.os.trans (e.2.1.trans h.os),hb.tape.trans (e.2.2.1.trans h.tape),hb.output.trans (e.2.2.2.trans h.output),Nat.le_trans h.size (by rw [← e.1]; exact hb.size),fun k hk => by have := hb.block k (by rw [e.1]; omega); rw [this,e.1]; exact h.block k hk⟩
theorem set3' (W : World) (b : Nat) (cs : Array Value) (t : TypeId) (v0 v1 v2 : Value) (h : Blk W b cs t) (h3 : cs.size = 3) :
 Blk (((W.setCell ⟨b,0,none⟩ v0).setCell ⟨b,1,none⟩ v1).setCell ⟨b,2,none⟩ v2) b #[v0,v1,v2] t := by
 have := ((h.set 0 v0).set 1 v1).set 2 v2; obtain ⟨l⟩ := cs
 match l,h3 with
 | [a,b,c],_ => exact this
theorem place1_calls (x : S72) (b : Nat) (at_ : Int) (W : World) (hb : W.cell? ⟨b,0,none⟩ = some (.int .i64 at_)) :
 Calls Try.prog 48 #[.agg (c72 x),.pointer (some ⟨b,0,none⟩)] W fun e w' => e = .returned (.bool (decide (x.f1 ≤ at_))) ∧ Below W.heap.size W w' := by
 have l1 : b < W.heap.size := World.block_lt_of_cell? _ _ hb; unfold c72
 go_enter Try.func48,Try.ntmps48
 go_wp2
 go_ret; exact ⟨rfl,(Below.refl _ _).alloc (Nat.le_refl _) _⟩
theorem bar1_calls (x : S72) (b : Nat) (n : Int) (W : World) (hb : W.cell? ⟨b,0,none⟩ = some (.int .i64 n)) :
 Calls Try.prog 69 #[.agg (c72 x),.pointer (some ⟨b,0,none⟩)] W fun e w' => e = .returned (.bool (decide (x.f0.f0 ≤ n))) ∧ Below W.heap.size W w' := by
 have l1 : b < W.heap.size := World.block_lt_of_cell? _ _ hb; unfold c72
 go_enter Try.func69,Try.ntmps69
 go_wp2
 go_ret; exact ⟨rfl,(Below.refl _ _).alloc (Nat.le_refl _) _⟩
def okM (m : S72) (n : Int) : Bool := decide (0 ≤ m.f0.f0) && decide (m.f0.f0 ≤ 1000000000) && decide (1 ≤ m.f0.f1) && decide (m.f0.f1 ≤ 32) && decide (1 ≤ m.f0.f2) && decide (m.f0.f2 ≤ 10000) && decide (0 ≤ m.f1) && decide (m.f1 ≤ 1000000000000000) && decide (0 ≤ n) && decide (n ≤ 1000000000)
def XN.f (k : Nat) (l0 : List S61) (a1 : Int) : Option (Int × Int × Int × Int × Int) :=
 (ZU.f k l0).bind fun ms => if ms.length = 0 then none else (fun m : S72 => if okM m a1 = true then some (m.f0.f0,m.f0.f1,m.f0.f2,m.f1,m.f1 + (a1 - m.f0.f0) * (m.f0.f1 * m.f0.f2)) else none) (lastOr (fun x => decide (x.f0.f0 ≤ a1)) (XO ms 0) ms)
theorem XN.mono : ∀ a0 a1 k,LeO (XN.f k a0 a1) (XN.f (k + 1) a0 a1) := by
 intro a0 a1 k; unfold XN.f; exact LeO.bind (ZU.mono _ _) (fun _ => LeO.refl _)
set_option maxRecDepth 100000 in
set_option maxHeartbeats 2000000 in
theorem XN.calls (k : Nat) (A0 : Option Addr) (c0 : Nat) (l0 : List (S61)) (a1 : Int) (r1 r2 r3 r4 r5 : Int) (w : World) (hr0 : Kd.C k61 w A0 l0.length l0) (hc0 : l0.length ≤ c0) (h : XN.f k l0 a1 = some (r1,r2,r3,r4,r5)) :
 Calls Try.prog 52 #[.slice A0 l0.length c0,.int .i64 a1] w fun e w' => e = .returned (.tuple #[.agg #[.int .i64 r1,.int .i64 r2,.int .i64 r3,.int .i64 r4],.int .i64 r5]) ∧ Below w.heap.size w w' := by
 unfold XN.f at h; obtain ⟨ms,hms,h'⟩ := Option.bind_eq_some_iff.mp h; clear h; split at h'
 · cases h'
 rename_i hne
 dsimp only at h'
 have HM := fun w1 (hb : Below w.heap.size w w1) => Lib.hid (ZU.calls k A0 c0 l0 ms w1 (Kd.ZO hr0 hb) hc0 hms)
 clear hr0 hms
 have hmf : ∀ (fn : Fn) (first cap : Array Value) (w : World),(Instr.makeFunc fn first cap).run Try.prog w = .ok (.func fn first cap) w := fun _ _ _ _ => rfl
 go_enter Try.func52,Try.ntmps52
 go_wp2_with (fail)
 obtain ⟨W0,hW0⟩ : ∃ W0,W0 = (w.alloc (.cells #[.int .i64 a1] 3)).alloc (.cells #[.int .i64 0,.int .i64 0,.int .i64 0,.int .i64 0] 72) := ⟨_,rfl⟩
 have k0 : Blk W0 w.heap.size #[.int .i64 a1] 3 := by rw [hW0]; exact (Blk.new w _ _).alloc _
 have k1 : Blk W0 (w.heap.size + 1) #[.int .i64 0,.int .i64 0,.int .i64 0,.int .i64 0] 72 := by rw [hW0]; have := Blk.new (w.alloc (.cells #[.int .i64 a1] 3)) #[.int .i64 0,.int .i64 0,.int .i64 0,.int .i64 0] 72; rw [World.size_alloc] at this; exact this
 have hb0 : Below w.heap.size w W0 := by rw [hW0]; exact ((Below.refl _ w).alloc (Nat.le_refl _) _).alloc (by simp) _
 rw [← hW0]; clear hW0; refine (HM W0 hb0).out.mono ?_; rintro e w1 ⟨v0,rfl,hR,hb1⟩; obtain ⟨A2,c2,rfl,hc2,hC2⟩ := Kd.Qz hR; clear hR; replace k0 := k0.Xv hb1; replace k1 := k1.Xv hb1; replace hb0 := hb0.trans (hb1.mono hb0.size); clear hb1
 go_wp2_with (fail)
 refine (QR (fun x => decide (x.f0.f0 ≤ a1)) 69 #[.pointer (some ⟨w.heap.size,0,none⟩)] enters69 A2 c2 ms w1 (by omega) (fun W x hW => bar1_calls x _ a1 W ((hW.cell (p := ⟨w.heap.size,0,none⟩) k0.lt).trans (k0.cell 0 rfl))) hC2).mono ?_; clear hC2; generalize lastOr (fun x => decide (x.f0.f0 ≤ a1)) (XO ms 0) ms = m at h'; split at h'
 · rename_i hok
   simp only [okM,Bool.and_eq_true,decide_eq_true_eq] at hok; obtain ⟨⟨⟨⟨⟨⟨⟨⟨⟨o1,o2⟩,o3⟩,o4⟩,o5⟩,o6⟩,o7⟩,o8⟩,o9⟩,o10⟩ := hok; simp only [Option.some.injEq,Prod.mk.injEq] at h'; obtain ⟨rfl,rfl,rfl,rfl,rfl⟩ := h'; unfold c72; rintro e w2 ⟨rfl,hb2⟩; replace k0 := k0.Xv hb2; replace k1 := k1.Xv hb2; replace hb0 := hb0.trans (hb2.mono hb0.size); clear hb2
   go_wp2_with (fail)
   have hne1 : ¬ w2.heap.size = w.heap.size + 1 := by have := k1.lt; omega
   have hne2 : ¬ w.heap.size + 1 = w2.heap.size := by have := k1.lt; omega
   have k6 := Blk.new w2 #[.int .i64 m.f0.f0,.int .i64 m.f0.f1,.int .i64 m.f0.f2,.int .i64 m.f1] 72; have hb3 := hb0.alloc hb0.size (.cells #[.int .i64 m.f0.f0,.int .i64 m.f0.f1,.int .i64 m.f0.f2,.int .i64 m.f1] 72); replace k0 := k0.alloc (.cells #[.int .i64 m.f0.f0,.int .i64 m.f0.f1,.int .i64 m.f0.f2,.int .i64 m.f1] 72); replace k1 := k1.alloc (.cells #[.int .i64 m.f0.f0,.int .i64 m.f0.f1,.int .i64 m.f0.f2,.int .i64 m.f1] 72); generalize w2.alloc (.cells #[.int .i64 m.f0.f0,.int .i64 m.f0.f1,.int .i64 m.f0.f2,.int .i64 m.f1] 72) = W3 at k0 k1 k6 hb3 ⊢; generalize w2.heap.size = b6 at k6 hne1 hne2 ⊢; have g0 : W3.cell? ⟨w.heap.size,0,none⟩ = some (.int .i64 a1) := k0.cell 0 rfl; have g1 : W3.cell? ⟨b6,0,none⟩ = some (.int .i64 m.f0.f0) := k6.cell 0 rfl; have g2 : W3.cell? ⟨b6,1,none⟩ = some (.int .i64 m.f0.f1) := k6.cell 1 rfl; have g3 : W3.cell? ⟨b6,2,none⟩ = some (.int .i64 m.f0.f2) := k6.cell 2 rfl; have g4 : W3.cell? ⟨b6,3,none⟩ = some (.int .i64 m.f1) := k6.cell 3 rfl; have v1 := mulb (by omega : 0 ≤ m.f0.f1) o4 (by omega : 0 ≤ m.f0.f2) o6
   have v2 : -320000000000000 ≤ (a1 - m.f0.f0) * (m.f0.f1 * m.f0.f2) ∧ (a1 - m.f0.f0) * (m.f0.f1 * m.f0.f2) ≤ 320000000000000 := by
    have e1 := mulb o9 o10 v1.1 v1.2; have e2 := mulb o1 o2 v1.1 v1.2; rw [Int.sub_mul]; omega
   have hl : X0.f m.f0.f0 m.f0.f1 m.f0.f2 m.f1 = some (m.f0.f1 * m.f0.f2) := by unfold X0.f; rw [w64 (by omega) (by omega)]
   have HL := fun w => Lib.hid (X0.calls m.f0.f0 m.f0.f1 m.f0.f2 m.f1 _ w hl)
   clear hl; generalize hlg : m.f0.f1 * m.f0.f2 = lg at v1 v2 HL; have HLG := Zc.mk hlg; clear hlg; have u1 : IntKind.i64.wrap (a1 - m.f0.f0) = a1 - m.f0.f0 := (i64_w _).trans (w64 (by omega) (by omega)); have u2 : IntKind.i64.wrap ((a1 - m.f0.f0) * lg) = (a1 - m.f0.f0) * lg := (i64_w _).trans (w64 (by omega) (by omega)); have u3 : IntKind.i64.wrap (m.f1 + (a1 - m.f0.f0) * lg) = m.f1 + (a1 - m.f0.f0) * lg := (i64_w _).trans (w64 (by omega) (by omega)); clear hb0 HM
   go_region_held3 (fun w' => w'.cell? ⟨w.heap.size,0,none⟩ = some (.int .i64 a1) ∧ w'.cell? ⟨b6,0,none⟩ = some (.int .i64 m.f0.f0) ∧ w'.cell? ⟨b6,1,none⟩ = some (.int .i64 m.f0.f1) ∧ w'.cell? ⟨b6,2,none⟩ = some (.int .i64 m.f0.f2) ∧ w'.cell? ⟨b6,3,none⟩ = some (.int .i64 m.f1)) (simp [go_sem, *])
    (first | (go_at_call 49; refine (HL _).out.mono ?_; rintro e w' ⟨rfl,hb4⟩; have y0 := (k0.drew.Xv hb4).cell 0 rfl; have y1 := (k6.drew.Xv hb4).cell 0 rfl; have y2 := (k6.drew.Xv hb4).cell 1 rfl; have y3 := (k6.drew.Xv hb4).cell 2 rfl; have y4 := (k6.drew.Xv hb4).cell 3 rfl; have x0 := (k1.drew.Xv hb4).cell 0 (v := .int .i64 0) rfl; have x1 := (k1.drew.Xv hb4).cell 1 (v := .int .i64 0) rfl; have x2 := (k1.drew.Xv hb4).cell 2 (v := .int .i64 0) rfl; have x3 := (k1.drew.Xv hb4).cell 3 (v := .int .i64 0) rfl; have z0 := (k1.drew.Xv hb4).frozen 0; have z1 := (k1.drew.Xv hb4).frozen 1; have z2 := (k1.drew.Xv hb4).frozen 2; have z3 := (k1.drew.Xv hb4).frozen 3))
   clear u1 u2 u3
   go_wp2
   have s1 := set4' _ _ _ _ (.int .i64 m.f0.f0) (.int .i64 m.f0.f1) (.int .i64 m.f0.f2) (.int .i64 m.f1) (k1.drew.Xv hb4) rfl; have p0 := s1.cell 0 (v := .int .i64 m.f0.f0) rfl; have p1 := s1.cell 1 (v := .int .i64 m.f0.f1) rfl; have p2 := s1.cell 2 (v := .int .i64 m.f0.f2) rfl; have p3 := s1.cell 3 (v := .int .i64 m.f1) rfl; refine bodyPost_ret (v := .tuple #[.agg #[.int .i64 m.f0.f0,.int .i64 m.f0.f1,.int .i64 m.f0.f2,.int .i64 m.f1],.int .i64 (m.f1 + (a1 - m.f0.f0) * lg)]) (by simp [results,Try.results52,go_sem,p0,p1,p2,p3]) rfl ⟨by rw [HLG.out],?_⟩; have hb5 : Below w.heap.size w w' := hb3.drew.trans (hb4.mono (by have := hb3.size; simp; omega)); exact (((hb5.setCell (by show _ ≤ w.heap.size + 1; omega) _).setCell (by show _ ≤ w.heap.size + 1; omega) _).setCell (by show _ ≤ w.heap.size + 1; omega) _).setCell (by show _ ≤ w.heap.size + 1; omega) _
 · cases h'
def Xy.f (k : Nat) (l0 : List S61) (a1 : Int) : Option (Int × Int × Int × Int) :=
 (ZD.f k l0).bind fun v => if v = true then (if 0 ≤ a1 ∧ a1 ≤ 1000000000 then ((ZU.f k l0).bind fun ms => if ms.length = 0 then none else
  (fun m : S72 => if okM m a1 = true ∧ m.f1 ≤ a1 then some (m.f0.f0 + (a1 - m.f1) / (m.f0.f1 * m.f0.f2),(a1 - m.f1) % (m.f0.f1 * m.f0.f2) / m.f0.f2,(a1 - m.f1) % m.f0.f2,0) else none) (lastOr (fun x => decide (x.f1 ≤ a1)) (XO ms 0) ms)) else some (0,0,0,7)) else some (0,0,0,1)
theorem Xy.mono : ∀ a0 a1 k,LeO (Xy.f k a0 a1) (Xy.f (k + 1) a0 a1) := by
 intro a0 a1 k; unfold Xy.f; exact LeO.bind (ZD.mono _ _) (fun _ => LeO.ite (LeO.ite (LeO.bind (ZU.mono _ _) (fun _ => LeO.refl _)) (LeO.refl _)) (LeO.refl _))
set_option maxRecDepth 100000 in
set_option maxHeartbeats 2000000 in
theorem Xy.calls (k : Nat) (A0 : Option Addr) (c0 : Nat) (l0 : List (S61)) (a1 : Int) (r1 r2 r3 r4 : Int) (w : World) (hr0 : Kd.C k61 w A0 l0.length l0) (hc0 : l0.length ≤ c0) (h : Xy.f k l0 a1 = some (r1,r2,r3,r4)) :
 Calls Try.prog 16 #[.slice A0 l0.length c0,.int .i64 a1] w fun e w' => e = .returned (.tuple #[.agg #[.int .i64 r1,.int .i64 r2,.int .i64 r3],.int .i64 r4]) ∧ Below w.heap.size w w' := by
 unfold Xy.f at h; obtain ⟨v,hv,h'⟩ := Option.bind_eq_some_iff.mp h; clear h
 have HV := fun w1 (hb : Below w.heap.size w w1) => Lib.hid (ZD.calls k A0 c0 l0 v w1 (Kd.ZO hr0 hb) hc0 hv)
 clear hv
 have hmf : ∀ (fn : Fn) (first cap : Array Value) (w : World),(Instr.makeFunc fn first cap).run Try.prog w = .ok (.func fn first cap) w := fun _ _ _ _ => rfl
 obtain ⟨W0,hW0⟩ : ∃ W0,W0 = (w.alloc (.cells #[.int .i64 a1] 3)).alloc (.cells #[.int .i64 0,.int .i64 0,.int .i64 0] 37) := ⟨_,rfl⟩
 have k0 : Blk W0 w.heap.size #[.int .i64 a1] 3 := by rw [hW0]; exact (Blk.new w _ _).alloc _
 have k1 : Blk W0 (w.heap.size + 1) #[.int .i64 0,.int .i64 0,.int .i64 0] 37 := by rw [hW0]; have := Blk.new (w.alloc (.cells #[.int .i64 a1] 3)) #[.int .i64 0,.int .i64 0,.int .i64 0] 37; rw [World.size_alloc] at this; exact this
 have hb0 : Below w.heap.size w W0 := by rw [hW0]; exact ((Below.refl _ w).alloc (Nat.le_refl _) _).alloc (by simp) _
 have HW0 := Zc.mk hW0; clear hW0
 cases v with
 | false =>
  simp only [Bool.false_eq_true,if_false,Option.some.injEq,Prod.mk.injEq] at h'; obtain ⟨rfl,rfl,rfl,rfl⟩ := h'
  go_enter Try.func16,Try.ntmps16
  go_wp2_with (fail)
  rw [← HW0.out]; refine (HV W0 hb0).out.mono ?_; rintro e w1 ⟨rfl,hb1⟩; replace k1 := k1.Xv hb1; replace hb0 := hb0.trans (hb1.mono hb0.size); clear hb1 k0; have x0 := k1.cell 0 (v := .int .i64 0) rfl; have x1 := k1.cell 1 (v := .int .i64 0) rfl; have x2 := k1.cell 2 (v := .int .i64 0) rfl; have z0 := k1.frozen 0; have z1 := k1.frozen 1; have z2 := k1.frozen 2
  go_wp2_with (fail)
  have s1 := set3' _ _ _ _ (.int .i64 0) (.int .i64 0) (.int .i64 0) k1 rfl; have p0 := s1.cell 0 (v := .int .i64 0) rfl; have p1 := s1.cell 1 (v := .int .i64 0) rfl; have p2 := s1.cell 2 (v := .int .i64 0) rfl; refine bodyPost_ret (v := .tuple #[.agg #[.int .i64 0,.int .i64 0,.int .i64 0],.int .i64 1]) (by simp [results,Try.results16,go_sem,p0,p1,p2]) rfl ⟨rfl,?_⟩; exact ((hb0.setCell (by show _ ≤ w.heap.size + 1; omega) _).setCell (by show _ ≤ w.heap.size + 1; omega) _).setCell (by show _ ≤ w.heap.size + 1; omega) _
 | true =>
  simp only [if_true] at h'
  have hw43 : ∀ w1,Calls Try.prog 43 #[.int .i64 a1,.int .i64 0,.int .i64 1000000000] w1 fun e w' => e = .returned (.bool (decide (0 ≤ a1) && decide (a1 ≤ 1000000000))) ∧ Drawn0 w1 w' := fun w1 => Z6.calls a1 0 1000000000 _ w1 (Z6.eq _ _ _)
  by_cases hin : 0 ≤ a1 ∧ a1 ≤ 1000000000
  · rw [if_pos hin] at h'
    rw [show (decide (0 ≤ a1) && decide (a1 ≤ 1000000000)) = true by simp [hin]] at hw43
    have HW43 := fun w => Lib.hid (hw43 w)
    clear hw43; obtain ⟨i1,i2⟩ := hin; obtain ⟨ms,hms,h'⟩ := Option.bind_eq_some_iff.mp h'; split at h'
    · cases h'
    rename_i hne
    have HM := fun w1 (hb : Below w.heap.size w w1) => Lib.hid (ZU.calls k A0 c0 l0 ms w1 (Kd.ZO hr0 hb) hc0 hms)
    clear hr0 hms
    go_enter Try.func16,Try.ntmps16
    go_wp2_with (fail)
    rw [← HW0.out]; refine (HV W0 hb0).out.mono ?_; rintro e w1 ⟨rfl,hb1⟩; replace k0 := k0.Xv hb1; replace k1 := k1.Xv hb1; replace hb0 := hb0.trans (hb1.mono hb0.size); clear hb1; have g0 : w1.cell? ⟨w.heap.size,0,none⟩ = some (.int .i64 a1) := k0.cell 0 rfl
    go_wp2_with (fail)
    refine (HW43 _).out.mono ?_; rintro e w2 ⟨rfl,⟨nd,rfl⟩⟩; replace k0 := k0.drewN nd; replace k1 := k1.drewN nd; replace hb0 : Below w.heap.size w (w1.drewN nd) := Za hb0 nd; clear g0; generalize w1.drewN nd = w2 at k0 k1 hb0 ⊢
    go_wp2_with (fail)
    refine (HM w2 hb0).out.mono ?_; rintro e w3 ⟨v0,rfl,hR,hb1⟩; obtain ⟨A2,c2,rfl,hc2,hC2⟩ := Kd.Qz hR; clear hR; replace k0 := k0.Xv hb1; replace k1 := k1.Xv hb1; replace hb0 := hb0.trans (hb1.mono hb0.size); clear hb1
    go_wp2_with (fail)
    refine (QR (fun x => decide (x.f1 ≤ a1)) 48 #[.pointer (some ⟨w.heap.size,0,none⟩)] enters48 A2 c2 ms w3 (by omega) (fun W x hW => place1_calls x _ a1 W ((hW.cell (p := ⟨w.heap.size,0,none⟩) k0.lt).trans (k0.cell 0 rfl))) hC2).mono ?_; clear hC2; generalize lastOr (fun x => decide (x.f1 ≤ a1)) (XO ms 0) ms = m at h'; split at h'
    · rename_i hok
      obtain ⟨hok,hle⟩ := hok; simp only [okM,Bool.and_eq_true,decide_eq_true_eq] at hok; obtain ⟨⟨⟨⟨⟨⟨⟨⟨⟨o1,o2⟩,o3⟩,o4⟩,o5⟩,o6⟩,o7⟩,o8⟩,o9⟩,o10⟩ := hok; simp only [Option.some.injEq,Prod.mk.injEq] at h'; obtain ⟨rfl,rfl,rfl,rfl⟩ := h'; unfold c72; rintro e w4 ⟨rfl,hb2⟩; replace k0 := k0.Xv hb2; replace k1 := k1.Xv hb2; replace hb0 := hb0.trans (hb2.mono hb0.size); clear hb2; have g0 : w4.cell? ⟨w.heap.size,0,none⟩ = some (.int .i64 a1) := k0.cell 0 rfl; have g0lt := k0.lt
      go_wp2_with (fail)
      clear g0
      have hne1 : ¬ w4.heap.size = w.heap.size + 1 := by have := k1.lt; omega
      have hne2 : ¬ w.heap.size + 1 = w4.heap.size := by have := k1.lt; omega
      have k6 := Blk.new w4 #[.int .i64 m.f0.f0,.int .i64 m.f0.f1,.int .i64 m.f0.f2,.int .i64 m.f1] 72; have hb3 := hb0.alloc hb0.size (.cells #[.int .i64 m.f0.f0,.int .i64 m.f0.f1,.int .i64 m.f0.f2,.int .i64 m.f1] 72); replace k1 := k1.alloc (.cells #[.int .i64 m.f0.f0,.int .i64 m.f0.f1,.int .i64 m.f0.f2,.int .i64 m.f1] 72); generalize w4.alloc (.cells #[.int .i64 m.f0.f0,.int .i64 m.f0.f1,.int .i64 m.f0.f2,.int .i64 m.f1] 72) = W3 at k1 k6 hb3 ⊢; generalize w4.heap.size = b6 at k6 hne1 hne2 ⊢; have g1 : W3.cell? ⟨b6,0,none⟩ = some (.int .i64 m.f0.f0) := k6.cell 0 rfl; have g2 : W3.cell? ⟨b6,1,none⟩ = some (.int .i64 m.f0.f1) := k6.cell 1 rfl; have g3 : W3.cell? ⟨b6,2,none⟩ = some (.int .i64 m.f0.f2) := k6.cell 2 rfl; have g4 : W3.cell? ⟨b6,3,none⟩ = some (.int .i64 m.f1) := k6.cell 3 rfl; have v1 := mulb (by omega : 0 ≤ m.f0.f1) o4 (by omega : 0 ≤ m.f0.f2) o6
      have v3 : 1 ≤ m.f0.f1 * m.f0.f2 := by
       have := Int.mul_le_mul o3 o5 (by omega) (by omega); omega
      have hl : X0.f m.f0.f0 m.f0.f1 m.f0.f2 m.f1 = some (m.f0.f1 * m.f0.f2) := by unfold X0.f; rw [w64 (by omega) (by omega)]
      have HL := fun w => Lib.hid (X0.calls m.f0.f0 m.f0.f1 m.f0.f2 m.f1 _ w hl)
      clear hl; generalize hlg : m.f0.f1 * m.f0.f2 = lg at v1 v3 HL; have HLG := Zc.mk hlg; clear hlg
      have e0 : 0 ≤ a1 - m.f1 := by omega
      have u1 : IntKind.i64.wrap ((a1 - m.f1).tdiv lg) = (a1 - m.f1) / lg := by
       rw [Int.tdiv_eq_ediv_of_nonneg e0,i64_w]; have h1 : 0 ≤ (a1 - m.f1) / lg := Int.ediv_nonneg e0 (by omega); have h2 : (a1 - m.f1) / lg ≤ a1 - m.f1 := Int.ediv_le_self _ e0; exact w64 (by omega) (by omega)
      have u2 : IntKind.i64.wrap (m.f0.f0 + (a1 - m.f1) / lg) = m.f0.f0 + (a1 - m.f1) / lg := by
       rw [i64_w]; have h1 : 0 ≤ (a1 - m.f1) / lg := Int.ediv_nonneg e0 (by omega); have h2 : (a1 - m.f1) / lg ≤ a1 - m.f1 := Int.ediv_le_self _ e0; exact w64 (by omega) (by omega)
      have u3 : (a1 - m.f1).tmod lg = (a1 - m.f1) % lg := Int.tmod_eq_emod_of_nonneg e0
      have u4 : IntKind.i64.wrap (((a1 - m.f1) % lg).tdiv m.f0.f2) = (a1 - m.f1) % lg / m.f0.f2 := by
       have h0 : 0 ≤ (a1 - m.f1) % lg := Int.emod_nonneg _ (by omega); have h3 : (a1 - m.f1) % lg < lg := Int.emod_lt_of_pos _ (by omega); rw [Int.tdiv_eq_ediv_of_nonneg h0,i64_w]; have h1 : 0 ≤ (a1 - m.f1) % lg / m.f0.f2 := Int.ediv_nonneg h0 (by omega); have h2 : (a1 - m.f1) % lg / m.f0.f2 ≤ (a1 - m.f1) % lg := Int.ediv_le_self _ h0; exact w64 (by omega) (by omega)
      have u5 : (a1 - m.f1).tmod m.f0.f2 = (a1 - m.f1) % m.f0.f2 := Int.tmod_eq_emod_of_nonneg e0
      have u6 : ¬ lg = 0 := by omega
      have u7 : ¬ m.f0.f2 = 0 := by omega
      have u8 : (lg == 0) = false := beq_eq_false_iff_ne.2 u6; have u9 : (m.f0.f2 == 0) = false := beq_eq_false_iff_ne.2 u7; clear hb0 HM
      go_region_held3 (fun w' => w'.cell? ⟨b6,0,none⟩ = some (.int .i64 m.f0.f0) ∧ w'.cell? ⟨b6,1,none⟩ = some (.int .i64 m.f0.f1) ∧ w'.cell? ⟨b6,2,none⟩ = some (.int .i64 m.f0.f2) ∧ w'.cell? ⟨b6,3,none⟩ = some (.int .i64 m.f1)) (simp [go_sem, *])
       (first | (go_at_call 49; refine (HL _).out.mono ?_; rintro e w' ⟨rfl,hb4⟩; have hb3' := Below.call_ hb3 hb3.size hb4 ⟨rfl,rfl,rfl,rfl⟩; have k1' := Blk.call k1 hb4 rfl; have k6' := Blk.call k6 hb4 rfl; clear hb3 k1 k6 hb4; have hb3 := hb3'; have k1 := k1'; have k6 := k6'; clear hb3' k1' k6'; have y1 := k6.cell 0 (v := .int .i64 m.f0.f0) rfl; have y2 := k6.cell 1 (v := .int .i64 m.f0.f1) rfl; have y3 := k6.cell 2 (v := .int .i64 m.f0.f2) rfl; have y4 := k6.cell 3 (v := .int .i64 m.f1) rfl; have x0 := k1.cell 0 (v := .int .i64 0) rfl; have x1 := k1.cell 1 (v := .int .i64 0) rfl; have x2 := k1.cell 2 (v := .int .i64 0) rfl; have z0 := k1.frozen 0; have z1 := k1.frozen 1; have z2 := k1.frozen 2))
      clear u1 u2 u3 u4 u5 u6 u7 u8 u9
      go_wp2
      have s1 := set3' _ _ _ _ (.int .i64 (m.f0.f0 + (a1 - m.f1) / lg)) (.int .i64 ((a1 - m.f1) % lg / m.f0.f2)) (.int .i64 ((a1 - m.f1) % m.f0.f2)) k1 rfl; have p0 := s1.cell 0 (v := .int .i64 (m.f0.f0 + (a1 - m.f1) / lg)) rfl; have p1 := s1.cell 1 (v := .int .i64 ((a1 - m.f1) % lg / m.f0.f2)) rfl; have p2 := s1.cell 2 (v := .int .i64 ((a1 - m.f1) % m.f0.f2)) rfl; refine bodyPost_ret (v := .tuple #[.agg #[.int .i64 (m.f0.f0 + (a1 - m.f1) / lg),.int .i64 ((a1 - m.f1) % lg / m.f0.f2),.int .i64 ((a1 - m.f1) % m.f0.f2)],.int .i64 0]) (by simp [results,Try.results16,go_sem,p0,p1,p2]) rfl ⟨by rw [HLG.out],?_⟩; exact ((hb3.setCell (by show _ ≤ w.heap.size + 1; omega) _).setCell (by show _ ≤ w.heap.size + 1; omega) _).setCell (by show _ ≤ w.heap.size + 1; omega) _
    · cases h'
  · rw [if_neg hin] at h'
    rw [show (decide (0 ≤ a1) && decide (a1 ≤ 1000000000)) = false by by_cases h : 0 ≤ a1 <;> simp_all] at hw43
    have HW43 := fun w => Lib.hid (hw43 w)
    clear hw43 hr0; simp only [Option.some.injEq,Prod.mk.injEq] at h'; obtain ⟨rfl,rfl,rfl,rfl⟩ := h'
    go_enter Try.func16,Try.ntmps16
    go_wp2_with (fail)
    rw [← HW0.out]; refine (HV W0 hb0).out.mono ?_; rintro e w1 ⟨rfl,hb1⟩; replace k0 := k0.Xv hb1; replace k1 := k1.Xv hb1; replace hb0 := hb0.trans (hb1.mono hb0.size); clear hb1; have g0 : w1.cell? ⟨w.heap.size,0,none⟩ = some (.int .i64 a1) := k0.cell 0 rfl
    go_wp2_with (fail)
    refine (HW43 _).out.mono ?_; rintro e w2 ⟨rfl,⟨nd,rfl⟩⟩; replace k1 := k1.drewN nd; replace hb0 : Below w.heap.size w (w1.drewN nd) := Za hb0 nd; clear g0 k0; generalize w1.drewN nd = w2 at k1 hb0 ⊢; have x0 := k1.cell 0 (v := .int .i64 0) rfl; have x1 := k1.cell 1 (v := .int .i64 0) rfl; have x2 := k1.cell 2 (v := .int .i64 0) rfl; have z0 := k1.frozen 0; have z1 := k1.frozen 1; have z2 := k1.frozen 2
    go_wp2_with (fail)
    have s1 := set3' _ _ _ _ (.int .i64 0) (.int .i64 0) (.int .i64 0) k1 rfl; have p0 := s1.cell 0 (v := .int .i64 0) rfl; have p1 := s1.cell 1 (v := .int .i64 0) rfl; have p2 := s1.cell 2 (v := .int .i64 0) rfl; refine bodyPost_ret (v := .tuple #[.agg #[.int .i64 0,.int .i64 0,.int .i64 0],.int .i64 7]) (by simp [results,Try.results16,go_sem,p0,p1,p2]) rfl ⟨rfl,?_⟩; exact ((hb0.setCell (by show _ ≤ w.heap.size + 1; omega) _).setCell (by show _ ≤ w.heap.size + 1; omega) _).setCell (by show _ ≤ w.heap.size + 1; omega) _
end Go.Proofs.Ytomlfbmfdoallaa.PA

namespace Go.Proofs.Ytomlfbmfdoallaa.PA
open Go.RowKit Go.Proofs.YtomlfbmfdoallaaW.PrintWords Go.Proofs.YtomlfbmfdoallaaW.PrintLast Go.Proofs.YtomlfbmfdoallaaW.PrintMore
attribute [local go_sem] Xf Xg Xo Xn Xa ZZ Xh Xi
set_option linter.unusedVariables false
set_option linter.unusedSimpArgs false
end Go.Proofs.Ytomlfbmfdoallaa.PA

namespace Go.Proofs.Ytomlfbmfdoallaa.PA
open Go.RowKit Go.Proofs.YtomlfbmfdoallaaW.PrintWords Go.Proofs.YtomlfbmfdoallaaW.PrintLast Go.Proofs.YtomlfbmfdoallaaW.PrintMore
attribute [local go_sem] Xf Xg Xo Xn Xa ZZ Xh Xi
set_option linter.unusedVariables false
set_option linter.unusedSimpArgs false
attribute [local go_sem high] eqA37
def ZE.f (k : Nat)  : Option (Bool) := (ZX.f k (([(⟨0,131072,0⟩ : S27),(⟨10,196608,0⟩ : S27)] : List (S27))) 5 12).bind fun bt148 => (if bt148.1 = 31 then (if bt148.2 = 0 then ((Xy.f k (([(⟨0,4,10⟩ : S61)] : List (S61))) 95).bind fun bt153 => (if bt153.2.2.2 = 0 then (some (bt153.1 == 2 && (bt153.2.1 == 1 && (bt153.2.2.1 == 5)))) else (some false))) else (some false)) else (some false))
theorem ZE.mono : ∀ k,LeO (ZE.f k ) (ZE.f (k + 1) ) := by
 intro  k; unfold ZE.f
 repeat' first
  | (with_reducible exact ZX.mono _ _ _ _)
  | (with_reducible exact Xy.mono _ _ _)
  | (with_reducible exact LeO.refl _)
  | (with_reducible exact LeO.none _)
  | (with_reducible refine LeO.ite ?_ ?_)
  | (with_reducible refine LeO.bind ?_ (fun _ => ?_))
  | exact ZX.mono _ _ _ _
  | exact Xy.mono _ _ _
  | exact LeO.none _
  | refine LeO.ite ?_ ?_
  | refine LeO.bind ?_ (fun _ => ?_)
set_option maxHeartbeats 8000000 in
set_option maxRecDepth 100000 in
theorem ZE.calls (k : Nat)  (r : Bool) (w : World) (h : ZE.f k  = some r) :
 Calls Try.prog 9 #[] w fun e w' => e = .returned (.bool r) ∧ Below w.heap.size w w' := by
 have hu27 := Try.underlying27; have hu61 := Try.underlying61; have hu37 := Try.underlying37; have HB := Zc.mk (Below.refl w.heap.size w); have H : ((ZX.f k (([(⟨0,131072,0⟩ : S27),(⟨10,196608,0⟩ : S27)] : List (S27))) 5 12).bind fun bt148 => (if bt148.1 = 31 then (if bt148.2 = 0 then ((Xy.f k (([(⟨0,4,10⟩ : S61)] : List (S61))) 95).bind fun bt153 => (if bt153.2.2.2 = 0 then (some (bt153.1 == 2 && (bt153.2.1 == 1 && (bt153.2.2.1 == 5)))) else (some false))) else (some false)) else (some false))) = some r := h; clear h
 obtain ⟨y145,hy145⟩ : ∃ y_ : List (S27),y_ = (([(⟨0,131072,0⟩ : S27),(⟨10,196608,0⟩ : S27)] : List (S27))) := ⟨_,rfl⟩
 replace H : ((ZX.f k y145 5 12).bind fun bt148 => (if bt148.1 = 31 then (if bt148.2 = 0 then ((Xy.f k (([(⟨0,4,10⟩ : S61)] : List (S61))) 95).bind fun bt153 => (if bt153.2.2.2 = 0 then (some (bt153.1 == 2 && (bt153.2.1 == 1 && (bt153.2.2.1 == 5)))) else (some false))) else (some false)) else (some false))) = some r := by first | (rw [hy145]; with_reducible exact H) | (have H2_ := (Option.bind_some _ _).symm.trans H; rw [hy145]; with_reducible exact H2_) | (have H2_ := (Option.bind_some _ _).symm.trans H; with_reducible exact H2_) | with_reducible exact H | (rw [hy145]; exact H) | exact H
 have Ny145 := Zc.mk hy145; clear hy145; replace H := Option.bind_eq_some_iff.mp H; obtain ⟨⟨t148,t149⟩,A10,H⟩ := H; replace H : (if t148 = 31 then (if t149 = 0 then ((Xy.f k (([(⟨0,4,10⟩ : S61)] : List (S61))) 95).bind fun bt153 => (if bt153.2.2.2 = 0 then (some (bt153.1 == 2 && (bt153.2.1 == 1 && (bt153.2.2.1 == 5)))) else (some false))) else (some false)) else (some false)) = some r := H; have A1 := Zc.mk A10; clear A10
 by_cases c2 : t148 = 31
 · rw [if_pos c2] at H
   have c2b0 : (t148 == 31) = true := beq_iff_eq.mpr c2; have c2b1 : (t148 != 31) = false := bne_eq_false_iff_eq.mpr c2; clear c2
   by_cases c3 : t149 = 0
   · rw [if_pos c3] at H
     have c3b0 : (t149 == 0) = true := beq_iff_eq.mpr c3; have c3b1 : (t149 != 0) = false := bne_eq_false_iff_eq.mpr c3; clear c3
     obtain ⟨y150,hy150⟩ : ∃ y_ : List (S61),y_ = (([(⟨0,4,10⟩ : S61)] : List (S61))) := ⟨_,rfl⟩
     replace H : ((Xy.f k y150 95).bind fun bt153 => (if bt153.2.2.2 = 0 then (some (bt153.1 == 2 && (bt153.2.1 == 1 && (bt153.2.2.1 == 5)))) else (some false))) = some r := by first | (rw [hy150]; with_reducible exact H) | (have H2_ := (Option.bind_some _ _).symm.trans H; rw [hy150]; with_reducible exact H2_) | (have H2_ := (Option.bind_some _ _).symm.trans H; with_reducible exact H2_) | with_reducible exact H | (rw [hy150]; exact H) | exact H
     have Ny150 := Zc.mk hy150; clear hy150; replace H := Option.bind_eq_some_iff.mp H; obtain ⟨⟨t153,t154,t155,t156⟩,A40,H⟩ := H; replace H : (if t156 = 0 then (some (t153 == 2 && (t154 == 1 && (t155 == 5)))) else (some false)) = some r := H; have A4 := Zc.mk A40; clear A40
     by_cases c5 : t156 = 0
     · rw [if_pos c5] at H
       have c5b0 : (t156 == 0) = true := beq_iff_eq.mpr c5; have c5b1 : (t156 != 0) = false := bne_eq_false_iff_eq.mpr c5; clear c5; obtain rfl := Option.some.inj H
       go_enter Try.func9,Try.ntmps9
       go_wp2_with (first | ((with_reducible refine Xr (N := 7) rfl ?_); refine Kd.R_lit k27 _ 27 ?hg (N := 7) ?hd (xs := ([(⟨0,131072,0⟩ : S27),(⟨10,196608,0⟩ : S27)] : List (S27))) (inner := [.int .i64 0,.int .i64 131072,.int .i64 0,.int .i64 10,.int .i64 196608,.int .i64 0]) (ok := fun _ => True) (okp := fun _ => True) ?hr ?hp (fun _ hk => hk) trivial (Below.refl _ _) (Nat.le_refl _) (by simp) ?_; (case hd => rfl); (case hg => rfl); (case hr => first | (go_simp; done) | (go_simp; rfl)); (case hp => exact (Reps.c3 (show Kd.M k27 _ _ _ (⟨0,131072,0⟩ : S27) [.int .i64 0,.int .i64 131072,.int .i64 0] from (Qb _ _ _ (⟨0,131072,0⟩ : S27) )) (Reps.c3 (show Kd.M k27 _ _ _ (⟨10,196608,0⟩ : S27) [.int .i64 10,.int .i64 196608,.int .i64 0] from (Qb _ _ _ (⟨10,196608,0⟩ : S27) )) (Reps.none _ _)))); intro v146 w6 ho7 hb hg_ hnew_; clear hg_ hnew_; (first | rw [← Ny145.out] at ho7 | (simp only [Int.reduceToNat] at ho7; rw [← Ny145.out] at ho7)); have n0_ := Zc.mk (Kd.Xs ho7 (ZH (by repeat (first | (with_reducible first | exact HB.out | apply Zd | apply Za | apply Zb) | exact HB.out)))); have n1_ := Zc.mk (Z3 (by repeat (first | (with_reducible first | exact HB.out | apply Zd | apply Za | apply Zb) | exact HB.out)) hb); clear HB; have HO147 := n0_; have HB := n1_; clear n0_ n1_; clear hb ho7; obtain ⟨Ao8,co8,eo8⟩ := Kd.Xd HO147.out; subst eo8) | ((with_reducible refine Z1 (f := 13) rfl ?_); refine ZQ (some 10) rfl rfl Try.func13 (by kernel_rfl) rfl #[.slice Ao8 y145.length co8,.int .i64 5,.int .i64 12] rfl (by (try simp only [List.map_toArray,List.map_cons,List.map_nil]); first | done | rfl | (simp only [List.length_drop,List.length_take]; rfl)) ?_; (with_reducible refine (ZX.calls k _ _ y145 5 12 t148 t149 _ ?side1 ?side2 A1.out).mono ?_); (case side1 => repeat (first | exact (Kd.ZL HO147.out).2.2 | (with_reducible refine Kd.ZA ?_ _) | (with_reducible refine Kd.Z9 ?_ _) | (with_reducible refine Kd.ZI ?_))); (case side2 => exact (Kd.ZL HO147.out).2.1); rintro e w9 ⟨rfl,hb⟩; refine ⟨_,rfl,?_⟩; have n0_ := Zc.mk (Kd.Xl (by (with_reducible repeat (first | apply Kd.Zl | apply Kd.Zk | apply Kd.Zs)); exact HO147.out) hb); have n1_ := Zc.mk (Z3 (by repeat (first | (with_reducible first | exact HB.out | apply Zd | apply Za | apply Zb) | exact HB.out)) hb); clear HO147; clear HB; have HO147 := n0_; have HB := n1_; clear n0_ n1_; (try clear hb); (try clear hb2); (try clear hk); (try clear hi)) | ((with_reducible refine Xr (N := 21) rfl ?_); refine Kd.R_lit k61 _ 61 ?hg (N := 21) ?hd (xs := ([(⟨0,4,10⟩ : S61)] : List (S61))) (inner := [.int .i64 0,.int .i64 4,.int .i64 10]) (ok := fun _ => True) (okp := fun _ => True) ?hr ?hp (fun _ hk => hk) trivial (Below.refl _ _) (Nat.le_refl _) (by simp) ?_; (case hd => rfl); (case hg => rfl); (case hr => first | (go_simp; done) | (go_simp; rfl)); (case hp => exact (Reps.c3 (show Kd.M k61 _ _ _ (⟨0,4,10⟩ : S61) [.int .i64 0,.int .i64 4,.int .i64 10] from (Yj _ _ _ (⟨0,4,10⟩ : S61) )) (Reps.none _ _))); intro v151 w10 ho11 hb hg_ hnew_; clear hg_ hnew_; (first | rw [← Ny150.out] at ho11 | (simp only [Int.reduceToNat] at ho11; rw [← Ny150.out] at ho11)); have n0_ := Zc.mk (Kd.Xl (by (with_reducible repeat (first | apply Kd.Zl | apply Kd.Zk | apply Kd.Zs)); exact HO147.out) hb); have n1_ := Zc.mk (Kd.Xs ho11 (ZH (by repeat (first | (with_reducible first | exact HB.out | apply Zd | apply Za | apply Zb) | exact HB.out)))); have n2_ := Zc.mk (Z3 (by repeat (first | (with_reducible first | exact HB.out | apply Zd | apply Za | apply Zb) | exact HB.out)) hb); clear HO147; clear HB; have HO147 := n0_; have HO152 := n1_; have HB := n2_; clear n0_ n1_ n2_; clear hb ho11; obtain ⟨Ao12,co12,eo12⟩ := Kd.Xd HO152.out; subst eo12) | ((with_reducible refine Z1 (f := 16) rfl ?_); refine ZQ (some 22) rfl rfl Try.func16 (by kernel_rfl) rfl #[.slice Ao12 y150.length co12,.int .i64 95] rfl (by (try simp only [List.map_toArray,List.map_cons,List.map_nil]); first | done | rfl | (simp only [List.length_drop,List.length_take]; rfl)) ?_; (with_reducible refine (Xy.calls k _ _ y150 95 t153 t154 t155 t156 _ ?side1 ?side2 A4.out).mono ?_); (case side1 => repeat (first | exact (Kd.ZL HO152.out).2.2 | (with_reducible refine Kd.ZA ?_ _) | (with_reducible refine Kd.Z9 ?_ _) | (with_reducible refine Kd.ZI ?_))); (case side2 => exact (Kd.ZL HO152.out).2.1); rintro e w13 ⟨rfl,hb⟩; refine ⟨_,rfl,?_⟩; have n0_ := Zc.mk (Kd.Xl (by (with_reducible repeat (first | apply Kd.Zl | apply Kd.Zk | apply Kd.Zs)); exact HO147.out) hb); have n1_ := Zc.mk (Kd.Xl (by (with_reducible repeat (first | apply Kd.Zl | apply Kd.Zk | apply Kd.Zs)); exact HO152.out) hb); have n2_ := Zc.mk (Z3 (by repeat (first | (with_reducible first | exact HB.out | apply Zd | apply Za | apply Zb) | exact HB.out)) hb); clear HO147; clear HO152; clear HB; have HO147 := n0_; have HO152 := n1_; have HB := n2_; clear n0_ n1_ n2_; (try clear hb); (try clear hb2); (try clear hk); (try clear hi)) | ((with_reducible refine Xr (N := 4) rfl ?_); refine X2 ?hg (N := 4) ?hd (cs := #[.int .i64 0,.int .i64 0,.int .i64 0]) (t := 37) ?hr ?_; (case hd => rfl); (case hg => rfl); (case hr => first | (go_simp; done) | (go_simp; rfl)); intro gb157 hg w14 hbox hb; have n0_ := Zc.mk (Kd.Xl (by (with_reducible repeat (first | apply Kd.Zl | apply Kd.Zk | apply Kd.Zs)); exact HO147.out) hb); have n1_ := Zc.mk (Kd.Xl (by (with_reducible repeat (first | apply Kd.Zl | apply Kd.Zk | apply Kd.Zs)); exact HO152.out) hb); have n2_ := Zc.mk (Z3 (by repeat (first | (with_reducible first | exact HB.out | apply Zd | apply Za | apply Zb) | exact HB.out)) hb); have n3_ := Zc.mk (hbox); have n4_ := Zc.mk ((by rw [hg]; exact (ZH (by repeat (first | (with_reducible first | exact HB.out | apply Zd | apply Za | apply Zb) | exact HB.out))) : w.heap.size ≤ gb157)); have n5_ := Zc.mk ((by rw [hg]; exact (ZH (by repeat (first | (with_reducible first | exact HB.out | apply Zd | apply Za | apply Zb) | exact HB.out))) : w.heap.size ≤ gb157)); clear HO147; clear HO152; clear HB; have HO147 := n0_; have HO152 := n1_; have HB := n2_; have BK157 := n3_; have GW157 := n4_; have GE157 := n5_; clear n0_ n1_ n2_ n3_ n4_ n5_; clear hb hbox hg; have hcz15_0 : w14.cell? ⟨gb157,0,none⟩ = some (.int .i64 0) := (Zn BK157.out 0).trans rfl; have hcz15_1 : w14.cell? ⟨gb157,1,none⟩ = some (.int .i64 0) := (Zn BK157.out 1).trans rfl; have hcz15_2 : w14.cell? ⟨gb157,2,none⟩ = some (.int .i64 0) := (Zn BK157.out 2).trans rfl; have hfz15_0 := Zz BK157.out 0; have hfz15_1 := Zz BK157.out 1; have hfz15_2 := Zz BK157.out 2))
       go_ret; exact ⟨by first | rfl | (simp [Zv,Zu] <;> rfl) | (simp [*,Zv,Zu] <;> rfl),by repeat (first | (with_reducible first | exact HB.out | apply Zd | apply Za | apply Zb | refine ZK ?_ GE157.out) | exact HB.out)⟩
     · rw [if_neg c5] at H
       have c5b0 : (t156 == 0) = false := beq_eq_false_iff_ne.mpr c5; have c5b1 : (t156 != 0) = true := bne_iff_ne.mpr c5; obtain rfl := Option.some.inj H
       go_enter Try.func9,Try.ntmps9
       go_wp2_with (first | ((with_reducible refine Xr (N := 7) rfl ?_); refine Kd.R_lit k27 _ 27 ?hg (N := 7) ?hd (xs := ([(⟨0,131072,0⟩ : S27),(⟨10,196608,0⟩ : S27)] : List (S27))) (inner := [.int .i64 0,.int .i64 131072,.int .i64 0,.int .i64 10,.int .i64 196608,.int .i64 0]) (ok := fun _ => True) (okp := fun _ => True) ?hr ?hp (fun _ hk => hk) trivial (Below.refl _ _) (Nat.le_refl _) (by simp) ?_; (case hd => rfl); (case hg => rfl); (case hr => first | (go_simp; done) | (go_simp; rfl)); (case hp => exact (Reps.c3 (show Kd.M k27 _ _ _ (⟨0,131072,0⟩ : S27) [.int .i64 0,.int .i64 131072,.int .i64 0] from (Qb _ _ _ (⟨0,131072,0⟩ : S27) )) (Reps.c3 (show Kd.M k27 _ _ _ (⟨10,196608,0⟩ : S27) [.int .i64 10,.int .i64 196608,.int .i64 0] from (Qb _ _ _ (⟨10,196608,0⟩ : S27) )) (Reps.none _ _)))); intro v146 w16 ho17 hb hg_ hnew_; clear hg_ hnew_; (first | rw [← Ny145.out] at ho17 | (simp only [Int.reduceToNat] at ho17; rw [← Ny145.out] at ho17)); have n0_ := Zc.mk (Kd.Xs ho17 (ZH (by repeat (first | (with_reducible first | exact HB.out | apply Zd | apply Za | apply Zb) | exact HB.out)))); have n1_ := Zc.mk (Z3 (by repeat (first | (with_reducible first | exact HB.out | apply Zd | apply Za | apply Zb) | exact HB.out)) hb); clear HB; have HO147 := n0_; have HB := n1_; clear n0_ n1_; clear hb ho17; obtain ⟨Ao18,co18,eo18⟩ := Kd.Xd HO147.out; subst eo18) | ((with_reducible refine Z1 (f := 13) rfl ?_); refine ZQ (some 10) rfl rfl Try.func13 (by kernel_rfl) rfl #[.slice Ao18 y145.length co18,.int .i64 5,.int .i64 12] rfl (by (try simp only [List.map_toArray,List.map_cons,List.map_nil]); first | done | rfl | (simp only [List.length_drop,List.length_take]; rfl)) ?_; (with_reducible refine (ZX.calls k _ _ y145 5 12 t148 t149 _ ?side1 ?side2 A1.out).mono ?_); (case side1 => repeat (first | exact (Kd.ZL HO147.out).2.2 | (with_reducible refine Kd.ZA ?_ _) | (with_reducible refine Kd.Z9 ?_ _) | (with_reducible refine Kd.ZI ?_))); (case side2 => exact (Kd.ZL HO147.out).2.1); rintro e w19 ⟨rfl,hb⟩; refine ⟨_,rfl,?_⟩; have n0_ := Zc.mk (Kd.Xl (by (with_reducible repeat (first | apply Kd.Zl | apply Kd.Zk | apply Kd.Zs)); exact HO147.out) hb); have n1_ := Zc.mk (Z3 (by repeat (first | (with_reducible first | exact HB.out | apply Zd | apply Za | apply Zb) | exact HB.out)) hb); clear HO147; clear HB; have HO147 := n0_; have HB := n1_; clear n0_ n1_; (try clear hb); (try clear hb2); (try clear hk); (try clear hi)) | ((with_reducible refine Xr (N := 21) rfl ?_); refine Kd.R_lit k61 _ 61 ?hg (N := 21) ?hd (xs := ([(⟨0,4,10⟩ : S61)] : List (S61))) (inner := [.int .i64 0,.int .i64 4,.int .i64 10]) (ok := fun _ => True) (okp := fun _ => True) ?hr ?hp (fun _ hk => hk) trivial (Below.refl _ _) (Nat.le_refl _) (by simp) ?_; (case hd => rfl); (case hg => rfl); (case hr => first | (go_simp; done) | (go_simp; rfl)); (case hp => exact (Reps.c3 (show Kd.M k61 _ _ _ (⟨0,4,10⟩ : S61) [.int .i64 0,.int .i64 4,.int .i64 10] from (Yj _ _ _ (⟨0,4,10⟩ : S61) )) (Reps.none _ _))); intro v151 w20 ho21 hb hg_ hnew_; clear hg_ hnew_; (first | rw [← Ny150.out] at ho21 | (simp only [Int.reduceToNat] at ho21; rw [← Ny150.out] at ho21)); have n0_ := Zc.mk (Kd.Xl (by (with_reducible repeat (first | apply Kd.Zl | apply Kd.Zk | apply Kd.Zs)); exact HO147.out) hb); have n1_ := Zc.mk (Kd.Xs ho21 (ZH (by repeat (first | (with_reducible first | exact HB.out | apply Zd | apply Za | apply Zb) | exact HB.out)))); have n2_ := Zc.mk (Z3 (by repeat (first | (with_reducible first | exact HB.out | apply Zd | apply Za | apply Zb) | exact HB.out)) hb); clear HO147; clear HB; have HO147 := n0_; have HO152 := n1_; have HB := n2_; clear n0_ n1_ n2_; clear hb ho21; obtain ⟨Ao22,co22,eo22⟩ := Kd.Xd HO152.out; subst eo22) | ((with_reducible refine Z1 (f := 16) rfl ?_); refine ZQ (some 22) rfl rfl Try.func16 (by kernel_rfl) rfl #[.slice Ao22 y150.length co22,.int .i64 95] rfl (by (try simp only [List.map_toArray,List.map_cons,List.map_nil]); first | done | rfl | (simp only [List.length_drop,List.length_take]; rfl)) ?_; (with_reducible refine (Xy.calls k _ _ y150 95 t153 t154 t155 t156 _ ?side1 ?side2 A4.out).mono ?_); (case side1 => repeat (first | exact (Kd.ZL HO152.out).2.2 | (with_reducible refine Kd.ZA ?_ _) | (with_reducible refine Kd.Z9 ?_ _) | (with_reducible refine Kd.ZI ?_))); (case side2 => exact (Kd.ZL HO152.out).2.1); rintro e w23 ⟨rfl,hb⟩; refine ⟨_,rfl,?_⟩; have n0_ := Zc.mk (Kd.Xl (by (with_reducible repeat (first | apply Kd.Zl | apply Kd.Zk | apply Kd.Zs)); exact HO147.out) hb); have n1_ := Zc.mk (Kd.Xl (by (with_reducible repeat (first | apply Kd.Zl | apply Kd.Zk | apply Kd.Zs)); exact HO152.out) hb); have n2_ := Zc.mk (Z3 (by repeat (first | (with_reducible first | exact HB.out | apply Zd | apply Za | apply Zb) | exact HB.out)) hb); clear HO147; clear HO152; clear HB; have HO147 := n0_; have HO152 := n1_; have HB := n2_; clear n0_ n1_ n2_; (try clear hb); (try clear hb2); (try clear hk); (try clear hi)) | ((with_reducible refine Xr (N := 4) rfl ?_); refine X2 ?hg (N := 4) ?hd (cs := #[.int .i64 0,.int .i64 0,.int .i64 0]) (t := 37) ?hr ?_; (case hd => rfl); (case hg => rfl); (case hr => first | (go_simp; done) | (go_simp; rfl)); intro gb157 hg w24 hbox hb; have n0_ := Zc.mk (Kd.Xl (by (with_reducible repeat (first | apply Kd.Zl | apply Kd.Zk | apply Kd.Zs)); exact HO147.out) hb); have n1_ := Zc.mk (Kd.Xl (by (with_reducible repeat (first | apply Kd.Zl | apply Kd.Zk | apply Kd.Zs)); exact HO152.out) hb); have n2_ := Zc.mk (Z3 (by repeat (first | (with_reducible first | exact HB.out | apply Zd | apply Za | apply Zb) | exact HB.out)) hb); have n3_ := Zc.mk (hbox); have n4_ := Zc.mk ((by rw [hg]; exact (ZH (by repeat (first | (with_reducible first | exact HB.out | apply Zd | apply Za | apply Zb) | exact HB.out))) : w.heap.size ≤ gb157)); have n5_ := Zc.mk ((by rw [hg]; exact (ZH (by repeat (first | (with_reducible first | exact HB.out | apply Zd | apply Za | apply Zb) | exact HB.out))) : w.heap.size ≤ gb157)); clear HO147; clear HO152; clear HB; have HO147 := n0_; have HO152 := n1_; have HB := n2_; have BK157 := n3_; have GW157 := n4_; have GE157 := n5_; clear n0_ n1_ n2_ n3_ n4_ n5_; clear hb hbox hg; have hcz25_0 : w24.cell? ⟨gb157,0,none⟩ = some (.int .i64 0) := (Zn BK157.out 0).trans rfl; have hcz25_1 : w24.cell? ⟨gb157,1,none⟩ = some (.int .i64 0) := (Zn BK157.out 1).trans rfl; have hcz25_2 : w24.cell? ⟨gb157,2,none⟩ = some (.int .i64 0) := (Zn BK157.out 2).trans rfl; have hfz25_0 := Zz BK157.out 0; have hfz25_1 := Zz BK157.out 1; have hfz25_2 := Zz BK157.out 2))
       go_ret; exact ⟨by first | rfl | (simp [Zv,Zu] <;> rfl) | (simp [*,Zv,Zu] <;> rfl),by repeat (first | (with_reducible first | exact HB.out | apply Zd | apply Za | apply Zb | refine ZK ?_ GE157.out) | exact HB.out)⟩
   · rw [if_neg c3] at H
     have c3b0 : (t149 == 0) = false := beq_eq_false_iff_ne.mpr c3; have c3b1 : (t149 != 0) = true := bne_iff_ne.mpr c3; obtain rfl := Option.some.inj H
     go_enter Try.func9,Try.ntmps9
     go_wp2_with (first | ((with_reducible refine Xr (N := 7) rfl ?_); refine Kd.R_lit k27 _ 27 ?hg (N := 7) ?hd (xs := ([(⟨0,131072,0⟩ : S27),(⟨10,196608,0⟩ : S27)] : List (S27))) (inner := [.int .i64 0,.int .i64 131072,.int .i64 0,.int .i64 10,.int .i64 196608,.int .i64 0]) (ok := fun _ => True) (okp := fun _ => True) ?hr ?hp (fun _ hk => hk) trivial (Below.refl _ _) (Nat.le_refl _) (by simp) ?_; (case hd => rfl); (case hg => rfl); (case hr => first | (go_simp; done) | (go_simp; rfl)); (case hp => exact (Reps.c3 (show Kd.M k27 _ _ _ (⟨0,131072,0⟩ : S27) [.int .i64 0,.int .i64 131072,.int .i64 0] from (Qb _ _ _ (⟨0,131072,0⟩ : S27) )) (Reps.c3 (show Kd.M k27 _ _ _ (⟨10,196608,0⟩ : S27) [.int .i64 10,.int .i64 196608,.int .i64 0] from (Qb _ _ _ (⟨10,196608,0⟩ : S27) )) (Reps.none _ _)))); intro v146 w26 ho27 hb hg_ hnew_; clear hg_ hnew_; (first | rw [← Ny145.out] at ho27 | (simp only [Int.reduceToNat] at ho27; rw [← Ny145.out] at ho27)); have n0_ := Zc.mk (Kd.Xs ho27 (ZH (by repeat (first | (with_reducible first | exact HB.out | apply Zd | apply Za | apply Zb) | exact HB.out)))); have n1_ := Zc.mk (Z3 (by repeat (first | (with_reducible first | exact HB.out | apply Zd | apply Za | apply Zb) | exact HB.out)) hb); clear HB; have HO147 := n0_; have HB := n1_; clear n0_ n1_; clear hb ho27; obtain ⟨Ao28,co28,eo28⟩ := Kd.Xd HO147.out; subst eo28) | ((with_reducible refine Z1 (f := 13) rfl ?_); refine ZQ (some 10) rfl rfl Try.func13 (by kernel_rfl) rfl #[.slice Ao28 y145.length co28,.int .i64 5,.int .i64 12] rfl (by (try simp only [List.map_toArray,List.map_cons,List.map_nil]); first | done | rfl | (simp only [List.length_drop,List.length_take]; rfl)) ?_; (with_reducible refine (ZX.calls k _ _ y145 5 12 t148 t149 _ ?side1 ?side2 A1.out).mono ?_); (case side1 => repeat (first | exact (Kd.ZL HO147.out).2.2 | (with_reducible refine Kd.ZA ?_ _) | (with_reducible refine Kd.Z9 ?_ _) | (with_reducible refine Kd.ZI ?_))); (case side2 => exact (Kd.ZL HO147.out).2.1); rintro e w29 ⟨rfl,hb⟩; refine ⟨_,rfl,?_⟩; have n0_ := Zc.mk (Kd.Xl (by (with_reducible repeat (first | apply Kd.Zl | apply Kd.Zk | apply Kd.Zs)); exact HO147.out) hb); have n1_ := Zc.mk (Z3 (by repeat (first | (with_reducible first | exact HB.out | apply Zd | apply Za | apply Zb) | exact HB.out)) hb); clear HO147; clear HB; have HO147 := n0_; have HB := n1_; clear n0_ n1_; (try clear hb); (try clear hb2); (try clear hk); (try clear hi)))
     go_ret; exact ⟨by first | rfl | (simp [Zv,Zu] <;> rfl) | (simp [*,Zv,Zu] <;> rfl),by repeat (first | (with_reducible first | exact HB.out | apply Zd | apply Za | apply Zb) | exact HB.out)⟩
 · rw [if_neg c2] at H
   have c2b0 : (t148 == 31) = false := beq_eq_false_iff_ne.mpr c2; have c2b1 : (t148 != 31) = true := bne_iff_ne.mpr c2; obtain rfl := Option.some.inj H
   go_enter Try.func9,Try.ntmps9
   go_wp2_with (first | ((with_reducible refine Xr (N := 7) rfl ?_); refine Kd.R_lit k27 _ 27 ?hg (N := 7) ?hd (xs := ([(⟨0,131072,0⟩ : S27),(⟨10,196608,0⟩ : S27)] : List (S27))) (inner := [.int .i64 0,.int .i64 131072,.int .i64 0,.int .i64 10,.int .i64 196608,.int .i64 0]) (ok := fun _ => True) (okp := fun _ => True) ?hr ?hp (fun _ hk => hk) trivial (Below.refl _ _) (Nat.le_refl _) (by simp) ?_; (case hd => rfl); (case hg => rfl); (case hr => first | (go_simp; done) | (go_simp; rfl)); (case hp => exact (Reps.c3 (show Kd.M k27 _ _ _ (⟨0,131072,0⟩ : S27) [.int .i64 0,.int .i64 131072,.int .i64 0] from (Qb _ _ _ (⟨0,131072,0⟩ : S27) )) (Reps.c3 (show Kd.M k27 _ _ _ (⟨10,196608,0⟩ : S27) [.int .i64 10,.int .i64 196608,.int .i64 0] from (Qb _ _ _ (⟨10,196608,0⟩ : S27) )) (Reps.none _ _)))); intro v146 w30 ho31 hb hg_ hnew_; clear hg_ hnew_; (first | rw [← Ny145.out] at ho31 | (simp only [Int.reduceToNat] at ho31; rw [← Ny145.out] at ho31)); have n0_ := Zc.mk (Kd.Xs ho31 (ZH (by repeat (first | (with_reducible first | exact HB.out | apply Zd | apply Za | apply Zb) | exact HB.out)))); have n1_ := Zc.mk (Z3 (by repeat (first | (with_reducible first | exact HB.out | apply Zd | apply Za | apply Zb) | exact HB.out)) hb); clear HB; have HO147 := n0_; have HB := n1_; clear n0_ n1_; clear hb ho31; obtain ⟨Ao32,co32,eo32⟩ := Kd.Xd HO147.out; subst eo32) | ((with_reducible refine Z1 (f := 13) rfl ?_); refine ZQ (some 10) rfl rfl Try.func13 (by kernel_rfl) rfl #[.slice Ao32 y145.length co32,.int .i64 5,.int .i64 12] rfl (by (try simp only [List.map_toArray,List.map_cons,List.map_nil]); first | done | rfl | (simp only [List.length_drop,List.length_take]; rfl)) ?_; (with_reducible refine (ZX.calls k _ _ y145 5 12 t148 t149 _ ?side1 ?side2 A1.out).mono ?_); (case side1 => repeat (first | exact (Kd.ZL HO147.out).2.2 | (with_reducible refine Kd.ZA ?_ _) | (with_reducible refine Kd.Z9 ?_ _) | (with_reducible refine Kd.ZI ?_))); (case side2 => exact (Kd.ZL HO147.out).2.1); rintro e w33 ⟨rfl,hb⟩; refine ⟨_,rfl,?_⟩; have n0_ := Zc.mk (Kd.Xl (by (with_reducible repeat (first | apply Kd.Zl | apply Kd.Zk | apply Kd.Zs)); exact HO147.out) hb); have n1_ := Zc.mk (Z3 (by repeat (first | (with_reducible first | exact HB.out | apply Zd | apply Za | apply Zb) | exact HB.out)) hb); clear HO147; clear HB; have HO147 := n0_; have HB := n1_; clear n0_ n1_; (try clear hb); (try clear hb2); (try clear hk); (try clear hi)))
   go_ret; exact ⟨by first | rfl | (simp [Zv,Zu] <;> rfl) | (simp [*,Zv,Zu] <;> rfl),by repeat (first | (with_reducible first | exact HB.out | apply Zd | apply Za | apply Zb) | exact HB.out)⟩
end Go.Proofs.Ytomlfbmfdoallaa.PA

namespace Go.Proofs.Ytomlfbmfdoallaa.PA
open Go.RowKit Go.Proofs.YtomlfbmfdoallaaW.PrintWords Go.Proofs.YtomlfbmfdoallaaW.PrintLast Go.Proofs.YtomlfbmfdoallaaW.PrintMore
attribute [local go_sem] Xf Xg Xo Xn Xa ZZ Xh Xi
set_option linter.unusedVariables false
set_option linter.unusedSimpArgs false
def Xc.f (l0 : List (S27)) (l1 : List (S61)) (l2 : List (S56)) : Option (Bool) := if (l0.length : Int) > 60 then (some true) else (if (l1.length : Int) > 60 then (some true) else (some (decide ((l2.length : Int) > 120))))
set_option maxHeartbeats 8000000 in
set_option maxRecDepth 100000 in
theorem Xc.calls (A0 : Option Addr) (c0 : Nat) (l0 : List (S27)) (A1 : Option Addr) (c1 : Nat) (l1 : List (S61)) (A2 : Option Addr) (c2 : Nat) (l2 : List (S56)) (r : Bool) (w : World) (hr0 : Kd.C k27 w A0 l0.length l0) (hc0 : l0.length ≤ c0) (hr1 : Kd.C k61 w A1 l1.length l1) (hc1 : l1.length ≤ c1) (hr2 : Kd.C k56 w A2 l2.length l2) (hc2 : l2.length ≤ c2) (h : Xc.f l0 l1 l2 = some r) :
 Calls Try.prog 10 #[.slice A0 l0.length c0,.slice A1 l1.length c1,.slice A2 l2.length c2] w fun e w' => e = .returned (.bool r) ∧ Drawn0 w w' := by
 have HR0 := Zc.mk hr0; have HC0 := Zc.mk hc0; clear hr0 hc0; have HR1 := Zc.mk hr1; have HC1 := Zc.mk hc1; clear hr1 hc1; have HR2 := Zc.mk hr2; have HC2 := Zc.mk hc2; clear hr2 hc2; have H : (if (l0.length : Int) > 60 then (some true) else (if (l1.length : Int) > 60 then (some true) else (some (decide ((l2.length : Int) > 120))))) = some r := h; clear h
 by_cases c4 : (l0.length : Int) > 60
 · rw [if_pos c4] at H
   have c4b0 : decide (60 < (l0.length : Int)) = true := decide_eq_true c4; have c4b1 : decide (60 < l0.length) = true := decide_eq_true (by omega); clear c4; obtain rfl := Option.some.inj H
   go_enter Try.func10,Try.ntmps10
   go_wp2
   go_ret; exact ⟨by first | rfl | (simp; done) | (simp [*]; done),by repeat (first | exact Drawn0.refl _ | apply Drawn0.step)⟩
 · rw [if_neg c4] at H
   have c4b0 : decide (60 < (l0.length : Int)) = false := decide_eq_false c4; have c4b1 : decide (60 < l0.length) = false := decide_eq_false (by omega); clear c4
   by_cases c5 : (l1.length : Int) > 60
   · rw [if_pos c5] at H
     have c5b0 : decide (60 < (l1.length : Int)) = true := decide_eq_true c5; have c5b1 : decide (60 < l1.length) = true := decide_eq_true (by omega); clear c5; obtain rfl := Option.some.inj H
     go_enter Try.func10,Try.ntmps10
     go_wp2
     go_ret; exact ⟨by first | rfl | (simp; done) | (simp [*]; done),by repeat (first | exact Drawn0.refl _ | apply Drawn0.step)⟩
   · rw [if_neg c5] at H
     have c5b0 : decide (60 < (l1.length : Int)) = false := decide_eq_false c5; have c5b1 : decide (60 < l1.length) = false := decide_eq_false (by omega); clear c5; obtain rfl := Option.some.inj H
     go_enter Try.func10,Try.ntmps10
     go_wp2
     go_ret; exact ⟨by first | rfl | (simp; done) | (simp [*]; done),by repeat (first | exact Drawn0.refl _ | apply Drawn0.step)⟩
end Go.Proofs.Ytomlfbmfdoallaa.PA

namespace Go.Proofs.Ytomlfbmfdoallaa.PA
open Go.RowKit Go.Shelf Go.Proofs.YtomlfbmfdoallaaW.PrintWords Go.Proofs.YtomlfbmfdoallaaW.PrintLast Go.Proofs.YtomlfbmfdoallaaW.PrintMore
set_option linter.unusedVariables false
set_option linter.unusedSimpArgs false
def PredD {α : Type} (g : Nat) (lb : Array Value) (enc : α → Value) (p : α → Bool) (D : α → Prop) (w : World) : Prop :=
 ∀ (W : World) (x : α),D x → Below w.heap.size w W → Calls Try.prog g (#[enc x] ++ lb) W fun e w' => e = .returned (.bool (p x)) ∧ Below W.heap.size W w'
def bs (p : Int → Bool) (lo hi : Int) : Int :=
 if lo < hi then (if p (lo + (hi - lo + 1) / 2) = true then bs p (lo + (hi - lo + 1) / 2) hi else bs p lo (lo + (hi - lo + 1) / 2 - 1)) else lo
termination_by (hi - lo).toNat
decreasing_by all_goals omega
set_option maxRecDepth 100000 in
set_option maxHeartbeats 2000000 in
theorem greatest_calls (p : Int → Bool) (g : Nat) (lb : Array Value) (eg : ∀ args w,(callFunc g args).run Try.prog w = .ok (.enter g args) w) (lo hi : Int) (w : World) (h0 : 0 ≤ lo) (h1 : lo ≤ hi) (h2 : hi ≤ 1000000000)
 (hp : PredD g lb (fun x => .int .i64 x) p (fun x => 0 ≤ x ∧ x ≤ 1000000000) w) :
 Calls Try.prog 71 #[.int .i64 lo,.int .i64 hi,.func (.func g) #[] lb] w fun e w' => e = .returned (.int .i64 (bs p lo hi)) ∧ Below w.heap.size w w' := by
 have HP := Zc.mk hp; clear hp
 go_enter Try.func71,Try.ntmps71
 go_wp2
 go_loopg [0,1] (hi - lo).toNat (fun gg v0 v1 wr => ∃ a b : Int,0 ≤ a ∧ a ≤ b ∧ b ≤ 1000000000 ∧ (b - a).toNat ≤ gg ∧ v0 = .int .i64 a ∧ v1 = .int .i64 b ∧ Zc (Below w.heap.size w wr) ∧ Zc (bs p lo hi = bs p a b))
 case atStart => exact ⟨lo,hi,h0,h1,h2,Nat.le_refl _,rfl,rfl,⟨Below.refl _ w⟩,⟨rfl⟩⟩
 case round =>
  obtain ⟨a,b,ha,hab,hb,hg,rfl,rfl,BW,AI⟩ := hrel
  by_cases hlt : a < b
  · have m0 : a + 1 ≤ a + (b - a + 1) / 2 := by omega
    have m1 : a + (b - a + 1) / 2 ≤ b := by omega
    have hcall := HP.out wr (a + (b - a + 1) / 2) ⟨by omega,by omega⟩ BW.out
    cases hq : p (a + (b - a + 1) / 2) with
    | true =>
     rw [hq] at hcall; have HQ := Zc.mk hq; clear hq
     go_wp2_with (go_at_fn g; refine hcall.mono ?_; rintro e w' ⟨rfl,hb'⟩)
     go_roundg (b - (a + (b - a + 1) / 2)).toNat
     case measure => omega
     case rel => exact ⟨a + (b - a + 1) / 2,b,by omega,m1,hb,Nat.le_refl _,rfl,rfl,⟨BW.out.trans (hb'.mono BW.out.size)⟩,⟨by rw [AI.out,bs,if_pos hlt,if_pos HQ.out]⟩⟩
    | false =>
     rw [hq] at hcall; have HQ := Zc.mk hq; clear hq
     go_wp2_with (go_at_fn g; refine hcall.mono ?_; rintro e w' ⟨rfl,hb'⟩)
     go_roundg (a + (b - a + 1) / 2 - 1 - a).toNat
     case measure => omega
     case rel => exact ⟨a,a + (b - a + 1) / 2 - 1,ha,by omega,by omega,Nat.le_refl _,rfl,rfl,⟨BW.out.trans (hb'.mono BW.out.size)⟩,⟨by rw [AI.out,bs,if_pos hlt,if_neg (by rw [HQ.out]; simp)]⟩⟩
  · go_wp2
    go_ret; exact ⟨Q0 (by rw [AI.out,bs,if_neg (by omega)]),BW.out⟩
theorem enters72 : ∀ args w,(callFunc 72 args).run Try.prog w = .ok (.enter 72 args) w := Go.Proofs.enters_of Try.func72 (by kernel_rfl) rfl
set_option maxRecDepth 100000 in
set_option maxHeartbeats 2000000 in
theorem tick1_calls (A : Option Addr) (c : Nat) (l : List S27) (start at_ x : Int) (b1 b2 b3 : Nat) (W : World) (hok : mapOkB l = true) (hs0 : 0 ≤ start) (hs1 : start ≤ 1000000000) (hx0 : 0 ≤ x) (hx1 : x ≤ 1000000000) (hr : Kd.C k27 W A l.length l) (hc : l.length ≤ c)
 (k1 : W.cell? ⟨b1,0,none⟩ = some (.slice A l.length c)) (k2 : W.cell? ⟨b2,0,none⟩ = some (.int .i64 start)) (k3 : W.cell? ⟨b3,0,none⟩ = some (.int .i64 at_)) :
 Calls Try.prog 72 #[.int .i64 x,.pointer (some ⟨b1,0,none⟩),.pointer (some ⟨b2,0,none⟩),.pointer (some ⟨b3,0,none⟩)] W fun e w' => e = .returned (.bool (decide (fr l start x ≤ at_))) ∧ Below W.heap.size W w' := by
 have l1 : b1 < W.heap.size := World.block_lt_of_cell? _ _ k1; have l2 : b2 < W.heap.size := World.block_lt_of_cell? _ _ k2; have l3 : b3 < W.heap.size := World.block_lt_of_cell? _ _ k3; have HR := Zc.mk hr; clear hr
 have hf : Xj.f l start x = some (fr l start x) := by unfold Xj.f; rw [if_pos ⟨hok,hs0,hs1,hx0,hx1⟩]
 generalize hv : fr l start x = v at hf ⊢; have HC := Zc.mk hf; clear hf hv hok
 go_enter Try.func72,Try.ntmps72
 go_wp2_with (fail)
 go_region_held3 (fun w' => w'.cell? ⟨b1,0,none⟩ = some (.slice A l.length c) ∧ w'.cell? ⟨b2,0,none⟩ = some (.int .i64 start) ∧ w'.cell? ⟨b3,0,none⟩ = some (.int .i64 at_)) (simp [go_sem, *])
  (first | (go_at_call 42; refine (Xj.calls _ _ l start x v _ (Kd.ZI HR.out) hc HC.out).mono ?_; rintro e w' ⟨rfl,hb2⟩; have hc2 : ∀ b o,b < W.heap.size → w'.cell? ⟨b,o,none⟩ = W.cell? ⟨b,o,none⟩ := fun b o h => hb2.cell (p := ⟨b,o,none⟩) h))
 go_wp2
 go_ret; exact ⟨rfl,(Qi (Below.refl _ _)).trans hb2⟩
def Xw.f (l0 : List S27) (a1 : Int) (a2 : Int) : Option Int :=
 if mapOkB l0 = true ∧ 0 ≤ a1 ∧ a1 ≤ 1000000000 then some (bs (fun n => decide (fr l0 a1 n ≤ a2)) 0 1000000000) else none
set_option maxRecDepth 100000 in
set_option maxHeartbeats 2000000 in
theorem Xw.calls (A0 : Option Addr) (c0 : Nat) (l0 : List (S27)) (a1 : Int) (a2 : Int) (r : Int) (w : World) (hr0 : Kd.C k27 w A0 l0.length l0) (hc0 : l0.length ≤ c0) (h : Xw.f l0 a1 a2 = some r) :
 Calls Try.prog 54 #[.slice A0 l0.length c0,.int .i64 a1,.int .i64 a2] w fun e w' => e = .returned (.int .i64 r) ∧ Below w.heap.size w w' := by
 unfold Xw.f at h; split at h
 · rename_i hg
   obtain ⟨hok,hs0,hs1⟩ := hg; obtain rfl := Option.some.inj h; clear h
   have HG := fun W (hW : Below w.heap.size w W) b1 b2 b3 k1 k2 k3 x hx => tick1_calls A0 c0 l0 a1 a2 x b1 b2 b3 W hok hs0 hs1 (And.left hx) (And.right hx) (Kd.ZO hr0 hW) hc0 k1 k2 k3
   have HG' := Lib.hid HG; clear HG hok hr0; generalize hp : (fun n => decide (fr l0 a1 n ≤ a2)) = p
   have hmf : ∀ (fn : Fn) (first cap : Array Value) (w : World),(Instr.makeFunc fn first cap).run Try.prog w = .ok (.func fn first cap) w := fun _ _ _ _ => rfl
   go_enter Try.func54,Try.ntmps54
   go_wp2_with (fail)
   have c1 : ∀ W,Below (w.heap.size + 1 + 1 + 1) (((w.alloc (.cells #[.slice A0 l0.length c0] 22)).alloc (.cells #[.int .i64 a1] 3)).alloc (.cells #[.int .i64 a2] 3)) W → W.cell? ⟨w.heap.size,0,none⟩ = some (.slice A0 l0.length c0) ∧ W.cell? ⟨w.heap.size + 1,0,none⟩ = some (.int .i64 a1) ∧ W.cell? ⟨w.heap.size + 1 + 1,0,none⟩ = some (.int .i64 a2) := by
    intro W hW
    have e1 := (hW.cell (p := ⟨w.heap.size,0,none⟩) (by show w.heap.size < _; omega))
    have e2 := (hW.cell (p := ⟨w.heap.size + 1,0,none⟩) (by show w.heap.size + 1 < _; omega))
    have e3 := (hW.cell (p := ⟨w.heap.size + 1 + 1,0,none⟩) (by show w.heap.size + 1 + 1 < _; omega))
    rw [e1,e2,e3]
    refine ⟨?_,?_,?_⟩ <;> go_simp
   refine (greatest_calls p 72 #[.pointer (some ⟨w.heap.size,0,none⟩),.pointer (some ⟨w.heap.size + 1,0,none⟩),.pointer (some ⟨w.heap.size + 1 + 1,0,none⟩)] enters72 0 1000000000 _ (by omega) (by omega) (by omega) ?_).mono ?_
   · intro W x hx hW
     have hW' : Below (w.heap.size + 1 + 1 + 1) (((w.alloc (.cells #[.slice A0 l0.length c0] 22)).alloc (.cells #[.int .i64 a1] 3)).alloc (.cells #[.int .i64 a2] 3)) W := hW.mono (by simp); obtain ⟨k1,k2,k3⟩ := c1 W hW'; have := HG'.out W (((((Below.refl _ w).alloc (Nat.le_refl _) _).alloc (by simp) _).alloc (by simp; omega) _).trans (hW'.mono (by omega))) _ _ _ k1 k2 k3 x hx; rw [← hp]; exact this
   · have HP := Zc.mk hp
     clear hp; rintro e w1 ⟨rfl,hb⟩
     go_wp2
     go_ret; exact ⟨rfl,((((Below.refl _ w).alloc (Nat.le_refl _) _).alloc (by simp) _).alloc (by simp; omega) _).trans (hb.mono (by simp; omega))⟩
 · cases h
def Xp.f (k : Nat) (l0 : List S27) (a1 : Int) : Option (Int × Int) :=
 (ZP.f k l0 [a1]).bind fun e => if e = 0 then (if mapOkB l0 = true ∧ 0 ≤ a1 ∧ a1 ≤ 1000000000 then some (per l0 a1,0) else none) else some (0,e)
end Go.Proofs.Ytomlfbmfdoallaa.PA

namespace Go.Proofs.Ytomlfbmfdoallaa.PA
open Go.RowKit Go.Proofs.YtomlfbmfdoallaaW.PrintWords Go.Proofs.YtomlfbmfdoallaaW.PrintLast Go.Proofs.YtomlfbmfdoallaaW.PrintMore
attribute [local go_sem] Xf Xg Xo Xn Xa ZZ Xh Xi
set_option linter.unusedVariables false
set_option linter.unusedSimpArgs false
end Go.Proofs.Ytomlfbmfdoallaa.PA

namespace Go.Proofs.Ytomlfbmfdoallaa.PA
open Go.RowKit Go.Proofs.YtomlfbmfdoallaaW.PrintWords Go.Proofs.YtomlfbmfdoallaaW.PrintLast Go.Proofs.YtomlfbmfdoallaaW.PrintMore
attribute [local go_sem] Xf Xg Xo Xn Xa ZZ Xh Xi
set_option linter.unusedVariables false
set_option linter.unusedSimpArgs false
mutual
def Z4.j0 : Nat → List (S27) → Int → Int → Int → List Int → List Int → Bool → Option (List Int × List Int × Int)
 | 0,_,_,_,_,_,_,_ => none
 | k + 1,x0,x1,x2,x3,x8,x9,x31 => if x31 = true then (some (([] : List Int),([] : List Int),7)) else (if x2 > x1 then ((Xw.f x0 x1 (wrap64 (x2 - 1))).bind fun t335 => ((Xj.f x0 x1 t335).bind fun t336 => (if t336 < x2 then (Z4.j1 k x0 x1 x2 x8 x9 (mn (wrap64 ((wrap64 (x2 + x3)) - 1)) 1000000000) (wrap64 (t335 + 1))) else (Z4.j1 k x0 x1 x2 x8 x9 (mn (wrap64 ((wrap64 (x2 + x3)) - 1)) 1000000000) t335)))) else (Z4.j1 k x0 x1 x2 x8 x9 (mn (wrap64 ((wrap64 (x2 + x3)) - 1)) 1000000000) 0))
def Z4.j1 : Nat → List (S27) → Int → Int → List Int → List Int → Int → Int → Option (List Int × List Int × Int)
 | 0,_,_,_,_,_,_,_ => none
 | k + 1,x0,x1,x2,x8,x9,x12,x13 => Z4.l0 k x0 x1 x2 x8 x9 x12 x13
def Z4.l0 : Nat → List (S27) → Int → Int → List Int → List Int → Int → Int → Option (List Int × List Int × Int)
 | 0,_,_,_,_,_,_,_ => none
 | k + 1,x0,x1,x2,x8,x9,x12,x14 => if x14 ≤ 1000000000 then ((Xj.f x0 x1 x14).bind fun t337 => (if t337 > x12 then (some (x8,x9,0)) else (if (x8.length : Int) = 4096 then (some (([] : List Int),([] : List Int),4)) else (if x8.length < 17592186044416 then (if x9.length < 17592186044416 then (Z4.l0 k x0 x1 x2 (x8 ++ [x14]) (x9 ++ [wrap64 (t337 - x2)]) x12 (wrap64 (x14 + 1))) else (none)) else (none))))) else (some (x8,x9,0))
end
def Z4.f (k : Nat) (l0 : List (S27)) (a1 : Int) (a2 : Int) (a3 : Int) : Option (List Int × List Int × Int) := (ZP.f k l0 (([a1,a2] : List Int))).bind fun t333 => (if t333 = 0 then (if a2 < a1 then (Z4.j0 k l0 a1 a2 a3 ([] : List Int) ([] : List Int) true) else ((Z6.f a3 0 4096).bind fun t334 => (Z4.j0 k l0 a1 a2 a3 ([] : List Int) ([] : List Int) (!t334)))) else (some (([] : List Int),([] : List Int),t333)))
theorem Z4.Xq : ∀ k,(∀ y0 y1 y2 y3 y4 y5 y6,LeO (Z4.j0 k y0 y1 y2 y3 y4 y5 y6) (Z4.j0 (k + 1) y0 y1 y2 y3 y4 y5 y6)) ∧ (∀ y0 y1 y2 y3 y4 y5 y6,LeO (Z4.j1 k y0 y1 y2 y3 y4 y5 y6) (Z4.j1 (k + 1) y0 y1 y2 y3 y4 y5 y6)) ∧ (∀ y0 y1 y2 y3 y4 y5 y6,LeO (Z4.l0 k y0 y1 y2 y3 y4 y5 y6) (Z4.l0 (k + 1) y0 y1 y2 y3 y4 y5 y6))
 | 0 => ⟨fun _ _ _ _ _ _ _ r h => by simp [Z4.j0] at h,fun _ _ _ _ _ _ _ r h => by simp [Z4.j1] at h,fun _ _ _ _ _ _ _ r h => by simp [Z4.l0] at h⟩
 | k + 1 => by
  obtain ⟨ih0,ih1,ih2⟩ := Z4.Xq k; refine ⟨?_,?_,?_⟩
  · intro y0 y1 y2 y3 y4 y5 y6
    unfold Z4.j0
    repeat' first
    | (with_reducible exact ih0 _ _ _ _ _ _ _)
    | (with_reducible exact ih1 _ _ _ _ _ _ _)
    | (with_reducible exact ih2 _ _ _ _ _ _ _)
    | (with_reducible exact ZP.mono _ _ _)
    | (with_reducible exact LeO.refl _)
    | (with_reducible exact LeO.none _)
    | (with_reducible refine LeO.ite ?_ ?_)
    | (with_reducible refine LeO.bind ?_ (fun _ => ?_))
    | exact ih0 _ _ _ _ _ _ _
    | exact ih1 _ _ _ _ _ _ _
    | exact ih2 _ _ _ _ _ _ _
    | exact ZP.mono _ _ _
    | exact LeO.none _
    | refine LeO.ite ?_ ?_
    | refine LeO.bind ?_ (fun _ => ?_)
  · intro y0 y1 y2 y3 y4 y5 y6
    unfold Z4.j1
    repeat' first
    | (with_reducible exact ih0 _ _ _ _ _ _ _)
    | (with_reducible exact ih1 _ _ _ _ _ _ _)
    | (with_reducible exact ih2 _ _ _ _ _ _ _)
    | (with_reducible exact ZP.mono _ _ _)
    | (with_reducible exact LeO.refl _)
    | (with_reducible exact LeO.none _)
    | (with_reducible refine LeO.ite ?_ ?_)
    | (with_reducible refine LeO.bind ?_ (fun _ => ?_))
    | exact ih0 _ _ _ _ _ _ _
    | exact ih1 _ _ _ _ _ _ _
    | exact ih2 _ _ _ _ _ _ _
    | exact ZP.mono _ _ _
    | exact LeO.none _
    | refine LeO.ite ?_ ?_
    | refine LeO.bind ?_ (fun _ => ?_)
  · intro y0 y1 y2 y3 y4 y5 y6
    unfold Z4.l0
    repeat' first
    | (with_reducible exact ih0 _ _ _ _ _ _ _)
    | (with_reducible exact ih1 _ _ _ _ _ _ _)
    | (with_reducible exact ih2 _ _ _ _ _ _ _)
    | (with_reducible exact ZP.mono _ _ _)
    | (with_reducible exact LeO.refl _)
    | (with_reducible exact LeO.none _)
    | (with_reducible refine LeO.ite ?_ ?_)
    | (with_reducible refine LeO.bind ?_ (fun _ => ?_))
    | exact ih0 _ _ _ _ _ _ _
    | exact ih1 _ _ _ _ _ _ _
    | exact ih2 _ _ _ _ _ _ _
    | exact ZP.mono _ _ _
    | exact LeO.none _
    | refine LeO.ite ?_ ?_
    | refine LeO.bind ?_ (fun _ => ?_)
theorem Z4.mono : ∀ a0 a1 a2 a3 k,LeO (Z4.f k a0 a1 a2 a3) (Z4.f (k + 1) a0 a1 a2 a3) := by
 intro a0 a1 a2 a3 k; obtain ⟨ih0,ih1,ih2⟩ := Z4.Xq k; unfold Z4.f
 repeat' first
  | (with_reducible exact ih0 _ _ _ _ _ _ _)
  | (with_reducible exact ih1 _ _ _ _ _ _ _)
  | (with_reducible exact ih2 _ _ _ _ _ _ _)
  | (with_reducible exact ZP.mono _ _ _)
  | (with_reducible exact LeO.refl _)
  | (with_reducible exact LeO.none _)
  | (with_reducible refine LeO.ite ?_ ?_)
  | (with_reducible refine LeO.bind ?_ (fun _ => ?_))
  | exact ih0 _ _ _ _ _ _ _
  | exact ih1 _ _ _ _ _ _ _
  | exact ih2 _ _ _ _ _ _ _
  | exact ZP.mono _ _ _
  | exact LeO.none _
  | refine LeO.ite ?_ ?_
  | refine LeO.bind ?_ (fun _ => ?_)
set_option maxHeartbeats 8000000 in
set_option maxRecDepth 100000 in
theorem Z4.calls (k : Nat) (A0 : Option Addr) (c0 : Nat) (l0 : List (S27)) (a1 : Int) (a2 : Int) (a3 : Int) (r1 : List Int) (r2 : List Int) (r3 : Int) (w : World) (hr0 : Kd.C k27 w A0 l0.length l0) (hc0 : l0.length ≤ c0) (h : Z4.f k l0 a1 a2 a3 = some (r1,r2,r3)) :
 Calls Try.prog 29 #[.slice A0 l0.length c0,.int .i64 a1,.int .i64 a2,.int .i64 a3] w fun e w' => ∃ v0_ v1_ : Value,e = .returned (.tuple #[v0_,v1_,.int .i64 r3]) ∧ Kd.R (Kd.int .i64) 3 w' w.heap.size (fun k_ => some k_ ≠ (v1_ : Value).ownBlock) v0_ r1 ∧ Kd.R (Kd.int .i64) 3 w' w.heap.size (fun k_ => some k_ ≠ (v0_ : Value).ownBlock) v1_ r2 ∧ Below w.heap.size w w' := by
 have HR0 := Zc.mk hr0; have HC0 := Zc.mk hc0; clear hr0 hc0; have HB := Zc.mk (Below.refl w.heap.size w); have H : ((ZP.f k l0 (([a1,a2] : List Int))).bind fun t333 => (if t333 = 0 then (if a2 < a1 then (Z4.j0 k l0 a1 a2 a3 ([] : List Int) ([] : List Int) true) else ((Z6.f a3 0 4096).bind fun t334 => (Z4.j0 k l0 a1 a2 a3 ([] : List Int) ([] : List Int) (!t334)))) else (some (([] : List Int),([] : List Int),t333)))) = some (r1,r2,r3) := h; clear h
 obtain ⟨y330,hy330⟩ : ∃ y_ : List Int,y_ = (([a1,a2] : List Int)) := ⟨_,rfl⟩
 replace H : ((ZP.f k l0 y330).bind fun t333 => (if t333 = 0 then (if a2 < a1 then (Z4.j0 k l0 a1 a2 a3 ([] : List Int) ([] : List Int) true) else ((Z6.f a3 0 4096).bind fun t334 => (Z4.j0 k l0 a1 a2 a3 ([] : List Int) ([] : List Int) (!t334)))) else (some (([] : List Int),([] : List Int),t333)))) = some (r1,r2,r3) := by first | (rw [hy330]; with_reducible exact H) | (have H2_ := (Option.bind_some _ _).symm.trans H; rw [hy330]; with_reducible exact H2_) | (have H2_ := (Option.bind_some _ _).symm.trans H; with_reducible exact H2_) | with_reducible exact H | (rw [hy330]; exact H) | exact H
 have Ny330 := Zc.mk hy330; clear hy330; replace H := Option.bind_eq_some_iff.mp H; obtain ⟨t333,A50,H⟩ := H; replace H : (if t333 = 0 then (if a2 < a1 then (Z4.j0 k l0 a1 a2 a3 ([] : List Int) ([] : List Int) true) else ((Z6.f a3 0 4096).bind fun t334 => (Z4.j0 k l0 a1 a2 a3 ([] : List Int) ([] : List Int) (!t334)))) else (some (([] : List Int),([] : List Int),t333))) = some (r1,r2,r3) := H; have A5 := Zc.mk A50; clear A50
 by_cases c6 : t333 = 0
 · rw [if_pos c6] at H
   have c6b0 : (t333 == 0) = true := beq_iff_eq.mpr c6; have c6b1 : (t333 != 0) = false := bne_eq_false_iff_eq.mpr c6; clear c6; have HC7 := Zc.mk H; clear H
   go_enter Try.func29,Try.ntmps29
   go_upto_region 4 with (first | ((with_reducible refine Xr (N := 19) rfl ?_); refine Kd.R_lit (Kd.int .i64) _ 3 ?hg (N := 19) ?hd (xs := ([a1,a2] : List Int)) (inner := [.int .i64 a1,.int .i64 a2]) (ok := fun _ => True) (okp := fun _ => True) ?hr ?hp (fun _ hk => hk) trivial (Below.refl _ _) (Nat.le_refl _) (by simp) ?_; (case hd => rfl); (case hg => rfl); (case hr => first | (go_simp; done) | (go_simp; rfl)); (case hp => exact (Reps.one (show Kd.M (Kd.int .i64) _ _ _ a1 [.int .i64 a1] from rfl) (Reps.one (show Kd.M (Kd.int .i64) _ _ _ a2 [.int .i64 a2] from rfl) (Reps.none _ _)))); intro v331 w8 ho9 hb hg_ hnew_; clear hg_ hnew_; (first | rw [← Ny330.out] at ho9 | (simp only [Int.reduceToNat] at ho9; rw [← Ny330.out] at ho9)); have n0_ := Zc.mk (Kd.Xs ho9 (ZH (by repeat (first | (with_reducible first | exact HB.out | apply Zd | apply Za | apply Zb) | exact HB.out)))); have n1_ := Zc.mk (Z3 (by repeat (first | (with_reducible first | exact HB.out | apply Zd | apply Za | apply Zb) | exact HB.out)) hb); clear HB; have HO332 := n0_; have HB := n1_; clear n0_ n1_; clear hb ho9; obtain ⟨Ao10,co10,eo10⟩ := Kd.Xd HO332.out; subst eo10) | ((with_reducible refine Z1 (f := 40) rfl ?_); refine ZQ (some 20) rfl rfl Try.func40 (by kernel_rfl) rfl #[.slice A0 l0.length c0,.slice Ao10 y330.length co10] rfl (by (try simp only [List.map_toArray,List.map_cons,List.map_nil]); first | done | rfl | (simp only [List.length_drop,List.length_take]; rfl)) ?_; (with_reducible refine (ZP.calls k _ _ l0 _ _ y330 t333 _ ?side1 ?side2 ?side3 ?side4 A5.out).mono ?_); (case side1 => repeat (first | exact (Kd.ZO HR0.out HB.out) | (with_reducible refine Kd.ZA ?_ _) | (with_reducible refine Kd.Z9 ?_ _) | (with_reducible refine Kd.ZI ?_))); (case side2 => exact HC0.out); (case side3 => repeat (first | exact (Kd.ZL HO332.out).2.2 | (with_reducible refine Kd.ZA ?_ _) | (with_reducible refine Kd.Z9 ?_ _) | (with_reducible refine Kd.ZI ?_))); (case side4 => exact (Kd.ZL HO332.out).2.1); rintro e w11 ⟨rfl,hb⟩; refine ⟨_,rfl,?_⟩; have n0_ := Zc.mk (Kd.Xl (by (with_reducible repeat (first | apply Kd.Zl | apply Kd.Zk | apply Kd.Zs)); exact HO332.out) hb); have n1_ := Zc.mk (Z3 (by repeat (first | (with_reducible first | exact HB.out | apply Zd | apply Za | apply Zb) | exact HB.out)) hb); clear HO332; clear HB; have HO332 := n0_; have HB := n1_; clear n0_ n1_; (try clear hb); (try clear hb2); (try clear hk); (try clear hi)))
   (try simp only [Act.put,YD,YE,YF])
   go_cut [31] (fun v31 wc => ∃ (kq : Nat) (x31_6 : Bool),v31 = .bool x31_6 ∧ Zc (Z4.j0 kq l0 a1 a2 a3 ([] : List Int) ([] : List Int) x31_6 = some (r1,r2,r3)) ∧ Zc (kq ≤ k) ∧ Zc (Kd.R (Kd.int .i64) 3 wc w.heap.size (fun k_ => some k_ ≠ ((.slice none 0 0) : Value).ownBlock) (.slice none 0 0) ([] : List Int)) ∧ Zc (Kd.R (Kd.int .i64) 3 wc w.heap.size (fun k_ => some k_ ≠ ((.slice none 0 0) : Value).ownBlock) (.slice none 0 0) ([] : List Int)) ∧ Zc (Below w.heap.size w wc))
   case first =>
    have H := HC7.out; clear HC7
    by_cases c12 : a2 < a1
    · rw [if_pos c12] at H
      have c12b0 : decide (a2 < a1) = true := decide_eq_true c12; clear c12
      (first | rw [c12b0] | (simp only [i64_w,i32_w]; rw [c12b0]) | skip)
      have H' := Zc.mk H; clear H
      go_wp2
      go_meet
      case rel => exact ⟨_,(true),(by first | rfl | (simp; done) | (simp [*]; done)),H',⟨by first | omega | exact Nat.le_refl _⟩,⟨by first | exact Kd.R_nil _ _ _ _ _ | exact Kd.N_nil _ _ _ _ _ | exact Kd.V_nil _ _ _ _ _ | exact Kd.Q_nil _ _ _ _ _ | exact Kd.S_nil _ _ _ _ _⟩,⟨by first | exact Kd.R_nil _ _ _ _ _ | exact Kd.N_nil _ _ _ _ _ | exact Kd.V_nil _ _ _ _ _ | exact Kd.Q_nil _ _ _ _ _ | exact Kd.S_nil _ _ _ _ _⟩,⟨by repeat (first | (with_reducible first | exact HB.out | apply Zd | apply Za | apply Zb) | exact HB.out)⟩⟩
    · rw [if_neg c12] at H
      have c12b0 : decide (a2 < a1) = false := decide_eq_false c12; clear c12
      (first | rw [c12b0] | (simp only [i64_w,i32_w]; rw [c12b0]) | skip)
      replace H := Option.bind_eq_some_iff.mp H; obtain ⟨t334,A130,H⟩ := H; replace H : (Z4.j0 k l0 a1 a2 a3 ([] : List Int) ([] : List Int) (!t334)) = some (r1,r2,r3) := H; have A13 := Zc.mk A130; clear A130; have H' := Zc.mk H; clear H
      go_wp2_with (first | (go_at_call 43; (with_reducible refine (Z6.calls a3 0 4096 t334 _ A13.out).mono ?_); rintro e w' ⟨rfl,⟨nd,rfl⟩⟩))
      go_meet
      case rel => exact ⟨_,(!t334),(by first | rfl | (simp; done) | (simp [*]; done)),H',⟨by first | omega | exact Nat.le_refl _⟩,⟨by first | exact Kd.R_nil _ _ _ _ _ | exact Kd.N_nil _ _ _ _ _ | exact Kd.V_nil _ _ _ _ _ | exact Kd.Q_nil _ _ _ _ _ | exact Kd.S_nil _ _ _ _ _⟩,⟨by first | exact Kd.R_nil _ _ _ _ _ | exact Kd.N_nil _ _ _ _ _ | exact Kd.V_nil _ _ _ _ _ | exact Kd.Q_nil _ _ _ _ _ | exact Kd.S_nil _ _ _ _ _⟩,⟨by repeat (first | (with_reducible first | exact HB.out | apply Zd | apply Za | apply Zb) | exact HB.out)⟩⟩
   case rest =>
    clear HC7
    (try clear c1); (try clear c2); (try clear p2); (try clear c4); (try clear c6); (try clear c6b0); (try clear c6b1); (try clear c12); (try clear c12b0)
    obtain ⟨kq,x31_6,rfl,HA,HJ6,HO_8,HO_9,HB⟩ := hcut
    cases kq with
    | zero => exact absurd HA.out (by simp [Z4.j0])
    | succ kj6 =>
     have H := HA.out; clear HA; simp only [Z4.j0] at H
     by_cases c14 : x31_6 = true
     · subst c14
       have H1 : (some (([] : List Int),([] : List Int),7)) = some (r1,r2,r3) := by rw [if_pos rfl] at H; exact H
       clear H; have H := H1; clear H1; simp only [Option.some.injEq,Prod.mk.injEq] at H; obtain ⟨rfl,rfl,rfl⟩ := H
       go_wp2
       go_ret3
       exact ⟨_,_,by first | rfl | (simp [Zv,Zu] <;> rfl) | (simp [*,Zv,Zu] <;> rfl),by first | exact Kd.R_nil _ _ _ _ _ | exact Kd.N_nil _ _ _ _ _ | exact Kd.V_nil _ _ _ _ _ | exact Kd.Q_nil _ _ _ _ _ | exact Kd.S_nil _ _ _ _ _,by first | exact Kd.R_nil _ _ _ _ _ | exact Kd.N_nil _ _ _ _ _ | exact Kd.V_nil _ _ _ _ _ | exact Kd.Q_nil _ _ _ _ _ | exact Kd.S_nil _ _ _ _ _,by repeat (first | (with_reducible first | exact HB.out | apply Zd | apply Za | apply Zb) | exact HB.out)⟩
     · replace c14 := Bool.eq_false_iff.mpr c14
       subst c14
       have H1 : (if a2 > a1 then ((Xw.f l0 a1 (wrap64 (a2 - 1))).bind fun t335 => ((Xj.f l0 a1 t335).bind fun t336 => (if t336 < a2 then (Z4.j1 kj6 l0 a1 a2 ([] : List Int) ([] : List Int) (mn (wrap64 ((wrap64 (a2 + a3)) - 1)) 1000000000) (wrap64 (t335 + 1))) else (Z4.j1 kj6 l0 a1 a2 ([] : List Int) ([] : List Int) (mn (wrap64 ((wrap64 (a2 + a3)) - 1)) 1000000000) t335)))) else (Z4.j1 kj6 l0 a1 a2 ([] : List Int) ([] : List Int) (mn (wrap64 ((wrap64 (a2 + a3)) - 1)) 1000000000) 0)) = some (r1,r2,r3) := by rw [if_neg (show ¬ (false = true) by decide)] at H; exact H
       clear H; have H := H1; clear H1
       obtain ⟨ji15,hji15⟩ : ∃ j_ : Int,(mn (wrap64 ((wrap64 (a2 + a3)) - 1)) 1000000000) = j_ := ⟨_,rfl⟩
       replace H : (if a2 > a1 then ((Xw.f l0 a1 (wrap64 (a2 - 1))).bind fun t335 => ((Xj.f l0 a1 t335).bind fun t336 => (if t336 < a2 then (Z4.j1 kj6 l0 a1 a2 ([] : List Int) ([] : List Int) ji15 (wrap64 (t335 + 1))) else (Z4.j1 kj6 l0 a1 a2 ([] : List Int) ([] : List Int) ji15 t335)))) else (Z4.j1 kj6 l0 a1 a2 ([] : List Int) ([] : List Int) ji15 0)) = some (r1,r2,r3) := by first | (rw [hji15] at H; exact H) | (simp only [hji15] at H ⊢; exact H)
       have hji15_ : (if 1000000000 < (wrap64 ((wrap64 (a2 + a3)) - 1)) then 1000000000 else (wrap64 ((wrap64 (a2 + a3)) - 1))) = ji15 := hji15; have HC16 := Zc.mk H; clear H
       go_upto_if 39 with (fail)
       go_cut [13] (fun v13 wc => ∃ (kq : Nat) (x13_15 : Int),v13 = .int .i64 x13_15 ∧ Zc (Z4.j1 kq l0 a1 a2 ([] : List Int) ([] : List Int) ji15 x13_15 = some (r1,r2,r3)) ∧ Zc (kq ≤ kj6) ∧ Zc (Kd.R (Kd.int .i64) 3 wc w.heap.size (fun k_ => some k_ ≠ ((.slice none 0 0) : Value).ownBlock) (.slice none 0 0) ([] : List Int)) ∧ Zc (Kd.R (Kd.int .i64) 3 wc w.heap.size (fun k_ => some k_ ≠ ((.slice none 0 0) : Value).ownBlock) (.slice none 0 0) ([] : List Int)) ∧ Zc (Below w.heap.size w wc))
       case first =>
        have H := HC16.out; clear HC16
        by_cases c17 : a2 > a1
        · rw [if_pos c17] at H
          have c17b0 : decide (a1 < a2) = true := decide_eq_true c17; clear c17
          (first | rw [c17b0] | (simp only [i64_w,i32_w]; rw [c17b0]) | skip)
          replace H := Option.bind_eq_some_iff.mp H; obtain ⟨t335,A180,H⟩ := H; replace H : ((Xj.f l0 a1 t335).bind fun t336 => (if t336 < a2 then (Z4.j1 kj6 l0 a1 a2 ([] : List Int) ([] : List Int) ji15 (wrap64 (t335 + 1))) else (Z4.j1 kj6 l0 a1 a2 ([] : List Int) ([] : List Int) ji15 t335))) = some (r1,r2,r3) := H; have A18 := Zc.mk A180; clear A180; replace H := Option.bind_eq_some_iff.mp H; obtain ⟨t336,A190,H⟩ := H; replace H : (if t336 < a2 then (Z4.j1 kj6 l0 a1 a2 ([] : List Int) ([] : List Int) ji15 (wrap64 (t335 + 1))) else (Z4.j1 kj6 l0 a1 a2 ([] : List Int) ([] : List Int) ji15 t335)) = some (r1,r2,r3) := H; have A19 := Zc.mk A190; clear A190
          by_cases c20 : t336 < a2
          · rw [if_pos c20] at H
            have c20b0 : decide (t336 < a2) = true := decide_eq_true c20; clear c20; have H' := Zc.mk H; clear H
            go_wp2_with (first | ((with_reducible refine Z1 (f := 54) rfl ?_); refine ZQ (some 44) rfl rfl Try.func54 (by kernel_rfl) rfl #[.slice A0 l0.length c0,.int .i64 a1,.int .i64 (wrap64 (a2 - 1))] rfl (by (try simp only [List.map_toArray,List.map_cons,List.map_nil]); first | done | rfl | (simp only [List.length_drop,List.length_take]; rfl)) ?_; (with_reducible refine (Xw.calls _ _ l0 a1 (wrap64 (a2 - 1)) t335 _ ?side1 ?side2 A18.out).mono ?_); (case side1 => repeat (first | exact (Kd.ZO HR0.out HB.out) | (with_reducible refine Kd.ZA ?_ _) | (with_reducible refine Kd.Z9 ?_ _) | (with_reducible refine Kd.ZI ?_))); (case side2 => exact HC0.out); rintro e w21 ⟨rfl,hb⟩; refine ⟨_,rfl,?_⟩; have n0_ := Zc.mk (Kd.Xl (by (with_reducible repeat (first | apply Kd.Zl | apply Kd.Zk | apply Kd.Zs)); exact HO_8.out) hb); have n1_ := Zc.mk (Kd.Xl (by (with_reducible repeat (first | apply Kd.Zl | apply Kd.Zk | apply Kd.Zs)); exact HO_9.out) hb); have n2_ := Zc.mk (Z3 (by repeat (first | (with_reducible first | exact HB.out | apply Zd | apply Za | apply Zb) | exact HB.out)) hb); clear HO_8; clear HO_9; clear HB; have HO_8 := n0_; have HO_9 := n1_; have HB := n2_; clear n0_ n1_ n2_; (try clear hb); (try clear hb2); (try clear hk); (try clear hi)) | ((with_reducible refine Z1 (f := 42) rfl ?_); refine ZQ (some 48) rfl rfl Try.func42 (by kernel_rfl) rfl #[.slice A0 l0.length c0,.int .i64 a1,.int .i64 t335] rfl (by (try simp only [List.map_toArray,List.map_cons,List.map_nil]); first | done | rfl | (simp only [List.length_drop,List.length_take]; rfl)) ?_; (with_reducible refine (Xj.calls _ _ l0 a1 t335 t336 _ ?side1 ?side2 A19.out).mono ?_); (case side1 => repeat (first | exact (Kd.ZO HR0.out HB.out) | (with_reducible refine Kd.ZA ?_ _) | (with_reducible refine Kd.Z9 ?_ _) | (with_reducible refine Kd.ZI ?_))); (case side2 => exact HC0.out); rintro e w22 ⟨rfl,hb⟩; refine ⟨_,rfl,?_⟩; have n0_ := Zc.mk (Kd.Xl (by (with_reducible repeat (first | apply Kd.Zl | apply Kd.Zk | apply Kd.Zs)); exact HO_8.out) hb); have n1_ := Zc.mk (Kd.Xl (by (with_reducible repeat (first | apply Kd.Zl | apply Kd.Zk | apply Kd.Zs)); exact HO_9.out) hb); have n2_ := Zc.mk (Z3 (by repeat (first | (with_reducible first | exact HB.out | apply Zd | apply Za | apply Zb) | exact HB.out)) hb); clear HO_8; clear HO_9; clear HB; have HO_8 := n0_; have HO_9 := n1_; have HB := n2_; clear n0_ n1_ n2_; (try clear hb); (try clear hb2); (try clear hk); (try clear hi)))
            go_meet
            case rel => exact ⟨_,(wrap64 (t335 + 1)),(by first | rfl | (simp; done) | (simp [*]; done)),H',⟨by have := HJ6.out; first | omega | exact Nat.le_refl _⟩,⟨by (with_reducible repeat (first | apply Kd.Zl | apply Kd.Zk | apply Kd.Zs)); exact HO_8.out⟩,⟨by (with_reducible repeat (first | apply Kd.Zl | apply Kd.Zk | apply Kd.Zs)); exact HO_9.out⟩,⟨by repeat (first | (with_reducible first | exact HB.out | apply Zd | apply Za | apply Zb) | exact HB.out)⟩⟩
          · rw [if_neg c20] at H
            have c20b0 : decide (t336 < a2) = false := decide_eq_false c20; clear c20; have H' := Zc.mk H; clear H
            go_wp2_with (first | ((with_reducible refine Z1 (f := 54) rfl ?_); refine ZQ (some 44) rfl rfl Try.func54 (by kernel_rfl) rfl #[.slice A0 l0.length c0,.int .i64 a1,.int .i64 (wrap64 (a2 - 1))] rfl (by (try simp only [List.map_toArray,List.map_cons,List.map_nil]); first | done | rfl | (simp only [List.length_drop,List.length_take]; rfl)) ?_; (with_reducible refine (Xw.calls _ _ l0 a1 (wrap64 (a2 - 1)) t335 _ ?side1 ?side2 A18.out).mono ?_); (case side1 => repeat (first | exact (Kd.ZO HR0.out HB.out) | (with_reducible refine Kd.ZA ?_ _) | (with_reducible refine Kd.Z9 ?_ _) | (with_reducible refine Kd.ZI ?_))); (case side2 => exact HC0.out); rintro e w23 ⟨rfl,hb⟩; refine ⟨_,rfl,?_⟩; have n0_ := Zc.mk (Kd.Xl (by (with_reducible repeat (first | apply Kd.Zl | apply Kd.Zk | apply Kd.Zs)); exact HO_8.out) hb); have n1_ := Zc.mk (Kd.Xl (by (with_reducible repeat (first | apply Kd.Zl | apply Kd.Zk | apply Kd.Zs)); exact HO_9.out) hb); have n2_ := Zc.mk (Z3 (by repeat (first | (with_reducible first | exact HB.out | apply Zd | apply Za | apply Zb) | exact HB.out)) hb); clear HO_8; clear HO_9; clear HB; have HO_8 := n0_; have HO_9 := n1_; have HB := n2_; clear n0_ n1_ n2_; (try clear hb); (try clear hb2); (try clear hk); (try clear hi)) | ((with_reducible refine Z1 (f := 42) rfl ?_); refine ZQ (some 48) rfl rfl Try.func42 (by kernel_rfl) rfl #[.slice A0 l0.length c0,.int .i64 a1,.int .i64 t335] rfl (by (try simp only [List.map_toArray,List.map_cons,List.map_nil]); first | done | rfl | (simp only [List.length_drop,List.length_take]; rfl)) ?_; (with_reducible refine (Xj.calls _ _ l0 a1 t335 t336 _ ?side1 ?side2 A19.out).mono ?_); (case side1 => repeat (first | exact (Kd.ZO HR0.out HB.out) | (with_reducible refine Kd.ZA ?_ _) | (with_reducible refine Kd.Z9 ?_ _) | (with_reducible refine Kd.ZI ?_))); (case side2 => exact HC0.out); rintro e w24 ⟨rfl,hb⟩; refine ⟨_,rfl,?_⟩; have n0_ := Zc.mk (Kd.Xl (by (with_reducible repeat (first | apply Kd.Zl | apply Kd.Zk | apply Kd.Zs)); exact HO_8.out) hb); have n1_ := Zc.mk (Kd.Xl (by (with_reducible repeat (first | apply Kd.Zl | apply Kd.Zk | apply Kd.Zs)); exact HO_9.out) hb); have n2_ := Zc.mk (Z3 (by repeat (first | (with_reducible first | exact HB.out | apply Zd | apply Za | apply Zb) | exact HB.out)) hb); clear HO_8; clear HO_9; clear HB; have HO_8 := n0_; have HO_9 := n1_; have HB := n2_; clear n0_ n1_ n2_; (try clear hb); (try clear hb2); (try clear hk); (try clear hi)))
            go_meet
            case rel => exact ⟨_,(t335),(by first | rfl | (simp; done) | (simp [*]; done)),H',⟨by have := HJ6.out; first | omega | exact Nat.le_refl _⟩,⟨by (with_reducible repeat (first | apply Kd.Zl | apply Kd.Zk | apply Kd.Zs)); exact HO_8.out⟩,⟨by (with_reducible repeat (first | apply Kd.Zl | apply Kd.Zk | apply Kd.Zs)); exact HO_9.out⟩,⟨by repeat (first | (with_reducible first | exact HB.out | apply Zd | apply Za | apply Zb) | exact HB.out)⟩⟩
        · rw [if_neg c17] at H
          have c17b0 : decide (a1 < a2) = false := decide_eq_false c17; clear c17
          (first | rw [c17b0] | (simp only [i64_w,i32_w]; rw [c17b0]) | skip)
          have H' := Zc.mk H; clear H
          go_wp2
          go_meet
          case rel => exact ⟨_,(0),(by first | rfl | (simp; done) | (simp [*]; done)),H',⟨by have := HJ6.out; first | omega | exact Nat.le_refl _⟩,⟨by (with_reducible repeat (first | apply Kd.Zl | apply Kd.Zk | apply Kd.Zs)); exact HO_8.out⟩,⟨by (with_reducible repeat (first | apply Kd.Zl | apply Kd.Zk | apply Kd.Zs)); exact HO_9.out⟩,⟨by repeat (first | (with_reducible first | exact HB.out | apply Zd | apply Za | apply Zb) | exact HB.out)⟩⟩
       case rest =>
        clear HC16
        (try clear c1); (try clear c2); (try clear p2); (try clear c4); (try clear c5); (try clear c6); (try clear c6b0); (try clear c6b1); (try clear p6); (try clear c12); (try clear c12b0); (try clear c14); (try clear c17); (try clear c17b0); (try clear c20); (try clear c20b0); (try clear p2)
        obtain ⟨kq,x13_15,rfl,HA,HJ15,HO_8,HO_9,HB⟩ := hcut
        cases kq with
        | zero => exact absurd HA.out (by simp [Z4.j1])
        | succ kj15 =>
         have H := HA.out; clear HA; simp only [Z4.j1] at H; have H' := Zc.mk H; clear H
         go_wp2
         go_loopg [8,9,14] kj15 (fun kq v8 v9 v14 w' => ∃ (x8_3 : List Int) (x9_3 : List Int) (x14_3 : Int),v14 = .int .i64 x14_3 ∧ Zc (Z4.l0 kq l0 a1 a2 x8_3 x9_3 ji15 x14_3 = some (r1,r2,r3)) ∧ Zc (kq ≤ kj15) ∧ Zc (Kd.R (Kd.int .i64) 3 w' w.heap.size (fun k_ => some k_ ≠ (v9 : Value).ownBlock) v8 x8_3) ∧ Zc (Kd.R (Kd.int .i64) 3 w' w.heap.size (fun k_ => some k_ ≠ (v8 : Value).ownBlock) v9 x9_3) ∧ Zc (Below w.heap.size w w'))
         case atStart => exact ⟨(([] : List Int)),(([] : List Int)),(x13_15),(by first | rfl | (simp; done) | (simp [*]; done)),H',⟨Nat.le_refl _⟩,⟨by (with_reducible repeat (first | apply Kd.Zl | apply Kd.Zk | apply Kd.Zs)); exact HO_8.out⟩,⟨by (with_reducible repeat (first | apply Kd.Zl | apply Kd.Zk | apply Kd.Zs)); exact HO_9.out⟩,⟨by repeat (first | (with_reducible first | exact HB.out | apply Zd | apply Za | apply Zb) | exact HB.out)⟩⟩
         case round =>
          clear H'
          (try clear c1); (try clear c2); (try clear p2); (try clear c4); (try clear c5); (try clear c6); (try clear c6b0); (try clear c6b1); (try clear p6); (try clear c12); (try clear c12b0); (try clear c14); (try clear c17); (try clear c17b0); (try clear c20); (try clear c20b0); (try clear p2); (try clear p6)
          obtain ⟨x8_3,x9_3,x14_3,rfl,HA,HK3,HO_8,HO_9,HB⟩ := hrel
          cases gk with
          | zero => exact absurd HA.out (by simp [Z4.l0])
          | succ k3 =>
           have H := HA.out; clear HA; simp only [Z4.l0] at H
           by_cases c25 : x14_3 ≤ 1000000000
           · rw [if_pos c25] at H
             have c25b0 : decide (x14_3 ≤ 1000000000) = true := decide_eq_true c25; clear c25; replace H := Option.bind_eq_some_iff.mp H; obtain ⟨t337,A260,H⟩ := H; replace H : (if t337 > ji15 then (some (x8_3,x9_3,0)) else (if (x8_3.length : Int) = 4096 then (some (([] : List Int),([] : List Int),4)) else (if x8_3.length < 17592186044416 then (if x9_3.length < 17592186044416 then (Z4.l0 k3 l0 a1 a2 (x8_3 ++ [x14_3]) (x9_3 ++ [wrap64 (t337 - a2)]) ji15 (wrap64 (x14_3 + 1))) else (none)) else (none)))) = some (r1,r2,r3) := H; have A26 := Zc.mk A260; clear A260
             by_cases c27 : t337 > ji15
             · rw [if_pos c27] at H
               have c27b0 : decide (ji15 < t337) = true := decide_eq_true c27; clear c27; simp only [Option.some.injEq,Prod.mk.injEq] at H; obtain ⟨rfl,rfl,rfl⟩ := H
               go_wp2_with (first | ((with_reducible refine Z1 (f := 42) rfl ?_); refine ZQ (some 61) rfl rfl Try.func42 (by kernel_rfl) rfl #[.slice A0 l0.length c0,.int .i64 a1,.int .i64 x14_3] rfl (by (try simp only [List.map_toArray,List.map_cons,List.map_nil]); first | done | rfl | (simp only [List.length_drop,List.length_take]; rfl)) ?_; (with_reducible refine (Xj.calls _ _ l0 a1 x14_3 t337 _ ?side1 ?side2 A26.out).mono ?_); (case side1 => repeat (first | exact (Kd.ZO HR0.out HB.out) | (with_reducible refine Kd.ZA ?_ _) | (with_reducible refine Kd.Z9 ?_ _) | (with_reducible refine Kd.ZI ?_))); (case side2 => exact HC0.out); rintro e w28 ⟨rfl,hb⟩; refine ⟨_,rfl,?_⟩; have n0_ := Zc.mk (Kd.Xl (by (with_reducible repeat (first | apply Kd.Zl | apply Kd.Zk | apply Kd.Zs)); exact HO_8.out) hb); have n1_ := Zc.mk (Kd.Xl (by (with_reducible repeat (first | apply Kd.Zl | apply Kd.Zk | apply Kd.Zs)); exact HO_9.out) hb); have n2_ := Zc.mk (Z3 (by repeat (first | (with_reducible first | exact HB.out | apply Zd | apply Za | apply Zb) | exact HB.out)) hb); clear HO_8; clear HO_9; clear HB; have HO_8 := n0_; have HO_9 := n1_; have HB := n2_; clear n0_ n1_ n2_; (try clear hb); (try clear hb2); (try clear hk); (try clear hi)))
               go_ret3
               exact ⟨_,_,by first | rfl | (simp [Zv,Zu] <;> rfl) | (simp only [← hji15]; first | rfl | (simp [Zv,Zu] <;> rfl)) | (simp [*,Zv,Zu] <;> rfl),by (with_reducible repeat (first | apply Kd.Zl | apply Kd.Zk | apply Kd.Zs)); exact HO_8.out,by (with_reducible repeat (first | apply Kd.Zl | apply Kd.Zk | apply Kd.Zs)); exact HO_9.out,by repeat (first | (with_reducible first | exact HB.out | apply Zd | apply Za | apply Zb) | exact HB.out)⟩
             · rw [if_neg c27] at H
               have c27b0 : decide (ji15 < t337) = false := decide_eq_false c27; clear c27
               by_cases c29 : (x8_3.length : Int) = 4096
               · rw [if_pos c29] at H
                 have c29b0 : ((x8_3.length : Int) == 4096) = true := beq_iff_eq.mpr c29; have c29b1 : ((x8_3.length : Int) != 4096) = false := bne_eq_false_iff_eq.mpr c29; clear c29; simp only [Option.some.injEq,Prod.mk.injEq] at H; obtain ⟨rfl,rfl,rfl⟩ := H
                 go_wp2_with (first | ((with_reducible refine Z1 (f := 42) rfl ?_); refine ZQ (some 61) rfl rfl Try.func42 (by kernel_rfl) rfl #[.slice A0 l0.length c0,.int .i64 a1,.int .i64 x14_3] rfl (by (try simp only [List.map_toArray,List.map_cons,List.map_nil]); first | done | rfl | (simp only [List.length_drop,List.length_take]; rfl)) ?_; (with_reducible refine (Xj.calls _ _ l0 a1 x14_3 t337 _ ?side1 ?side2 A26.out).mono ?_); (case side1 => repeat (first | exact (Kd.ZO HR0.out HB.out) | (with_reducible refine Kd.ZA ?_ _) | (with_reducible refine Kd.Z9 ?_ _) | (with_reducible refine Kd.ZI ?_))); (case side2 => exact HC0.out); rintro e w30 ⟨rfl,hb⟩; refine ⟨_,rfl,?_⟩; have n0_ := Zc.mk (Kd.Xl (by (with_reducible repeat (first | apply Kd.Zl | apply Kd.Zk | apply Kd.Zs)); exact HO_8.out) hb); have n1_ := Zc.mk (Kd.Xl (by (with_reducible repeat (first | apply Kd.Zl | apply Kd.Zk | apply Kd.Zs)); exact HO_9.out) hb); have n2_ := Zc.mk (Z3 (by repeat (first | (with_reducible first | exact HB.out | apply Zd | apply Za | apply Zb) | exact HB.out)) hb); clear HO_8; clear HO_9; clear HB; have HO_8 := n0_; have HO_9 := n1_; have HB := n2_; clear n0_ n1_ n2_; (try clear hb); (try clear hb2); (try clear hk); (try clear hi); obtain ⟨Ao31,co31,eo31⟩ := Kd.Xd HO_8.out; subst eo31))
                 go_ret3
                 exact ⟨_,_,by first | rfl | (simp [Zv,Zu] <;> rfl) | (simp only [← hji15]; first | rfl | (simp [Zv,Zu] <;> rfl)) | (simp [*,Zv,Zu] <;> rfl),by first | exact Kd.R_nil _ _ _ _ _ | exact Kd.N_nil _ _ _ _ _ | exact Kd.V_nil _ _ _ _ _ | exact Kd.Q_nil _ _ _ _ _ | exact Kd.S_nil _ _ _ _ _,by first | exact Kd.R_nil _ _ _ _ _ | exact Kd.N_nil _ _ _ _ _ | exact Kd.V_nil _ _ _ _ _ | exact Kd.Q_nil _ _ _ _ _ | exact Kd.S_nil _ _ _ _ _,by repeat (first | (with_reducible first | exact HB.out | apply Zd | apply Za | apply Zb) | exact HB.out)⟩
               · rw [if_neg c29] at H
                 have c29b0 : ((x8_3.length : Int) == 4096) = false := beq_eq_false_iff_ne.mpr c29; have c29b1 : ((x8_3.length : Int) != 4096) = true := bne_iff_ne.mpr c29
                 by_cases c32 : x8_3.length < 17592186044416
                 · rw [if_pos c32] at H
                   have LMc32 := Zc.mk c32; clear c32
                   obtain ⟨y338,hy338⟩ : ∃ y_ : List Int,y_ = (x8_3 ++ [x14_3]) := ⟨_,rfl⟩
                   replace H : (if x9_3.length < 17592186044416 then (Z4.l0 k3 l0 a1 a2 y338 (x9_3 ++ [wrap64 (t337 - a2)]) ji15 (wrap64 (x14_3 + 1))) else (none)) = some (r1,r2,r3) := by first | (rw [hy338]; with_reducible exact H) | (have H2_ := (Option.bind_some _ _).symm.trans H; rw [hy338]; with_reducible exact H2_) | (have H2_ := (Option.bind_some _ _).symm.trans H; with_reducible exact H2_) | with_reducible exact H | (rw [hy338]; exact H) | exact H
                   have Ny338 := Zc.mk hy338; clear hy338
                   by_cases c33 : x9_3.length < 17592186044416
                   · rw [if_pos c33] at H
                     have LMc33 := Zc.mk c33; clear c33
                     obtain ⟨y341,hy341⟩ : ∃ y_ : List Int,y_ = (x9_3 ++ [wrap64 (t337 - a2)]) := ⟨_,rfl⟩
                     replace H : (Z4.l0 k3 l0 a1 a2 y338 y341 ji15 (wrap64 (x14_3 + 1))) = some (r1,r2,r3) := by first | (rw [hy341]; with_reducible exact H) | (have H2_ := (Option.bind_some _ _).symm.trans H; rw [hy341]; with_reducible exact H2_) | (have H2_ := (Option.bind_some _ _).symm.trans H; with_reducible exact H2_) | with_reducible exact H | (rw [hy341]; exact H) | exact H
                     have Ny341 := Zc.mk hy341; clear hy341; have H' := Zc.mk H; clear H
                     go_wp2_with (first | ((with_reducible refine Z1 (f := 42) rfl ?_); refine ZQ (some 61) rfl rfl Try.func42 (by kernel_rfl) rfl #[.slice A0 l0.length c0,.int .i64 a1,.int .i64 x14_3] rfl (by (try simp only [List.map_toArray,List.map_cons,List.map_nil]); first | done | rfl | (simp only [List.length_drop,List.length_take]; rfl)) ?_; (with_reducible refine (Xj.calls _ _ l0 a1 x14_3 t337 _ ?side1 ?side2 A26.out).mono ?_); (case side1 => repeat (first | exact (Kd.ZO HR0.out HB.out) | (with_reducible refine Kd.ZA ?_ _) | (with_reducible refine Kd.Z9 ?_ _) | (with_reducible refine Kd.ZI ?_))); (case side2 => exact HC0.out); rintro e w34 ⟨rfl,hb⟩; refine ⟨_,rfl,?_⟩; have n0_ := Zc.mk (Kd.Xl (by (with_reducible repeat (first | apply Kd.Zl | apply Kd.Zk | apply Kd.Zs)); exact HO_8.out) hb); have n1_ := Zc.mk (Kd.Xl (by (with_reducible repeat (first | apply Kd.Zl | apply Kd.Zk | apply Kd.Zs)); exact HO_9.out) hb); have n2_ := Zc.mk (Z3 (by repeat (first | (with_reducible first | exact HB.out | apply Zd | apply Za | apply Zb) | exact HB.out)) hb); clear HO_8; clear HO_9; clear HB; have HO_8 := n0_; have HO_9 := n1_; have HB := n2_; clear n0_ n1_ n2_; (try clear hb); (try clear hb2); (try clear hk); (try clear hi); obtain ⟨Ao35,co35,eo35⟩ := Kd.Xd HO_8.out; subst eo35) | ((with_reducible refine X8 (b := .append) (xs := #[.tmp 68,.tmp 70]) rfl ?_); at_builtin; refine Kd.XY (Kd.int .i64) (w0 := w) w.heap.size rfl (.tmp 68) (.tmp 70) 46 3 (.int .i64 0) 8 rfl Try.underlying46 info3 rfl (by decide) (by omega) (.slice Ao35 x8_3.length co35) x8_3 x14_3 [.int .i64 x14_3] (fun k_ => some k_ ≠ (u9 : Value).ownBlock) (fun _ => False) rfl rfl ?aP (fun _ hk => hk.elim) ?aF ?aO ?aB ?aS ?aL ?_; (case aP => exact rfl); (case aB => exact (by repeat (first | (with_reducible first | exact HB.out | apply Zd | apply Za | apply Zb) | exact HB.out))); (case aF => exact (fun k_ hk => Kd.fresh' (Kd.R_lt (by (with_reducible repeat (first | apply Kd.Zl | apply Kd.Zk | apply Kd.Zs)); exact HO_9.out)) k_ hk)); (case aO => exact (by (with_reducible repeat (first | apply Kd.Zl | apply Kd.Zk | apply Kd.Zs)); exact HO_8.out)); (case aS => exact (ZH (by repeat (first | (with_reducible first | exact HB.out | apply Zd | apply Za | apply Zb) | exact HB.out)))); (case aL => have := LMc32.out; omega); intro v339 w36 ho hb hg hat; rw [← Ny338.out] at ho; have n0_ := Zc.mk (Kd.Xt (ok := (fun _ => True)) (by (with_reducible repeat (first | apply Kd.Zl | apply Kd.Zk | apply Kd.Zs)); exact Kd.ZN HO_9.out (fun _ hk => ⟨trivial,hk⟩)) hg hat); have n1_ := Zc.mk (hb); have n2_ := Zc.mk (ho); clear HO_9; clear HB; clear HO_8; have HO_9 := n0_; have HB := n1_; have HO340 := n2_; clear n0_ n1_ n2_; clear ho hb hg hat) | ((with_reducible refine X8 (b := .append) (xs := #[.tmp 72,.tmp 76]) rfl ?_); at_builtin; refine Kd.XY (Kd.int .i64) (w0 := w) w.heap.size rfl (.tmp 72) (.tmp 76) 46 3 (.int .i64 0) 8 rfl Try.underlying46 info3 rfl (by decide) (by omega) u9 x9_3 (wrap64 (t337 - a2)) [.int .i64 (wrap64 (t337 - a2))] (fun k_ => some k_ ≠ (v339 : Value).ownBlock) (fun _ => False) rfl rfl ?aP (fun _ hk => hk.elim) ?aF ?aO ?aB ?aS ?aL ?_; (case aP => exact rfl); (case aB => exact (by repeat (first | (with_reducible first | exact HB.out | apply Zd | apply Za | apply Zb) | exact HB.out))); (case aF => exact (fun k_ hk => Kd.fresh' (Kd.R_lt (by (with_reducible repeat (first | apply Kd.Zl | apply Kd.Zk | apply Kd.Zs)); exact HO340.out)) k_ hk)); (case aO => exact (by (with_reducible repeat (first | apply Kd.Zl | apply Kd.Zk | apply Kd.Zs)); exact Kd.ZN HO_9.out (fun _ hk => hk.2))); (case aS => exact (ZH (by repeat (first | (with_reducible first | exact HB.out | apply Zd | apply Za | apply Zb) | exact HB.out)))); (case aL => have := LMc33.out; omega); intro v342 w37 ho hb hg hat; rw [← Ny341.out] at ho; have n0_ := Zc.mk (Kd.Xt (ok := (fun _ => True)) (by (with_reducible repeat (first | apply Kd.Zl | apply Kd.Zk | apply Kd.Zs)); exact Kd.ZN HO340.out (fun _ hk => ⟨trivial,hk⟩)) hg hat); have n1_ := Zc.mk (hb); have n2_ := Zc.mk (ho); clear HO340; clear HB; clear HO_9; have HO340 := n0_; have HB := n1_; have HO343 := n2_; clear n0_ n1_ n2_; clear ho hb hg hat))
                     go_roundg k3
                     case measure => have := HJ6.out; have := HJ15.out; have := HK3.out; omega
                     case rel => exact ⟨(y338),(y341),(wrap64 (x14_3 + 1)),(by first | rfl | (simp; done) | (simp [*]; done)),H',⟨by have := HJ6.out; have := HJ15.out; have := HK3.out; omega⟩,⟨by (with_reducible repeat (first | apply Kd.Zl | apply Kd.Zk | apply Kd.Zs)); exact Kd.ZN HO340.out (fun _ hk => hk.2)⟩,⟨by (with_reducible repeat (first | apply Kd.Zl | apply Kd.Zk | apply Kd.Zs)); exact HO343.out⟩,⟨by repeat (first | (with_reducible first | exact HB.out | apply Zd | apply Za | apply Zb) | exact HB.out)⟩⟩
                   · rw [if_neg c33] at H
                     exact absurd H (by simp)
                 · rw [if_neg c32] at H
                   exact absurd H (by simp)
           · rw [if_neg c25] at H
             have c25b0 : decide (x14_3 ≤ 1000000000) = false := decide_eq_false c25; clear c25; simp only [Option.some.injEq,Prod.mk.injEq] at H; obtain ⟨rfl,rfl,rfl⟩ := H
             go_wp2
             go_ret3
             exact ⟨_,_,by first | rfl | (simp [Zv,Zu] <;> rfl) | (simp only [← hji15]; first | rfl | (simp [Zv,Zu] <;> rfl)) | (simp [*,Zv,Zu] <;> rfl),by (with_reducible repeat (first | apply Kd.Zl | apply Kd.Zk | apply Kd.Zs)); exact HO_8.out,by (with_reducible repeat (first | apply Kd.Zl | apply Kd.Zk | apply Kd.Zs)); exact HO_9.out,by repeat (first | (with_reducible first | exact HB.out | apply Zd | apply Za | apply Zb) | exact HB.out)⟩
 · rw [if_neg c6] at H
   have c6b0 : (t333 == 0) = false := beq_eq_false_iff_ne.mpr c6; have c6b1 : (t333 != 0) = true := bne_iff_ne.mpr c6; simp only [Option.some.injEq,Prod.mk.injEq] at H; obtain ⟨rfl,rfl,rfl⟩ := H
   go_enter Try.func29,Try.ntmps29
   go_wp2_with (first | ((with_reducible refine Xr (N := 19) rfl ?_); refine Kd.R_lit (Kd.int .i64) _ 3 ?hg (N := 19) ?hd (xs := ([a1,a2] : List Int)) (inner := [.int .i64 a1,.int .i64 a2]) (ok := fun _ => True) (okp := fun _ => True) ?hr ?hp (fun _ hk => hk) trivial (Below.refl _ _) (Nat.le_refl _) (by simp) ?_; (case hd => rfl); (case hg => rfl); (case hr => first | (go_simp; done) | (go_simp; rfl)); (case hp => exact (Reps.one (show Kd.M (Kd.int .i64) _ _ _ a1 [.int .i64 a1] from rfl) (Reps.one (show Kd.M (Kd.int .i64) _ _ _ a2 [.int .i64 a2] from rfl) (Reps.none _ _)))); intro v331 w38 ho39 hb hg_ hnew_; clear hg_ hnew_; (first | rw [← Ny330.out] at ho39 | (simp only [Int.reduceToNat] at ho39; rw [← Ny330.out] at ho39)); have n0_ := Zc.mk (Kd.Xs ho39 (ZH (by repeat (first | (with_reducible first | exact HB.out | apply Zd | apply Za | apply Zb) | exact HB.out)))); have n1_ := Zc.mk (Z3 (by repeat (first | (with_reducible first | exact HB.out | apply Zd | apply Za | apply Zb) | exact HB.out)) hb); clear HB; have HO332 := n0_; have HB := n1_; clear n0_ n1_; clear hb ho39; obtain ⟨Ao40,co40,eo40⟩ := Kd.Xd HO332.out; subst eo40) | ((with_reducible refine Z1 (f := 40) rfl ?_); refine ZQ (some 20) rfl rfl Try.func40 (by kernel_rfl) rfl #[.slice A0 l0.length c0,.slice Ao40 y330.length co40] rfl (by (try simp only [List.map_toArray,List.map_cons,List.map_nil]); first | done | rfl | (simp only [List.length_drop,List.length_take]; rfl)) ?_; (with_reducible refine (ZP.calls k _ _ l0 _ _ y330 t333 _ ?side1 ?side2 ?side3 ?side4 A5.out).mono ?_); (case side1 => repeat (first | exact (Kd.ZO HR0.out HB.out) | (with_reducible refine Kd.ZA ?_ _) | (with_reducible refine Kd.Z9 ?_ _) | (with_reducible refine Kd.ZI ?_))); (case side2 => exact HC0.out); (case side3 => repeat (first | exact (Kd.ZL HO332.out).2.2 | (with_reducible refine Kd.ZA ?_ _) | (with_reducible refine Kd.Z9 ?_ _) | (with_reducible refine Kd.ZI ?_))); (case side4 => exact (Kd.ZL HO332.out).2.1); rintro e w41 ⟨rfl,hb⟩; refine ⟨_,rfl,?_⟩; have n0_ := Zc.mk (Kd.Xl (by (with_reducible repeat (first | apply Kd.Zl | apply Kd.Zk | apply Kd.Zs)); exact HO332.out) hb); have n1_ := Zc.mk (Z3 (by repeat (first | (with_reducible first | exact HB.out | apply Zd | apply Za | apply Zb) | exact HB.out)) hb); clear HO332; clear HB; have HO332 := n0_; have HB := n1_; clear n0_ n1_; (try clear hb); (try clear hb2); (try clear hk); (try clear hi)))
   go_ret3
   exact ⟨_,_,by first | rfl | (simp [Zv,Zu] <;> rfl) | (simp [*,Zv,Zu] <;> rfl),by first | exact Kd.R_nil _ _ _ _ _ | exact Kd.N_nil _ _ _ _ _ | exact Kd.V_nil _ _ _ _ _ | exact Kd.Q_nil _ _ _ _ _ | exact Kd.S_nil _ _ _ _ _,by first | exact Kd.R_nil _ _ _ _ _ | exact Kd.N_nil _ _ _ _ _ | exact Kd.V_nil _ _ _ _ _ | exact Kd.Q_nil _ _ _ _ _ | exact Kd.S_nil _ _ _ _ _,by repeat (first | (with_reducible first | exact HB.out | apply Zd | apply Za | apply Zb) | exact HB.out)⟩
end Go.Proofs.Ytomlfbmfdoallaa.PA
