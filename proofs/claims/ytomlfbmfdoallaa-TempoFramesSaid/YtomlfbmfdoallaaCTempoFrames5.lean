/- Which maps there are, the frame of a tick, the tick at a frame and the period there: the program's and the reference's answers are alike, there and back, for all maps and numbers. -/
import Derived.Test.YtomlfbmfdoallaaCTempoFrames4
import Derived.Deep.Slices
import Derived.Deep.Fields
import Derived.ChangeSame
import Derived.Lib.SmallJoins
import Derived.Test.YtomlfbmfdoallaaRows
import Derived.WalkKit
import Derived.ProofKit
import Derived.OpenShut
import Derived.ShutString
import Derived.ChangeOld
import Derived.Below
import Derived.SizedLaws
namespace Go.Proofs.Ytomlfbmfdoallaa.PA
open Go.RowKit Go.Proofs.YtomlfbmfdoallaaW.PrintWords Go.Proofs.YtomlfbmfdoallaaW.PrintLast Go.Proofs.YtomlfbmfdoallaaW.PrintMore
attribute [local go_sem] max2_int min2_int max_two min_two max_three min_three max_four min_four
set_option linter.unusedVariables false
set_option linter.unusedSimpArgs false
def continuoref30_Frame.j0 : Nat → List (S27) → Int → Int → Bool → Option (Int × Int)
 | 0, _, _, _, _ => none
 | k + 1, x0, x1, x2, x19 => if x19 = true then (some (0, 7)) else ((continuoref30_frame.f k x0 x1 x2).bind fun t289 => (if t289 > 1000000000 then (some (0, 7)) else (some (t289, 0))))
def continuoref30_Frame.f (k : Nat) (l0 : List (S27)) (a1 : Int) (a2 : Int) : Option (Int × Int) := (continuoref30_Valid.f k l0).bind fun t286 => (if t286 = true then ((continuoref30_time.f a1).bind fun t287 => (if t287 = true then ((continuoref30_time.f a2).bind fun t288 => (continuoref30_Frame.j0 k l0 a1 a2 (!t288))) else (continuoref30_Frame.j0 k l0 a1 a2 true))) else (some (0, 1)))
theorem continuoref30_Frame.mono_l : ∀ k, (∀ y0 y1 y2 y3, LeO (continuoref30_Frame.j0 k y0 y1 y2 y3) (continuoref30_Frame.j0 (k + 1) y0 y1 y2 y3))
 | 0 => fun _ _ _ _ r h => by simp [continuoref30_Frame.j0] at h
 | k + 1 => by
  have ih0 := continuoref30_Frame.mono_l k
  · intro y0 y1 y2 y3
    unfold continuoref30_Frame.j0
    repeat' first
    | (with_reducible exact ih0 _ _ _ _)
    | (with_reducible exact continuoref30_Valid.mono _ _)
    | (with_reducible exact continuoref30_frame.mono _ _ _ _)
    | (with_reducible exact LeO.refl _)
    | (with_reducible exact LeO.none _)
    | (with_reducible refine LeO.ite ?_ ?_)
    | (with_reducible refine LeO.bind ?_ (fun _ => ?_))
    | exact ih0 _ _ _ _
    | exact continuoref30_Valid.mono _ _
    | exact continuoref30_frame.mono _ _ _ _
    | exact LeO.none _
    | refine LeO.ite ?_ ?_
    | refine LeO.bind ?_ (fun _ => ?_)
theorem continuoref30_Frame.mono : ∀ a0 a1 a2 k, LeO (continuoref30_Frame.f k a0 a1 a2) (continuoref30_Frame.f (k + 1) a0 a1 a2) := by
 intro a0 a1 a2 k
 have ih0 := continuoref30_Frame.mono_l k
 unfold continuoref30_Frame.f
 repeat' first
  | (with_reducible exact ih0 _ _ _ _)
  | (with_reducible exact continuoref30_Valid.mono _ _)
  | (with_reducible exact continuoref30_frame.mono _ _ _ _)
  | (with_reducible exact LeO.refl _)
  | (with_reducible exact LeO.none _)
  | (with_reducible refine LeO.ite ?_ ?_)
  | (with_reducible refine LeO.bind ?_ (fun _ => ?_))
  | exact ih0 _ _ _ _
  | exact continuoref30_Valid.mono _ _
  | exact continuoref30_frame.mono _ _ _ _
  | exact LeO.none _
  | refine LeO.ite ?_ ?_
  | refine LeO.bind ?_ (fun _ => ?_)
set_option maxHeartbeats 8000000 in
set_option maxRecDepth 100000 in
theorem continuoref30_Frame.calls (k : Nat) (A0 : Option Addr) (c0 : Nat) (l0 : List (S27)) (a1 : Int) (a2 : Int) (r1 : Int) (r2 : Int) (w : World) (hr0 : Kd.C k27 w A0 l0.length l0) (hc0 : l0.length ≤ c0) (h : continuoref30_Frame.f k l0 a1 a2 = some (r1, r2)) :
 Calls Try.prog 24 #[.slice A0 l0.length c0, .int .i64 a1, .int .i64 a2] w fun e w' => e = .returned (.tuple #[.int .i64 r1, .int .i64 r2]) ∧ Below w.heap.size w w' := by
 have HR0 := Aside0.mk hr0
 have HC0 := Aside0.mk hc0
 clear hr0 hc0
 have HB := Aside0.mk (Below.refl w.heap.size w)
 have H : ((continuoref30_Valid.f k l0).bind fun t286 => (if t286 = true then ((continuoref30_time.f a1).bind fun t287 => (if t287 = true then ((continuoref30_time.f a2).bind fun t288 => (continuoref30_Frame.j0 k l0 a1 a2 (!t288))) else (continuoref30_Frame.j0 k l0 a1 a2 true))) else (some (0, 1)))) = some (r1, r2) := h
 clear h
 replace H := Option.bind_eq_some_iff.mp H
 obtain ⟨t286, A40, H⟩ := H
 replace H : (if t286 = true then ((continuoref30_time.f a1).bind fun t287 => (if t287 = true then ((continuoref30_time.f a2).bind fun t288 => (continuoref30_Frame.j0 k l0 a1 a2 (!t288))) else (continuoref30_Frame.j0 k l0 a1 a2 true))) else (some (0, 1))) = some (r1, r2) := H
 have A4 := Aside0.mk A40
 clear A40
 by_cases c5 : t286 = true
 · subst c5
   have H1 : ((continuoref30_time.f a1).bind fun t287 => (if t287 = true then ((continuoref30_time.f a2).bind fun t288 => (continuoref30_Frame.j0 k l0 a1 a2 (!t288))) else (continuoref30_Frame.j0 k l0 a1 a2 true))) = some (r1, r2) := by rw [if_pos rfl] at H; exact H
   clear H
   have H := H1
   clear H1
   have HC6 := Aside0.mk H
   clear H
   go_enter Try.func24, Try.ntmps24
   go_upto_region 3 with (first | ((with_reducible refine gate_callee (f := 11) rfl ?_); refine goesL_ (some 10) rfl rfl Try.func11 (by kernel_rfl) rfl #[.slice A0 l0.length c0] rfl (by (try simp only [List.map_toArray, List.map_cons, List.map_nil]); first | done | rfl | (simp only [List.length_drop, List.length_take]; rfl)) ?_; (with_reducible refine (continuoref30_Valid.calls k _ _ l0 true _ ?side1 ?side2 A4.out).mono ?_); (case side1 => repeat (first | exact HR0.out | (with_reducible refine Kd.C_alloc ?_ _) | (with_reducible refine Kd.C_drewN ?_ _) | (with_reducible refine Kd.C_drew ?_))); (case side2 => exact HC0.out); rintro e w7 ⟨rfl, hb⟩; refine ⟨_, rfl, ?_⟩; have n0_ := Aside0.mk (below_step (by repeat (first | (with_reducible first | exact HB.out | apply below_alloc | apply pw_below_drewN | apply below_drew1) | exact HB.out)) hb); clear HB; have HB := n0_; clear n0_; (try clear hb); (try clear hb2); (try clear hk); (try clear hi)))
   (try simp only [Act.put, List.setIfInBounds_toArray, List.set_cons_zero, List.set_cons_succ])
   go_cut [19] (fun v19 wc => ∃ (kq : Nat) (x19_5 : Bool), v19 = .bool x19_5 ∧ Aside0 (continuoref30_Frame.j0 kq l0 a1 a2 x19_5 = some (r1, r2)) ∧ Aside0 (kq ≤ k) ∧ Aside0 (Below w.heap.size w wc))
   case first =>
    have H := HC6.out
    clear HC6
    replace H := Option.bind_eq_some_iff.mp H
    obtain ⟨t287, A80, H⟩ := H
    replace H : (if t287 = true then ((continuoref30_time.f a2).bind fun t288 => (continuoref30_Frame.j0 k l0 a1 a2 (!t288))) else (continuoref30_Frame.j0 k l0 a1 a2 true)) = some (r1, r2) := H
    have A8 := Aside0.mk A80
    clear A80
    by_cases c9 : t287 = true
    · subst c9
      have H1 : ((continuoref30_time.f a2).bind fun t288 => (continuoref30_Frame.j0 k l0 a1 a2 (!t288))) = some (r1, r2) := by rw [if_pos rfl] at H; exact H
      clear H
      have H := H1
      clear H1
      replace H := Option.bind_eq_some_iff.mp H
      obtain ⟨t288, A100, H⟩ := H
      replace H : (continuoref30_Frame.j0 k l0 a1 a2 (!t288)) = some (r1, r2) := H
      have A10 := Aside0.mk A100
      clear A100
      have H' := Aside0.mk H
      clear H
      go_wp2_with (first | ((with_reducible refine gate_callee (f := 50) rfl ?_); refine goesL_ (some 13) rfl rfl Try.func50 (by kernel_rfl) rfl #[.int .i64 a1] rfl (by (try simp only [List.map_toArray, List.map_cons, List.map_nil]); first | done | rfl | (simp only [List.length_drop, List.length_take]; rfl)) ?_; (with_reducible refine (continuoref30_time.calls a1 true _ A8.out).mono ?_); rintro e w' ⟨rfl, ⟨nd, rfl⟩⟩; refine ⟨_, rfl, ?_⟩) | (go_at_call 50; (with_reducible refine (continuoref30_time.calls a2 t288 _ A10.out).mono ?_); rintro e w' ⟨rfl, ⟨nd, rfl⟩⟩))
      go_meet
      case rel => exact ⟨_, (!t288), (by first | rfl | (simp; done) | (simp [*]; done)), H', ⟨by first | omega | exact Nat.le_refl _⟩, ⟨by repeat (first | (with_reducible first | exact HB.out | apply below_alloc | apply pw_below_drewN | apply below_drew1) | exact HB.out)⟩⟩
    · replace c9 := Bool.eq_false_iff.mpr c9
      subst c9
      have H1 : (continuoref30_Frame.j0 k l0 a1 a2 true) = some (r1, r2) := by rw [if_neg (show ¬ (false = true) by decide)] at H; exact H
      clear H
      have H := H1
      clear H1
      have H' := Aside0.mk H
      clear H
      go_wp2_with (first | ((with_reducible refine gate_callee (f := 50) rfl ?_); refine goesL_ (some 13) rfl rfl Try.func50 (by kernel_rfl) rfl #[.int .i64 a1] rfl (by (try simp only [List.map_toArray, List.map_cons, List.map_nil]); first | done | rfl | (simp only [List.length_drop, List.length_take]; rfl)) ?_; (with_reducible refine (continuoref30_time.calls a1 false _ A8.out).mono ?_); rintro e w' ⟨rfl, ⟨nd, rfl⟩⟩; refine ⟨_, rfl, ?_⟩))
      go_meet
      case rel => exact ⟨_, (true), (by first | rfl | (simp; done) | (simp [*]; done)), H', ⟨by first | omega | exact Nat.le_refl _⟩, ⟨by repeat (first | (with_reducible first | exact HB.out | apply below_alloc | apply pw_below_drewN | apply below_drew1) | exact HB.out)⟩⟩
   case rest =>
    clear HC6
    try clear c1
    try clear c2
    try clear p2
    try clear c5
    try clear c9
    obtain ⟨kq, x19_5, rfl, HA, HJ5, HB⟩ := hcut
    cases kq with
    | zero => exact absurd HA.out (by simp [continuoref30_Frame.j0])
    | succ kj5 =>
     have H := HA.out
     clear HA
     simp only [continuoref30_Frame.j0] at H
     by_cases c11 : x19_5 = true
     · subst c11
       have H1 : (some (0, 7)) = some (r1, r2) := by rw [if_pos rfl] at H; exact H
       clear H
       have H := H1
       clear H1
       simp only [Option.some.injEq, Prod.mk.injEq] at H
       obtain ⟨rfl, rfl⟩ := H
       go_wp2
       go_ret2
       exact ⟨by first | rfl | (simp [errW_none, errW_some] <;> rfl) | (simp [*, errW_none, errW_some] <;> rfl), by repeat (first | (with_reducible first | exact HB.out | apply below_alloc | apply pw_below_drewN | apply below_drew1) | exact HB.out)⟩
     · replace c11 := Bool.eq_false_iff.mpr c11
       subst c11
       have H1 : ((continuoref30_frame.f kj5 l0 a1 a2).bind fun t289 => (if t289 > 1000000000 then (some (0, 7)) else (some (t289, 0)))) = some (r1, r2) := by rw [if_neg (show ¬ (false = true) by decide)] at H; exact H
       clear H
       have H := H1
       clear H1
       replace H := Option.bind_eq_some_iff.mp H
       obtain ⟨t289, A120, H⟩ := H
       replace H : (if t289 > 1000000000 then (some (0, 7)) else (some (t289, 0))) = some (r1, r2) := H
       have A12 := Aside0.mk A120
       clear A120
       by_cases c13 : t289 > 1000000000
       · rw [if_pos c13] at H
         have c13b0 : decide (1000000000 < t289) = true := decide_eq_true c13
         clear c13
         simp only [Option.some.injEq, Prod.mk.injEq] at H
         obtain ⟨rfl, rfl⟩ := H
         go_wp2_with (first | ((with_reducible refine gate_callee (f := 53) rfl ?_); refine goesL_ (some 23) rfl rfl Try.func53 (by kernel_rfl) rfl #[.slice A0 l0.length c0, .int .i64 a1, .int .i64 a2] rfl (by (try simp only [List.map_toArray, List.map_cons, List.map_nil]); first | done | rfl | (simp only [List.length_drop, List.length_take]; rfl)) ?_; (with_reducible refine (continuoref30_frame.calls kj5 _ _ l0 a1 a2 t289 _ ?side1 ?side2 A12.out).mono ?_); (case side1 => repeat (first | exact (Kd.C_below HR0.out HB.out) | (with_reducible refine Kd.C_alloc ?_ _) | (with_reducible refine Kd.C_drewN ?_ _) | (with_reducible refine Kd.C_drew ?_))); (case side2 => exact HC0.out); rintro e w' ⟨rfl, ⟨nd, rfl⟩⟩; refine ⟨_, rfl, ?_⟩))
         go_ret2
         exact ⟨by first | rfl | (simp [errW_none, errW_some] <;> rfl) | (simp [*, errW_none, errW_some] <;> rfl), by repeat (first | (with_reducible first | exact HB.out | apply below_alloc | apply pw_below_drewN | apply below_drew1) | exact HB.out)⟩
       · rw [if_neg c13] at H
         have c13b0 : decide (1000000000 < t289) = false := decide_eq_false c13
         clear c13
         simp only [Option.some.injEq, Prod.mk.injEq] at H
         obtain ⟨rfl, rfl⟩ := H
         go_wp2_with (first | ((with_reducible refine gate_callee (f := 53) rfl ?_); refine goesL_ (some 23) rfl rfl Try.func53 (by kernel_rfl) rfl #[.slice A0 l0.length c0, .int .i64 a1, .int .i64 a2] rfl (by (try simp only [List.map_toArray, List.map_cons, List.map_nil]); first | done | rfl | (simp only [List.length_drop, List.length_take]; rfl)) ?_; (with_reducible refine (continuoref30_frame.calls kj5 _ _ l0 a1 a2 t289 _ ?side1 ?side2 A12.out).mono ?_); (case side1 => repeat (first | exact (Kd.C_below HR0.out HB.out) | (with_reducible refine Kd.C_alloc ?_ _) | (with_reducible refine Kd.C_drewN ?_ _) | (with_reducible refine Kd.C_drew ?_))); (case side2 => exact HC0.out); rintro e w' ⟨rfl, ⟨nd, rfl⟩⟩; refine ⟨_, rfl, ?_⟩))
         go_ret2
         exact ⟨by first | rfl | (simp [errW_none, errW_some] <;> rfl) | (simp [*, errW_none, errW_some] <;> rfl), by repeat (first | (with_reducible first | exact HB.out | apply below_alloc | apply pw_below_drewN | apply below_drew1) | exact HB.out)⟩
 · replace c5 := Bool.eq_false_iff.mpr c5
   subst c5
   have H1 : (some (0, 1)) = some (r1, r2) := by rw [if_neg (show ¬ (false = true) by decide)] at H; exact H
   clear H
   have H := H1
   clear H1
   simp only [Option.some.injEq, Prod.mk.injEq] at H
   obtain ⟨rfl, rfl⟩ := H
   go_enter Try.func24, Try.ntmps24
   go_wp2_with (first | ((with_reducible refine gate_callee (f := 11) rfl ?_); refine goesL_ (some 10) rfl rfl Try.func11 (by kernel_rfl) rfl #[.slice A0 l0.length c0] rfl (by (try simp only [List.map_toArray, List.map_cons, List.map_nil]); first | done | rfl | (simp only [List.length_drop, List.length_take]; rfl)) ?_; (with_reducible refine (continuoref30_Valid.calls k _ _ l0 false _ ?side1 ?side2 A4.out).mono ?_); (case side1 => repeat (first | exact HR0.out | (with_reducible refine Kd.C_alloc ?_ _) | (with_reducible refine Kd.C_drewN ?_ _) | (with_reducible refine Kd.C_drew ?_))); (case side2 => exact HC0.out); rintro e w14 ⟨rfl, hb⟩; refine ⟨_, rfl, ?_⟩; have n0_ := Aside0.mk (below_step (by repeat (first | (with_reducible first | exact HB.out | apply below_alloc | apply pw_below_drewN | apply below_drew1) | exact HB.out)) hb); clear HB; have HB := n0_; clear n0_; (try clear hb); (try clear hb2); (try clear hk); (try clear hi)))
   go_ret2
   exact ⟨by first | rfl | (simp [errW_none, errW_some] <;> rfl) | (simp [*, errW_none, errW_some] <;> rfl), by repeat (first | (with_reducible first | exact HB.out | apply below_alloc | apply pw_below_drewN | apply below_drew1) | exact HB.out)⟩
end Go.Proofs.Ytomlfbmfdoallaa.PA

namespace Go.Proofs.Ytomlfbmfdoallaa.PA
open Go.RowKit Go.Proofs.YtomlfbmfdoallaaW.PrintWords Go.Proofs.YtomlfbmfdoallaaW.PrintLast Go.Proofs.YtomlfbmfdoallaaW.PrintMore
attribute [local go_sem] max2_int min2_int max_two min_two max_three min_three max_four min_four
set_option linter.unusedVariables false
set_option linter.unusedSimpArgs false
end Go.Proofs.Ytomlfbmfdoallaa.PA

namespace Go.Proofs.Ytomlfbmfdoallaa.PA
open Go.RowKit Go.Proofs.YtomlfbmfdoallaaW.PrintWords Go.Proofs.YtomlfbmfdoallaaW.PrintLast Go.Proofs.YtomlfbmfdoallaaW.PrintMore
attribute [local go_sem] max2_int min2_int max_two min_two max_three min_three max_four min_four
set_option linter.unusedVariables false
set_option linter.unusedSimpArgs false
def tempo_Tick.f (k : Nat) (l0 : List (S27)) (a1 : Int) (a2 : Int) : Option (Int × Int) := (tempo_asked.f k l0 (([a1, a2] : List Int))).bind fun t293 => (if t293 = 0 then (if a2 < a1 then (some (0, 7)) else ((tempo_tick.f l0 a1 a2).bind fun t294 => (some (t294, 0)))) else (some (0, t293)))
theorem tempo_Tick.mono : ∀ a0 a1 a2 k, LeO (tempo_Tick.f k a0 a1 a2) (tempo_Tick.f (k + 1) a0 a1 a2) := by
 intro a0 a1 a2 k
 unfold tempo_Tick.f
 repeat' first
  | (with_reducible exact tempo_asked.mono _ _ _)
  | (with_reducible exact LeO.refl _)
  | (with_reducible exact LeO.none _)
  | (with_reducible refine LeO.ite ?_ ?_)
  | (with_reducible refine LeO.bind ?_ (fun _ => ?_))
  | exact tempo_asked.mono _ _ _
  | exact LeO.none _
  | refine LeO.ite ?_ ?_
  | refine LeO.bind ?_ (fun _ => ?_)
set_option maxHeartbeats 8000000 in
set_option maxRecDepth 100000 in
theorem tempo_Tick.calls (k : Nat) (A0 : Option Addr) (c0 : Nat) (l0 : List (S27)) (a1 : Int) (a2 : Int) (r1 : Int) (r2 : Int) (w : World) (hr0 : Kd.C k27 w A0 l0.length l0) (hc0 : l0.length ≤ c0) (h : tempo_Tick.f k l0 a1 a2 = some (r1, r2)) :
 Calls Try.prog 26 #[.slice A0 l0.length c0, .int .i64 a1, .int .i64 a2] w fun e w' => e = .returned (.tuple #[.int .i64 r1, .int .i64 r2]) ∧ Below w.heap.size w w' := by
 have HR0 := Aside0.mk hr0
 have HC0 := Aside0.mk hc0
 clear hr0 hc0
 have HB := Aside0.mk (Below.refl w.heap.size w)
 have H : ((tempo_asked.f k l0 (([a1, a2] : List Int))).bind fun t293 => (if t293 = 0 then (if a2 < a1 then (some (0, 7)) else ((tempo_tick.f l0 a1 a2).bind fun t294 => (some (t294, 0)))) else (some (0, t293)))) = some (r1, r2) := h
 clear h
 obtain ⟨y290, hy290⟩ : ∃ y_ : List Int, y_ = (([a1, a2] : List Int)) := ⟨_, rfl⟩
 replace H : ((tempo_asked.f k l0 y290).bind fun t293 => (if t293 = 0 then (if a2 < a1 then (some (0, 7)) else ((tempo_tick.f l0 a1 a2).bind fun t294 => (some (t294, 0)))) else (some (0, t293)))) = some (r1, r2) := by first | (rw [hy290]; with_reducible exact H) | (have H2_ := (Option.bind_some _ _).symm.trans H; rw [hy290]; with_reducible exact H2_) | (have H2_ := (Option.bind_some _ _).symm.trans H; with_reducible exact H2_) | with_reducible exact H | (rw [hy290]; exact H) | exact H
 have Ny290 := Aside0.mk hy290
 clear hy290
 replace H := Option.bind_eq_some_iff.mp H
 obtain ⟨t293, A40, H⟩ := H
 replace H : (if t293 = 0 then (if a2 < a1 then (some (0, 7)) else ((tempo_tick.f l0 a1 a2).bind fun t294 => (some (t294, 0)))) else (some (0, t293))) = some (r1, r2) := H
 have A4 := Aside0.mk A40
 clear A40
 by_cases c5 : t293 = 0
 · rw [if_pos c5] at H
   have c5b0 : (t293 == 0) = true := beq_iff_eq.mpr c5
   have c5b1 : (t293 != 0) = false := bne_eq_false_iff_eq.mpr c5
   clear c5
   by_cases c6 : a2 < a1
   · rw [if_pos c6] at H
     have c6b0 : decide (a2 < a1) = true := decide_eq_true c6
     clear c6
     simp only [Option.some.injEq, Prod.mk.injEq] at H
     obtain ⟨rfl, rfl⟩ := H
     go_enter Try.func26, Try.ntmps26
     go_wp2_with (first | ((with_reducible refine gate_dst (N := 12) rfl ?_); refine Kd.R_lit (Kd.int .i64) _ 3 ?hg (N := 12) ?hd (xs := ([a1, a2] : List Int)) (inner := [.int .i64 a1, .int .i64 a2]) (ok := fun _ => True) (okp := fun _ => True) ?hr ?hp (fun _ hk => hk) trivial (Below.refl _ _) (Nat.le_refl _) (by simp) ?_; (case hd => rfl); (case hg => rfl); (case hr => first | (go_simp; done) | (go_simp; rfl)); (case hp => exact (Reps.one (show Kd.M (Kd.int .i64) _ _ _ a1 [.int .i64 a1] from rfl) (Reps.one (show Kd.M (Kd.int .i64) _ _ _ a2 [.int .i64 a2] from rfl) (Reps.none _ _)))); intro v291 w7 ho8 hb hg_ hnew_; clear hg_ hnew_; (first | rw [← Ny290.out] at ho8 | (simp only [Int.reduceToNat] at ho8; rw [← Ny290.out] at ho8)); have n0_ := Aside0.mk (Kd.R_lower ho8 (below_size (by repeat (first | (with_reducible first | exact HB.out | apply below_alloc | apply pw_below_drewN | apply below_drew1) | exact HB.out)))); have n1_ := Aside0.mk (below_step (by repeat (first | (with_reducible first | exact HB.out | apply below_alloc | apply pw_below_drewN | apply below_drew1) | exact HB.out)) hb); clear HB; have HO292 := n0_; have HB := n1_; clear n0_ n1_; clear hb ho8; obtain ⟨Ao9, co9, eo9⟩ := Kd.R_slice HO292.out; subst eo9) | ((with_reducible refine gate_callee (f := 40) rfl ?_); refine goesL_ (some 13) rfl rfl Try.func40 (by kernel_rfl) rfl #[.slice A0 l0.length c0, .slice Ao9 y290.length co9] rfl (by (try simp only [List.map_toArray, List.map_cons, List.map_nil]); first | done | rfl | (simp only [List.length_drop, List.length_take]; rfl)) ?_; (with_reducible refine (tempo_asked.calls k _ _ l0 _ _ y290 t293 _ ?side1 ?side2 ?side3 ?side4 A4.out).mono ?_); (case side1 => repeat (first | exact (Kd.C_below HR0.out HB.out) | (with_reducible refine Kd.C_alloc ?_ _) | (with_reducible refine Kd.C_drewN ?_ _) | (with_reducible refine Kd.C_drew ?_))); (case side2 => exact HC0.out); (case side3 => repeat (first | exact (Kd.R_reads' HO292.out).2.2 | (with_reducible refine Kd.C_alloc ?_ _) | (with_reducible refine Kd.C_drewN ?_ _) | (with_reducible refine Kd.C_drew ?_))); (case side4 => exact (Kd.R_reads' HO292.out).2.1); rintro e w10 ⟨rfl, hb⟩; refine ⟨_, rfl, ?_⟩; have n0_ := Aside0.mk (Kd.R_below (by (with_reducible repeat (first | apply Kd.R_alloc | apply Kd.R_drewN | apply Kd.R_drew)); exact HO292.out) hb); have n1_ := Aside0.mk (below_step (by repeat (first | (with_reducible first | exact HB.out | apply below_alloc | apply pw_below_drewN | apply below_drew1) | exact HB.out)) hb); clear HO292; clear HB; have HO292 := n0_; have HB := n1_; clear n0_ n1_; (try clear hb); (try clear hb2); (try clear hk); (try clear hi)))
     go_ret2
     exact ⟨by first | rfl | (simp [errW_none, errW_some] <;> rfl) | (simp [*, errW_none, errW_some] <;> rfl), by repeat (first | (with_reducible first | exact HB.out | apply below_alloc | apply pw_below_drewN | apply below_drew1) | exact HB.out)⟩
   · rw [if_neg c6] at H
     have c6b0 : decide (a2 < a1) = false := decide_eq_false c6
     clear c6
     replace H := Option.bind_eq_some_iff.mp H
     obtain ⟨t294, A110, H⟩ := H
     replace H : (some (t294, 0)) = some (r1, r2) := H
     have A11 := Aside0.mk A110
     clear A110
     simp only [Option.some.injEq, Prod.mk.injEq] at H
     obtain ⟨rfl, rfl⟩ := H
     go_enter Try.func26, Try.ntmps26
     go_wp2_with (first | ((with_reducible refine gate_dst (N := 12) rfl ?_); refine Kd.R_lit (Kd.int .i64) _ 3 ?hg (N := 12) ?hd (xs := ([a1, a2] : List Int)) (inner := [.int .i64 a1, .int .i64 a2]) (ok := fun _ => True) (okp := fun _ => True) ?hr ?hp (fun _ hk => hk) trivial (Below.refl _ _) (Nat.le_refl _) (by simp) ?_; (case hd => rfl); (case hg => rfl); (case hr => first | (go_simp; done) | (go_simp; rfl)); (case hp => exact (Reps.one (show Kd.M (Kd.int .i64) _ _ _ a1 [.int .i64 a1] from rfl) (Reps.one (show Kd.M (Kd.int .i64) _ _ _ a2 [.int .i64 a2] from rfl) (Reps.none _ _)))); intro v291 w12 ho13 hb hg_ hnew_; clear hg_ hnew_; (first | rw [← Ny290.out] at ho13 | (simp only [Int.reduceToNat] at ho13; rw [← Ny290.out] at ho13)); have n0_ := Aside0.mk (Kd.R_lower ho13 (below_size (by repeat (first | (with_reducible first | exact HB.out | apply below_alloc | apply pw_below_drewN | apply below_drew1) | exact HB.out)))); have n1_ := Aside0.mk (below_step (by repeat (first | (with_reducible first | exact HB.out | apply below_alloc | apply pw_below_drewN | apply below_drew1) | exact HB.out)) hb); clear HB; have HO292 := n0_; have HB := n1_; clear n0_ n1_; clear hb ho13; obtain ⟨Ao14, co14, eo14⟩ := Kd.R_slice HO292.out; subst eo14) | ((with_reducible refine gate_callee (f := 40) rfl ?_); refine goesL_ (some 13) rfl rfl Try.func40 (by kernel_rfl) rfl #[.slice A0 l0.length c0, .slice Ao14 y290.length co14] rfl (by (try simp only [List.map_toArray, List.map_cons, List.map_nil]); first | done | rfl | (simp only [List.length_drop, List.length_take]; rfl)) ?_; (with_reducible refine (tempo_asked.calls k _ _ l0 _ _ y290 t293 _ ?side1 ?side2 ?side3 ?side4 A4.out).mono ?_); (case side1 => repeat (first | exact (Kd.C_below HR0.out HB.out) | (with_reducible refine Kd.C_alloc ?_ _) | (with_reducible refine Kd.C_drewN ?_ _) | (with_reducible refine Kd.C_drew ?_))); (case side2 => exact HC0.out); (case side3 => repeat (first | exact (Kd.R_reads' HO292.out).2.2 | (with_reducible refine Kd.C_alloc ?_ _) | (with_reducible refine Kd.C_drewN ?_ _) | (with_reducible refine Kd.C_drew ?_))); (case side4 => exact (Kd.R_reads' HO292.out).2.1); rintro e w15 ⟨rfl, hb⟩; refine ⟨_, rfl, ?_⟩; have n0_ := Aside0.mk (Kd.R_below (by (with_reducible repeat (first | apply Kd.R_alloc | apply Kd.R_drewN | apply Kd.R_drew)); exact HO292.out) hb); have n1_ := Aside0.mk (below_step (by repeat (first | (with_reducible first | exact HB.out | apply below_alloc | apply pw_below_drewN | apply below_drew1) | exact HB.out)) hb); clear HO292; clear HB; have HO292 := n0_; have HB := n1_; clear n0_ n1_; (try clear hb); (try clear hb2); (try clear hk); (try clear hi)) | ((with_reducible refine gate_callee (f := 54) rfl ?_); refine goesL_ (some 23) rfl rfl Try.func54 (by kernel_rfl) rfl #[.slice A0 l0.length c0, .int .i64 a1, .int .i64 a2] rfl (by (try simp only [List.map_toArray, List.map_cons, List.map_nil]); first | done | rfl | (simp only [List.length_drop, List.length_take]; rfl)) ?_; (with_reducible refine (tempo_tick.calls _ _ l0 a1 a2 t294 _ ?side1 ?side2 A11.out).mono ?_); (case side1 => repeat (first | exact (Kd.C_below HR0.out HB.out) | (with_reducible refine Kd.C_alloc ?_ _) | (with_reducible refine Kd.C_drewN ?_ _) | (with_reducible refine Kd.C_drew ?_))); (case side2 => exact HC0.out); rintro e w16 ⟨rfl, hb⟩; refine ⟨_, rfl, ?_⟩; have n0_ := Aside0.mk (Kd.R_below (by (with_reducible repeat (first | apply Kd.R_alloc | apply Kd.R_drewN | apply Kd.R_drew)); exact HO292.out) hb); have n1_ := Aside0.mk (below_step (by repeat (first | (with_reducible first | exact HB.out | apply below_alloc | apply pw_below_drewN | apply below_drew1) | exact HB.out)) hb); clear HO292; clear HB; have HO292 := n0_; have HB := n1_; clear n0_ n1_; (try clear hb); (try clear hb2); (try clear hk); (try clear hi)))
     go_ret2
     exact ⟨by first | rfl | (simp [errW_none, errW_some] <;> rfl) | (simp [*, errW_none, errW_some] <;> rfl), by repeat (first | (with_reducible first | exact HB.out | apply below_alloc | apply pw_below_drewN | apply below_drew1) | exact HB.out)⟩
 · rw [if_neg c5] at H
   have c5b0 : (t293 == 0) = false := beq_eq_false_iff_ne.mpr c5
   have c5b1 : (t293 != 0) = true := bne_iff_ne.mpr c5
   simp only [Option.some.injEq, Prod.mk.injEq] at H
   obtain ⟨rfl, rfl⟩ := H
   go_enter Try.func26, Try.ntmps26
   go_wp2_with (first | ((with_reducible refine gate_dst (N := 12) rfl ?_); refine Kd.R_lit (Kd.int .i64) _ 3 ?hg (N := 12) ?hd (xs := ([a1, a2] : List Int)) (inner := [.int .i64 a1, .int .i64 a2]) (ok := fun _ => True) (okp := fun _ => True) ?hr ?hp (fun _ hk => hk) trivial (Below.refl _ _) (Nat.le_refl _) (by simp) ?_; (case hd => rfl); (case hg => rfl); (case hr => first | (go_simp; done) | (go_simp; rfl)); (case hp => exact (Reps.one (show Kd.M (Kd.int .i64) _ _ _ a1 [.int .i64 a1] from rfl) (Reps.one (show Kd.M (Kd.int .i64) _ _ _ a2 [.int .i64 a2] from rfl) (Reps.none _ _)))); intro v291 w17 ho18 hb hg_ hnew_; clear hg_ hnew_; (first | rw [← Ny290.out] at ho18 | (simp only [Int.reduceToNat] at ho18; rw [← Ny290.out] at ho18)); have n0_ := Aside0.mk (Kd.R_lower ho18 (below_size (by repeat (first | (with_reducible first | exact HB.out | apply below_alloc | apply pw_below_drewN | apply below_drew1) | exact HB.out)))); have n1_ := Aside0.mk (below_step (by repeat (first | (with_reducible first | exact HB.out | apply below_alloc | apply pw_below_drewN | apply below_drew1) | exact HB.out)) hb); clear HB; have HO292 := n0_; have HB := n1_; clear n0_ n1_; clear hb ho18; obtain ⟨Ao19, co19, eo19⟩ := Kd.R_slice HO292.out; subst eo19) | ((with_reducible refine gate_callee (f := 40) rfl ?_); refine goesL_ (some 13) rfl rfl Try.func40 (by kernel_rfl) rfl #[.slice A0 l0.length c0, .slice Ao19 y290.length co19] rfl (by (try simp only [List.map_toArray, List.map_cons, List.map_nil]); first | done | rfl | (simp only [List.length_drop, List.length_take]; rfl)) ?_; (with_reducible refine (tempo_asked.calls k _ _ l0 _ _ y290 t293 _ ?side1 ?side2 ?side3 ?side4 A4.out).mono ?_); (case side1 => repeat (first | exact (Kd.C_below HR0.out HB.out) | (with_reducible refine Kd.C_alloc ?_ _) | (with_reducible refine Kd.C_drewN ?_ _) | (with_reducible refine Kd.C_drew ?_))); (case side2 => exact HC0.out); (case side3 => repeat (first | exact (Kd.R_reads' HO292.out).2.2 | (with_reducible refine Kd.C_alloc ?_ _) | (with_reducible refine Kd.C_drewN ?_ _) | (with_reducible refine Kd.C_drew ?_))); (case side4 => exact (Kd.R_reads' HO292.out).2.1); rintro e w20 ⟨rfl, hb⟩; refine ⟨_, rfl, ?_⟩; have n0_ := Aside0.mk (Kd.R_below (by (with_reducible repeat (first | apply Kd.R_alloc | apply Kd.R_drewN | apply Kd.R_drew)); exact HO292.out) hb); have n1_ := Aside0.mk (below_step (by repeat (first | (with_reducible first | exact HB.out | apply below_alloc | apply pw_below_drewN | apply below_drew1) | exact HB.out)) hb); clear HO292; clear HB; have HO292 := n0_; have HB := n1_; clear n0_ n1_; (try clear hb); (try clear hb2); (try clear hk); (try clear hi)))
   go_ret2
   exact ⟨by first | rfl | (simp [errW_none, errW_some] <;> rfl) | (simp [*, errW_none, errW_some] <;> rfl), by repeat (first | (with_reducible first | exact HB.out | apply below_alloc | apply pw_below_drewN | apply below_drew1) | exact HB.out)⟩
end Go.Proofs.Ytomlfbmfdoallaa.PA

namespace Go.Proofs.Ytomlfbmfdoallaa.PA
open Go.RowKit Go.Proofs.YtomlfbmfdoallaaW.PrintWords Go.Proofs.YtomlfbmfdoallaaW.PrintLast Go.Proofs.YtomlfbmfdoallaaW.PrintMore
attribute [local go_sem] max2_int min2_int max_two min_two max_three min_three max_four min_four
set_option linter.unusedVariables false
set_option linter.unusedSimpArgs false
def continuoref30_last.l0 : Nat → List (S27) → Int → Int → Int → Int → Option (Int)
 | 0, _, _, _, _, _ => none
 | k + 1, x0, x1, x2, x7, x8 => if x7 < x8 then ((continuoref30_frame.f k x0 x1 (wrap64 (Int.tdiv (wrap64 ((wrap64 (x7 + x8)) + 1)) 2))).bind fun t295 => (if t295 ≤ x2 then (continuoref30_last.l0 k x0 x1 x2 (wrap64 (Int.tdiv (wrap64 ((wrap64 (x7 + x8)) + 1)) 2)) x8) else (continuoref30_last.l0 k x0 x1 x2 x7 (wrap64 ((wrap64 (Int.tdiv (wrap64 ((wrap64 (x7 + x8)) + 1)) 2)) - 1))))) else (some x7)
def continuoref30_last.f (k : Nat) (l0 : List (S27)) (a1 : Int) (a2 : Int) : Option (Int) := continuoref30_last.l0 k l0 a1 a2 0 1000000000
theorem continuoref30_last.mono_l : ∀ k, (∀ y0 y1 y2 y3 y4, LeO (continuoref30_last.l0 k y0 y1 y2 y3 y4) (continuoref30_last.l0 (k + 1) y0 y1 y2 y3 y4))
 | 0 => fun _ _ _ _ _ r h => by simp [continuoref30_last.l0] at h
 | k + 1 => by
  have ih0 := continuoref30_last.mono_l k
  · intro y0 y1 y2 y3 y4
    unfold continuoref30_last.l0
    repeat' first
    | (with_reducible exact ih0 _ _ _ _ _)
    | (with_reducible exact continuoref30_frame.mono _ _ _ _)
    | (with_reducible exact LeO.refl _)
    | (with_reducible exact LeO.none _)
    | (with_reducible refine LeO.ite ?_ ?_)
    | (with_reducible refine LeO.bind ?_ (fun _ => ?_))
    | exact ih0 _ _ _ _ _
    | exact continuoref30_frame.mono _ _ _ _
    | exact LeO.none _
    | refine LeO.ite ?_ ?_
    | refine LeO.bind ?_ (fun _ => ?_)
theorem continuoref30_last.mono : ∀ a0 a1 a2 k, LeO (continuoref30_last.f k a0 a1 a2) (continuoref30_last.f (k + 1) a0 a1 a2) := by
 intro a0 a1 a2 k
 have ih0 := continuoref30_last.mono_l k
 unfold continuoref30_last.f
 repeat' first
  | (with_reducible exact ih0 _ _ _ _ _)
  | (with_reducible exact continuoref30_frame.mono _ _ _ _)
  | (with_reducible exact LeO.refl _)
  | (with_reducible exact LeO.none _)
  | (with_reducible refine LeO.ite ?_ ?_)
  | (with_reducible refine LeO.bind ?_ (fun _ => ?_))
  | exact ih0 _ _ _ _ _
  | exact continuoref30_frame.mono _ _ _ _
  | exact LeO.none _
  | refine LeO.ite ?_ ?_
  | refine LeO.bind ?_ (fun _ => ?_)
set_option maxHeartbeats 8000000 in
set_option maxRecDepth 100000 in
theorem continuoref30_last.calls (k : Nat) (A0 : Option Addr) (c0 : Nat) (l0 : List (S27)) (a1 : Int) (a2 : Int) (r : Int) (w : World) (hr0 : Kd.C k27 w A0 l0.length l0) (hc0 : l0.length ≤ c0) (h : continuoref30_last.f k l0 a1 a2 = some r) :
 Calls Try.prog 55 #[.slice A0 l0.length c0, .int .i64 a1, .int .i64 a2] w fun e w' => e = .returned (.int .i64 r) ∧ Drawn0 w w' := by
 have HR0 := Aside0.mk hr0
 have HC0 := Aside0.mk hc0
 clear hr0 hc0
 have H : (continuoref30_last.l0 k l0 a1 a2 0 1000000000) = some r := h
 clear h
 have H' := Aside0.mk H
 clear H
 go_enter Try.func55, Try.ntmps55
 go_wp2
 go_loopg [7, 8] k (fun kq v7 v8 w' => ∃ (x7_1 : Int) (x8_1 : Int), v7 = .int .i64 x7_1 ∧ v8 = .int .i64 x8_1 ∧ Aside0 (continuoref30_last.l0 kq l0 a1 a2 x7_1 x8_1 = some r) ∧ Aside0 (kq ≤ k) ∧ Drawn0 w w')
 case atStart => exact ⟨(0), (1000000000), (by first | rfl | (simp; done) | (simp [*]; done)), (by first | rfl | (simp; done) | (simp [*]; done)), H', ⟨Nat.le_refl _⟩, by repeat (first | exact Drawn0.refl _ | apply Drawn0.step)⟩
 case round =>
  clear H'
  try clear p2
  obtain ⟨x7_1, x8_1, rfl, rfl, HA, HK1, ⟨m1, rfl⟩⟩ := hrel
  cases gk with
  | zero => exact absurd HA.out (by simp [continuoref30_last.l0])
  | succ k1 =>
   have H := HA.out
   clear HA
   simp only [continuoref30_last.l0] at H
   by_cases c4 : x7_1 < x8_1
   · rw [if_pos c4] at H
     have c4b0 : decide (x7_1 < x8_1) = true := decide_eq_true c4
     clear c4
     replace H := Option.bind_eq_some_iff.mp H
     obtain ⟨t295, A50, H⟩ := H
     replace H : (if t295 ≤ a2 then (continuoref30_last.l0 k1 l0 a1 a2 (wrap64 (Int.tdiv (wrap64 ((wrap64 (x7_1 + x8_1)) + 1)) 2)) x8_1) else (continuoref30_last.l0 k1 l0 a1 a2 x7_1 (wrap64 ((wrap64 (Int.tdiv (wrap64 ((wrap64 (x7_1 + x8_1)) + 1)) 2)) - 1)))) = some r := H
     have A5 := Aside0.mk A50
     clear A50
     by_cases c6 : t295 ≤ a2
     · rw [if_pos c6] at H
       have c6b0 : decide (t295 ≤ a2) = true := decide_eq_true c6
       clear c6
       have H' := Aside0.mk H
       clear H
       go_wp2_with (first | ((with_reducible refine gate_callee (f := 53) rfl ?_); refine goesL_ (some 21) rfl rfl Try.func53 (by kernel_rfl) rfl #[.slice A0 l0.length c0, .int .i64 a1, .int .i64 (wrap64 (Int.tdiv (wrap64 ((wrap64 (x7_1 + x8_1)) + 1)) 2))] rfl (by (try simp only [List.map_toArray, List.map_cons, List.map_nil]); first | done | rfl | (simp only [List.length_drop, List.length_take]; rfl)) ?_; (with_reducible refine (continuoref30_frame.calls k1 _ _ l0 a1 (wrap64 (Int.tdiv (wrap64 ((wrap64 (x7_1 + x8_1)) + 1)) 2)) t295 _ ?side1 ?side2 A5.out).mono ?_); (case side1 => repeat (first | exact HR0.out | (with_reducible refine Kd.C_alloc ?_ _) | (with_reducible refine Kd.C_drewN ?_ _) | (with_reducible refine Kd.C_drew ?_))); (case side2 => exact HC0.out); rintro e w' ⟨rfl, ⟨nd, rfl⟩⟩; refine ⟨_, rfl, ?_⟩))
       go_roundg k1
       case measure => have := HK1.out; omega
       case rel => exact ⟨(wrap64 (Int.tdiv (wrap64 ((wrap64 (x7_1 + x8_1)) + 1)) 2)), (x8_1), (by first | rfl | (simp; done) | (simp [*]; done)), (by first | rfl | (simp; done) | (simp [*]; done)), H', ⟨by have := HK1.out; omega⟩, by repeat (first | exact Drawn0.refl _ | apply Drawn0.step)⟩
     · rw [if_neg c6] at H
       have c6b0 : decide (t295 ≤ a2) = false := decide_eq_false c6
       clear c6
       have H' := Aside0.mk H
       clear H
       go_wp2_with (first | ((with_reducible refine gate_callee (f := 53) rfl ?_); refine goesL_ (some 21) rfl rfl Try.func53 (by kernel_rfl) rfl #[.slice A0 l0.length c0, .int .i64 a1, .int .i64 (wrap64 (Int.tdiv (wrap64 ((wrap64 (x7_1 + x8_1)) + 1)) 2))] rfl (by (try simp only [List.map_toArray, List.map_cons, List.map_nil]); first | done | rfl | (simp only [List.length_drop, List.length_take]; rfl)) ?_; (with_reducible refine (continuoref30_frame.calls k1 _ _ l0 a1 (wrap64 (Int.tdiv (wrap64 ((wrap64 (x7_1 + x8_1)) + 1)) 2)) t295 _ ?side1 ?side2 A5.out).mono ?_); (case side1 => repeat (first | exact HR0.out | (with_reducible refine Kd.C_alloc ?_ _) | (with_reducible refine Kd.C_drewN ?_ _) | (with_reducible refine Kd.C_drew ?_))); (case side2 => exact HC0.out); rintro e w' ⟨rfl, ⟨nd, rfl⟩⟩; refine ⟨_, rfl, ?_⟩))
       go_roundg k1
       case measure => have := HK1.out; omega
       case rel => exact ⟨(x7_1), (wrap64 ((wrap64 (Int.tdiv (wrap64 ((wrap64 (x7_1 + x8_1)) + 1)) 2)) - 1)), (by first | rfl | (simp; done) | (simp [*]; done)), (by first | rfl | (simp; done) | (simp [*]; done)), H', ⟨by have := HK1.out; omega⟩, by repeat (first | exact Drawn0.refl _ | apply Drawn0.step)⟩
   · rw [if_neg c4] at H
     have c4b0 : decide (x7_1 < x8_1) = false := decide_eq_false c4
     clear c4
     obtain rfl := Option.some.inj H
     go_wp2
     go_ret
     exact ⟨by first | rfl | (simp; done) | (simp [*]; done), by repeat (first | exact Drawn0.refl _ | apply Drawn0.step)⟩
end Go.Proofs.Ytomlfbmfdoallaa.PA

namespace Go.Proofs.Ytomlfbmfdoallaa.PA
open Go.RowKit Go.Proofs.YtomlfbmfdoallaaW.PrintWords Go.Proofs.YtomlfbmfdoallaaW.PrintLast Go.Proofs.YtomlfbmfdoallaaW.PrintMore
attribute [local go_sem] max2_int min2_int max_two min_two max_three min_three max_four min_four
set_option linter.unusedVariables false
set_option linter.unusedSimpArgs false
def continuoref30_Tick.f (k : Nat) (l0 : List (S27)) (a1 : Int) (a2 : Int) : Option (Int × Int) := (continuoref30_Valid.f k l0).bind fun t296 => (if t296 = true then ((continuoref30_time.f a1).bind fun t297 => (if t297 = true then (if a2 < a1 then (some (0, 7)) else (if a2 > 1000000000 then (some (0, 7)) else ((continuoref30_last.f k l0 a1 a2).bind fun t298 => (some (t298, 0))))) else (some (0, 7)))) else (some (0, 1)))
theorem continuoref30_Tick.mono : ∀ a0 a1 a2 k, LeO (continuoref30_Tick.f k a0 a1 a2) (continuoref30_Tick.f (k + 1) a0 a1 a2) := by
 intro a0 a1 a2 k
 unfold continuoref30_Tick.f
 repeat' first
  | (with_reducible exact continuoref30_Valid.mono _ _)
  | (with_reducible exact continuoref30_last.mono _ _ _ _)
  | (with_reducible exact LeO.refl _)
  | (with_reducible exact LeO.none _)
  | (with_reducible refine LeO.ite ?_ ?_)
  | (with_reducible refine LeO.bind ?_ (fun _ => ?_))
  | exact continuoref30_Valid.mono _ _
  | exact continuoref30_last.mono _ _ _ _
  | exact LeO.none _
  | refine LeO.ite ?_ ?_
  | refine LeO.bind ?_ (fun _ => ?_)
set_option maxHeartbeats 8000000 in
set_option maxRecDepth 100000 in
theorem continuoref30_Tick.calls (k : Nat) (A0 : Option Addr) (c0 : Nat) (l0 : List (S27)) (a1 : Int) (a2 : Int) (r1 : Int) (r2 : Int) (w : World) (hr0 : Kd.C k27 w A0 l0.length l0) (hc0 : l0.length ≤ c0) (h : continuoref30_Tick.f k l0 a1 a2 = some (r1, r2)) :
 Calls Try.prog 27 #[.slice A0 l0.length c0, .int .i64 a1, .int .i64 a2] w fun e w' => e = .returned (.tuple #[.int .i64 r1, .int .i64 r2]) ∧ Below w.heap.size w w' := by
 have HR0 := Aside0.mk hr0
 have HC0 := Aside0.mk hc0
 clear hr0 hc0
 have HB := Aside0.mk (Below.refl w.heap.size w)
 have H : ((continuoref30_Valid.f k l0).bind fun t296 => (if t296 = true then ((continuoref30_time.f a1).bind fun t297 => (if t297 = true then (if a2 < a1 then (some (0, 7)) else (if a2 > 1000000000 then (some (0, 7)) else ((continuoref30_last.f k l0 a1 a2).bind fun t298 => (some (t298, 0))))) else (some (0, 7)))) else (some (0, 1)))) = some (r1, r2) := h
 clear h
 replace H := Option.bind_eq_some_iff.mp H
 obtain ⟨t296, A40, H⟩ := H
 replace H : (if t296 = true then ((continuoref30_time.f a1).bind fun t297 => (if t297 = true then (if a2 < a1 then (some (0, 7)) else (if a2 > 1000000000 then (some (0, 7)) else ((continuoref30_last.f k l0 a1 a2).bind fun t298 => (some (t298, 0))))) else (some (0, 7)))) else (some (0, 1))) = some (r1, r2) := H
 have A4 := Aside0.mk A40
 clear A40
 by_cases c5 : t296 = true
 · subst c5
   have H1 : ((continuoref30_time.f a1).bind fun t297 => (if t297 = true then (if a2 < a1 then (some (0, 7)) else (if a2 > 1000000000 then (some (0, 7)) else ((continuoref30_last.f k l0 a1 a2).bind fun t298 => (some (t298, 0))))) else (some (0, 7)))) = some (r1, r2) := by rw [if_pos rfl] at H; exact H
   clear H
   have H := H1
   clear H1
   replace H := Option.bind_eq_some_iff.mp H
   obtain ⟨t297, A60, H⟩ := H
   replace H : (if t297 = true then (if a2 < a1 then (some (0, 7)) else (if a2 > 1000000000 then (some (0, 7)) else ((continuoref30_last.f k l0 a1 a2).bind fun t298 => (some (t298, 0))))) else (some (0, 7))) = some (r1, r2) := H
   have A6 := Aside0.mk A60
   clear A60
   by_cases c7 : t297 = true
   · subst c7
     have H1 : (if a2 < a1 then (some (0, 7)) else (if a2 > 1000000000 then (some (0, 7)) else ((continuoref30_last.f k l0 a1 a2).bind fun t298 => (some (t298, 0))))) = some (r1, r2) := by rw [if_pos rfl] at H; exact H
     clear H
     have H := H1
     clear H1
     by_cases c8 : a2 < a1
     · rw [if_pos c8] at H
       have c8b0 : decide (a2 < a1) = true := decide_eq_true c8
       clear c8
       simp only [Option.some.injEq, Prod.mk.injEq] at H
       obtain ⟨rfl, rfl⟩ := H
       go_enter Try.func27, Try.ntmps27
       go_wp2_with (first | ((with_reducible refine gate_callee (f := 11) rfl ?_); refine goesL_ (some 9) rfl rfl Try.func11 (by kernel_rfl) rfl #[.slice A0 l0.length c0] rfl (by (try simp only [List.map_toArray, List.map_cons, List.map_nil]); first | done | rfl | (simp only [List.length_drop, List.length_take]; rfl)) ?_; (with_reducible refine (continuoref30_Valid.calls k _ _ l0 true _ ?side1 ?side2 A4.out).mono ?_); (case side1 => repeat (first | exact HR0.out | (with_reducible refine Kd.C_alloc ?_ _) | (with_reducible refine Kd.C_drewN ?_ _) | (with_reducible refine Kd.C_drew ?_))); (case side2 => exact HC0.out); rintro e w9 ⟨rfl, hb⟩; refine ⟨_, rfl, ?_⟩; have n0_ := Aside0.mk (below_step (by repeat (first | (with_reducible first | exact HB.out | apply below_alloc | apply pw_below_drewN | apply below_drew1) | exact HB.out)) hb); clear HB; have HB := n0_; clear n0_; (try clear hb); (try clear hb2); (try clear hk); (try clear hi)) | ((with_reducible refine gate_callee (f := 50) rfl ?_); refine goesL_ (some 12) rfl rfl Try.func50 (by kernel_rfl) rfl #[.int .i64 a1] rfl (by (try simp only [List.map_toArray, List.map_cons, List.map_nil]); first | done | rfl | (simp only [List.length_drop, List.length_take]; rfl)) ?_; (with_reducible refine (continuoref30_time.calls a1 true _ A6.out).mono ?_); rintro e w' ⟨rfl, ⟨nd, rfl⟩⟩; refine ⟨_, rfl, ?_⟩))
       go_ret2
       exact ⟨by first | rfl | (simp [errW_none, errW_some] <;> rfl) | (simp [*, errW_none, errW_some] <;> rfl), by repeat (first | (with_reducible first | exact HB.out | apply below_alloc | apply pw_below_drewN | apply below_drew1) | exact HB.out)⟩
     · rw [if_neg c8] at H
       have c8b0 : decide (a2 < a1) = false := decide_eq_false c8
       clear c8
       by_cases c10 : a2 > 1000000000
       · rw [if_pos c10] at H
         have c10b0 : decide (1000000000 < a2) = true := decide_eq_true c10
         clear c10
         simp only [Option.some.injEq, Prod.mk.injEq] at H
         obtain ⟨rfl, rfl⟩ := H
         go_enter Try.func27, Try.ntmps27
         go_wp2_with (first | ((with_reducible refine gate_callee (f := 11) rfl ?_); refine goesL_ (some 9) rfl rfl Try.func11 (by kernel_rfl) rfl #[.slice A0 l0.length c0] rfl (by (try simp only [List.map_toArray, List.map_cons, List.map_nil]); first | done | rfl | (simp only [List.length_drop, List.length_take]; rfl)) ?_; (with_reducible refine (continuoref30_Valid.calls k _ _ l0 true _ ?side1 ?side2 A4.out).mono ?_); (case side1 => repeat (first | exact HR0.out | (with_reducible refine Kd.C_alloc ?_ _) | (with_reducible refine Kd.C_drewN ?_ _) | (with_reducible refine Kd.C_drew ?_))); (case side2 => exact HC0.out); rintro e w11 ⟨rfl, hb⟩; refine ⟨_, rfl, ?_⟩; have n0_ := Aside0.mk (below_step (by repeat (first | (with_reducible first | exact HB.out | apply below_alloc | apply pw_below_drewN | apply below_drew1) | exact HB.out)) hb); clear HB; have HB := n0_; clear n0_; (try clear hb); (try clear hb2); (try clear hk); (try clear hi)) | ((with_reducible refine gate_callee (f := 50) rfl ?_); refine goesL_ (some 12) rfl rfl Try.func50 (by kernel_rfl) rfl #[.int .i64 a1] rfl (by (try simp only [List.map_toArray, List.map_cons, List.map_nil]); first | done | rfl | (simp only [List.length_drop, List.length_take]; rfl)) ?_; (with_reducible refine (continuoref30_time.calls a1 true _ A6.out).mono ?_); rintro e w' ⟨rfl, ⟨nd, rfl⟩⟩; refine ⟨_, rfl, ?_⟩))
         go_ret2
         exact ⟨by first | rfl | (simp [errW_none, errW_some] <;> rfl) | (simp [*, errW_none, errW_some] <;> rfl), by repeat (first | (with_reducible first | exact HB.out | apply below_alloc | apply pw_below_drewN | apply below_drew1) | exact HB.out)⟩
       · rw [if_neg c10] at H
         have c10b0 : decide (1000000000 < a2) = false := decide_eq_false c10
         clear c10
         replace H := Option.bind_eq_some_iff.mp H
         obtain ⟨t298, A120, H⟩ := H
         replace H : (some (t298, 0)) = some (r1, r2) := H
         have A12 := Aside0.mk A120
         clear A120
         simp only [Option.some.injEq, Prod.mk.injEq] at H
         obtain ⟨rfl, rfl⟩ := H
         go_enter Try.func27, Try.ntmps27
         go_wp2_with (first | ((with_reducible refine gate_callee (f := 11) rfl ?_); refine goesL_ (some 9) rfl rfl Try.func11 (by kernel_rfl) rfl #[.slice A0 l0.length c0] rfl (by (try simp only [List.map_toArray, List.map_cons, List.map_nil]); first | done | rfl | (simp only [List.length_drop, List.length_take]; rfl)) ?_; (with_reducible refine (continuoref30_Valid.calls k _ _ l0 true _ ?side1 ?side2 A4.out).mono ?_); (case side1 => repeat (first | exact HR0.out | (with_reducible refine Kd.C_alloc ?_ _) | (with_reducible refine Kd.C_drewN ?_ _) | (with_reducible refine Kd.C_drew ?_))); (case side2 => exact HC0.out); rintro e w13 ⟨rfl, hb⟩; refine ⟨_, rfl, ?_⟩; have n0_ := Aside0.mk (below_step (by repeat (first | (with_reducible first | exact HB.out | apply below_alloc | apply pw_below_drewN | apply below_drew1) | exact HB.out)) hb); clear HB; have HB := n0_; clear n0_; (try clear hb); (try clear hb2); (try clear hk); (try clear hi)) | ((with_reducible refine gate_callee (f := 50) rfl ?_); refine goesL_ (some 12) rfl rfl Try.func50 (by kernel_rfl) rfl #[.int .i64 a1] rfl (by (try simp only [List.map_toArray, List.map_cons, List.map_nil]); first | done | rfl | (simp only [List.length_drop, List.length_take]; rfl)) ?_; (with_reducible refine (continuoref30_time.calls a1 true _ A6.out).mono ?_); rintro e w' ⟨rfl, ⟨nd, rfl⟩⟩; refine ⟨_, rfl, ?_⟩) | ((with_reducible refine gate_callee (f := 55) rfl ?_); refine goesL_ (some 26) rfl rfl Try.func55 (by kernel_rfl) rfl #[.slice A0 l0.length c0, .int .i64 a1, .int .i64 a2] rfl (by (try simp only [List.map_toArray, List.map_cons, List.map_nil]); first | done | rfl | (simp only [List.length_drop, List.length_take]; rfl)) ?_; (with_reducible refine (continuoref30_last.calls k _ _ l0 a1 a2 t298 _ ?side1 ?side2 A12.out).mono ?_); (case side1 => repeat (first | exact (Kd.C_below HR0.out (by repeat (first | (with_reducible first | exact HB.out | apply below_alloc | apply pw_below_drewN | apply below_drew1) | exact HB.out))) | (with_reducible refine Kd.C_alloc ?_ _) | (with_reducible refine Kd.C_drewN ?_ _) | (with_reducible refine Kd.C_drew ?_))); (case side2 => exact HC0.out); rintro e w' ⟨rfl, ⟨nd, rfl⟩⟩; refine ⟨_, rfl, ?_⟩))
         go_ret2
         exact ⟨by first | rfl | (simp [errW_none, errW_some] <;> rfl) | (simp [*, errW_none, errW_some] <;> rfl), by repeat (first | (with_reducible first | exact HB.out | apply below_alloc | apply pw_below_drewN | apply below_drew1) | exact HB.out)⟩
   · replace c7 := Bool.eq_false_iff.mpr c7
     subst c7
     have H1 : (some (0, 7)) = some (r1, r2) := by rw [if_neg (show ¬ (false = true) by decide)] at H; exact H
     clear H
     have H := H1
     clear H1
     simp only [Option.some.injEq, Prod.mk.injEq] at H
     obtain ⟨rfl, rfl⟩ := H
     go_enter Try.func27, Try.ntmps27
     go_wp2_with (first | ((with_reducible refine gate_callee (f := 11) rfl ?_); refine goesL_ (some 9) rfl rfl Try.func11 (by kernel_rfl) rfl #[.slice A0 l0.length c0] rfl (by (try simp only [List.map_toArray, List.map_cons, List.map_nil]); first | done | rfl | (simp only [List.length_drop, List.length_take]; rfl)) ?_; (with_reducible refine (continuoref30_Valid.calls k _ _ l0 true _ ?side1 ?side2 A4.out).mono ?_); (case side1 => repeat (first | exact HR0.out | (with_reducible refine Kd.C_alloc ?_ _) | (with_reducible refine Kd.C_drewN ?_ _) | (with_reducible refine Kd.C_drew ?_))); (case side2 => exact HC0.out); rintro e w14 ⟨rfl, hb⟩; refine ⟨_, rfl, ?_⟩; have n0_ := Aside0.mk (below_step (by repeat (first | (with_reducible first | exact HB.out | apply below_alloc | apply pw_below_drewN | apply below_drew1) | exact HB.out)) hb); clear HB; have HB := n0_; clear n0_; (try clear hb); (try clear hb2); (try clear hk); (try clear hi)) | ((with_reducible refine gate_callee (f := 50) rfl ?_); refine goesL_ (some 12) rfl rfl Try.func50 (by kernel_rfl) rfl #[.int .i64 a1] rfl (by (try simp only [List.map_toArray, List.map_cons, List.map_nil]); first | done | rfl | (simp only [List.length_drop, List.length_take]; rfl)) ?_; (with_reducible refine (continuoref30_time.calls a1 false _ A6.out).mono ?_); rintro e w' ⟨rfl, ⟨nd, rfl⟩⟩; refine ⟨_, rfl, ?_⟩))
     go_ret2
     exact ⟨by first | rfl | (simp [errW_none, errW_some] <;> rfl) | (simp [*, errW_none, errW_some] <;> rfl), by repeat (first | (with_reducible first | exact HB.out | apply below_alloc | apply pw_below_drewN | apply below_drew1) | exact HB.out)⟩
 · replace c5 := Bool.eq_false_iff.mpr c5
   subst c5
   have H1 : (some (0, 1)) = some (r1, r2) := by rw [if_neg (show ¬ (false = true) by decide)] at H; exact H
   clear H
   have H := H1
   clear H1
   simp only [Option.some.injEq, Prod.mk.injEq] at H
   obtain ⟨rfl, rfl⟩ := H
   go_enter Try.func27, Try.ntmps27
   go_wp2_with (first | ((with_reducible refine gate_callee (f := 11) rfl ?_); refine goesL_ (some 9) rfl rfl Try.func11 (by kernel_rfl) rfl #[.slice A0 l0.length c0] rfl (by (try simp only [List.map_toArray, List.map_cons, List.map_nil]); first | done | rfl | (simp only [List.length_drop, List.length_take]; rfl)) ?_; (with_reducible refine (continuoref30_Valid.calls k _ _ l0 false _ ?side1 ?side2 A4.out).mono ?_); (case side1 => repeat (first | exact HR0.out | (with_reducible refine Kd.C_alloc ?_ _) | (with_reducible refine Kd.C_drewN ?_ _) | (with_reducible refine Kd.C_drew ?_))); (case side2 => exact HC0.out); rintro e w15 ⟨rfl, hb⟩; refine ⟨_, rfl, ?_⟩; have n0_ := Aside0.mk (below_step (by repeat (first | (with_reducible first | exact HB.out | apply below_alloc | apply pw_below_drewN | apply below_drew1) | exact HB.out)) hb); clear HB; have HB := n0_; clear n0_; (try clear hb); (try clear hb2); (try clear hk); (try clear hi)))
   go_ret2
   exact ⟨by first | rfl | (simp [errW_none, errW_some] <;> rfl) | (simp [*, errW_none, errW_some] <;> rfl), by repeat (first | (with_reducible first | exact HB.out | apply below_alloc | apply pw_below_drewN | apply below_drew1) | exact HB.out)⟩
end Go.Proofs.Ytomlfbmfdoallaa.PA

namespace Go.Proofs.Ytomlfbmfdoallaa.PA
open Go.RowKit Go.Proofs.YtomlfbmfdoallaaW.PrintWords Go.Proofs.YtomlfbmfdoallaaW.PrintLast Go.Proofs.YtomlfbmfdoallaaW.PrintMore
attribute [local go_sem] max2_int min2_int max_two min_two max_three min_three max_four min_four
set_option linter.unusedVariables false
set_option linter.unusedSimpArgs false
def continuoref30_Period.f (k : Nat) (l0 : List (S27)) (a1 : Int) : Option (Int × Int) := (continuoref30_Valid.f k l0).bind fun t299 => (if t299 = true then ((continuoref30_time.f a1).bind fun t300 => (if t300 = true then ((continuoref30_at.f k l0 a1).bind fun t301 => (if 0 ≤ t301 then (if t301 < (l0.length : Int) then (if ((rd_T27 l0 t301).f2) = 0 then (some ((rd_T27 l0 t301).f1, 0)) else (if 0 ≤ (wrap64 (t301 + 1)) then (if (wrap64 (t301 + 1)) < (l0.length : Int) then ((continuoref30_Rounded.f (wrap64 ((wrap64 (((rd_T27 l0 t301).f1) * (wrap64 ((wrap64 (((rd_T27 l0 (wrap64 (t301 + 1))).f0) - ((rd_T27 l0 t301).f0))) - (wrap64 (a1 - ((rd_T27 l0 t301).f0))))))) + (wrap64 (((rd_T27 l0 (wrap64 (t301 + 1))).f1) * (wrap64 (a1 - ((rd_T27 l0 t301).f0))))))) (wrap64 (((rd_T27 l0 (wrap64 (t301 + 1))).f0) - ((rd_T27 l0 t301).f0)))).bind fun t309 => (some (t309, 0))) else (none)) else (none))) else (none)) else (none))) else (some (0, 7)))) else (some (0, 1)))
theorem continuoref30_Period.mono : ∀ a0 a1 k, LeO (continuoref30_Period.f k a0 a1) (continuoref30_Period.f (k + 1) a0 a1) := by
 intro a0 a1 k
 unfold continuoref30_Period.f
 repeat' first
  | (with_reducible exact continuoref30_Valid.mono _ _)
  | (with_reducible exact continuoref30_at.mono _ _ _)
  | (with_reducible exact LeO.refl _)
  | (with_reducible exact LeO.none _)
  | (with_reducible refine LeO.ite ?_ ?_)
  | (with_reducible refine LeO.bind ?_ (fun _ => ?_))
  | exact continuoref30_Valid.mono _ _
  | exact continuoref30_at.mono _ _ _
  | exact LeO.none _
  | refine LeO.ite ?_ ?_
  | refine LeO.bind ?_ (fun _ => ?_)
set_option maxHeartbeats 8000000 in
set_option maxRecDepth 100000 in
theorem continuoref30_Period.calls (k : Nat) (A0 : Option Addr) (c0 : Nat) (l0 : List (S27)) (a1 : Int) (r1 : Int) (r2 : Int) (w : World) (hr0 : Kd.C k27 w A0 l0.length l0) (hc0 : l0.length ≤ c0) (h : continuoref30_Period.f k l0 a1 = some (r1, r2)) :
 Calls Try.prog 28 #[.slice A0 l0.length c0, .int .i64 a1] w fun e w' => e = .returned (.tuple #[.int .i64 r1, .int .i64 r2]) ∧ Below w.heap.size w w' := by
 have HR0 := Aside0.mk hr0
 have HC0 := Aside0.mk hc0
 clear hr0 hc0
 have HB := Aside0.mk (Below.refl w.heap.size w)
 have H : ((continuoref30_Valid.f k l0).bind fun t299 => (if t299 = true then ((continuoref30_time.f a1).bind fun t300 => (if t300 = true then ((continuoref30_at.f k l0 a1).bind fun t301 => (if 0 ≤ t301 then (if t301 < (l0.length : Int) then (if ((rd_T27 l0 t301).f2) = 0 then (some ((rd_T27 l0 t301).f1, 0)) else (if 0 ≤ (wrap64 (t301 + 1)) then (if (wrap64 (t301 + 1)) < (l0.length : Int) then ((continuoref30_Rounded.f (wrap64 ((wrap64 (((rd_T27 l0 t301).f1) * (wrap64 ((wrap64 (((rd_T27 l0 (wrap64 (t301 + 1))).f0) - ((rd_T27 l0 t301).f0))) - (wrap64 (a1 - ((rd_T27 l0 t301).f0))))))) + (wrap64 (((rd_T27 l0 (wrap64 (t301 + 1))).f1) * (wrap64 (a1 - ((rd_T27 l0 t301).f0))))))) (wrap64 (((rd_T27 l0 (wrap64 (t301 + 1))).f0) - ((rd_T27 l0 t301).f0)))).bind fun t309 => (some (t309, 0))) else (none)) else (none))) else (none)) else (none))) else (some (0, 7)))) else (some (0, 1)))) = some (r1, r2) := h
 clear h
 replace H := Option.bind_eq_some_iff.mp H
 obtain ⟨t299, A30, H⟩ := H
 replace H : (if t299 = true then ((continuoref30_time.f a1).bind fun t300 => (if t300 = true then ((continuoref30_at.f k l0 a1).bind fun t301 => (if 0 ≤ t301 then (if t301 < (l0.length : Int) then (if ((rd_T27 l0 t301).f2) = 0 then (some ((rd_T27 l0 t301).f1, 0)) else (if 0 ≤ (wrap64 (t301 + 1)) then (if (wrap64 (t301 + 1)) < (l0.length : Int) then ((continuoref30_Rounded.f (wrap64 ((wrap64 (((rd_T27 l0 t301).f1) * (wrap64 ((wrap64 (((rd_T27 l0 (wrap64 (t301 + 1))).f0) - ((rd_T27 l0 t301).f0))) - (wrap64 (a1 - ((rd_T27 l0 t301).f0))))))) + (wrap64 (((rd_T27 l0 (wrap64 (t301 + 1))).f1) * (wrap64 (a1 - ((rd_T27 l0 t301).f0))))))) (wrap64 (((rd_T27 l0 (wrap64 (t301 + 1))).f0) - ((rd_T27 l0 t301).f0)))).bind fun t309 => (some (t309, 0))) else (none)) else (none))) else (none)) else (none))) else (some (0, 7)))) else (some (0, 1))) = some (r1, r2) := H
 have A3 := Aside0.mk A30
 clear A30
 by_cases c4 : t299 = true
 · subst c4
   have H1 : ((continuoref30_time.f a1).bind fun t300 => (if t300 = true then ((continuoref30_at.f k l0 a1).bind fun t301 => (if 0 ≤ t301 then (if t301 < (l0.length : Int) then (if ((rd_T27 l0 t301).f2) = 0 then (some ((rd_T27 l0 t301).f1, 0)) else (if 0 ≤ (wrap64 (t301 + 1)) then (if (wrap64 (t301 + 1)) < (l0.length : Int) then ((continuoref30_Rounded.f (wrap64 ((wrap64 (((rd_T27 l0 t301).f1) * (wrap64 ((wrap64 (((rd_T27 l0 (wrap64 (t301 + 1))).f0) - ((rd_T27 l0 t301).f0))) - (wrap64 (a1 - ((rd_T27 l0 t301).f0))))))) + (wrap64 (((rd_T27 l0 (wrap64 (t301 + 1))).f1) * (wrap64 (a1 - ((rd_T27 l0 t301).f0))))))) (wrap64 (((rd_T27 l0 (wrap64 (t301 + 1))).f0) - ((rd_T27 l0 t301).f0)))).bind fun t309 => (some (t309, 0))) else (none)) else (none))) else (none)) else (none))) else (some (0, 7)))) = some (r1, r2) := by rw [if_pos rfl] at H; exact H
   clear H
   have H := H1
   clear H1
   replace H := Option.bind_eq_some_iff.mp H
   obtain ⟨t300, A50, H⟩ := H
   replace H : (if t300 = true then ((continuoref30_at.f k l0 a1).bind fun t301 => (if 0 ≤ t301 then (if t301 < (l0.length : Int) then (if ((rd_T27 l0 t301).f2) = 0 then (some ((rd_T27 l0 t301).f1, 0)) else (if 0 ≤ (wrap64 (t301 + 1)) then (if (wrap64 (t301 + 1)) < (l0.length : Int) then ((continuoref30_Rounded.f (wrap64 ((wrap64 (((rd_T27 l0 t301).f1) * (wrap64 ((wrap64 (((rd_T27 l0 (wrap64 (t301 + 1))).f0) - ((rd_T27 l0 t301).f0))) - (wrap64 (a1 - ((rd_T27 l0 t301).f0))))))) + (wrap64 (((rd_T27 l0 (wrap64 (t301 + 1))).f1) * (wrap64 (a1 - ((rd_T27 l0 t301).f0))))))) (wrap64 (((rd_T27 l0 (wrap64 (t301 + 1))).f0) - ((rd_T27 l0 t301).f0)))).bind fun t309 => (some (t309, 0))) else (none)) else (none))) else (none)) else (none))) else (some (0, 7))) = some (r1, r2) := H
   have A5 := Aside0.mk A50
   clear A50
   by_cases c6 : t300 = true
   · subst c6
     have H1 : ((continuoref30_at.f k l0 a1).bind fun t301 => (if 0 ≤ t301 then (if t301 < (l0.length : Int) then (if ((rd_T27 l0 t301).f2) = 0 then (some ((rd_T27 l0 t301).f1, 0)) else (if 0 ≤ (wrap64 (t301 + 1)) then (if (wrap64 (t301 + 1)) < (l0.length : Int) then ((continuoref30_Rounded.f (wrap64 ((wrap64 (((rd_T27 l0 t301).f1) * (wrap64 ((wrap64 (((rd_T27 l0 (wrap64 (t301 + 1))).f0) - ((rd_T27 l0 t301).f0))) - (wrap64 (a1 - ((rd_T27 l0 t301).f0))))))) + (wrap64 (((rd_T27 l0 (wrap64 (t301 + 1))).f1) * (wrap64 (a1 - ((rd_T27 l0 t301).f0))))))) (wrap64 (((rd_T27 l0 (wrap64 (t301 + 1))).f0) - ((rd_T27 l0 t301).f0)))).bind fun t309 => (some (t309, 0))) else (none)) else (none))) else (none)) else (none))) = some (r1, r2) := by rw [if_pos rfl] at H; exact H
     clear H
     have H := H1
     clear H1
     replace H := Option.bind_eq_some_iff.mp H
     obtain ⟨t301, A70, H⟩ := H
     replace H : (if 0 ≤ t301 then (if t301 < (l0.length : Int) then (if ((rd_T27 l0 t301).f2) = 0 then (some ((rd_T27 l0 t301).f1, 0)) else (if 0 ≤ (wrap64 (t301 + 1)) then (if (wrap64 (t301 + 1)) < (l0.length : Int) then ((continuoref30_Rounded.f (wrap64 ((wrap64 (((rd_T27 l0 t301).f1) * (wrap64 ((wrap64 (((rd_T27 l0 (wrap64 (t301 + 1))).f0) - ((rd_T27 l0 t301).f0))) - (wrap64 (a1 - ((rd_T27 l0 t301).f0))))))) + (wrap64 (((rd_T27 l0 (wrap64 (t301 + 1))).f1) * (wrap64 (a1 - ((rd_T27 l0 t301).f0))))))) (wrap64 (((rd_T27 l0 (wrap64 (t301 + 1))).f0) - ((rd_T27 l0 t301).f0)))).bind fun t309 => (some (t309, 0))) else (none)) else (none))) else (none)) else (none)) = some (r1, r2) := H
     have A7 := Aside0.mk A70
     clear A70
     by_cases c8 : 0 ≤ t301
     · rw [if_pos c8] at H
       have c8b0 : decide (0 ≤ t301) = true := decide_eq_true c8
       clear c8
       by_cases c9 : t301 < (l0.length : Int)
       · rw [if_pos c9] at H
         have c9b0 : decide (t301 < (l0.length : Int)) = true := decide_eq_true c9
         clear c9
         by_cases c10 : ((rd_T27 l0 t301).f2) = 0
         · rw [if_pos c10] at H
           have c10b0 : (((rd_T27 l0 t301).f2) == 0) = true := beq_iff_eq.mpr c10
           have c10b1 : (((rd_T27 l0 t301).f2) != 0) = false := bne_eq_false_iff_eq.mpr c10
           clear c10
           simp only [Option.some.injEq, Prod.mk.injEq] at H
           obtain ⟨rfl, rfl⟩ := H
           go_enter Try.func28, Try.ntmps28
           go_wp2_with (first | (go_at_call 11; (with_reducible refine (continuoref30_Valid.calls k _ _ l0 true _ ?side1 ?side2 A3.out).mono ?_); (case side1 => repeat (first | exact HR0.out | (with_reducible refine Kd.C_alloc ?_ _) | (with_reducible refine Kd.C_drewN ?_ _) | (with_reducible refine Kd.C_drew ?_))); (case side2 => exact HC0.out); rintro e w11 ⟨rfl, hb⟩; have n0_ := Aside0.mk (below_step (by repeat (first | (with_reducible first | exact HB.out | apply below_alloc | apply pw_below_drewN | apply below_drew1) | exact HB.out)) hb); clear HB; have HB := n0_; clear n0_; (try clear hb); (try clear hb2); (try clear hk); (try clear hi)) | (go_at_call 50; (with_reducible refine (continuoref30_time.calls a1 true _ A5.out).mono ?_); rintro e w' ⟨rfl, ⟨nd, rfl⟩⟩; (try first | exact ⟨rfl, _, World.drewN_drewN _ _ _⟩ | exact ⟨rfl, _, Eq.trans (World.drewN_drewN _ _ _) (congrArg (World.drewN _) (Nat.add_assoc _ _ _))⟩)) | (go_at_call 56; (with_reducible refine (continuoref30_at.calls k _ _ l0 a1 t301 _ ?side1 ?side2 A7.out).mono ?_); (case side1 => repeat (first | exact (Kd.C_below HR0.out (by repeat (first | (with_reducible first | exact HB.out | apply below_alloc | apply pw_below_drewN | apply below_drew1) | exact HB.out))) | (with_reducible refine Kd.C_alloc ?_ _) | (with_reducible refine Kd.C_drewN ?_ _) | (with_reducible refine Kd.C_drew ?_))); (case side2 => exact HC0.out); rintro e w' ⟨rfl, ⟨nd, rfl⟩⟩; (try first | exact ⟨rfl, _, World.drewN_drewN _ _ _⟩ | exact ⟨rfl, _, Eq.trans (World.drewN_drewN _ _ _) (congrArg (World.drewN _) (Nat.add_assoc _ _ _))⟩); have p302 : 0 ≤ (t301 : Int) := of_decide_eq_true (by first | (with_reducible assumption) | assumption); have q302 : t301 < (l0.length : Int) := of_decide_eq_true (by first | (with_reducible assumption) | assumption); obtain ⟨ad302, e302, hx302_0, hx302_1, hx302_2⟩ := at_T27 HR0.out t301 p302 q302; cases e302; replace hx302_0 := (HB.out.cell (World.block_lt_of_cell? w _ hx302_0)).trans hx302_0; replace hx302_1 := (HB.out.cell (World.block_lt_of_cell? w _ hx302_1)).trans hx302_1; replace hx302_2 := (HB.out.cell (World.block_lt_of_cell? w _ hx302_2)).trans hx302_2; replace p302 := eq_true p302; replace q302 := eq_true q302; have p303 : 0 ≤ (t301 : Int) := of_decide_eq_true (by first | (with_reducible assumption) | assumption); have q303 : t301 < (l0.length : Int) := of_decide_eq_true (by first | (with_reducible assumption) | assumption); obtain ⟨ad303, e303, hx303_0, hx303_1, hx303_2⟩ := at_T27 HR0.out t301 p303 q303; obtain rfl : ad302 = ad303 := (by injection e303); replace hx303_0 := (HB.out.cell (World.block_lt_of_cell? w _ hx303_0)).trans hx303_0; replace hx303_1 := (HB.out.cell (World.block_lt_of_cell? w _ hx303_1)).trans hx303_1; replace hx303_2 := (HB.out.cell (World.block_lt_of_cell? w _ hx303_2)).trans hx303_2; replace p303 := eq_true p303; replace q303 := eq_true q303))
           repeat (go_quiet (first | (go_at_call 11; (with_reducible refine (continuoref30_Valid.calls k _ _ l0 true _ ?side1 ?side2 A3.out).mono ?_); (case side1 => repeat (first | exact HR0.out | (with_reducible refine Kd.C_alloc ?_ _) | (with_reducible refine Kd.C_drewN ?_ _) | (with_reducible refine Kd.C_drew ?_))); (case side2 => exact HC0.out); rintro e w11 ⟨rfl, hb⟩; have n0_ := Aside0.mk (below_step (by repeat (first | (with_reducible first | exact HB.out | apply below_alloc | apply pw_below_drewN | apply below_drew1) | exact HB.out)) hb); clear HB; have HB := n0_; clear n0_; (try clear hb); (try clear hb2); (try clear hk); (try clear hi)) | (go_at_call 50; (with_reducible refine (continuoref30_time.calls a1 true _ A5.out).mono ?_); rintro e w' ⟨rfl, ⟨nd, rfl⟩⟩; (try first | exact ⟨rfl, _, World.drewN_drewN _ _ _⟩ | exact ⟨rfl, _, Eq.trans (World.drewN_drewN _ _ _) (congrArg (World.drewN _) (Nat.add_assoc _ _ _))⟩)) | (go_at_call 56; (with_reducible refine (continuoref30_at.calls k _ _ l0 a1 t301 _ ?side1 ?side2 A7.out).mono ?_); (case side1 => repeat (first | exact (Kd.C_below HR0.out (by repeat (first | (with_reducible first | exact HB.out | apply below_alloc | apply pw_below_drewN | apply below_drew1) | exact HB.out))) | (with_reducible refine Kd.C_alloc ?_ _) | (with_reducible refine Kd.C_drewN ?_ _) | (with_reducible refine Kd.C_drew ?_))); (case side2 => exact HC0.out); rintro e w' ⟨rfl, ⟨nd, rfl⟩⟩; (try first | exact ⟨rfl, _, World.drewN_drewN _ _ _⟩ | exact ⟨rfl, _, Eq.trans (World.drewN_drewN _ _ _) (congrArg (World.drewN _) (Nat.add_assoc _ _ _))⟩); have p302 : 0 ≤ (t301 : Int) := of_decide_eq_true (by first | (with_reducible assumption) | assumption); have q302 : t301 < (l0.length : Int) := of_decide_eq_true (by first | (with_reducible assumption) | assumption); obtain ⟨ad302, e302, hx302_0, hx302_1, hx302_2⟩ := at_T27 HR0.out t301 p302 q302; cases e302; replace hx302_0 := (HB.out.cell (World.block_lt_of_cell? w _ hx302_0)).trans hx302_0; replace hx302_1 := (HB.out.cell (World.block_lt_of_cell? w _ hx302_1)).trans hx302_1; replace hx302_2 := (HB.out.cell (World.block_lt_of_cell? w _ hx302_2)).trans hx302_2; replace p302 := eq_true p302; replace q302 := eq_true q302; have p303 : 0 ≤ (t301 : Int) := of_decide_eq_true (by first | (with_reducible assumption) | assumption); have q303 : t301 < (l0.length : Int) := of_decide_eq_true (by first | (with_reducible assumption) | assumption); obtain ⟨ad303, e303, hx303_0, hx303_1, hx303_2⟩ := at_T27 HR0.out t301 p303 q303; obtain rfl : ad302 = ad303 := (by injection e303); replace hx303_0 := (HB.out.cell (World.block_lt_of_cell? w _ hx303_0)).trans hx303_0; replace hx303_1 := (HB.out.cell (World.block_lt_of_cell? w _ hx303_1)).trans hx303_1; replace hx303_2 := (HB.out.cell (World.block_lt_of_cell? w _ hx303_2)).trans hx303_2; replace p303 := eq_true p303; replace q303 := eq_true q303)); try go_wp2_with (first | (go_at_call 11; (with_reducible refine (continuoref30_Valid.calls k _ _ l0 true _ ?side1 ?side2 A3.out).mono ?_); (case side1 => repeat (first | exact HR0.out | (with_reducible refine Kd.C_alloc ?_ _) | (with_reducible refine Kd.C_drewN ?_ _) | (with_reducible refine Kd.C_drew ?_))); (case side2 => exact HC0.out); rintro e w11 ⟨rfl, hb⟩; have n0_ := Aside0.mk (below_step (by repeat (first | (with_reducible first | exact HB.out | apply below_alloc | apply pw_below_drewN | apply below_drew1) | exact HB.out)) hb); clear HB; have HB := n0_; clear n0_; (try clear hb); (try clear hb2); (try clear hk); (try clear hi)) | (go_at_call 50; (with_reducible refine (continuoref30_time.calls a1 true _ A5.out).mono ?_); rintro e w' ⟨rfl, ⟨nd, rfl⟩⟩; (try first | exact ⟨rfl, _, World.drewN_drewN _ _ _⟩ | exact ⟨rfl, _, Eq.trans (World.drewN_drewN _ _ _) (congrArg (World.drewN _) (Nat.add_assoc _ _ _))⟩)) | (go_at_call 56; (with_reducible refine (continuoref30_at.calls k _ _ l0 a1 t301 _ ?side1 ?side2 A7.out).mono ?_); (case side1 => repeat (first | exact (Kd.C_below HR0.out (by repeat (first | (with_reducible first | exact HB.out | apply below_alloc | apply pw_below_drewN | apply below_drew1) | exact HB.out))) | (with_reducible refine Kd.C_alloc ?_ _) | (with_reducible refine Kd.C_drewN ?_ _) | (with_reducible refine Kd.C_drew ?_))); (case side2 => exact HC0.out); rintro e w' ⟨rfl, ⟨nd, rfl⟩⟩; (try first | exact ⟨rfl, _, World.drewN_drewN _ _ _⟩ | exact ⟨rfl, _, Eq.trans (World.drewN_drewN _ _ _) (congrArg (World.drewN _) (Nat.add_assoc _ _ _))⟩); have p302 : 0 ≤ (t301 : Int) := of_decide_eq_true (by first | (with_reducible assumption) | assumption); have q302 : t301 < (l0.length : Int) := of_decide_eq_true (by first | (with_reducible assumption) | assumption); obtain ⟨ad302, e302, hx302_0, hx302_1, hx302_2⟩ := at_T27 HR0.out t301 p302 q302; cases e302; replace hx302_0 := (HB.out.cell (World.block_lt_of_cell? w _ hx302_0)).trans hx302_0; replace hx302_1 := (HB.out.cell (World.block_lt_of_cell? w _ hx302_1)).trans hx302_1; replace hx302_2 := (HB.out.cell (World.block_lt_of_cell? w _ hx302_2)).trans hx302_2; replace p302 := eq_true p302; replace q302 := eq_true q302; have p303 : 0 ≤ (t301 : Int) := of_decide_eq_true (by first | (with_reducible assumption) | assumption); have q303 : t301 < (l0.length : Int) := of_decide_eq_true (by first | (with_reducible assumption) | assumption); obtain ⟨ad303, e303, hx303_0, hx303_1, hx303_2⟩ := at_T27 HR0.out t301 p303 q303; obtain rfl : ad302 = ad303 := (by injection e303); replace hx303_0 := (HB.out.cell (World.block_lt_of_cell? w _ hx303_0)).trans hx303_0; replace hx303_1 := (HB.out.cell (World.block_lt_of_cell? w _ hx303_1)).trans hx303_1; replace hx303_2 := (HB.out.cell (World.block_lt_of_cell? w _ hx303_2)).trans hx303_2; replace p303 := eq_true p303; replace q303 := eq_true q303)))
           go_ret2
           exact ⟨by first | rfl | (simp [errW_none, errW_some] <;> rfl) | (simp [*, errW_none, errW_some] <;> rfl), by repeat (first | (with_reducible first | exact HB.out | apply below_alloc | apply pw_below_drewN | apply below_drew1) | exact HB.out)⟩
         · rw [if_neg c10] at H
           have c10b0 : (((rd_T27 l0 t301).f2) == 0) = false := beq_eq_false_iff_ne.mpr c10
           have c10b1 : (((rd_T27 l0 t301).f2) != 0) = true := bne_iff_ne.mpr c10
           obtain ⟨ji12, hji12⟩ : ∃ j_ : Int, (wrap64 (t301 + 1)) = j_ := ⟨_, rfl⟩
           replace H : (if 0 ≤ (ji12) then (if (ji12) < (l0.length : Int) then ((continuoref30_Rounded.f (wrap64 ((wrap64 (((rd_T27 l0 t301).f1) * (wrap64 ((wrap64 (((rd_T27 l0 (ji12)).f0) - ((rd_T27 l0 t301).f0))) - (wrap64 (a1 - ((rd_T27 l0 t301).f0))))))) + (wrap64 (((rd_T27 l0 (ji12)).f1) * (wrap64 (a1 - ((rd_T27 l0 t301).f0))))))) (wrap64 (((rd_T27 l0 (ji12)).f0) - ((rd_T27 l0 t301).f0)))).bind fun t309 => (some (t309, 0))) else (none)) else (none)) = some (r1, r2) := by first | (rw [hji12] at H; exact H) | (simp only [hji12] at H ⊢; exact H)
           (try rw [hji12] at A3)
           (try rw [hji12] at A5)
           (try rw [hji12] at A7)
           have hji12w : (IntKind.i64.wrap (t301 + 1)) = ji12 := (i64_w _).trans hji12
           by_cases c13 : 0 ≤ (ji12)
           · rw [if_pos c13] at H
             have c13b0 : decide (0 ≤ (ji12)) = true := decide_eq_true c13
             clear c13
             by_cases c14 : (ji12) < (l0.length : Int)
             · rw [if_pos c14] at H
               have c14b0 : decide ((ji12) < (l0.length : Int)) = true := decide_eq_true c14
               clear c14
               replace H := Option.bind_eq_some_iff.mp H
               obtain ⟨t309, A150, H⟩ := H
               replace H : (some (t309, 0)) = some (r1, r2) := H
               have A15 := Aside0.mk A150
               clear A150
               simp only [Option.some.injEq, Prod.mk.injEq] at H
               obtain ⟨rfl, rfl⟩ := H
               go_enter Try.func28, Try.ntmps28
               go_wp2_with (first | (go_at_call 11; (with_reducible refine (continuoref30_Valid.calls k _ _ l0 true _ ?side1 ?side2 A3.out).mono ?_); (case side1 => repeat (first | exact HR0.out | (with_reducible refine Kd.C_alloc ?_ _) | (with_reducible refine Kd.C_drewN ?_ _) | (with_reducible refine Kd.C_drew ?_))); (case side2 => exact HC0.out); rintro e w16 ⟨rfl, hb⟩; have n0_ := Aside0.mk (below_step (by repeat (first | (with_reducible first | exact HB.out | apply below_alloc | apply pw_below_drewN | apply below_drew1) | exact HB.out)) hb); clear HB; have HB := n0_; clear n0_; (try clear hb); (try clear hb2); (try clear hk); (try clear hi)) | (go_at_call 50; (with_reducible refine (continuoref30_time.calls a1 true _ A5.out).mono ?_); rintro e w' ⟨rfl, ⟨nd, rfl⟩⟩; (try first | exact ⟨rfl, _, World.drewN_drewN _ _ _⟩ | exact ⟨rfl, _, Eq.trans (World.drewN_drewN _ _ _) (congrArg (World.drewN _) (Nat.add_assoc _ _ _))⟩)) | (go_at_call 56; (with_reducible refine (continuoref30_at.calls k _ _ l0 a1 t301 _ ?side1 ?side2 A7.out).mono ?_); (case side1 => repeat (first | exact (Kd.C_below HR0.out (by repeat (first | (with_reducible first | exact HB.out | apply below_alloc | apply pw_below_drewN | apply below_drew1) | exact HB.out))) | (with_reducible refine Kd.C_alloc ?_ _) | (with_reducible refine Kd.C_drewN ?_ _) | (with_reducible refine Kd.C_drew ?_))); (case side2 => exact HC0.out); rintro e w' ⟨rfl, ⟨nd, rfl⟩⟩; (try first | exact ⟨rfl, _, World.drewN_drewN _ _ _⟩ | exact ⟨rfl, _, Eq.trans (World.drewN_drewN _ _ _) (congrArg (World.drewN _) (Nat.add_assoc _ _ _))⟩); have p302 : 0 ≤ (t301 : Int) := of_decide_eq_true (by first | (with_reducible assumption) | assumption); have q302 : t301 < (l0.length : Int) := of_decide_eq_true (by first | (with_reducible assumption) | assumption); obtain ⟨ad302, e302, hx302_0, hx302_1, hx302_2⟩ := at_T27 HR0.out t301 p302 q302; cases e302; replace hx302_0 := (HB.out.cell (World.block_lt_of_cell? w _ hx302_0)).trans hx302_0; replace hx302_1 := (HB.out.cell (World.block_lt_of_cell? w _ hx302_1)).trans hx302_1; replace hx302_2 := (HB.out.cell (World.block_lt_of_cell? w _ hx302_2)).trans hx302_2; replace p302 := eq_true p302; replace q302 := eq_true q302; have p304 : 0 ≤ ((ji12) : Int) := of_decide_eq_true (by first | (with_reducible assumption) | assumption); have q304 : (ji12) < (l0.length : Int) := of_decide_eq_true (by first | (with_reducible assumption) | assumption); obtain ⟨ad304, e304, hx304_0, hx304_1, hx304_2⟩ := at_T27 HR0.out (ji12) p304 q304; obtain rfl : ad302 = ad304 := (by injection e304); replace hx304_0 := (HB.out.cell (World.block_lt_of_cell? w _ hx304_0)).trans hx304_0; replace hx304_1 := (HB.out.cell (World.block_lt_of_cell? w _ hx304_1)).trans hx304_1; replace hx304_2 := (HB.out.cell (World.block_lt_of_cell? w _ hx304_2)).trans hx304_2; replace p304 := eq_true p304; replace q304 := eq_true q304; have p305 : 0 ≤ (t301 : Int) := of_decide_eq_true (by first | (with_reducible assumption) | assumption); have q305 : t301 < (l0.length : Int) := of_decide_eq_true (by first | (with_reducible assumption) | assumption); obtain ⟨ad305, e305, hx305_0, hx305_1, hx305_2⟩ := at_T27 HR0.out t301 p305 q305; obtain rfl : ad302 = ad305 := (by injection e305); replace hx305_0 := (HB.out.cell (World.block_lt_of_cell? w _ hx305_0)).trans hx305_0; replace hx305_1 := (HB.out.cell (World.block_lt_of_cell? w _ hx305_1)).trans hx305_1; replace hx305_2 := (HB.out.cell (World.block_lt_of_cell? w _ hx305_2)).trans hx305_2; replace p305 := eq_true p305; replace q305 := eq_true q305; have p306 : 0 ≤ (t301 : Int) := of_decide_eq_true (by first | (with_reducible assumption) | assumption); have q306 : t301 < (l0.length : Int) := of_decide_eq_true (by first | (with_reducible assumption) | assumption); obtain ⟨ad306, e306, hx306_0, hx306_1, hx306_2⟩ := at_T27 HR0.out t301 p306 q306; obtain rfl : ad302 = ad306 := (by injection e306); replace hx306_0 := (HB.out.cell (World.block_lt_of_cell? w _ hx306_0)).trans hx306_0; replace hx306_1 := (HB.out.cell (World.block_lt_of_cell? w _ hx306_1)).trans hx306_1; replace hx306_2 := (HB.out.cell (World.block_lt_of_cell? w _ hx306_2)).trans hx306_2; replace p306 := eq_true p306; replace q306 := eq_true q306; have p307 : 0 ≤ (t301 : Int) := of_decide_eq_true (by first | (with_reducible assumption) | assumption); have q307 : t301 < (l0.length : Int) := of_decide_eq_true (by first | (with_reducible assumption) | assumption); obtain ⟨ad307, e307, hx307_0, hx307_1, hx307_2⟩ := at_T27 HR0.out t301 p307 q307; obtain rfl : ad302 = ad307 := (by injection e307); replace hx307_0 := (HB.out.cell (World.block_lt_of_cell? w _ hx307_0)).trans hx307_0; replace hx307_1 := (HB.out.cell (World.block_lt_of_cell? w _ hx307_1)).trans hx307_1; replace hx307_2 := (HB.out.cell (World.block_lt_of_cell? w _ hx307_2)).trans hx307_2; replace p307 := eq_true p307; replace q307 := eq_true q307; have p308 : 0 ≤ ((ji12) : Int) := of_decide_eq_true (by first | (with_reducible assumption) | assumption); have q308 : (ji12) < (l0.length : Int) := of_decide_eq_true (by first | (with_reducible assumption) | assumption); obtain ⟨ad308, e308, hx308_0, hx308_1, hx308_2⟩ := at_T27 HR0.out (ji12) p308 q308; obtain rfl : ad302 = ad308 := (by injection e308); replace hx308_0 := (HB.out.cell (World.block_lt_of_cell? w _ hx308_0)).trans hx308_0; replace hx308_1 := (HB.out.cell (World.block_lt_of_cell? w _ hx308_1)).trans hx308_1; replace hx308_2 := (HB.out.cell (World.block_lt_of_cell? w _ hx308_2)).trans hx308_2; replace p308 := eq_true p308; replace q308 := eq_true q308) | (go_at_call 45; (with_reducible refine (continuoref30_Rounded.calls (wrap64 ((wrap64 (((rd_T27 l0 t301).f1) * (wrap64 ((wrap64 (((rd_T27 l0 (ji12)).f0) - ((rd_T27 l0 t301).f0))) - (wrap64 (a1 - ((rd_T27 l0 t301).f0))))))) + (wrap64 (((rd_T27 l0 (ji12)).f1) * (wrap64 (a1 - ((rd_T27 l0 t301).f0))))))) (wrap64 (((rd_T27 l0 (ji12)).f0) - ((rd_T27 l0 t301).f0))) t309 _ A15.out).mono ?_); rintro e w' ⟨rfl, ⟨nd, rfl⟩⟩; (try first | exact ⟨rfl, _, World.drewN_drewN _ _ _⟩ | exact ⟨rfl, _, Eq.trans (World.drewN_drewN _ _ _) (congrArg (World.drewN _) (Nat.add_assoc _ _ _))⟩)))
               repeat (go_quiet (first | (go_at_call 11; (with_reducible refine (continuoref30_Valid.calls k _ _ l0 true _ ?side1 ?side2 A3.out).mono ?_); (case side1 => repeat (first | exact HR0.out | (with_reducible refine Kd.C_alloc ?_ _) | (with_reducible refine Kd.C_drewN ?_ _) | (with_reducible refine Kd.C_drew ?_))); (case side2 => exact HC0.out); rintro e w16 ⟨rfl, hb⟩; have n0_ := Aside0.mk (below_step (by repeat (first | (with_reducible first | exact HB.out | apply below_alloc | apply pw_below_drewN | apply below_drew1) | exact HB.out)) hb); clear HB; have HB := n0_; clear n0_; (try clear hb); (try clear hb2); (try clear hk); (try clear hi)) | (go_at_call 50; (with_reducible refine (continuoref30_time.calls a1 true _ A5.out).mono ?_); rintro e w' ⟨rfl, ⟨nd, rfl⟩⟩; (try first | exact ⟨rfl, _, World.drewN_drewN _ _ _⟩ | exact ⟨rfl, _, Eq.trans (World.drewN_drewN _ _ _) (congrArg (World.drewN _) (Nat.add_assoc _ _ _))⟩)) | (go_at_call 56; (with_reducible refine (continuoref30_at.calls k _ _ l0 a1 t301 _ ?side1 ?side2 A7.out).mono ?_); (case side1 => repeat (first | exact (Kd.C_below HR0.out (by repeat (first | (with_reducible first | exact HB.out | apply below_alloc | apply pw_below_drewN | apply below_drew1) | exact HB.out))) | (with_reducible refine Kd.C_alloc ?_ _) | (with_reducible refine Kd.C_drewN ?_ _) | (with_reducible refine Kd.C_drew ?_))); (case side2 => exact HC0.out); rintro e w' ⟨rfl, ⟨nd, rfl⟩⟩; (try first | exact ⟨rfl, _, World.drewN_drewN _ _ _⟩ | exact ⟨rfl, _, Eq.trans (World.drewN_drewN _ _ _) (congrArg (World.drewN _) (Nat.add_assoc _ _ _))⟩); have p302 : 0 ≤ (t301 : Int) := of_decide_eq_true (by first | (with_reducible assumption) | assumption); have q302 : t301 < (l0.length : Int) := of_decide_eq_true (by first | (with_reducible assumption) | assumption); obtain ⟨ad302, e302, hx302_0, hx302_1, hx302_2⟩ := at_T27 HR0.out t301 p302 q302; cases e302; replace hx302_0 := (HB.out.cell (World.block_lt_of_cell? w _ hx302_0)).trans hx302_0; replace hx302_1 := (HB.out.cell (World.block_lt_of_cell? w _ hx302_1)).trans hx302_1; replace hx302_2 := (HB.out.cell (World.block_lt_of_cell? w _ hx302_2)).trans hx302_2; replace p302 := eq_true p302; replace q302 := eq_true q302; have p304 : 0 ≤ ((ji12) : Int) := of_decide_eq_true (by first | (with_reducible assumption) | assumption); have q304 : (ji12) < (l0.length : Int) := of_decide_eq_true (by first | (with_reducible assumption) | assumption); obtain ⟨ad304, e304, hx304_0, hx304_1, hx304_2⟩ := at_T27 HR0.out (ji12) p304 q304; obtain rfl : ad302 = ad304 := (by injection e304); replace hx304_0 := (HB.out.cell (World.block_lt_of_cell? w _ hx304_0)).trans hx304_0; replace hx304_1 := (HB.out.cell (World.block_lt_of_cell? w _ hx304_1)).trans hx304_1; replace hx304_2 := (HB.out.cell (World.block_lt_of_cell? w _ hx304_2)).trans hx304_2; replace p304 := eq_true p304; replace q304 := eq_true q304; have p305 : 0 ≤ (t301 : Int) := of_decide_eq_true (by first | (with_reducible assumption) | assumption); have q305 : t301 < (l0.length : Int) := of_decide_eq_true (by first | (with_reducible assumption) | assumption); obtain ⟨ad305, e305, hx305_0, hx305_1, hx305_2⟩ := at_T27 HR0.out t301 p305 q305; obtain rfl : ad302 = ad305 := (by injection e305); replace hx305_0 := (HB.out.cell (World.block_lt_of_cell? w _ hx305_0)).trans hx305_0; replace hx305_1 := (HB.out.cell (World.block_lt_of_cell? w _ hx305_1)).trans hx305_1; replace hx305_2 := (HB.out.cell (World.block_lt_of_cell? w _ hx305_2)).trans hx305_2; replace p305 := eq_true p305; replace q305 := eq_true q305; have p306 : 0 ≤ (t301 : Int) := of_decide_eq_true (by first | (with_reducible assumption) | assumption); have q306 : t301 < (l0.length : Int) := of_decide_eq_true (by first | (with_reducible assumption) | assumption); obtain ⟨ad306, e306, hx306_0, hx306_1, hx306_2⟩ := at_T27 HR0.out t301 p306 q306; obtain rfl : ad302 = ad306 := (by injection e306); replace hx306_0 := (HB.out.cell (World.block_lt_of_cell? w _ hx306_0)).trans hx306_0; replace hx306_1 := (HB.out.cell (World.block_lt_of_cell? w _ hx306_1)).trans hx306_1; replace hx306_2 := (HB.out.cell (World.block_lt_of_cell? w _ hx306_2)).trans hx306_2; replace p306 := eq_true p306; replace q306 := eq_true q306; have p307 : 0 ≤ (t301 : Int) := of_decide_eq_true (by first | (with_reducible assumption) | assumption); have q307 : t301 < (l0.length : Int) := of_decide_eq_true (by first | (with_reducible assumption) | assumption); obtain ⟨ad307, e307, hx307_0, hx307_1, hx307_2⟩ := at_T27 HR0.out t301 p307 q307; obtain rfl : ad302 = ad307 := (by injection e307); replace hx307_0 := (HB.out.cell (World.block_lt_of_cell? w _ hx307_0)).trans hx307_0; replace hx307_1 := (HB.out.cell (World.block_lt_of_cell? w _ hx307_1)).trans hx307_1; replace hx307_2 := (HB.out.cell (World.block_lt_of_cell? w _ hx307_2)).trans hx307_2; replace p307 := eq_true p307; replace q307 := eq_true q307; have p308 : 0 ≤ ((ji12) : Int) := of_decide_eq_true (by first | (with_reducible assumption) | assumption); have q308 : (ji12) < (l0.length : Int) := of_decide_eq_true (by first | (with_reducible assumption) | assumption); obtain ⟨ad308, e308, hx308_0, hx308_1, hx308_2⟩ := at_T27 HR0.out (ji12) p308 q308; obtain rfl : ad302 = ad308 := (by injection e308); replace hx308_0 := (HB.out.cell (World.block_lt_of_cell? w _ hx308_0)).trans hx308_0; replace hx308_1 := (HB.out.cell (World.block_lt_of_cell? w _ hx308_1)).trans hx308_1; replace hx308_2 := (HB.out.cell (World.block_lt_of_cell? w _ hx308_2)).trans hx308_2; replace p308 := eq_true p308; replace q308 := eq_true q308) | (go_at_call 45; (with_reducible refine (continuoref30_Rounded.calls (wrap64 ((wrap64 (((rd_T27 l0 t301).f1) * (wrap64 ((wrap64 (((rd_T27 l0 (ji12)).f0) - ((rd_T27 l0 t301).f0))) - (wrap64 (a1 - ((rd_T27 l0 t301).f0))))))) + (wrap64 (((rd_T27 l0 (ji12)).f1) * (wrap64 (a1 - ((rd_T27 l0 t301).f0))))))) (wrap64 (((rd_T27 l0 (ji12)).f0) - ((rd_T27 l0 t301).f0))) t309 _ A15.out).mono ?_); rintro e w' ⟨rfl, ⟨nd, rfl⟩⟩; (try first | exact ⟨rfl, _, World.drewN_drewN _ _ _⟩ | exact ⟨rfl, _, Eq.trans (World.drewN_drewN _ _ _) (congrArg (World.drewN _) (Nat.add_assoc _ _ _))⟩))); try go_wp2_with (first | (go_at_call 11; (with_reducible refine (continuoref30_Valid.calls k _ _ l0 true _ ?side1 ?side2 A3.out).mono ?_); (case side1 => repeat (first | exact HR0.out | (with_reducible refine Kd.C_alloc ?_ _) | (with_reducible refine Kd.C_drewN ?_ _) | (with_reducible refine Kd.C_drew ?_))); (case side2 => exact HC0.out); rintro e w16 ⟨rfl, hb⟩; have n0_ := Aside0.mk (below_step (by repeat (first | (with_reducible first | exact HB.out | apply below_alloc | apply pw_below_drewN | apply below_drew1) | exact HB.out)) hb); clear HB; have HB := n0_; clear n0_; (try clear hb); (try clear hb2); (try clear hk); (try clear hi)) | (go_at_call 50; (with_reducible refine (continuoref30_time.calls a1 true _ A5.out).mono ?_); rintro e w' ⟨rfl, ⟨nd, rfl⟩⟩; (try first | exact ⟨rfl, _, World.drewN_drewN _ _ _⟩ | exact ⟨rfl, _, Eq.trans (World.drewN_drewN _ _ _) (congrArg (World.drewN _) (Nat.add_assoc _ _ _))⟩)) | (go_at_call 56; (with_reducible refine (continuoref30_at.calls k _ _ l0 a1 t301 _ ?side1 ?side2 A7.out).mono ?_); (case side1 => repeat (first | exact (Kd.C_below HR0.out (by repeat (first | (with_reducible first | exact HB.out | apply below_alloc | apply pw_below_drewN | apply below_drew1) | exact HB.out))) | (with_reducible refine Kd.C_alloc ?_ _) | (with_reducible refine Kd.C_drewN ?_ _) | (with_reducible refine Kd.C_drew ?_))); (case side2 => exact HC0.out); rintro e w' ⟨rfl, ⟨nd, rfl⟩⟩; (try first | exact ⟨rfl, _, World.drewN_drewN _ _ _⟩ | exact ⟨rfl, _, Eq.trans (World.drewN_drewN _ _ _) (congrArg (World.drewN _) (Nat.add_assoc _ _ _))⟩); have p302 : 0 ≤ (t301 : Int) := of_decide_eq_true (by first | (with_reducible assumption) | assumption); have q302 : t301 < (l0.length : Int) := of_decide_eq_true (by first | (with_reducible assumption) | assumption); obtain ⟨ad302, e302, hx302_0, hx302_1, hx302_2⟩ := at_T27 HR0.out t301 p302 q302; cases e302; replace hx302_0 := (HB.out.cell (World.block_lt_of_cell? w _ hx302_0)).trans hx302_0; replace hx302_1 := (HB.out.cell (World.block_lt_of_cell? w _ hx302_1)).trans hx302_1; replace hx302_2 := (HB.out.cell (World.block_lt_of_cell? w _ hx302_2)).trans hx302_2; replace p302 := eq_true p302; replace q302 := eq_true q302; have p304 : 0 ≤ ((ji12) : Int) := of_decide_eq_true (by first | (with_reducible assumption) | assumption); have q304 : (ji12) < (l0.length : Int) := of_decide_eq_true (by first | (with_reducible assumption) | assumption); obtain ⟨ad304, e304, hx304_0, hx304_1, hx304_2⟩ := at_T27 HR0.out (ji12) p304 q304; obtain rfl : ad302 = ad304 := (by injection e304); replace hx304_0 := (HB.out.cell (World.block_lt_of_cell? w _ hx304_0)).trans hx304_0; replace hx304_1 := (HB.out.cell (World.block_lt_of_cell? w _ hx304_1)).trans hx304_1; replace hx304_2 := (HB.out.cell (World.block_lt_of_cell? w _ hx304_2)).trans hx304_2; replace p304 := eq_true p304; replace q304 := eq_true q304; have p305 : 0 ≤ (t301 : Int) := of_decide_eq_true (by first | (with_reducible assumption) | assumption); have q305 : t301 < (l0.length : Int) := of_decide_eq_true (by first | (with_reducible assumption) | assumption); obtain ⟨ad305, e305, hx305_0, hx305_1, hx305_2⟩ := at_T27 HR0.out t301 p305 q305; obtain rfl : ad302 = ad305 := (by injection e305); replace hx305_0 := (HB.out.cell (World.block_lt_of_cell? w _ hx305_0)).trans hx305_0; replace hx305_1 := (HB.out.cell (World.block_lt_of_cell? w _ hx305_1)).trans hx305_1; replace hx305_2 := (HB.out.cell (World.block_lt_of_cell? w _ hx305_2)).trans hx305_2; replace p305 := eq_true p305; replace q305 := eq_true q305; have p306 : 0 ≤ (t301 : Int) := of_decide_eq_true (by first | (with_reducible assumption) | assumption); have q306 : t301 < (l0.length : Int) := of_decide_eq_true (by first | (with_reducible assumption) | assumption); obtain ⟨ad306, e306, hx306_0, hx306_1, hx306_2⟩ := at_T27 HR0.out t301 p306 q306; obtain rfl : ad302 = ad306 := (by injection e306); replace hx306_0 := (HB.out.cell (World.block_lt_of_cell? w _ hx306_0)).trans hx306_0; replace hx306_1 := (HB.out.cell (World.block_lt_of_cell? w _ hx306_1)).trans hx306_1; replace hx306_2 := (HB.out.cell (World.block_lt_of_cell? w _ hx306_2)).trans hx306_2; replace p306 := eq_true p306; replace q306 := eq_true q306; have p307 : 0 ≤ (t301 : Int) := of_decide_eq_true (by first | (with_reducible assumption) | assumption); have q307 : t301 < (l0.length : Int) := of_decide_eq_true (by first | (with_reducible assumption) | assumption); obtain ⟨ad307, e307, hx307_0, hx307_1, hx307_2⟩ := at_T27 HR0.out t301 p307 q307; obtain rfl : ad302 = ad307 := (by injection e307); replace hx307_0 := (HB.out.cell (World.block_lt_of_cell? w _ hx307_0)).trans hx307_0; replace hx307_1 := (HB.out.cell (World.block_lt_of_cell? w _ hx307_1)).trans hx307_1; replace hx307_2 := (HB.out.cell (World.block_lt_of_cell? w _ hx307_2)).trans hx307_2; replace p307 := eq_true p307; replace q307 := eq_true q307; have p308 : 0 ≤ ((ji12) : Int) := of_decide_eq_true (by first | (with_reducible assumption) | assumption); have q308 : (ji12) < (l0.length : Int) := of_decide_eq_true (by first | (with_reducible assumption) | assumption); obtain ⟨ad308, e308, hx308_0, hx308_1, hx308_2⟩ := at_T27 HR0.out (ji12) p308 q308; obtain rfl : ad302 = ad308 := (by injection e308); replace hx308_0 := (HB.out.cell (World.block_lt_of_cell? w _ hx308_0)).trans hx308_0; replace hx308_1 := (HB.out.cell (World.block_lt_of_cell? w _ hx308_1)).trans hx308_1; replace hx308_2 := (HB.out.cell (World.block_lt_of_cell? w _ hx308_2)).trans hx308_2; replace p308 := eq_true p308; replace q308 := eq_true q308) | (go_at_call 45; (with_reducible refine (continuoref30_Rounded.calls (wrap64 ((wrap64 (((rd_T27 l0 t301).f1) * (wrap64 ((wrap64 (((rd_T27 l0 (ji12)).f0) - ((rd_T27 l0 t301).f0))) - (wrap64 (a1 - ((rd_T27 l0 t301).f0))))))) + (wrap64 (((rd_T27 l0 (ji12)).f1) * (wrap64 (a1 - ((rd_T27 l0 t301).f0))))))) (wrap64 (((rd_T27 l0 (ji12)).f0) - ((rd_T27 l0 t301).f0))) t309 _ A15.out).mono ?_); rintro e w' ⟨rfl, ⟨nd, rfl⟩⟩; (try first | exact ⟨rfl, _, World.drewN_drewN _ _ _⟩ | exact ⟨rfl, _, Eq.trans (World.drewN_drewN _ _ _) (congrArg (World.drewN _) (Nat.add_assoc _ _ _))⟩))))
               go_ret2
               exact ⟨by first | rfl | (simp [errW_none, errW_some] <;> rfl) | (simp only [← hji12]; first | rfl | (simp [errW_none, errW_some] <;> rfl)) | (simp [*, errW_none, errW_some] <;> rfl), by repeat (first | (with_reducible first | exact HB.out | apply below_alloc | apply pw_below_drewN | apply below_drew1) | exact HB.out)⟩
             · rw [if_neg c14] at H
               exact absurd H (by simp)
           · rw [if_neg c13] at H
             exact absurd H (by simp)
       · rw [if_neg c9] at H
         exact absurd H (by simp)
     · rw [if_neg c8] at H
       exact absurd H (by simp)
   · replace c6 := Bool.eq_false_iff.mpr c6
     subst c6
     have H1 : (some (0, 7)) = some (r1, r2) := by rw [if_neg (show ¬ (false = true) by decide)] at H; exact H
     clear H
     have H := H1
     clear H1
     simp only [Option.some.injEq, Prod.mk.injEq] at H
     obtain ⟨rfl, rfl⟩ := H
     go_enter Try.func28, Try.ntmps28
     go_wp2_with (first | (go_at_call 11; (with_reducible refine (continuoref30_Valid.calls k _ _ l0 true _ ?side1 ?side2 A3.out).mono ?_); (case side1 => repeat (first | exact HR0.out | (with_reducible refine Kd.C_alloc ?_ _) | (with_reducible refine Kd.C_drewN ?_ _) | (with_reducible refine Kd.C_drew ?_))); (case side2 => exact HC0.out); rintro e w17 ⟨rfl, hb⟩; have n0_ := Aside0.mk (below_step (by repeat (first | (with_reducible first | exact HB.out | apply below_alloc | apply pw_below_drewN | apply below_drew1) | exact HB.out)) hb); clear HB; have HB := n0_; clear n0_; (try clear hb); (try clear hb2); (try clear hk); (try clear hi)) | (go_at_call 50; (with_reducible refine (continuoref30_time.calls a1 false _ A5.out).mono ?_); rintro e w' ⟨rfl, ⟨nd, rfl⟩⟩; (try first | exact ⟨rfl, _, World.drewN_drewN _ _ _⟩ | exact ⟨rfl, _, Eq.trans (World.drewN_drewN _ _ _) (congrArg (World.drewN _) (Nat.add_assoc _ _ _))⟩)))
     repeat (go_quiet (first | (go_at_call 11; (with_reducible refine (continuoref30_Valid.calls k _ _ l0 true _ ?side1 ?side2 A3.out).mono ?_); (case side1 => repeat (first | exact HR0.out | (with_reducible refine Kd.C_alloc ?_ _) | (with_reducible refine Kd.C_drewN ?_ _) | (with_reducible refine Kd.C_drew ?_))); (case side2 => exact HC0.out); rintro e w17 ⟨rfl, hb⟩; have n0_ := Aside0.mk (below_step (by repeat (first | (with_reducible first | exact HB.out | apply below_alloc | apply pw_below_drewN | apply below_drew1) | exact HB.out)) hb); clear HB; have HB := n0_; clear n0_; (try clear hb); (try clear hb2); (try clear hk); (try clear hi)) | (go_at_call 50; (with_reducible refine (continuoref30_time.calls a1 false _ A5.out).mono ?_); rintro e w' ⟨rfl, ⟨nd, rfl⟩⟩; (try first | exact ⟨rfl, _, World.drewN_drewN _ _ _⟩ | exact ⟨rfl, _, Eq.trans (World.drewN_drewN _ _ _) (congrArg (World.drewN _) (Nat.add_assoc _ _ _))⟩))); try go_wp2_with (first | (go_at_call 11; (with_reducible refine (continuoref30_Valid.calls k _ _ l0 true _ ?side1 ?side2 A3.out).mono ?_); (case side1 => repeat (first | exact HR0.out | (with_reducible refine Kd.C_alloc ?_ _) | (with_reducible refine Kd.C_drewN ?_ _) | (with_reducible refine Kd.C_drew ?_))); (case side2 => exact HC0.out); rintro e w17 ⟨rfl, hb⟩; have n0_ := Aside0.mk (below_step (by repeat (first | (with_reducible first | exact HB.out | apply below_alloc | apply pw_below_drewN | apply below_drew1) | exact HB.out)) hb); clear HB; have HB := n0_; clear n0_; (try clear hb); (try clear hb2); (try clear hk); (try clear hi)) | (go_at_call 50; (with_reducible refine (continuoref30_time.calls a1 false _ A5.out).mono ?_); rintro e w' ⟨rfl, ⟨nd, rfl⟩⟩; (try first | exact ⟨rfl, _, World.drewN_drewN _ _ _⟩ | exact ⟨rfl, _, Eq.trans (World.drewN_drewN _ _ _) (congrArg (World.drewN _) (Nat.add_assoc _ _ _))⟩))))
     go_ret2
     exact ⟨by first | rfl | (simp [errW_none, errW_some] <;> rfl) | (simp [*, errW_none, errW_some] <;> rfl), by repeat (first | (with_reducible first | exact HB.out | apply below_alloc | apply pw_below_drewN | apply below_drew1) | exact HB.out)⟩
 · replace c4 := Bool.eq_false_iff.mpr c4
   subst c4
   have H1 : (some (0, 1)) = some (r1, r2) := by rw [if_neg (show ¬ (false = true) by decide)] at H; exact H
   clear H
   have H := H1
   clear H1
   simp only [Option.some.injEq, Prod.mk.injEq] at H
   obtain ⟨rfl, rfl⟩ := H
   go_enter Try.func28, Try.ntmps28
   go_wp2_with (first | (go_at_call 11; (with_reducible refine (continuoref30_Valid.calls k _ _ l0 false _ ?side1 ?side2 A3.out).mono ?_); (case side1 => repeat (first | exact HR0.out | (with_reducible refine Kd.C_alloc ?_ _) | (with_reducible refine Kd.C_drewN ?_ _) | (with_reducible refine Kd.C_drew ?_))); (case side2 => exact HC0.out); rintro e w18 ⟨rfl, hb⟩; have n0_ := Aside0.mk (below_step (by repeat (first | (with_reducible first | exact HB.out | apply below_alloc | apply pw_below_drewN | apply below_drew1) | exact HB.out)) hb); clear HB; have HB := n0_; clear n0_; (try clear hb); (try clear hb2); (try clear hk); (try clear hi)))
   repeat (go_quiet (first | (go_at_call 11; (with_reducible refine (continuoref30_Valid.calls k _ _ l0 false _ ?side1 ?side2 A3.out).mono ?_); (case side1 => repeat (first | exact HR0.out | (with_reducible refine Kd.C_alloc ?_ _) | (with_reducible refine Kd.C_drewN ?_ _) | (with_reducible refine Kd.C_drew ?_))); (case side2 => exact HC0.out); rintro e w18 ⟨rfl, hb⟩; have n0_ := Aside0.mk (below_step (by repeat (first | (with_reducible first | exact HB.out | apply below_alloc | apply pw_below_drewN | apply below_drew1) | exact HB.out)) hb); clear HB; have HB := n0_; clear n0_; (try clear hb); (try clear hb2); (try clear hk); (try clear hi))); try go_wp2_with (first | (go_at_call 11; (with_reducible refine (continuoref30_Valid.calls k _ _ l0 false _ ?side1 ?side2 A3.out).mono ?_); (case side1 => repeat (first | exact HR0.out | (with_reducible refine Kd.C_alloc ?_ _) | (with_reducible refine Kd.C_drewN ?_ _) | (with_reducible refine Kd.C_drew ?_))); (case side2 => exact HC0.out); rintro e w18 ⟨rfl, hb⟩; have n0_ := Aside0.mk (below_step (by repeat (first | (with_reducible first | exact HB.out | apply below_alloc | apply pw_below_drewN | apply below_drew1) | exact HB.out)) hb); clear HB; have HB := n0_; clear n0_; (try clear hb); (try clear hb2); (try clear hk); (try clear hi))))
   go_ret2
   exact ⟨by first | rfl | (simp [errW_none, errW_some] <;> rfl) | (simp [*, errW_none, errW_some] <;> rfl), by repeat (first | (with_reducible first | exact HB.out | apply below_alloc | apply pw_below_drewN | apply below_drew1) | exact HB.out)⟩
end Go.Proofs.Ytomlfbmfdoallaa.PA

namespace Go.Proofs.Ytomlfbmfdoallaa.PA
open Go.RowKit Go.Proofs.YtomlfbmfdoallaaW.PrintWords Go.Proofs.YtomlfbmfdoallaaW.PrintLast Go.Proofs.YtomlfbmfdoallaaW.PrintMore
attribute [local go_sem] max2_int min2_int max_two min_two max_three min_three max_four min_four
set_option linter.unusedVariables false
set_option linter.unusedSimpArgs false
mutual
def continuolaw30_TempoFrames.j0 : Nat → List (S27) → Int → Int → Int → Int → Int → Bool → Option (Bool)
 | 0, _, _, _, _, _, _, _ => none
 | k + 1, x0, x1, x2, x3, x9, x10, x49 => if x49 = true then (some false) else (if x10 = 0 then ((tempo_Tick.f k x0 x1 x9).bind fun bt318 => (if bt318.2 = 0 then (continuolaw30_TempoFrames.j1 k x0 x1 x2 x3 x9 bt318.1 (decide (bt318.1 < x2))) else (continuolaw30_TempoFrames.j1 k x0 x1 x2 x3 x9 bt318.1 true))) else (continuolaw30_TempoFrames.j2 k x0 x1 x2 x3))
def continuolaw30_TempoFrames.j2 : Nat → List (S27) → Int → Int → Int → Option (Bool)
 | 0, _, _, _, _ => none
 | k + 1, x0, x1, x2, x3 => (tempo_Tick.f k x0 x1 x3).bind fun bt322 => ((continuoref30_Tick.f k x0 x1 x3).bind fun bt324 => (if bt322.1 = bt324.1 then (continuolaw30_TempoFrames.j3 k x0 x2 (bt322.2 != bt324.2)) else (continuolaw30_TempoFrames.j3 k x0 x2 true)))
def continuolaw30_TempoFrames.j3 : Nat → List (S27) → Int → Bool → Option (Bool)
 | 0, _, _, _ => none
 | k + 1, x0, x2, x101 => if x101 = true then (some false) else ((tempo_Period.f k x0 x2).bind fun bt326 => ((continuoref30_Period.f k x0 x2).bind fun bt328 => (if bt326.1 = bt328.1 then (some (bt326.2 == bt328.2)) else (some false))))
def continuolaw30_TempoFrames.j1 : Nat → List (S27) → Int → Int → Int → Int → Int → Bool → Option (Bool)
 | 0, _, _, _, _, _, _, _ => none
 | k + 1, x0, x1, x2, x3, x9, x13, x65 => if x65 = true then (some false) else ((tempo_Frame.f k x0 x1 x13).bind fun bt320 => (if bt320.2 = 0 then (if bt320.1 = x9 then (continuolaw30_TempoFrames.j2 k x0 x1 x2 x3) else (some false)) else (some false)))
end
def continuolaw30_TempoFrames.f (k : Nat) (l0 : List (S27)) (a1 : Int) (a2 : Int) (a3 : Int) : Option (Bool) := (continuolaw30_awake.f k).bind fun t310 => (if t310 = true then ((continuolaw30_long.f l0 ([] : List (S61)) ([] : List (S56))).bind fun t311 => (if t311 = true then (some true) else ((tempo_Frame.f k l0 a1 a2).bind fun bt312 => ((continuoref30_Frame.f k l0 a1 a2).bind fun bt314 => (if bt312.1 = bt314.1 then (if bt312.2 = bt314.2 then ((tempo_Valid.f k l0).bind fun t316 => ((continuoref30_Valid.f k l0).bind fun t317 => (continuolaw30_TempoFrames.j0 k l0 a1 a2 a3 bt312.1 bt312.2 (t316 != t317)))) else (continuolaw30_TempoFrames.j0 k l0 a1 a2 a3 bt312.1 bt312.2 true)) else (continuolaw30_TempoFrames.j0 k l0 a1 a2 a3 bt312.1 bt312.2 true)))))) else (some false))
theorem continuolaw30_TempoFrames.mono_l : ∀ k, (∀ y0 y1 y2 y3 y4 y5 y6, LeO (continuolaw30_TempoFrames.j0 k y0 y1 y2 y3 y4 y5 y6) (continuolaw30_TempoFrames.j0 (k + 1) y0 y1 y2 y3 y4 y5 y6)) ∧ (∀ y0 y1 y2 y3, LeO (continuolaw30_TempoFrames.j2 k y0 y1 y2 y3) (continuolaw30_TempoFrames.j2 (k + 1) y0 y1 y2 y3)) ∧ (∀ y0 y1 y2, LeO (continuolaw30_TempoFrames.j3 k y0 y1 y2) (continuolaw30_TempoFrames.j3 (k + 1) y0 y1 y2)) ∧ (∀ y0 y1 y2 y3 y4 y5 y6, LeO (continuolaw30_TempoFrames.j1 k y0 y1 y2 y3 y4 y5 y6) (continuolaw30_TempoFrames.j1 (k + 1) y0 y1 y2 y3 y4 y5 y6))
 | 0 => ⟨fun _ _ _ _ _ _ _ r h => by simp [continuolaw30_TempoFrames.j0] at h, fun _ _ _ _ r h => by simp [continuolaw30_TempoFrames.j2] at h, fun _ _ _ r h => by simp [continuolaw30_TempoFrames.j3] at h, fun _ _ _ _ _ _ _ r h => by simp [continuolaw30_TempoFrames.j1] at h⟩
 | k + 1 => by
  obtain ⟨ih0, ih1, ih2, ih3⟩ := continuolaw30_TempoFrames.mono_l k
  refine ⟨?_, ?_, ?_, ?_⟩
  · intro y0 y1 y2 y3 y4 y5 y6
    unfold continuolaw30_TempoFrames.j0
    repeat' first
    | (with_reducible exact ih0 _ _ _ _ _ _ _)
    | (with_reducible exact ih1 _ _ _ _)
    | (with_reducible exact ih2 _ _ _)
    | (with_reducible exact ih3 _ _ _ _ _ _ _)
    | (with_reducible exact continuolaw30_awake.mono _)
    | (with_reducible exact continuoref30_Frame.mono _ _ _ _)
    | (with_reducible exact continuoref30_Period.mono _ _ _)
    | (with_reducible exact continuoref30_Tick.mono _ _ _ _)
    | (with_reducible exact continuoref30_Valid.mono _ _)
    | (with_reducible exact tempo_Frame.mono _ _ _ _)
    | (with_reducible exact tempo_Period.mono _ _ _)
    | (with_reducible exact tempo_Tick.mono _ _ _ _)
    | (with_reducible exact tempo_Valid.mono _ _)
    | (with_reducible exact LeO.refl _)
    | (with_reducible exact LeO.none _)
    | (with_reducible refine LeO.ite ?_ ?_)
    | (with_reducible refine LeO.bind ?_ (fun _ => ?_))
    | exact ih0 _ _ _ _ _ _ _
    | exact ih1 _ _ _ _
    | exact ih2 _ _ _
    | exact ih3 _ _ _ _ _ _ _
    | exact continuolaw30_awake.mono _
    | exact continuoref30_Frame.mono _ _ _ _
    | exact continuoref30_Period.mono _ _ _
    | exact continuoref30_Tick.mono _ _ _ _
    | exact continuoref30_Valid.mono _ _
    | exact tempo_Frame.mono _ _ _ _
    | exact tempo_Period.mono _ _ _
    | exact tempo_Tick.mono _ _ _ _
    | exact tempo_Valid.mono _ _
    | exact LeO.none _
    | refine LeO.ite ?_ ?_
    | refine LeO.bind ?_ (fun _ => ?_)
  · intro y0 y1 y2 y3
    unfold continuolaw30_TempoFrames.j2
    repeat' first
    | (with_reducible exact ih0 _ _ _ _ _ _ _)
    | (with_reducible exact ih1 _ _ _ _)
    | (with_reducible exact ih2 _ _ _)
    | (with_reducible exact ih3 _ _ _ _ _ _ _)
    | (with_reducible exact continuolaw30_awake.mono _)
    | (with_reducible exact continuoref30_Frame.mono _ _ _ _)
    | (with_reducible exact continuoref30_Period.mono _ _ _)
    | (with_reducible exact continuoref30_Tick.mono _ _ _ _)
    | (with_reducible exact continuoref30_Valid.mono _ _)
    | (with_reducible exact tempo_Frame.mono _ _ _ _)
    | (with_reducible exact tempo_Period.mono _ _ _)
    | (with_reducible exact tempo_Tick.mono _ _ _ _)
    | (with_reducible exact tempo_Valid.mono _ _)
    | (with_reducible exact LeO.refl _)
    | (with_reducible exact LeO.none _)
    | (with_reducible refine LeO.ite ?_ ?_)
    | (with_reducible refine LeO.bind ?_ (fun _ => ?_))
    | exact ih0 _ _ _ _ _ _ _
    | exact ih1 _ _ _ _
    | exact ih2 _ _ _
    | exact ih3 _ _ _ _ _ _ _
    | exact continuolaw30_awake.mono _
    | exact continuoref30_Frame.mono _ _ _ _
    | exact continuoref30_Period.mono _ _ _
    | exact continuoref30_Tick.mono _ _ _ _
    | exact continuoref30_Valid.mono _ _
    | exact tempo_Frame.mono _ _ _ _
    | exact tempo_Period.mono _ _ _
    | exact tempo_Tick.mono _ _ _ _
    | exact tempo_Valid.mono _ _
    | exact LeO.none _
    | refine LeO.ite ?_ ?_
    | refine LeO.bind ?_ (fun _ => ?_)
  · intro y0 y1 y2
    unfold continuolaw30_TempoFrames.j3
    repeat' first
    | (with_reducible exact ih0 _ _ _ _ _ _ _)
    | (with_reducible exact ih1 _ _ _ _)
    | (with_reducible exact ih2 _ _ _)
    | (with_reducible exact ih3 _ _ _ _ _ _ _)
    | (with_reducible exact continuolaw30_awake.mono _)
    | (with_reducible exact continuoref30_Frame.mono _ _ _ _)
    | (with_reducible exact continuoref30_Period.mono _ _ _)
    | (with_reducible exact continuoref30_Tick.mono _ _ _ _)
    | (with_reducible exact continuoref30_Valid.mono _ _)
    | (with_reducible exact tempo_Frame.mono _ _ _ _)
    | (with_reducible exact tempo_Period.mono _ _ _)
    | (with_reducible exact tempo_Tick.mono _ _ _ _)
    | (with_reducible exact tempo_Valid.mono _ _)
    | (with_reducible exact LeO.refl _)
    | (with_reducible exact LeO.none _)
    | (with_reducible refine LeO.ite ?_ ?_)
    | (with_reducible refine LeO.bind ?_ (fun _ => ?_))
    | exact ih0 _ _ _ _ _ _ _
    | exact ih1 _ _ _ _
    | exact ih2 _ _ _
    | exact ih3 _ _ _ _ _ _ _
    | exact continuolaw30_awake.mono _
    | exact continuoref30_Frame.mono _ _ _ _
    | exact continuoref30_Period.mono _ _ _
    | exact continuoref30_Tick.mono _ _ _ _
    | exact continuoref30_Valid.mono _ _
    | exact tempo_Frame.mono _ _ _ _
    | exact tempo_Period.mono _ _ _
    | exact tempo_Tick.mono _ _ _ _
    | exact tempo_Valid.mono _ _
    | exact LeO.none _
    | refine LeO.ite ?_ ?_
    | refine LeO.bind ?_ (fun _ => ?_)
  · intro y0 y1 y2 y3 y4 y5 y6
    unfold continuolaw30_TempoFrames.j1
    repeat' first
    | (with_reducible exact ih0 _ _ _ _ _ _ _)
    | (with_reducible exact ih1 _ _ _ _)
    | (with_reducible exact ih2 _ _ _)
    | (with_reducible exact ih3 _ _ _ _ _ _ _)
    | (with_reducible exact continuolaw30_awake.mono _)
    | (with_reducible exact continuoref30_Frame.mono _ _ _ _)
    | (with_reducible exact continuoref30_Period.mono _ _ _)
    | (with_reducible exact continuoref30_Tick.mono _ _ _ _)
    | (with_reducible exact continuoref30_Valid.mono _ _)
    | (with_reducible exact tempo_Frame.mono _ _ _ _)
    | (with_reducible exact tempo_Period.mono _ _ _)
    | (with_reducible exact tempo_Tick.mono _ _ _ _)
    | (with_reducible exact tempo_Valid.mono _ _)
    | (with_reducible exact LeO.refl _)
    | (with_reducible exact LeO.none _)
    | (with_reducible refine LeO.ite ?_ ?_)
    | (with_reducible refine LeO.bind ?_ (fun _ => ?_))
    | exact ih0 _ _ _ _ _ _ _
    | exact ih1 _ _ _ _
    | exact ih2 _ _ _
    | exact ih3 _ _ _ _ _ _ _
    | exact continuolaw30_awake.mono _
    | exact continuoref30_Frame.mono _ _ _ _
    | exact continuoref30_Period.mono _ _ _
    | exact continuoref30_Tick.mono _ _ _ _
    | exact continuoref30_Valid.mono _ _
    | exact tempo_Frame.mono _ _ _ _
    | exact tempo_Period.mono _ _ _
    | exact tempo_Tick.mono _ _ _ _
    | exact tempo_Valid.mono _ _
    | exact LeO.none _
    | refine LeO.ite ?_ ?_
    | refine LeO.bind ?_ (fun _ => ?_)
theorem continuolaw30_TempoFrames.mono : ∀ a0 a1 a2 a3 k, LeO (continuolaw30_TempoFrames.f k a0 a1 a2 a3) (continuolaw30_TempoFrames.f (k + 1) a0 a1 a2 a3) := by
 intro a0 a1 a2 a3 k
 obtain ⟨ih0, ih1, ih2, ih3⟩ := continuolaw30_TempoFrames.mono_l k
 unfold continuolaw30_TempoFrames.f
 repeat' first
  | (with_reducible exact ih0 _ _ _ _ _ _ _)
  | (with_reducible exact ih1 _ _ _ _)
  | (with_reducible exact ih2 _ _ _)
  | (with_reducible exact ih3 _ _ _ _ _ _ _)
  | (with_reducible exact continuolaw30_awake.mono _)
  | (with_reducible exact continuoref30_Frame.mono _ _ _ _)
  | (with_reducible exact continuoref30_Period.mono _ _ _)
  | (with_reducible exact continuoref30_Tick.mono _ _ _ _)
  | (with_reducible exact continuoref30_Valid.mono _ _)
  | (with_reducible exact tempo_Frame.mono _ _ _ _)
  | (with_reducible exact tempo_Period.mono _ _ _)
  | (with_reducible exact tempo_Tick.mono _ _ _ _)
  | (with_reducible exact tempo_Valid.mono _ _)
  | (with_reducible exact LeO.refl _)
  | (with_reducible exact LeO.none _)
  | (with_reducible refine LeO.ite ?_ ?_)
  | (with_reducible refine LeO.bind ?_ (fun _ => ?_))
  | exact ih0 _ _ _ _ _ _ _
  | exact ih1 _ _ _ _
  | exact ih2 _ _ _
  | exact ih3 _ _ _ _ _ _ _
  | exact continuolaw30_awake.mono _
  | exact continuoref30_Frame.mono _ _ _ _
  | exact continuoref30_Period.mono _ _ _
  | exact continuoref30_Tick.mono _ _ _ _
  | exact continuoref30_Valid.mono _ _
  | exact tempo_Frame.mono _ _ _ _
  | exact tempo_Period.mono _ _ _
  | exact tempo_Tick.mono _ _ _ _
  | exact tempo_Valid.mono _ _
  | exact LeO.none _
  | refine LeO.ite ?_ ?_
  | refine LeO.bind ?_ (fun _ => ?_)
set_option maxHeartbeats 8000000 in
set_option maxRecDepth 100000 in
theorem continuolaw30_TempoFrames.calls (k : Nat) (A0 : Option Addr) (c0 : Nat) (l0 : List (S27)) (a1 : Int) (a2 : Int) (a3 : Int) (r : Bool) (w : World) (hr0 : Kd.C k27 w A0 l0.length l0) (hc0 : l0.length ≤ c0) (h : continuolaw30_TempoFrames.f k l0 a1 a2 a3 = some r) :
 Calls Try.prog 6 #[.slice A0 l0.length c0, .int .i64 a1, .int .i64 a2, .int .i64 a3] w fun e w' => e = .returned (.bool r) ∧ Below w.heap.size w w' := by
 have HR0 := Aside0.mk hr0
 have HC0 := Aside0.mk hc0
 clear hr0 hc0
 have HB := Aside0.mk (Below.refl w.heap.size w)
 have H : ((continuolaw30_awake.f k).bind fun t310 => (if t310 = true then ((continuolaw30_long.f l0 ([] : List (S61)) ([] : List (S56))).bind fun t311 => (if t311 = true then (some true) else ((tempo_Frame.f k l0 a1 a2).bind fun bt312 => ((continuoref30_Frame.f k l0 a1 a2).bind fun bt314 => (if bt312.1 = bt314.1 then (if bt312.2 = bt314.2 then ((tempo_Valid.f k l0).bind fun t316 => ((continuoref30_Valid.f k l0).bind fun t317 => (continuolaw30_TempoFrames.j0 k l0 a1 a2 a3 bt312.1 bt312.2 (t316 != t317)))) else (continuolaw30_TempoFrames.j0 k l0 a1 a2 a3 bt312.1 bt312.2 true)) else (continuolaw30_TempoFrames.j0 k l0 a1 a2 a3 bt312.1 bt312.2 true)))))) else (some false))) = some r := h
 clear h
 replace H := Option.bind_eq_some_iff.mp H
 obtain ⟨t310, A50, H⟩ := H
 replace H : (if t310 = true then ((continuolaw30_long.f l0 ([] : List (S61)) ([] : List (S56))).bind fun t311 => (if t311 = true then (some true) else ((tempo_Frame.f k l0 a1 a2).bind fun bt312 => ((continuoref30_Frame.f k l0 a1 a2).bind fun bt314 => (if bt312.1 = bt314.1 then (if bt312.2 = bt314.2 then ((tempo_Valid.f k l0).bind fun t316 => ((continuoref30_Valid.f k l0).bind fun t317 => (continuolaw30_TempoFrames.j0 k l0 a1 a2 a3 bt312.1 bt312.2 (t316 != t317)))) else (continuolaw30_TempoFrames.j0 k l0 a1 a2 a3 bt312.1 bt312.2 true)) else (continuolaw30_TempoFrames.j0 k l0 a1 a2 a3 bt312.1 bt312.2 true)))))) else (some false)) = some r := H
 have A5 := Aside0.mk A50
 clear A50
 by_cases c6 : t310 = true
 · subst c6
   have H1 : ((continuolaw30_long.f l0 ([] : List (S61)) ([] : List (S56))).bind fun t311 => (if t311 = true then (some true) else ((tempo_Frame.f k l0 a1 a2).bind fun bt312 => ((continuoref30_Frame.f k l0 a1 a2).bind fun bt314 => (if bt312.1 = bt314.1 then (if bt312.2 = bt314.2 then ((tempo_Valid.f k l0).bind fun t316 => ((continuoref30_Valid.f k l0).bind fun t317 => (continuolaw30_TempoFrames.j0 k l0 a1 a2 a3 bt312.1 bt312.2 (t316 != t317)))) else (continuolaw30_TempoFrames.j0 k l0 a1 a2 a3 bt312.1 bt312.2 true)) else (continuolaw30_TempoFrames.j0 k l0 a1 a2 a3 bt312.1 bt312.2 true)))))) = some r := by rw [if_pos rfl] at H; exact H
   clear H
   have H := H1
   clear H1
   replace H := Option.bind_eq_some_iff.mp H
   obtain ⟨t311, A70, H⟩ := H
   replace H : (if t311 = true then (some true) else ((tempo_Frame.f k l0 a1 a2).bind fun bt312 => ((continuoref30_Frame.f k l0 a1 a2).bind fun bt314 => (if bt312.1 = bt314.1 then (if bt312.2 = bt314.2 then ((tempo_Valid.f k l0).bind fun t316 => ((continuoref30_Valid.f k l0).bind fun t317 => (continuolaw30_TempoFrames.j0 k l0 a1 a2 a3 bt312.1 bt312.2 (t316 != t317)))) else (continuolaw30_TempoFrames.j0 k l0 a1 a2 a3 bt312.1 bt312.2 true)) else (continuolaw30_TempoFrames.j0 k l0 a1 a2 a3 bt312.1 bt312.2 true))))) = some r := H
   have A7 := Aside0.mk A70
   clear A70
   by_cases c8 : t311 = true
   · subst c8
     have H1 : (some true) = some r := by rw [if_pos rfl] at H; exact H
     clear H
     have H := H1
     clear H1
     obtain rfl := Option.some.inj H
     go_enter Try.func6, Try.ntmps6
     go_wp2_with (first | ((with_reducible refine gate_callee (f := 9) rfl ?_); refine goesL_ (some 17) rfl rfl Try.func9 (by kernel_rfl) rfl #[] rfl (by (try simp only [List.map_toArray, List.map_cons, List.map_nil]); first | done | rfl | (simp only [List.length_drop, List.length_take]; rfl)) ?_; (with_reducible refine (continuolaw30_awake.calls k  true _ A5.out).mono ?_); rintro e w9 ⟨rfl, hb⟩; refine ⟨_, rfl, ?_⟩; have n0_ := Aside0.mk (below_step (by repeat (first | (with_reducible first | exact HB.out | apply below_alloc | apply pw_below_drewN | apply below_drew1) | exact HB.out)) hb); clear HB; have HB := n0_; clear n0_; (try clear hb); (try clear hb2); (try clear hk); (try clear hi)) | ((with_reducible refine gate_callee (f := 10) rfl ?_); refine goesL_ (some 20) rfl rfl Try.func10 (by kernel_rfl) rfl #[.slice A0 l0.length c0, .slice none 0 0, .slice none 0 0] rfl (by (try simp only [List.map_toArray, List.map_cons, List.map_nil]); first | done | rfl | (simp only [List.length_drop, List.length_take]; rfl)) ?_; (refine (continuolaw30_long.calls _ _ l0 _ _ ([] : List (S61)) _ _ ([] : List (S56)) true _ ?side1 ?side2 ?side3 ?side4 ?side5 ?side6 A7.out).mono ?_); (case side1 => repeat (first | exact (Kd.C_below HR0.out HB.out) | (with_reducible refine Kd.C_alloc ?_ _) | (with_reducible refine Kd.C_drewN ?_ _) | (with_reducible refine Kd.C_drew ?_))); (case side2 => exact HC0.out); (case side3 => exact Kd.C_nil _ _); (case side4 => exact Nat.le_refl _); (case side5 => exact Kd.C_nil _ _); (case side6 => exact Nat.le_refl _); rintro e w' ⟨rfl, ⟨nd, rfl⟩⟩; refine ⟨_, rfl, ?_⟩))
     go_ret
     exact ⟨by first | rfl | (simp [errW_none, errW_some] <;> rfl) | (simp [*, errW_none, errW_some] <;> rfl), by repeat (first | (with_reducible first | exact HB.out | apply below_alloc | apply pw_below_drewN | apply below_drew1) | exact HB.out)⟩
   · replace c8 := Bool.eq_false_iff.mpr c8
     subst c8
     have H1 : ((tempo_Frame.f k l0 a1 a2).bind fun bt312 => ((continuoref30_Frame.f k l0 a1 a2).bind fun bt314 => (if bt312.1 = bt314.1 then (if bt312.2 = bt314.2 then ((tempo_Valid.f k l0).bind fun t316 => ((continuoref30_Valid.f k l0).bind fun t317 => (continuolaw30_TempoFrames.j0 k l0 a1 a2 a3 bt312.1 bt312.2 (t316 != t317)))) else (continuolaw30_TempoFrames.j0 k l0 a1 a2 a3 bt312.1 bt312.2 true)) else (continuolaw30_TempoFrames.j0 k l0 a1 a2 a3 bt312.1 bt312.2 true)))) = some r := by rw [if_neg (show ¬ (false = true) by decide)] at H; exact H
     clear H
     have H := H1
     clear H1
     replace H := Option.bind_eq_some_iff.mp H
     obtain ⟨⟨t312, t313⟩, A100, H⟩ := H
     replace H : ((continuoref30_Frame.f k l0 a1 a2).bind fun bt314 => (if t312 = bt314.1 then (if t313 = bt314.2 then ((tempo_Valid.f k l0).bind fun t316 => ((continuoref30_Valid.f k l0).bind fun t317 => (continuolaw30_TempoFrames.j0 k l0 a1 a2 a3 t312 t313 (t316 != t317)))) else (continuolaw30_TempoFrames.j0 k l0 a1 a2 a3 t312 t313 true)) else (continuolaw30_TempoFrames.j0 k l0 a1 a2 a3 t312 t313 true))) = some r := H
     have A10 := Aside0.mk A100
     clear A100
     replace H := Option.bind_eq_some_iff.mp H
     obtain ⟨⟨t314, t315⟩, A110, H⟩ := H
     replace H : (if t312 = t314 then (if t313 = t315 then ((tempo_Valid.f k l0).bind fun t316 => ((continuoref30_Valid.f k l0).bind fun t317 => (continuolaw30_TempoFrames.j0 k l0 a1 a2 a3 t312 t313 (t316 != t317)))) else (continuolaw30_TempoFrames.j0 k l0 a1 a2 a3 t312 t313 true)) else (continuolaw30_TempoFrames.j0 k l0 a1 a2 a3 t312 t313 true)) = some r := H
     have A11 := Aside0.mk A110
     clear A110
     have HC12 := Aside0.mk H
     clear H
     go_enter Try.func6, Try.ntmps6
     go_upto_region 7 with (first | ((with_reducible refine gate_callee (f := 9) rfl ?_); refine goesL_ (some 17) rfl rfl Try.func9 (by kernel_rfl) rfl #[] rfl (by (try simp only [List.map_toArray, List.map_cons, List.map_nil]); first | done | rfl | (simp only [List.length_drop, List.length_take]; rfl)) ?_; (with_reducible refine (continuolaw30_awake.calls k  true _ A5.out).mono ?_); rintro e w13 ⟨rfl, hb⟩; refine ⟨_, rfl, ?_⟩; have n0_ := Aside0.mk (below_step (by repeat (first | (with_reducible first | exact HB.out | apply below_alloc | apply pw_below_drewN | apply below_drew1) | exact HB.out)) hb); clear HB; have HB := n0_; clear n0_; (try clear hb); (try clear hb2); (try clear hk); (try clear hi)) | ((with_reducible refine gate_callee (f := 10) rfl ?_); refine goesL_ (some 20) rfl rfl Try.func10 (by kernel_rfl) rfl #[.slice A0 l0.length c0, .slice none 0 0, .slice none 0 0] rfl (by (try simp only [List.map_toArray, List.map_cons, List.map_nil]); first | done | rfl | (simp only [List.length_drop, List.length_take]; rfl)) ?_; (refine (continuolaw30_long.calls _ _ l0 _ _ ([] : List (S61)) _ _ ([] : List (S56)) false _ ?side1 ?side2 ?side3 ?side4 ?side5 ?side6 A7.out).mono ?_); (case side1 => repeat (first | exact (Kd.C_below HR0.out HB.out) | (with_reducible refine Kd.C_alloc ?_ _) | (with_reducible refine Kd.C_drewN ?_ _) | (with_reducible refine Kd.C_drew ?_))); (case side2 => exact HC0.out); (case side3 => exact Kd.C_nil _ _); (case side4 => exact Nat.le_refl _); (case side5 => exact Kd.C_nil _ _); (case side6 => exact Nat.le_refl _); rintro e w' ⟨rfl, ⟨nd, rfl⟩⟩; refine ⟨_, rfl, ?_⟩) | ((with_reducible refine gate_callee (f := 13) rfl ?_); refine goesL_ (some 25) rfl rfl Try.func13 (by kernel_rfl) rfl #[.slice A0 l0.length c0, .int .i64 a1, .int .i64 a2] rfl (by (try simp only [List.map_toArray, List.map_cons, List.map_nil]); first | done | rfl | (simp only [List.length_drop, List.length_take]; rfl)) ?_; (with_reducible refine (tempo_Frame.calls k _ _ l0 a1 a2 t312 t313 _ ?side1 ?side2 A10.out).mono ?_); (case side1 => repeat (first | exact (Kd.C_below HR0.out (by repeat (first | (with_reducible first | exact HB.out | apply below_alloc | apply pw_below_drewN | apply below_drew1) | exact HB.out))) | (with_reducible refine Kd.C_alloc ?_ _) | (with_reducible refine Kd.C_drewN ?_ _) | (with_reducible refine Kd.C_drew ?_))); (case side2 => exact HC0.out); rintro e w14 ⟨rfl, hb⟩; refine ⟨_, rfl, ?_⟩; have n0_ := Aside0.mk (below_step (by repeat (first | (with_reducible first | exact HB.out | apply below_alloc | apply pw_below_drewN | apply below_drew1) | exact HB.out)) hb); clear HB; have HB := n0_; clear n0_; (try clear hb); (try clear hb2); (try clear hk); (try clear hi)) | ((with_reducible refine gate_callee (f := 24) rfl ?_); refine goesL_ (some 32) rfl rfl Try.func24 (by kernel_rfl) rfl #[.slice A0 l0.length c0, .int .i64 a1, .int .i64 a2] rfl (by (try simp only [List.map_toArray, List.map_cons, List.map_nil]); first | done | rfl | (simp only [List.length_drop, List.length_take]; rfl)) ?_; (with_reducible refine (continuoref30_Frame.calls k _ _ l0 a1 a2 t314 t315 _ ?side1 ?side2 A11.out).mono ?_); (case side1 => repeat (first | exact (Kd.C_below HR0.out HB.out) | (with_reducible refine Kd.C_alloc ?_ _) | (with_reducible refine Kd.C_drewN ?_ _) | (with_reducible refine Kd.C_drew ?_))); (case side2 => exact HC0.out); rintro e w15 ⟨rfl, hb⟩; refine ⟨_, rfl, ?_⟩; have n0_ := Aside0.mk (below_step (by repeat (first | (with_reducible first | exact HB.out | apply below_alloc | apply pw_below_drewN | apply below_drew1) | exact HB.out)) hb); clear HB; have HB := n0_; clear n0_; (try clear hb); (try clear hb2); (try clear hk); (try clear hi)))
     (try simp only [Act.put, List.setIfInBounds_toArray, List.set_cons_zero, List.set_cons_succ])
     go_cut [49] (fun v49 wc => ∃ (kq : Nat) (x49_11 : Bool), v49 = .bool x49_11 ∧ Aside0 (continuolaw30_TempoFrames.j0 kq l0 a1 a2 a3 t312 t313 x49_11 = some r) ∧ Aside0 (kq ≤ k) ∧ Aside0 (Below w.heap.size w wc))
     case first =>
      have H := HC12.out
      clear HC12
      by_cases c16 : t312 = t314
      · rw [if_pos c16] at H
        have c16b0 : (t312 == t314) = true := beq_iff_eq.mpr c16
        have c16b1 : (t312 != t314) = false := bne_eq_false_iff_eq.mpr c16
        clear c16
        (first | rw [c16b0] | (simp only [i64_w, i32_w]; rw [c16b0]) | skip)
        by_cases c17 : t313 = t315
        · rw [if_pos c17] at H
          have c17b0 : (t313 == t315) = true := beq_iff_eq.mpr c17
          have c17b1 : (t313 != t315) = false := bne_eq_false_iff_eq.mpr c17
          clear c17
          replace H := Option.bind_eq_some_iff.mp H
          obtain ⟨t316, A180, H⟩ := H
          replace H : ((continuoref30_Valid.f k l0).bind fun t317 => (continuolaw30_TempoFrames.j0 k l0 a1 a2 a3 t312 t313 (t316 != t317))) = some r := H
          have A18 := Aside0.mk A180
          clear A180
          replace H := Option.bind_eq_some_iff.mp H
          obtain ⟨t317, A190, H⟩ := H
          replace H : (continuolaw30_TempoFrames.j0 k l0 a1 a2 a3 t312 t313 (t316 != t317)) = some r := H
          have A19 := Aside0.mk A190
          clear A190
          have H' := Aside0.mk H
          clear H
          go_wp2_with (first | (go_at_call 25; (with_reducible refine (tempo_Valid.calls k _ _ l0 t316 _ ?side1 ?side2 A18.out).mono ?_); (case side1 => repeat (first | exact (Kd.C_below HR0.out HB.out) | (with_reducible refine Kd.C_alloc ?_ _) | (with_reducible refine Kd.C_drewN ?_ _) | (with_reducible refine Kd.C_drew ?_))); (case side2 => exact HC0.out); rintro e w20 ⟨rfl, hb⟩; have n0_ := Aside0.mk (below_step (by repeat (first | (with_reducible first | exact HB.out | apply below_alloc | apply pw_below_drewN | apply below_drew1) | exact HB.out)) hb); clear HB; have HB := n0_; clear n0_; (try clear hb); (try clear hb2); (try clear hk); (try clear hi)) | (go_at_call 11; (with_reducible refine (continuoref30_Valid.calls k _ _ l0 t317 _ ?side1 ?side2 A19.out).mono ?_); (case side1 => repeat (first | exact (Kd.C_below HR0.out HB.out) | (with_reducible refine Kd.C_alloc ?_ _) | (with_reducible refine Kd.C_drewN ?_ _) | (with_reducible refine Kd.C_drew ?_))); (case side2 => exact HC0.out); rintro e w21 ⟨rfl, hb⟩; have n0_ := Aside0.mk (below_step (by repeat (first | (with_reducible first | exact HB.out | apply below_alloc | apply pw_below_drewN | apply below_drew1) | exact HB.out)) hb); clear HB; have HB := n0_; clear n0_; (try clear hb); (try clear hb2); (try clear hk); (try clear hi)))
          go_meet
          case rel => exact ⟨_, ((t316 != t317)), (by first | rfl | (simp; done) | (simp [*]; done)), H', ⟨by first | omega | exact Nat.le_refl _⟩, ⟨by repeat (first | (with_reducible first | exact HB.out | apply below_alloc | apply pw_below_drewN | apply below_drew1) | exact HB.out)⟩⟩
        · rw [if_neg c17] at H
          have c17b0 : (t313 == t315) = false := beq_eq_false_iff_ne.mpr c17
          have c17b1 : (t313 != t315) = true := bne_iff_ne.mpr c17
          have H' := Aside0.mk H
          clear H
          go_wp2
          go_meet
          case rel => exact ⟨_, (true), (by first | rfl | (simp; done) | (simp [*]; done)), H', ⟨by first | omega | exact Nat.le_refl _⟩, ⟨by repeat (first | (with_reducible first | exact HB.out | apply below_alloc | apply pw_below_drewN | apply below_drew1) | exact HB.out)⟩⟩
      · rw [if_neg c16] at H
        have c16b0 : (t312 == t314) = false := beq_eq_false_iff_ne.mpr c16
        have c16b1 : (t312 != t314) = true := bne_iff_ne.mpr c16
        (first | rw [c16b0] | (simp only [i64_w, i32_w]; rw [c16b0]) | skip)
        have H' := Aside0.mk H
        clear H
        go_wp2
        go_meet
        case rel => exact ⟨_, (true), (by first | rfl | (simp; done) | (simp [*]; done)), H', ⟨by first | omega | exact Nat.le_refl _⟩, ⟨by repeat (first | (with_reducible first | exact HB.out | apply below_alloc | apply pw_below_drewN | apply below_drew1) | exact HB.out)⟩⟩
     case rest =>
      clear HC12
      try clear c1
      try clear c2
      try clear p2
      try clear c6
      try clear c8
      try clear c9
      try clear c10
      try clear c13
      try clear c16
      try clear c16b0
      try clear c16b1
      try clear c17
      try clear c17b0
      try clear c17b1
      obtain ⟨kq, x49_11, rfl, HA, HJ11, HB⟩ := hcut
      cases kq with
      | zero => exact absurd HA.out (by simp [continuolaw30_TempoFrames.j0])
      | succ kj11 =>
       have H := HA.out
       clear HA
       simp only [continuolaw30_TempoFrames.j0] at H
       by_cases c22 : x49_11 = true
       · subst c22
         have H1 : (some false) = some r := by rw [if_pos rfl] at H; exact H
         clear H
         have H := H1
         clear H1
         obtain rfl := Option.some.inj H
         go_wp2
         go_ret
         exact ⟨by first | rfl | (simp [errW_none, errW_some] <;> rfl) | (simp [*, errW_none, errW_some] <;> rfl), by repeat (first | (with_reducible first | exact HB.out | apply below_alloc | apply pw_below_drewN | apply below_drew1) | exact HB.out)⟩
       · replace c22 := Bool.eq_false_iff.mpr c22
         subst c22
         have H1 : (if t313 = 0 then ((tempo_Tick.f kj11 l0 a1 t312).bind fun bt318 => (if bt318.2 = 0 then (continuolaw30_TempoFrames.j1 kj11 l0 a1 a2 a3 t312 bt318.1 (decide (bt318.1 < a2))) else (continuolaw30_TempoFrames.j1 kj11 l0 a1 a2 a3 t312 bt318.1 true))) else (continuolaw30_TempoFrames.j2 kj11 l0 a1 a2 a3)) = some r := by rw [if_neg (show ¬ (false = true) by decide)] at H; exact H
         clear H
         have H := H1
         clear H1
         have HC23 := Aside0.mk H
         clear H
         go_upto_if 51 with (fail)
         go_cut [] (fun wc => ∃ (kq : Nat), Aside0 (continuolaw30_TempoFrames.j2 kq l0 a1 a2 a3 = some r) ∧ Aside0 (kq ≤ kj11) ∧ Aside0 (Below w.heap.size w wc))
         case first =>
          have H := HC23.out
          clear HC23
          by_cases c24 : t313 = 0
          · rw [if_pos c24] at H
            have c24b0 : (t313 == 0) = true := beq_iff_eq.mpr c24
            have c24b1 : (t313 != 0) = false := bne_eq_false_iff_eq.mpr c24
            clear c24
            (first | rw [c24b0] | (simp only [i64_w, i32_w]; rw [c24b0]) | skip)
            replace H := Option.bind_eq_some_iff.mp H
            obtain ⟨⟨t318, t319⟩, A250, H⟩ := H
            replace H : (if t319 = 0 then (continuolaw30_TempoFrames.j1 kj11 l0 a1 a2 a3 t312 t318 (decide (t318 < a2))) else (continuolaw30_TempoFrames.j1 kj11 l0 a1 a2 a3 t312 t318 true)) = some r := H
            have A25 := Aside0.mk A250
            clear A250
            have HC26 := Aside0.mk H
            clear H
            go_upto_region 11 with (first | ((with_reducible refine gate_callee (f := 26) rfl ?_); refine goesL_ (some 56) rfl rfl Try.func26 (by kernel_rfl) rfl #[.slice A0 l0.length c0, .int .i64 a1, .int .i64 t312] rfl (by (try simp only [List.map_toArray, List.map_cons, List.map_nil]); first | done | rfl | (simp only [List.length_drop, List.length_take]; rfl)) ?_; (with_reducible refine (tempo_Tick.calls kj11 _ _ l0 a1 t312 t318 t319 _ ?side1 ?side2 A25.out).mono ?_); (case side1 => repeat (first | exact (Kd.C_below HR0.out HB.out) | (with_reducible refine Kd.C_alloc ?_ _) | (with_reducible refine Kd.C_drewN ?_ _) | (with_reducible refine Kd.C_drew ?_))); (case side2 => exact HC0.out); rintro e w27 ⟨rfl, hb⟩; refine ⟨_, rfl, ?_⟩; have n0_ := Aside0.mk (below_step (by repeat (first | (with_reducible first | exact HB.out | apply below_alloc | apply pw_below_drewN | apply below_drew1) | exact HB.out)) hb); clear HB; have HB := n0_; clear n0_; (try clear hb); (try clear hb2); (try clear hk); (try clear hi)))
            (try simp only [Act.put, List.setIfInBounds_toArray, List.set_cons_zero, List.set_cons_succ])
            go_cut [65] (fun v65 wc => ∃ (kq : Nat) (x65_25 : Bool), v65 = .bool x65_25 ∧ Aside0 (continuolaw30_TempoFrames.j1 kq l0 a1 a2 a3 t312 t318 x65_25 = some r) ∧ Aside0 (kq ≤ kj11) ∧ Aside0 (Below w.heap.size w wc))
            case first =>
             have H := HC26.out
             clear HC26
             by_cases c28 : t319 = 0
             · rw [if_pos c28] at H
               have c28b0 : (t319 == 0) = true := beq_iff_eq.mpr c28
               have c28b1 : (t319 != 0) = false := bne_eq_false_iff_eq.mpr c28
               clear c28
               (first | rw [c28b0] | (simp only [i64_w, i32_w]; rw [c28b0]) | skip)
               have H' := Aside0.mk H
               clear H
               go_wp2
               go_meet
               case rel => exact ⟨_, (decide (t318 < a2)), (by first | rfl | (simp; done) | (simp [*]; done)), H', ⟨by have := HJ11.out; first | omega | exact Nat.le_refl _⟩, ⟨by repeat (first | (with_reducible first | exact HB.out | apply below_alloc | apply pw_below_drewN | apply below_drew1) | exact HB.out)⟩⟩
             · rw [if_neg c28] at H
               have c28b0 : (t319 == 0) = false := beq_eq_false_iff_ne.mpr c28
               have c28b1 : (t319 != 0) = true := bne_iff_ne.mpr c28
               (first | rw [c28b0] | (simp only [i64_w, i32_w]; rw [c28b0]) | skip)
               have H' := Aside0.mk H
               clear H
               go_wp2
               go_meet
               case rel => exact ⟨_, (true), (by first | rfl | (simp; done) | (simp [*]; done)), H', ⟨by have := HJ11.out; first | omega | exact Nat.le_refl _⟩, ⟨by repeat (first | (with_reducible first | exact HB.out | apply below_alloc | apply pw_below_drewN | apply below_drew1) | exact HB.out)⟩⟩
            case rest =>
             clear HC26
             try clear c1
             try clear c2
             try clear p2
             try clear c6
             try clear c8
             try clear c9
             try clear c10
             try clear c13
             try clear c16
             try clear c16b0
             try clear c16b1
             try clear c17
             try clear c17b0
             try clear c17b1
             try clear c22
             try clear c24
             try clear c24b0
             try clear c24b1
             try clear c26
             try clear c28
             try clear c28b0
             try clear c28b1
             try clear p2
             obtain ⟨kq, x65_25, rfl, HA, HJ25, HB⟩ := hcut
             cases kq with
             | zero => exact absurd HA.out (by simp [continuolaw30_TempoFrames.j1])
             | succ kj25 =>
              have H := HA.out
              clear HA
              simp only [continuolaw30_TempoFrames.j1] at H
              by_cases c29 : x65_25 = true
              · subst c29
                have H1 : (some false) = some r := by rw [if_pos rfl] at H; exact H
                clear H
                have H := H1
                clear H1
                obtain rfl := Option.some.inj H
                go_wp2
                go_ret
                exact ⟨by first | rfl | (simp [errW_none, errW_some] <;> rfl) | (simp [*, errW_none, errW_some] <;> rfl), by repeat (first | (with_reducible first | exact HB.out | apply below_alloc | apply pw_below_drewN | apply below_drew1) | exact HB.out)⟩
              · replace c29 := Bool.eq_false_iff.mpr c29
                subst c29
                have H1 : ((tempo_Frame.f kj25 l0 a1 t318).bind fun bt320 => (if bt320.2 = 0 then (if bt320.1 = t312 then (continuolaw30_TempoFrames.j2 kj25 l0 a1 a2 a3) else (some false)) else (some false))) = some r := by rw [if_neg (show ¬ (false = true) by decide)] at H; exact H
                clear H
                have H := H1
                clear H1
                replace H := Option.bind_eq_some_iff.mp H
                obtain ⟨⟨t320, t321⟩, A300, H⟩ := H
                replace H : (if t321 = 0 then (if t320 = t312 then (continuolaw30_TempoFrames.j2 kj25 l0 a1 a2 a3) else (some false)) else (some false)) = some r := H
                have A30 := Aside0.mk A300
                clear A300
                by_cases c31 : t321 = 0
                · rw [if_pos c31] at H
                  have c31b0 : (t321 == 0) = true := beq_iff_eq.mpr c31
                  have c31b1 : (t321 != 0) = false := bne_eq_false_iff_eq.mpr c31
                  clear c31
                  by_cases c32 : t320 = t312
                  · rw [if_pos c32] at H
                    have c32b0 : (t320 == t312) = true := beq_iff_eq.mpr c32
                    have c32b1 : (t320 != t312) = false := bne_eq_false_iff_eq.mpr c32
                    clear c32
                    have H' := Aside0.mk H
                    clear H
                    go_wp2_with (first | ((with_reducible refine gate_callee (f := 13) rfl ?_); refine goesL_ (some 70) rfl rfl Try.func13 (by kernel_rfl) rfl #[.slice A0 l0.length c0, .int .i64 a1, .int .i64 t318] rfl (by (try simp only [List.map_toArray, List.map_cons, List.map_nil]); first | done | rfl | (simp only [List.length_drop, List.length_take]; rfl)) ?_; (with_reducible refine (tempo_Frame.calls kj25 _ _ l0 a1 t318 t320 t321 _ ?side1 ?side2 A30.out).mono ?_); (case side1 => repeat (first | exact (Kd.C_below HR0.out HB.out) | (with_reducible refine Kd.C_alloc ?_ _) | (with_reducible refine Kd.C_drewN ?_ _) | (with_reducible refine Kd.C_drew ?_))); (case side2 => exact HC0.out); rintro e w33 ⟨rfl, hb⟩; refine ⟨_, rfl, ?_⟩; have n0_ := Aside0.mk (below_step (by repeat (first | (with_reducible first | exact HB.out | apply below_alloc | apply pw_below_drewN | apply below_drew1) | exact HB.out)) hb); clear HB; have HB := n0_; clear n0_; (try clear hb); (try clear hb2); (try clear hk); (try clear hi)))
                    go_meet
                    case rel => exact ⟨_, H', ⟨by have := HJ11.out; have := HJ25.out; first | omega | exact Nat.le_refl _⟩, ⟨by repeat (first | (with_reducible first | exact HB.out | apply below_alloc | apply pw_below_drewN | apply below_drew1) | exact HB.out)⟩⟩
                  · rw [if_neg c32] at H
                    have c32b0 : (t320 == t312) = false := beq_eq_false_iff_ne.mpr c32
                    have c32b1 : (t320 != t312) = true := bne_iff_ne.mpr c32
                    obtain rfl := Option.some.inj H
                    go_wp2_with (first | ((with_reducible refine gate_callee (f := 13) rfl ?_); refine goesL_ (some 70) rfl rfl Try.func13 (by kernel_rfl) rfl #[.slice A0 l0.length c0, .int .i64 a1, .int .i64 t318] rfl (by (try simp only [List.map_toArray, List.map_cons, List.map_nil]); first | done | rfl | (simp only [List.length_drop, List.length_take]; rfl)) ?_; (with_reducible refine (tempo_Frame.calls kj25 _ _ l0 a1 t318 t320 t321 _ ?side1 ?side2 A30.out).mono ?_); (case side1 => repeat (first | exact (Kd.C_below HR0.out HB.out) | (with_reducible refine Kd.C_alloc ?_ _) | (with_reducible refine Kd.C_drewN ?_ _) | (with_reducible refine Kd.C_drew ?_))); (case side2 => exact HC0.out); rintro e w34 ⟨rfl, hb⟩; refine ⟨_, rfl, ?_⟩; have n0_ := Aside0.mk (below_step (by repeat (first | (with_reducible first | exact HB.out | apply below_alloc | apply pw_below_drewN | apply below_drew1) | exact HB.out)) hb); clear HB; have HB := n0_; clear n0_; (try clear hb); (try clear hb2); (try clear hk); (try clear hi)))
                    go_ret
                    exact ⟨by first | rfl | (simp [errW_none, errW_some] <;> rfl) | (simp [*, errW_none, errW_some] <;> rfl), by repeat (first | (with_reducible first | exact HB.out | apply below_alloc | apply pw_below_drewN | apply below_drew1) | exact HB.out)⟩
                · rw [if_neg c31] at H
                  have c31b0 : (t321 == 0) = false := beq_eq_false_iff_ne.mpr c31
                  have c31b1 : (t321 != 0) = true := bne_iff_ne.mpr c31
                  obtain rfl := Option.some.inj H
                  go_wp2_with (first | ((with_reducible refine gate_callee (f := 13) rfl ?_); refine goesL_ (some 70) rfl rfl Try.func13 (by kernel_rfl) rfl #[.slice A0 l0.length c0, .int .i64 a1, .int .i64 t318] rfl (by (try simp only [List.map_toArray, List.map_cons, List.map_nil]); first | done | rfl | (simp only [List.length_drop, List.length_take]; rfl)) ?_; (with_reducible refine (tempo_Frame.calls kj25 _ _ l0 a1 t318 t320 t321 _ ?side1 ?side2 A30.out).mono ?_); (case side1 => repeat (first | exact (Kd.C_below HR0.out HB.out) | (with_reducible refine Kd.C_alloc ?_ _) | (with_reducible refine Kd.C_drewN ?_ _) | (with_reducible refine Kd.C_drew ?_))); (case side2 => exact HC0.out); rintro e w35 ⟨rfl, hb⟩; refine ⟨_, rfl, ?_⟩; have n0_ := Aside0.mk (below_step (by repeat (first | (with_reducible first | exact HB.out | apply below_alloc | apply pw_below_drewN | apply below_drew1) | exact HB.out)) hb); clear HB; have HB := n0_; clear n0_; (try clear hb); (try clear hb2); (try clear hk); (try clear hi)))
                  go_ret
                  exact ⟨by first | rfl | (simp [errW_none, errW_some] <;> rfl) | (simp [*, errW_none, errW_some] <;> rfl), by repeat (first | (with_reducible first | exact HB.out | apply below_alloc | apply pw_below_drewN | apply below_drew1) | exact HB.out)⟩
          · rw [if_neg c24] at H
            have c24b0 : (t313 == 0) = false := beq_eq_false_iff_ne.mpr c24
            have c24b1 : (t313 != 0) = true := bne_iff_ne.mpr c24
            (first | rw [c24b0] | (simp only [i64_w, i32_w]; rw [c24b0]) | skip)
            have H' := Aside0.mk H
            clear H
            go_wp2
            go_meet
            case rel => exact ⟨_, H', ⟨by have := HJ11.out; first | omega | exact Nat.le_refl _⟩, ⟨by repeat (first | (with_reducible first | exact HB.out | apply below_alloc | apply pw_below_drewN | apply below_drew1) | exact HB.out)⟩⟩
         case rest =>
          clear HC23
          try clear c1
          try clear c2
          try clear p2
          try clear c3
          try clear c6
          try clear c8
          try clear c9
          try clear c10
          try clear c13
          try clear c16
          try clear c16b0
          try clear c16b1
          try clear c17
          try clear c17b0
          try clear c17b1
          try clear c22
          try clear c24
          try clear c24b0
          try clear c24b1
          try clear c26
          try clear c28
          try clear c28b0
          try clear c28b1
          try clear c29
          try clear c31
          try clear c31b0
          try clear c31b1
          try clear c32
          try clear c32b0
          try clear c32b1
          try clear p2
          obtain ⟨kq, HA, HJ22, HB⟩ := hcut
          cases kq with
          | zero => exact absurd HA.out (by simp [continuolaw30_TempoFrames.j2])
          | succ kj22 =>
           have H := HA.out
           clear HA
           simp only [continuolaw30_TempoFrames.j2] at H
           replace H := Option.bind_eq_some_iff.mp H
           obtain ⟨⟨t322, t323⟩, A360, H⟩ := H
           replace H : ((continuoref30_Tick.f kj22 l0 a1 a3).bind fun bt324 => (if t322 = bt324.1 then (continuolaw30_TempoFrames.j3 kj22 l0 a2 (t323 != bt324.2)) else (continuolaw30_TempoFrames.j3 kj22 l0 a2 true))) = some r := H
           have A36 := Aside0.mk A360
           clear A360
           replace H := Option.bind_eq_some_iff.mp H
           obtain ⟨⟨t324, t325⟩, A370, H⟩ := H
           replace H : (if t322 = t324 then (continuolaw30_TempoFrames.j3 kj22 l0 a2 (t323 != t325)) else (continuolaw30_TempoFrames.j3 kj22 l0 a2 true)) = some r := H
           have A37 := Aside0.mk A370
           clear A370
           have HC38 := Aside0.mk H
           clear H
           go_upto_region 18 with (first | ((with_reducible refine gate_callee (f := 26) rfl ?_); refine goesL_ (some 84) rfl rfl Try.func26 (by kernel_rfl) rfl #[.slice A0 l0.length c0, .int .i64 a1, .int .i64 a3] rfl (by (try simp only [List.map_toArray, List.map_cons, List.map_nil]); first | done | rfl | (simp only [List.length_drop, List.length_take]; rfl)) ?_; (with_reducible refine (tempo_Tick.calls kj22 _ _ l0 a1 a3 t322 t323 _ ?side1 ?side2 A36.out).mono ?_); (case side1 => repeat (first | exact (Kd.C_below HR0.out HB.out) | (with_reducible refine Kd.C_alloc ?_ _) | (with_reducible refine Kd.C_drewN ?_ _) | (with_reducible refine Kd.C_drew ?_))); (case side2 => exact HC0.out); rintro e w39 ⟨rfl, hb⟩; refine ⟨_, rfl, ?_⟩; have n0_ := Aside0.mk (below_step (by repeat (first | (with_reducible first | exact HB.out | apply below_alloc | apply pw_below_drewN | apply below_drew1) | exact HB.out)) hb); clear HB; have HB := n0_; clear n0_; (try clear hb); (try clear hb2); (try clear hk); (try clear hi)) | ((with_reducible refine gate_callee (f := 27) rfl ?_); refine goesL_ (some 91) rfl rfl Try.func27 (by kernel_rfl) rfl #[.slice A0 l0.length c0, .int .i64 a1, .int .i64 a3] rfl (by (try simp only [List.map_toArray, List.map_cons, List.map_nil]); first | done | rfl | (simp only [List.length_drop, List.length_take]; rfl)) ?_; (with_reducible refine (continuoref30_Tick.calls kj22 _ _ l0 a1 a3 t324 t325 _ ?side1 ?side2 A37.out).mono ?_); (case side1 => repeat (first | exact (Kd.C_below HR0.out HB.out) | (with_reducible refine Kd.C_alloc ?_ _) | (with_reducible refine Kd.C_drewN ?_ _) | (with_reducible refine Kd.C_drew ?_))); (case side2 => exact HC0.out); rintro e w40 ⟨rfl, hb⟩; refine ⟨_, rfl, ?_⟩; have n0_ := Aside0.mk (below_step (by repeat (first | (with_reducible first | exact HB.out | apply below_alloc | apply pw_below_drewN | apply below_drew1) | exact HB.out)) hb); clear HB; have HB := n0_; clear n0_; (try clear hb); (try clear hb2); (try clear hk); (try clear hi)))
           (try simp only [Act.put, List.setIfInBounds_toArray, List.set_cons_zero, List.set_cons_succ])
           go_cut [101] (fun v101 wc => ∃ (kq : Nat) (x101_37 : Bool), v101 = .bool x101_37 ∧ Aside0 (continuolaw30_TempoFrames.j3 kq l0 a2 x101_37 = some r) ∧ Aside0 (kq ≤ kj22) ∧ Aside0 (Below w.heap.size w wc))
           case first =>
            have H := HC38.out
            clear HC38
            by_cases c41 : t322 = t324
            · rw [if_pos c41] at H
              have c41b0 : (t322 == t324) = true := beq_iff_eq.mpr c41
              have c41b1 : (t322 != t324) = false := bne_eq_false_iff_eq.mpr c41
              clear c41
              (first | rw [c41b0] | (simp only [i64_w, i32_w]; rw [c41b0]) | skip)
              have H' := Aside0.mk H
              clear H
              go_wp2
              go_meet
              case rel => exact ⟨_, ((t323 != t325)), (by first | rfl | (simp; done) | (simp [*]; done)), H', ⟨by have := HJ11.out; have := HJ22.out; first | omega | exact Nat.le_refl _⟩, ⟨by repeat (first | (with_reducible first | exact HB.out | apply below_alloc | apply pw_below_drewN | apply below_drew1) | exact HB.out)⟩⟩
            · rw [if_neg c41] at H
              have c41b0 : (t322 == t324) = false := beq_eq_false_iff_ne.mpr c41
              have c41b1 : (t322 != t324) = true := bne_iff_ne.mpr c41
              (first | rw [c41b0] | (simp only [i64_w, i32_w]; rw [c41b0]) | skip)
              have H' := Aside0.mk H
              clear H
              go_wp2
              go_meet
              case rel => exact ⟨_, (true), (by first | rfl | (simp; done) | (simp [*]; done)), H', ⟨by have := HJ11.out; have := HJ22.out; first | omega | exact Nat.le_refl _⟩, ⟨by repeat (first | (with_reducible first | exact HB.out | apply below_alloc | apply pw_below_drewN | apply below_drew1) | exact HB.out)⟩⟩
           case rest =>
            clear HC38
            try clear c1
            try clear c2
            try clear p2
            try clear c3
            try clear c4
            try clear c6
            try clear c8
            try clear c9
            try clear c10
            try clear c13
            try clear c16
            try clear c16b0
            try clear c16b1
            try clear c17
            try clear c17b0
            try clear c17b1
            try clear c22
            try clear c24
            try clear c24b0
            try clear c24b1
            try clear c26
            try clear c27
            try clear c28
            try clear c28b0
            try clear c28b1
            try clear c29
            try clear c31
            try clear c31b0
            try clear c31b1
            try clear c32
            try clear c32b0
            try clear c32b1
            try clear c41
            try clear c41b0
            try clear c41b1
            try clear p2
            obtain ⟨kq, x101_37, rfl, HA, HJ37, HB⟩ := hcut
            cases kq with
            | zero => exact absurd HA.out (by simp [continuolaw30_TempoFrames.j3])
            | succ kj37 =>
             have H := HA.out
             clear HA
             simp only [continuolaw30_TempoFrames.j3] at H
             by_cases c42 : x101_37 = true
             · subst c42
               have H1 : (some false) = some r := by rw [if_pos rfl] at H; exact H
               clear H
               have H := H1
               clear H1
               obtain rfl := Option.some.inj H
               go_wp2
               go_ret
               exact ⟨by first | rfl | (simp [errW_none, errW_some] <;> rfl) | (simp [*, errW_none, errW_some] <;> rfl), by repeat (first | (with_reducible first | exact HB.out | apply below_alloc | apply pw_below_drewN | apply below_drew1) | exact HB.out)⟩
             · replace c42 := Bool.eq_false_iff.mpr c42
               subst c42
               have H1 : ((tempo_Period.f kj37 l0 a2).bind fun bt326 => ((continuoref30_Period.f kj37 l0 a2).bind fun bt328 => (if bt326.1 = bt328.1 then (some (bt326.2 == bt328.2)) else (some false)))) = some r := by rw [if_neg (show ¬ (false = true) by decide)] at H; exact H
               clear H
               have H := H1
               clear H1
               replace H := Option.bind_eq_some_iff.mp H
               obtain ⟨⟨t326, t327⟩, A430, H⟩ := H
               replace H : ((continuoref30_Period.f kj37 l0 a2).bind fun bt328 => (if t326 = bt328.1 then (some (t327 == bt328.2)) else (some false))) = some r := H
               have A43 := Aside0.mk A430
               clear A430
               replace H := Option.bind_eq_some_iff.mp H
               obtain ⟨⟨t328, t329⟩, A440, H⟩ := H
               replace H : (if t326 = t328 then (some (t327 == t329)) else (some false)) = some r := H
               have A44 := Aside0.mk A440
               clear A440
               by_cases c45 : t326 = t328
               · rw [if_pos c45] at H
                 have c45b0 : (t326 == t328) = true := beq_iff_eq.mpr c45
                 have c45b1 : (t326 != t328) = false := bne_eq_false_iff_eq.mpr c45
                 clear c45
                 obtain rfl := Option.some.inj H
                 go_wp2_with (first | ((with_reducible refine gate_callee (f := 12) rfl ?_); refine goesL_ (some 105) rfl rfl Try.func12 (by kernel_rfl) rfl #[.slice A0 l0.length c0, .int .i64 a2] rfl (by (try simp only [List.map_toArray, List.map_cons, List.map_nil]); first | done | rfl | (simp only [List.length_drop, List.length_take]; rfl)) ?_; (with_reducible refine (tempo_Period.calls kj37 _ _ l0 a2 t326 t327 _ ?side1 ?side2 A43.out).mono ?_); (case side1 => repeat (first | exact (Kd.C_below HR0.out HB.out) | (with_reducible refine Kd.C_alloc ?_ _) | (with_reducible refine Kd.C_drewN ?_ _) | (with_reducible refine Kd.C_drew ?_))); (case side2 => exact HC0.out); rintro e w46 ⟨rfl, hb⟩; refine ⟨_, rfl, ?_⟩; have n0_ := Aside0.mk (below_step (by repeat (first | (with_reducible first | exact HB.out | apply below_alloc | apply pw_below_drewN | apply below_drew1) | exact HB.out)) hb); clear HB; have HB := n0_; clear n0_; (try clear hb); (try clear hb2); (try clear hk); (try clear hi)) | ((with_reducible refine gate_callee (f := 28) rfl ?_); refine goesL_ (some 111) rfl rfl Try.func28 (by kernel_rfl) rfl #[.slice A0 l0.length c0, .int .i64 a2] rfl (by (try simp only [List.map_toArray, List.map_cons, List.map_nil]); first | done | rfl | (simp only [List.length_drop, List.length_take]; rfl)) ?_; (with_reducible refine (continuoref30_Period.calls kj37 _ _ l0 a2 t328 t329 _ ?side1 ?side2 A44.out).mono ?_); (case side1 => repeat (first | exact (Kd.C_below HR0.out HB.out) | (with_reducible refine Kd.C_alloc ?_ _) | (with_reducible refine Kd.C_drewN ?_ _) | (with_reducible refine Kd.C_drew ?_))); (case side2 => exact HC0.out); rintro e w47 ⟨rfl, hb⟩; refine ⟨_, rfl, ?_⟩; have n0_ := Aside0.mk (below_step (by repeat (first | (with_reducible first | exact HB.out | apply below_alloc | apply pw_below_drewN | apply below_drew1) | exact HB.out)) hb); clear HB; have HB := n0_; clear n0_; (try clear hb); (try clear hb2); (try clear hk); (try clear hi)))
                 go_ret
                 exact ⟨by first | rfl | (simp [errW_none, errW_some] <;> rfl) | (simp [*, errW_none, errW_some] <;> rfl), by repeat (first | (with_reducible first | exact HB.out | apply below_alloc | apply pw_below_drewN | apply below_drew1) | exact HB.out)⟩
               · rw [if_neg c45] at H
                 have c45b0 : (t326 == t328) = false := beq_eq_false_iff_ne.mpr c45
                 have c45b1 : (t326 != t328) = true := bne_iff_ne.mpr c45
                 obtain rfl := Option.some.inj H
                 go_wp2_with (first | ((with_reducible refine gate_callee (f := 12) rfl ?_); refine goesL_ (some 105) rfl rfl Try.func12 (by kernel_rfl) rfl #[.slice A0 l0.length c0, .int .i64 a2] rfl (by (try simp only [List.map_toArray, List.map_cons, List.map_nil]); first | done | rfl | (simp only [List.length_drop, List.length_take]; rfl)) ?_; (with_reducible refine (tempo_Period.calls kj37 _ _ l0 a2 t326 t327 _ ?side1 ?side2 A43.out).mono ?_); (case side1 => repeat (first | exact (Kd.C_below HR0.out HB.out) | (with_reducible refine Kd.C_alloc ?_ _) | (with_reducible refine Kd.C_drewN ?_ _) | (with_reducible refine Kd.C_drew ?_))); (case side2 => exact HC0.out); rintro e w48 ⟨rfl, hb⟩; refine ⟨_, rfl, ?_⟩; have n0_ := Aside0.mk (below_step (by repeat (first | (with_reducible first | exact HB.out | apply below_alloc | apply pw_below_drewN | apply below_drew1) | exact HB.out)) hb); clear HB; have HB := n0_; clear n0_; (try clear hb); (try clear hb2); (try clear hk); (try clear hi)) | ((with_reducible refine gate_callee (f := 28) rfl ?_); refine goesL_ (some 111) rfl rfl Try.func28 (by kernel_rfl) rfl #[.slice A0 l0.length c0, .int .i64 a2] rfl (by (try simp only [List.map_toArray, List.map_cons, List.map_nil]); first | done | rfl | (simp only [List.length_drop, List.length_take]; rfl)) ?_; (with_reducible refine (continuoref30_Period.calls kj37 _ _ l0 a2 t328 t329 _ ?side1 ?side2 A44.out).mono ?_); (case side1 => repeat (first | exact (Kd.C_below HR0.out HB.out) | (with_reducible refine Kd.C_alloc ?_ _) | (with_reducible refine Kd.C_drewN ?_ _) | (with_reducible refine Kd.C_drew ?_))); (case side2 => exact HC0.out); rintro e w49 ⟨rfl, hb⟩; refine ⟨_, rfl, ?_⟩; have n0_ := Aside0.mk (below_step (by repeat (first | (with_reducible first | exact HB.out | apply below_alloc | apply pw_below_drewN | apply below_drew1) | exact HB.out)) hb); clear HB; have HB := n0_; clear n0_; (try clear hb); (try clear hb2); (try clear hk); (try clear hi)))
                 go_ret
                 exact ⟨by first | rfl | (simp [errW_none, errW_some] <;> rfl) | (simp [*, errW_none, errW_some] <;> rfl), by repeat (first | (with_reducible first | exact HB.out | apply below_alloc | apply pw_below_drewN | apply below_drew1) | exact HB.out)⟩
 · replace c6 := Bool.eq_false_iff.mpr c6
   subst c6
   have H1 : (some false) = some r := by rw [if_neg (show ¬ (false = true) by decide)] at H; exact H
   clear H
   have H := H1
   clear H1
   obtain rfl := Option.some.inj H
   go_enter Try.func6, Try.ntmps6
   go_wp2_with (first | ((with_reducible refine gate_callee (f := 9) rfl ?_); refine goesL_ (some 17) rfl rfl Try.func9 (by kernel_rfl) rfl #[] rfl (by (try simp only [List.map_toArray, List.map_cons, List.map_nil]); first | done | rfl | (simp only [List.length_drop, List.length_take]; rfl)) ?_; (with_reducible refine (continuolaw30_awake.calls k  false _ A5.out).mono ?_); rintro e w50 ⟨rfl, hb⟩; refine ⟨_, rfl, ?_⟩; have n0_ := Aside0.mk (below_step (by repeat (first | (with_reducible first | exact HB.out | apply below_alloc | apply pw_below_drewN | apply below_drew1) | exact HB.out)) hb); clear HB; have HB := n0_; clear n0_; (try clear hb); (try clear hb2); (try clear hk); (try clear hi)))
   go_ret
   exact ⟨by first | rfl | (simp [errW_none, errW_some] <;> rfl) | (simp [*, errW_none, errW_some] <;> rfl), by repeat (first | (with_reducible first | exact HB.out | apply below_alloc | apply pw_below_drewN | apply below_drew1) | exact HB.out)⟩
end Go.Proofs.Ytomlfbmfdoallaa.PA

namespace Go.Proofs.Ytomlfbmfdoallaa.Pure
open Go.RowKit Go.Proofs.Ytomlfbmfdoallaa.PA Go.Proofs.YtomlfbmfdoallaaW.PrintWords Go.Proofs.YtomlfbmfdoallaaW.PrintLast
set_option linter.unusedVariables false
set_option linter.unusedSimpArgs false
theorem rd27 (l : List S27) (i : Nat) (h : i < l.length) : rd_T27 l (i : Int) = l[i] := by simp [rd_T27, h]
def okT (t : S27) : Bool := decide (0 ≤ t.f0) && decide (t.f0 ≤ 1000000000) && (decide (1 ≤ t.f1) && decide (t.f1 ≤ 67108864)) && (decide (0 ≤ t.f2) && decide (t.f2 ≤ 1))
def mvL : Option S27 → List S27 → Bool
 | _, [] => true
 | p, t :: r => okT t && (match p with | none => true | some q => decide (q.f0 < t.f0)) && (match r.head? with | none => decide (t.f2 ≠ 1) | some t2 => decide (t.f2 ≠ 1) || decide (wrap64 (t2.f0 - t.f0) ≤ 10000)) && mvL (some t) r
theorem prev_succ27 (l : List S27) (i : Nat) (h : i < l.length) : (if i + 1 = 0 then none else l[i + 1 - 1]?) = some l[i] := by simp [h]
theorem head_drop (l : List S27) (i : Nat) : (l.drop i).head? = l[i]? := by simp
theorem refv_loop (l : List S27) (hl : l.length ≤ 100) : ∀ (d k i : Nat), l.length - i = d → i ≤ l.length → 2 * d < k → continuoref30_Valid.l0 k l (i : Int) = some (mvL (if i = 0 then none else l[i - 1]?) (l.drop i)) := by
 intro d
 induction d with
 | zero =>
  intro k i hd hi hk
  obtain ⟨k, rfl⟩ : ∃ m, k = m + 1 := ⟨k - 1, by omega⟩
  rw [continuoref30_Valid.l0.eq_2]
  rw [if_neg (by omega), List.drop_eq_nil_of_le (by omega)]
  rfl
 | succ d ih =>
  intro k i hd hi hk
  obtain ⟨k, rfl⟩ : ∃ m, k = m + 1 + 1 := ⟨k - 2, by omega⟩
  have hlt : i < l.length := by omega
  have hih := ih k (i + 1) (by omega) (by omega) (by omega)
  rw [prev_succ27 l i hlt] at hih
  have hw : wrap64 ((i : Int) + 1) = ((i + 1 : Nat) : Int) := by rw [w64 (by omega) (by omega)]; omega
  have hwl : wrap64 ((l.length : Int) - 1) = (l.length : Int) - 1 := w64 (by omega) (by omega)
  have hj : ∀ b : Bool, continuoref30_Valid.j2 (k + 1) l (i : Int) b l[i].f0 l[i].f1 l[i].f2 = some (!b && ((match (l.drop (i + 1)).head? with | none => decide (l[i].f2 ≠ 1) | some t2 => decide (l[i].f2 ≠ 1) || decide (wrap64 (t2.f0 - l[i].f0) ≤ 10000)) && mvL (some l[i]) (l.drop (i + 1)))) := by
   intro b
   rw [continuoref30_Valid.j2.eq_2, hw, hih, hwl, head_drop]
   cases b with
   | true => rfl
   | false =>
    rw [if_neg (by simp)]
    by_cases h1 : l[i].f2 = 1
    · rw [if_pos h1]
      by_cases h2 : i + 1 < l.length
      · rw [if_neg (by omega), if_pos (by omega), if_pos (by omega), rd27 l (i + 1) h2, List.getElem?_eq_getElem h2]
        by_cases h3 : wrap64 (l[i + 1].f0 - l[i].f0) ≤ 10000
        · rw [if_neg (by omega)]; simp [h1, h3]
        · rw [if_pos (by omega)]; simp [h1, h3]
      · rw [if_pos (by omega), List.getElem?_eq_none (by omega)]
        simp [h1]
    · rw [if_neg h1]
      by_cases h2 : i + 1 < l.length
      · rw [List.getElem?_eq_getElem h2]; simp [h1]
      · rw [List.getElem?_eq_none (by omega)]; simp [h1]
  rw [continuoref30_Valid.l0.eq_2]
  rw [if_pos (by omega), if_pos (by omega), rd27 l i hlt]
  simp only [hj]
  rw [List.drop_eq_getElem_cons hlt]
  simp only [mvL]
  generalize hM : ((match (l.drop (i + 1)).head? with | none => decide (l[i].f2 ≠ 1) | some t2 => decide (l[i].f2 ≠ 1) || decide (wrap64 (t2.f0 - l[i].f0) ≤ 10000))) = M
  generalize hR : mvL (some l[i]) (l.drop (i + 1)) = R
  by_cases h0 : i = 0
  · subst h0
    rw [if_neg (show ¬ (((0 : Nat) : Int) > 0) by omega)]
    simp only [okT, if_true]
    clear hM hR hj hih ih
    generalize l[0] = m
    repeat' split
    all_goals (first | (simp_all; done) | (simp_all; omega) | (simp_all; intros; exfalso; omega) | (congr 1; rw [Bool.eq_iff_iff]; simp only [Bool.and_eq_true, decide_eq_true_eq] at *; cases M <;> cases R <;> simp <;> omega))
  · have hw2 : wrap64 ((i : Int) - 1) = ((i - 1 : Nat) : Int) := by rw [w64 (by omega) (by omega)]; omega
    rw [if_pos (show (i : Int) > 0 by omega), hw2, if_pos (show (0 : Int) ≤ ((i - 1 : Nat) : Int) by omega), if_pos (show ((i - 1 : Nat) : Int) < (l.length : Int) by omega), rd27 l (i - 1) (by omega)]
    rw [if_neg h0, List.getElem?_eq_getElem (show i - 1 < l.length by omega)]
    simp only [okT]
    clear hM hR hj hih ih
    generalize l[i - 1] = q
    generalize l[i] = m
    repeat' split
    all_goals (first | (simp_all; done) | (simp_all; omega) | (simp_all; intros; exfalso; omega) | (congr 1; rw [Bool.eq_iff_iff]; simp only [Bool.and_eq_true, decide_eq_true_eq] at *; cases M <;> cases R <;> simp <;> omega))
theorem v_loop (l : List S27) (hl : l.length ≤ 100) (hz : ∀ h : l.length - 1 < l.length, l[l.length - 1].f2 = 0) : ∀ (d k i : Nat), l.length - i = d → i ≤ l.length → 2 * d < k → tempo_Valid.l0 k l l (l.length : Int) (i : Int) = some (mvL (if i = 0 then none else l[i - 1]?) (l.drop i)) := by
 intro d
 induction d with
 | zero =>
  intro k i hd hi hk
  obtain ⟨k, rfl⟩ : ∃ m, k = m + 1 := ⟨k - 1, by omega⟩
  rw [tempo_Valid.l0.eq_2]
  rw [if_neg (by omega), List.drop_eq_nil_of_le (by omega)]
  rfl
 | succ d ih =>
  intro k i hd hi hk
  obtain ⟨k, rfl⟩ : ∃ m, k = m + 1 + 1 := ⟨k - 2, by omega⟩
  have hlt : i < l.length := by omega
  have hih := ih k (i + 1) (by omega) (by omega) (by omega)
  rw [prev_succ27 l i hlt] at hih
  have hw : wrap64 ((i : Int) + 1) = ((i + 1 : Nat) : Int) := by rw [w64 (by omega) (by omega)]; omega
  have hj : ∀ b : Bool, tempo_Valid.j2 (k + 1) l (i : Int) l (l.length : Int) (i : Int) b l[i].f0 l[i].f1 l[i].f2 = some (!b && ((match (l.drop (i + 1)).head? with | none => decide (l[i].f2 ≠ 1) | some t2 => decide (l[i].f2 ≠ 1) || decide (wrap64 (t2.f0 - l[i].f0) ≤ 10000)) && mvL (some l[i]) (l.drop (i + 1)))) := by
   intro b
   rw [tempo_Valid.j2.eq_2, hw, hih, head_drop]
   cases b with
   | true => rfl
   | false =>
    rw [if_neg (by simp)]
    by_cases h1 : l[i].f2 = 1
    · rw [if_pos h1]
      by_cases h2 : i + 1 < l.length
      · rw [if_pos (by omega), if_pos (by omega), rd27 l (i + 1) h2, List.getElem?_eq_getElem h2]
        by_cases h3 : wrap64 (l[i + 1].f0 - l[i].f0) ≤ 10000
        · rw [if_neg (by omega)]; simp [h1, h3]
        · rw [if_pos (by omega)]; simp [h1, h3]
      · exfalso
        have := hz (by omega)
        have e : l.length - 1 = i := by omega
        simp only [e] at this
        omega
    · rw [if_neg h1]
      by_cases h2 : i + 1 < l.length
      · rw [List.getElem?_eq_getElem h2]; simp [h1]
      · rw [List.getElem?_eq_none (by omega)]; simp [h1]
  rw [tempo_Valid.l0.eq_2]
  rw [if_pos (by omega), if_pos (by omega), if_pos (by omega), rd27 l i hlt]
  simp only [hj]
  rw [List.drop_eq_getElem_cons hlt]
  simp only [mvL, tempo_within.eq, Option.bind_some]
  generalize hM : ((match (l.drop (i + 1)).head? with | none => decide (l[i].f2 ≠ 1) | some t2 => decide (l[i].f2 ≠ 1) || decide (wrap64 (t2.f0 - l[i].f0) ≤ 10000))) = M
  generalize hR : mvL (some l[i]) (l.drop (i + 1)) = R
  by_cases h0 : i = 0
  · subst h0
    rw [if_neg (show ¬ (((0 : Nat) : Int) > 0) by omega)]
    simp only [okT, if_true]
    clear hM hR hj hih ih
    generalize l[0] = m
    repeat' split
    all_goals (first | (simp_all; done) | (simp_all; omega) | (simp_all; intros; exfalso; omega) | (congr 1; rw [Bool.eq_iff_iff]; simp only [Bool.and_eq_true, decide_eq_true_eq] at *; cases M <;> cases R <;> simp <;> omega))
  · have hw2 : wrap64 ((i : Int) - 1) = ((i - 1 : Nat) : Int) := by rw [w64 (by omega) (by omega)]; omega
    rw [if_pos (show (i : Int) > 0 by omega), hw2, if_pos (show (0 : Int) ≤ ((i - 1 : Nat) : Int) by omega), if_pos (show ((i - 1 : Nat) : Int) < (l.length : Int) by omega), rd27 l (i - 1) (by omega)]
    rw [if_neg h0, List.getElem?_eq_getElem (show i - 1 < l.length by omega)]
    simp only [okT]
    clear hM hR hj hih ih
    generalize l[i - 1] = q
    generalize l[i] = m
    repeat' split
    all_goals (first | (simp_all; done) | (simp_all; omega) | (simp_all; intros; exfalso; omega) | (congr 1; rw [Bool.eq_iff_iff]; simp only [Bool.and_eq_true, decide_eq_true_eq] at *; cases M <;> cases R <;> simp <;> omega))
theorem mvL_iff : ∀ (l : List S27) (p : Option S27), mvL p l = true ↔ MapFrom l ∧ (∀ q t, p = some q → l.head? = some t → q.f0 < t.f0)
 | [], p => by simp [mvL, MapFrom]
 | [t], p => by
  cases p <;> simp [mvL, MapFrom, okT] <;> omega
 | t :: t2 :: r, p => by
  have ih := mvL_iff (t2 :: r) (some t)
  have e : mvL p (t :: t2 :: r) = (okT t && (match p with | none => true | some q => decide (q.f0 < t.f0)) && (decide (t.f2 ≠ 1) || decide (wrap64 (t2.f0 - t.f0) ≤ 10000)) && mvL (some t) (t2 :: r)) := rfl
  rw [e]
  simp only [Bool.and_eq_true, ih, MapFrom, okT, decide_eq_true_eq, Bool.or_eq_true]
  generalize hP : (match p with | none => true | some q => decide (q.f0 < t.f0)) = P
  have hp : (∀ q x, p = some q → (t :: t2 :: r).head? = some x → q.f0 < x.f0) ↔ P = true := by
   rw [← hP]
   cases p <;> simp
  rw [hp]
  have hh : (∀ q x, some t = some q → (t2 :: r).head? = some x → q.f0 < x.f0) ↔ t.f0 < t2.f0 := by simp
  rw [hh]
  constructor
  · rintro ⟨⟨⟨⟨⟨⟨a, b⟩, ⟨c, d⟩⟩, ⟨f, g⟩⟩, hq⟩, hx⟩, ⟨hm, hlt⟩⟩
    have hd : 0 ≤ t2.f0 ∧ t2.f0 ≤ 1000000000 := by
     cases r with
     | nil => exact ⟨hm.1, hm.2.1⟩
     | cons t3 r => exact ⟨hm.1, hm.2.1⟩
    rw [w64 (by omega) (by omega)] at hx
    exact ⟨⟨a, b, c, d, f, g, hlt, fun h1 => hx.resolve_left (fun n => n h1), hm⟩, hq⟩
  · rintro ⟨⟨a, b, c, d, f, g, hlt, hx, hm⟩, hq⟩
    have hd : 0 ≤ t2.f0 ∧ t2.f0 ≤ 1000000000 := by
     cases r with
     | nil => exact ⟨hm.1, hm.2.1⟩
     | cons t3 r => exact ⟨hm.1, hm.2.1⟩
    rw [w64 (by omega) (by omega)]
    exact ⟨⟨⟨⟨⟨⟨a, b⟩, ⟨c, d⟩⟩, ⟨f, g⟩⟩, hq⟩, (Classical.em (t.f2 = 1)).elim (fun k => .inr (hx k)) .inl⟩, ⟨hm, hlt⟩⟩
theorem mvL_none (l : List S27) : mvL none l = mapFromB l := by
 rw [Bool.eq_iff_iff, mvL_iff, mapFromB_iff]
 simp
theorem mapFrom_last : ∀ (l : List S27) (h : l ≠ []), MapFrom l → (l.getLast h).f2 = 0
 | [t], _, hm => hm.2.2.2.2
 | t :: t2 :: r, _, hm => by
  rw [List.getLast_cons (by simp)]
  exact mapFrom_last (t2 :: r) (by simp) hm.2.2.2.2.2.2.2.2
theorem refv_eq (l : List S27) (hl : l.length ≤ 100) : continuoref30_Valid.f 210 l = some (mapOkB l) := by
 unfold continuoref30_Valid.f mapOkB
 by_cases h : 1 ≤ l.length ∧ l.length ≤ 50
 · rw [if_neg (by omega), if_neg (by omega), if_pos (by omega)]
   rw [show continuoref30_Valid.j0 210 l ((rd_T27 l 0).f0 != 0) = if ((rd_T27 l 0).f0 != 0) = true then some false else continuoref30_Valid.l0 209 l 0 from rfl]
   have := refv_loop l hl l.length 209 0 (by omega) (by omega) (by omega)
   simp only [if_true, List.drop_zero] at this
   rw [show ((0 : Nat) : Int) = 0 from rfl] at this
   rw [this, mvL_none]
   have h0 : rd_T27 l 0 = l[0]'(by omega) := rd27 l 0 (by omega)
   rw [h0]
   cases l with
   | nil => simp at h
   | cons m r =>
    simp only [List.getElem_cons_zero, List.head?_cons]
    by_cases e : m.f0 = 0
    · simp [e, h.1, h.2]; simp at h; omega
    · simp [e]
 · have e : continuoref30_Valid.j0 210 l true = some false := rfl
   by_cases h1 : 1 ≤ l.length
   · rw [if_neg (by omega), if_pos (by omega), e]
     simp [h1, show ¬ l.length ≤ 50 by omega]
   · rw [if_pos (by omega), e]
     simp [h1]
theorem v_eq (l : List S27) (hl : l.length ≤ 100) : tempo_Valid.f 210 l = some (mapOkB l) := by
 unfold tempo_Valid.f mapOkB
 simp only [tempo_within.eq, Option.bind_some]
 have ej : tempo_Valid.j0 210 l true = some false := rfl
 by_cases h : 1 ≤ l.length ∧ l.length ≤ 50
 · have hw : wrap64 ((l.length : Int) - 1) = ((l.length - 1 : Nat) : Int) := by rw [w64 (by omega) (by omega)]; omega
   rw [if_pos (by simp; omega), if_pos (by omega)]
   have h0 : rd_T27 l 0 = l[0]'(by omega) := rd27 l 0 (by omega)
   rw [h0, hw, if_pos (show (0 : Int) ≤ ((l.length - 1 : Nat) : Int) by omega), if_pos (show ((l.length - 1 : Nat) : Int) < (l.length : Int) by omega), rd27 l (l.length - 1) (by omega)]
   rw [show ∀ b, tempo_Valid.j0 210 l b = if b = true then some false else tempo_Valid.l0 209 l l (l.length : Int) 0 from fun _ => rfl]
   have hh : l.head? = some (l[0]'(by omega)) := by
    cases l with
    | nil => simp at h
    | cons m r => rfl
   rw [hh]
   by_cases e : (l[0]'(by omega)).f0 = 0
   · rw [if_pos e]
     by_cases hz : (l[l.length - 1]'(by omega)).f2 = 0
     · have := v_loop l hl (fun _ => hz) l.length 209 0 (by omega) (by omega) (by omega)
       simp only [if_true, List.drop_zero] at this
       rw [show ((0 : Nat) : Int) = 0 from rfl] at this
       rw [if_neg (by simp [hz]), this, mvL_none]
       simp [e, h.1, h.2]
     · rw [if_pos (by simpa using hz)]
       have : mapFromB l = false := by
        rw [Bool.eq_false_iff]
        intro hc
        rw [mapFromB_iff] at hc
        have hne : l ≠ [] := by intro e; subst e; simp at h
        have := mapFrom_last l hne hc
        rw [List.getLast_eq_getElem] at this
        exact hz this
       simp [this]
   · rw [if_neg e, ej]
     simp [e]
 · rw [if_neg (by simp; omega), ej]
   congr 1
   by_cases h1 : 1 ≤ l.length
   · simp [h1, show ¬ l.length ≤ 50 by omega]
   · simp [h1]
end Go.Proofs.Ytomlfbmfdoallaa.Pure

namespace Go.Proofs.Ytomlfbmfdoallaa.Pure
open Go.RowKit Go.Proofs.Ytomlfbmfdoallaa.PA Go.Proofs.YtomlfbmfdoallaaW.PrintWords Go.Proofs.YtomlfbmfdoallaaW.PrintLast
set_option linter.unusedVariables false
set_option linter.unusedSimpArgs false
theorem refrounded_eq (a b : Int) (hb : 0 < b) (hb2 : b ≤ 2305843009213693951) (ha : -2305843009213693951 ≤ a) (ha2 : a ≤ 2305843009213693951) : continuoref30_Rounded.f a b = some (rnd a b) := by
 unfold continuoref30_Rounded.f rnd
 have w1 : wrap64 (2 * b) = 2 * b := w64 (by omega) (by omega)
 by_cases h : a < 0
 · rw [if_pos h, if_pos h, w1, if_neg (by omega), w64 (x := -a) (by omega) (by omega), w64 (x := -a * 2) (by omega) (by omega), w64 (x := -a * 2 + b) (by omega) (by omega)]
   rw [Int.tdiv_eq_ediv_of_nonneg (by omega)]
   have q0 : 0 ≤ (-a * 2 + b) / (2 * b) := Int.ediv_nonneg (by omega) (by omega)
   have q1 : (-a * 2 + b) / (2 * b) ≤ -a * 2 + b := Int.ediv_le_self _ (by omega)
   rw [w64 (x := _ / _) (by omega) (by omega), w64 (by omega) (by omega)]
   have e : -a * 2 + b = -2 * a + b := by omega
   rw [e]
 · rw [if_neg h, if_neg h, w1, if_neg (by omega), w64 (x := a * 2) (by omega) (by omega), w64 (x := a * 2 + b) (by omega) (by omega)]
   rw [Int.tdiv_eq_ediv_of_nonneg (by omega)]
   have q0 : 0 ≤ (a * 2 + b) / (2 * b) := Int.ediv_nonneg (by omega) (by omega)
   have q1 : (a * 2 + b) / (2 * b) ≤ a * 2 + b := Int.ediv_le_self _ (by omega)
   rw [w64 (x := _ / _) (by omega) (by omega)]
   have e : a * 2 + b = 2 * a + b := by omega
   rw [e]
theorem length_eq (l : List S27) (hm : MapFrom l) (i : Nat) (hi : i < l.length) (hll : l.length ≤ 100) (n : Int) (h0 : 0 ≤ n) (h1 : n ≤ 1000000000) (h2 : ∀ h : i + 1 < l.length, n ≤ l[i + 1].f0 - l[i].f0) :
 continuoref30_length.f l (i : Int) n = some ((crvOf l[i] l[i + 1]?).frames n) := by
 have hmd := hm.drop i
 rw [List.drop_eq_getElem_cons hi] at hmd
 have hd := hmd.head
 unfold continuoref30_length.f
 rw [if_pos (by omega), if_pos (by omega), rd27 l i hi]
 have hw : wrap64 ((i : Int) + 1) = ((i + 1 : Nat) : Int) := by rw [w64 (by omega) (by omega)]; omega
 by_cases hn : i + 1 < l.length
 · rw [List.drop_eq_getElem_cons hn] at hmd
   have ho := crv_ok hmd h0 (h2 hn)
   rw [List.getElem?_eq_getElem hn]
   by_cases hc : l[i].f2 = 1
   · have hd2 := hmd.2.2.2.2.2.2.2.2.head
     have hg := hmd.2.2.2.2.2.2.2.1 hc
     have hlt := hmd.2.2.2.2.2.2.1
     rw [if_neg (by omega), hw, if_pos (by omega), if_pos (by omega), rd27 l (i + 1) hn]
     simp only [crvOf, hc, if_true] at ho ⊢
     simp only [Crv.frames]
     have h2' := h2 hn
     generalize hp : l[i].f1 = p at *
     generalize hq : l[i + 1].f1 = q at *
     generalize hL : l[i + 1].f0 - l[i].f0 = L at *
     obtain ⟨g1, g2, g3, g4, g5, g6, g7, g8⟩ := ho
     have b1 := mulb (n := 2 * L) (N := 20000) (p := n) (P := 10000) (by omega) (by omega) (by omega) (by omega)
     have b2 := mulb (n := 2 * L * n) (N := 200000000) (p := p) (P := 67108864) (by omega) (by omega) (by omega) (by omega)
     have b3 := mulb (n := p) (N := 67108864) (p := n) (P := 10000) (by omega) (by omega) (by omega) (by omega)
     have b4 := mulb (n := q) (N := 67108864) (p := n) (P := 10000) (by omega) (by omega) (by omega) (by omega)
     have e1 : (q - p) * n = q * n - p * n := Int.sub_mul _ _ _
     have c1 : (q * n) * (n - 1) ≤ 671088640000 * 10000 ∧ -671088640000 * 10000 ≤ (q * n) * (n - 1) := by
      by_cases hz : n = 0
      · subst hz; simp
      · have := mulb (n := q * n) (N := 671088640000) (p := n - 1) (P := 10000) (by omega) (by omega) (by omega) (by omega); omega
     have c2 : (p * n) * (n - 1) ≤ 671088640000 * 10000 ∧ -671088640000 * 10000 ≤ (p * n) * (n - 1) := by
      by_cases hz : n = 0
      · subst hz; simp
      · have := mulb (n := p * n) (N := 671088640000) (p := n - 1) (P := 10000) (by omega) (by omega) (by omega) (by omega); omega
     have e2 : (q - p) * n * (n - 1) = q * n * (n - 1) - p * n * (n - 1) := by rw [e1, Int.sub_mul]
     rw [w64 (x := L) (by omega) (by omega), w64 (x := 2 * L) (by omega) (by omega), w64 (x := 2 * L * n) (by omega) (by omega), w64 (x := 2 * L * n * p) (by omega) (by omega), w64 (x := q - p) (by omega) (by omega), w64 (x := (q - p) * n) (by omega) (by omega), w64 (x := n - 1) (by omega) (by omega), w64 (x := (q - p) * n * (n - 1)) (by omega) (by omega), w64 (x := 2 * L * 65536) (by omega) (by omega), w64 (x := 2 * L * n * p + _) (by omega) (by omega), refrounded_eq _ _ (by omega) (by omega) (by omega) (by omega)]
     rfl
   · have hf : l[i].f2 = 0 := by have := hmd.2.2.2.2.1; have := hmd.2.2.2.2.2.1; omega
     rw [if_pos hf]
     simp only [crvOf, hc, if_false] at ho ⊢
     simp only [Crv.frames]
     have b1 := mulb (n := n) (N := 1000000000) (p := l[i].f1) (P := 67108864) (by omega) (by omega) (by omega) (by omega)
     rw [w64 (x := n * l[i].f1) (by omega) (by omega), refrounded_eq _ _ (by omega) (by omega) (by omega) (by omega)]
     rfl
 · rw [List.drop_eq_nil_of_le (by omega)] at hmd
   rw [List.getElem?_eq_none (by omega)]
   rw [if_pos hmd.2.2.2.2]
   simp only [crvOf, Crv.frames]
   have b1 := mulb (n := n) (N := 1000000000) (p := l[i].f1) (P := 67108864) (by omega) (by omega) (by omega) (by omega)
   rw [w64 (x := n * l[i].f1) (by omega) (by omega), refrounded_eq _ _ (by omega) (by omega) (by omega) (by omega)]
   rfl
theorem at_exact (l : List S27) (hll : l.length ≤ 100) (x : Int) (i : Nat) (hi : i < l.length) (hp : ∀ j (h : j + 1 < l.length), j < i → l[j + 1].f0 ≤ x) (hx : ∀ h : i + 1 < l.length, x < l[i + 1].f0) :
 ∀ (d k j : Nat), i - j = d → j ≤ i → d < k → continuoref30_at.l0 k l x (j : Int) = some (i : Int) := by
 intro d
 induction d with
 | zero =>
  intro k j hd hj hk
  obtain ⟨k, rfl⟩ : ∃ m, k = m + 1 := ⟨k - 1, by omega⟩
  obtain rfl : j = i := by omega
  have hw : wrap64 ((j : Int) + 1) = ((j + 1 : Nat) : Int) := by rw [w64 (by omega) (by omega)]; omega
  rw [continuoref30_at.l0.eq_2, hw]
  by_cases h : j + 1 < l.length
  · rw [if_pos (by omega), if_pos (by omega), rd27 l (j + 1) h, if_neg (by have := hx h; omega)]
  · rw [if_neg (by omega)]
 | succ d ih =>
  intro k j hd hj hk
  obtain ⟨k, rfl⟩ : ∃ m, k = m + 1 := ⟨k - 1, by omega⟩
  have hw : wrap64 ((j : Int) + 1) = ((j + 1 : Nat) : Int) := by rw [w64 (by omega) (by omega)]; omega
  have h : j + 1 < l.length := by omega
  rw [continuoref30_at.l0.eq_2, hw, if_pos (by omega), if_pos (by omega), rd27 l (j + 1) h, if_pos (hp j h (by omega))]
  exact ih k (j + 1) (by omega) (by omega) (by omega)
theorem idx (l : List S27) (x : Int) : ∀ (d i : Nat), l.length - i = d + 1 → (∀ j (h : j + 1 < l.length), j < i → l[j + 1].f0 ≤ x) →
 ∃ e, i ≤ e ∧ ∃ he : e < l.length, (∀ j (h : j + 1 < l.length), j < e → l[j + 1].f0 ≤ x) ∧ (∀ h : e + 1 < l.length, x < l[e + 1].f0) ∧ per (l.drop i) x = per (l.drop e) x ∧ (i < e → l[e].f0 ≤ x) := by
 intro d
 induction d with
 | zero =>
  intro i hd hp
  exact ⟨i, Nat.le_refl _, by omega, hp, fun h => absurd h (by omega), rfl, fun h => absurd h (by omega)⟩
 | succ d ih =>
  intro i hd hp
  have h : i + 1 < l.length := by omega
  by_cases hx : l[i + 1].f0 ≤ x
  · obtain ⟨e, h1, h2, h3, h4, h5, h6⟩ := ih (i + 1) (by omega) (fun j hj hji => by
     by_cases hc : j < i
     · exact hp j hj hc
     · obtain rfl : j = i := by omega
       exact hx)
    refine ⟨e, by omega, h2, h3, h4, ?_, fun _ => ?_⟩
    · rw [← h5, List.drop_eq_getElem_cons (show i < l.length by omega), List.drop_eq_getElem_cons h]
      simp [per, hx]
    · by_cases hc : i + 1 < e
      · exact h6 hc
      · obtain rfl : i + 1 = e := by omega
        exact hx
  · exact ⟨i, Nat.le_refl _, by omega, hp, fun _ => by omega, rfl, fun h => absurd h (by omega)⟩
theorem frame_loop (l : List S27) (hm : MapFrom l) (hll : l.length ≤ 100) (x : Int) (hx1 : x ≤ 1000000000) : ∀ (d k i : Nat) (s : Int), l.length - i = d + 1 → d + 101 < k → (∀ j (h : j + 1 < l.length), j < i → l[j + 1].f0 ≤ x) → (∀ h : i < l.length, l[i].f0 ≤ x) →
 0 ≤ s → s ≤ 1000000000000000 - (l.length - i : Int) * 1024000000001 → continuoref30_frame.l0 k l s x (i : Int) = some (fr (l.drop i) s x) ∧ s ≤ fr (l.drop i) s x ∧ fr (l.drop i) s x ≤ s + (l.length - i : Int) * 1024000000001 := by
 intro d
 induction d with
 | zero =>
  intro k i s hd hk hp hx hs0 hs1
  obtain ⟨k, rfl⟩ : ∃ m, k = m + 1 := ⟨k - 1, by omega⟩
  have hi : i < l.length := by omega
  have hx := hx hi
  have hw : wrap64 ((i : Int) + 1) = ((i + 1 : Nat) : Int) := by rw [w64 (by omega) (by omega)]; omega
  have hmd := hm.drop i
  rw [List.drop_eq_getElem_cons hi] at hmd
  have hd' := hmd.head
  rw [List.drop_eq_nil_of_le (by omega)] at hmd
  have hl := length_eq l hm i hi hll (x - l[i].f0) (by omega) (by omega) (fun h => absurd h (by omega))
  rw [List.getElem?_eq_none (by omega)] at hl
  have hb : 0 ≤ (crvOf l[i] none).frames (x - l[i].f0) ∧ (crvOf l[i] none).frames (x - l[i].f0) ≤ 1024000000001 := even_bound _ _ (by omega) (by omega) hmd.2.2.1 hmd.2.2.2.1
  have hdr : fr (l.drop i) s x = s + (crvOf l[i] none).frames (x - l[i].f0) := by
   rw [List.drop_eq_getElem_cons hi, List.drop_eq_nil_of_le (by omega)]
   rfl
  rw [continuoref30_frame.l0.eq_2, hw, if_neg (by omega), show continuoref30_at.f k l x = continuoref30_at.l0 k l x ((0 : Nat) : Int) from rfl, at_exact l hll x i hi hp (fun h => absurd h (by omega)) i k 0 (by omega) (by omega) (by omega)]
  simp only [Option.bind_some]
  rw [if_pos (by omega), if_pos (by omega), rd27 l i hi, w64 (x := x - l[i].f0) (by omega) (by omega), hl, hdr]
  simp only [Option.bind_some]
  rw [w64 (by omega) (by omega)]
  exact ⟨rfl, by omega, by omega⟩
 | succ d ih =>
  intro k i s hd hk hp hx hs0 hs1
  obtain ⟨k, rfl⟩ : ∃ m, k = m + 1 := ⟨k - 1, by omega⟩
  have hi : i < l.length := by omega
  have hi2 : i + 1 < l.length := by omega
  have hx := hx hi
  have hw : wrap64 ((i : Int) + 1) = ((i + 1 : Nat) : Int) := by rw [w64 (by omega) (by omega)]; omega
  have hmd := hm.drop i
  rw [List.drop_eq_getElem_cons hi, List.drop_eq_getElem_cons hi2] at hmd
  have hd' := hmd.head
  have hd2 := hmd.2.2.2.2.2.2.2.2.head
  have hlt := hmd.2.2.2.2.2.2.1
  rw [continuoref30_frame.l0.eq_2, hw, if_pos (by omega), if_pos (by omega), rd27 l (i + 1) hi2, rd27 l i hi]
  by_cases hc : l[i + 1].f0 ≤ x
  · have hl := length_eq l hm i hi hll (l[i + 1].f0 - l[i].f0) (by omega) (by omega) (fun h => Int.le_refl _)
    rw [List.getElem?_eq_getElem hi2] at hl
    have hb := (crv_ok hmd (n := l[i + 1].f0 - l[i].f0) (by omega) (Int.le_refl _)).bound
    rw [if_pos hc, if_pos (by omega), if_pos (by omega), w64 (x := l[i + 1].f0 - l[i].f0) (by omega) (by omega), hl]
    simp only [Option.bind_some]
    have hdr : fr (l.drop i) s x = fr (l.drop (i + 1)) (s + (crvOf l[i] (some l[i + 1])).frames (l[i + 1].f0 - l[i].f0)) x := by
     rw [List.drop_eq_getElem_cons hi, List.drop_eq_getElem_cons hi2]
     simp [fr, hc]
    rw [hdr]
    generalize (crvOf l[i] (some l[i + 1])).frames (l[i + 1].f0 - l[i].f0) = F at *
    have hlen : ((l.length : Int) - (i : Int)) * 1024000000001 = ((l.length : Int) - ((i + 1 : Nat) : Int)) * 1024000000001 + 1024000000001 := by omega
    rw [w64 (x := s + F) (by omega) (by omega)]
    obtain ⟨r1, r2, r3⟩ := ih k (i + 1) (s + F) (by omega) (by omega) (fun j hj hji => by
     by_cases hc2 : j < i
     · exact hp j hj hc2
     · obtain rfl : j = i := by omega
       exact hc) (fun _ => hc) (by omega) (by omega)
    exact ⟨r1, by omega, by omega⟩
  · have hl := length_eq l hm i hi hll (x - l[i].f0) (by omega) (by omega) (fun h => by omega)
    rw [List.getElem?_eq_getElem hi2] at hl
    have hb := (crv_ok hmd (n := x - l[i].f0) (by omega) (by omega)).bound
    have hdr : fr (l.drop i) s x = s + (crvOf l[i] (some l[i + 1])).frames (x - l[i].f0) := by
     rw [List.drop_eq_getElem_cons hi, List.drop_eq_getElem_cons hi2]
     simp [fr, hc]
    rw [if_neg hc, show continuoref30_at.f k l x = continuoref30_at.l0 k l x ((0 : Nat) : Int) from rfl, at_exact l hll x i hi hp (fun h => by omega) i k 0 (by omega) (by omega) (by omega)]
    simp only [Option.bind_some]
    rw [if_pos (by omega), if_pos (by omega), rd27 l i hi, w64 (x := x - l[i].f0) (by omega) (by omega), hl, hdr]
    simp only [Option.bind_some]
    generalize (crvOf l[i] (some l[i + 1])).frames (x - l[i].f0) = F at *
    rw [w64 (by omega) (by omega)]
    have : (1 : Int) ≤ (l.length : Int) - (i : Int) := by omega
    exact ⟨rfl, by omega, by omega⟩
theorem refframe_eq (l : List S27) (hok : MapOk l) (s x : Int) (hs0 : 0 ≤ s) (hs1 : s ≤ 1000000000) (hx0 : 0 ≤ x) (hx1 : x ≤ 1000000000) (k : Nat) (hk : 201 < k) :
 continuoref30_frame.f k l s x = some (fr l s x) ∧ s ≤ fr l s x ∧ fr l s x ≤ s + 52000000000000 := by
 obtain ⟨h1, h2, h3, h4⟩ := hok
 obtain ⟨r1, r2, r3⟩ := frame_loop l h4 (by omega) x hx1 (l.length - 1) k 0 s (by omega) (by omega) (fun j _ h => absurd h (by omega)) (fun h => by
  have := h3 l[0] (by cases l with | nil => simp at h | cons a b => rfl)
  omega) hs0 (by omega)
 rw [List.drop_zero] at r1 r2 r3
 exact ⟨r1, r2, by omega⟩
theorem last_loop (l : List S27) (hok : MapOk l) (s y : Int) (hs0 : 0 ≤ s) (hs1 : s ≤ 1000000000) : ∀ (d k : Nat) (lo hi : Int), 0 ≤ lo → hi ≤ 1000000000 → lo ≤ hi → (hi - lo).toNat < 2 ^ d → d + 202 < k →
 continuoref30_last.l0 k l s y lo hi = some (bs (fun n => decide (fr l s n ≤ y)) lo hi) := by
 intro d
 induction d with
 | zero =>
  intro k lo hi h0 h1 h2 h3 hk
  obtain ⟨k, rfl⟩ : ∃ m, k = m + 1 := ⟨k - 1, by omega⟩
  have e : lo = hi := by simp at h3; omega
  subst e
  rw [continuoref30_last.l0.eq_2, if_neg (by omega)]
  unfold bs
  rw [if_neg (by omega)]
 | succ d ih =>
  intro k lo hi h0 h1 h2 h3 hk
  obtain ⟨k, rfl⟩ : ∃ m, k = m + 1 := ⟨k - 1, by omega⟩
  rw [continuoref30_last.l0.eq_2]
  by_cases hlt : lo < hi
  · have hp : 2 ^ (d + 1) = 2 * 2 ^ d := by rw [Nat.pow_succ]; omega
    rw [hp] at h3
    have hmid : wrap64 (Int.tdiv (wrap64 ((wrap64 (lo + hi)) + 1)) 2) = lo + (hi - lo + 1) / 2 := by
     rw [w64 (x := lo + hi) (by omega) (by omega), w64 (x := lo + hi + 1) (by omega) (by omega), Int.tdiv_eq_ediv_of_nonneg (by omega), w64 (by omega) (by omega)]
     omega
    rw [if_pos hlt, hmid, (refframe_eq l hok s _ hs0 hs1 (by omega) (by omega) k (by omega)).1]
    simp only [Option.bind_some]
    conv => rhs; unfold bs
    rw [if_pos hlt]
    simp only [decide_eq_true_eq]
    by_cases hc : fr l s (lo + (hi - lo + 1) / 2) ≤ y
    · rw [if_pos hc, if_pos hc]
      exact ih k _ hi (by omega) h1 (by omega) (by omega) (by omega)
    · rw [if_neg hc, if_neg hc, w64 (x := lo + (hi - lo + 1) / 2 - 1) (by omega) (by omega)]
      exact ih k lo _ h0 (by omega) (by omega) (by omega) (by omega)
  · rw [if_neg hlt]
    unfold bs
    rw [if_neg hlt]
theorem reflast_eq (l : List S27) (hok : MapOk l) (s y : Int) (hs0 : 0 ≤ s) (hs1 : s ≤ 1000000000) (k : Nat) (hk : 240 < k) :
 continuoref30_last.f k l s y = some (bs (fun n => decide (fr l s n ≤ y)) 0 1000000000) :=
 last_loop l hok s y hs0 hs1 30 k 0 1000000000 (by omega) (by omega) (by omega) (by decide) (by omega)
theorem refperiod_eq (l : List S27) (hok : MapOk l) (x : Int) (hx0 : 0 ≤ x) (hx1 : x ≤ 1000000000) (k : Nat) (hk : 210 ≤ k) (hv : continuoref30_Valid.f k l = some true) (ht : continuoref30_time.f x = some true) :
 continuoref30_Period.f k l x = some (per l x, 0) := by
 obtain ⟨h1, h2, h3, h4⟩ := hok
 obtain ⟨e, _, he, hp, hx, hper, hle⟩ := idx l x (l.length - 1) 0 (by omega) (fun j _ h => absurd h (by omega))
 have hle : l[e].f0 ≤ x := by
  by_cases h0 : 0 < e
  · exact hle h0
  · obtain rfl : e = 0 := by omega
    have := h3 l[0] (by cases l with | nil => simp at he | cons a b => rfl)
    omega
 rw [List.drop_zero] at hper
 unfold continuoref30_Period.f
 rw [hv]
 simp only [Option.bind_some, if_true]
 rw [ht]
 simp only [Option.bind_some, if_true]
 rw [show continuoref30_at.f k l x = continuoref30_at.l0 k l x ((0 : Nat) : Int) from rfl, at_exact l (by omega) x e he hp hx e k 0 (by omega) (by omega) (by omega)]
 simp only [Option.bind_some]
 rw [if_pos (by omega), if_pos (by omega), rd27 l e he, hper]
 clear hper hp
 have hmd := h4.drop e
 rw [List.drop_eq_getElem_cons he] at hmd ⊢
 have hd := hmd.head
 by_cases hn : e + 1 < l.length
 · rw [List.drop_eq_getElem_cons hn] at hmd ⊢
   have hx := hx hn
   have hd2 := hmd.2.2.2.2.2.2.2.2.head
   have hlt := hmd.2.2.2.2.2.2.1
   by_cases hc : l[e].f2 = 1
   · have hg := hmd.2.2.2.2.2.2.2.1 hc
     have hw : wrap64 ((e : Int) + 1) = ((e + 1 : Nat) : Int) := by rw [w64 (by omega) (by omega)]; omega
     rw [if_neg (by omega), hw, if_pos (by omega), if_pos (by omega), rd27 l (e + 1) hn]
     simp only [per, if_neg (show ¬ l[e + 1].f0 ≤ x by omega), crvOf, hc, if_true, Crv.period]
     generalize hp : l[e].f1 = p at *
     generalize hq : l[e + 1].f1 = q at *
     rw [w64 (x := l[e + 1].f0 - l[e].f0) (by omega) (by omega), w64 (x := x - l[e].f0) (by omega) (by omega)]
     generalize hL : l[e + 1].f0 - l[e].f0 = L at *
     generalize hK : x - l[e].f0 = K at *
     have b1 := mulb (n := p) (N := 67108864) (p := L - K) (P := 10000) (by omega) (by omega) (by omega) (by omega)
     have b2 := mulb (n := q) (N := 67108864) (p := K) (P := 10000) (by omega) (by omega) (by omega) (by omega)
     rw [w64 (x := L - K) (by omega) (by omega), w64 (x := p * (L - K)) (by omega) (by omega), w64 (x := q * K) (by omega) (by omega), w64 (x := _ + _) (by omega) (by omega), refrounded_eq _ _ (by omega) (by omega) (by omega) (by omega)]
     rfl
   · have hf : l[e].f2 = 0 := by have := hmd.2.2.2.2.1; have := hmd.2.2.2.2.2.1; omega
     rw [if_pos hf]
     simp only [per, if_neg (show ¬ l[e + 1].f0 ≤ x by omega), crvOf, hc, if_false, Crv.period]
 · rw [List.drop_eq_nil_of_le (by omega)] at hmd ⊢
   rw [if_pos hmd.2.2.2.2]
   rfl
theorem rnd_mono {a b n : Int} (hn : 0 < n) (ha : 0 ≤ a) (hab : a ≤ b) : rnd a n ≤ rnd b n := by
 unfold rnd
 rw [if_neg (by omega), if_neg (by omega)]
 exact Int.ediv_le_ediv (by omega) (by omega)
theorem Crv.frames_step {c : Crv} {n : Int} (h0 : 0 ≤ n) (h : c.Ok (n + 1)) : c.frames n ≤ c.frames (n + 1) := by
 cases c with
 | even p =>
  obtain ⟨h1, h2, h3, h4⟩ := h
  have := mulb (n := n) (N := 1000000000) (p := p) (P := 67108864) (by omega) (by omega) (by omega) (by omega)
  exact rnd_mono (by omega) this.1 (by rw [Int.add_mul]; omega)
 | changing p q l =>
  obtain ⟨h1, h2, h3, h4, h5, h6, h7, h8⟩ := h
  obtain ⟨g1, g2⟩ := changing_num p q l n h0 (by omega) h5 h1 h3 67108864 h2 h4
  refine rnd_mono (by omega) g1 ?_
  have e : 2 * l * (n + 1) * p + (q - p) * (n + 1) * (n + 1 - 1) = (2 * l * n * p + (q - p) * n * (n - 1)) + 2 * ((l - n) * p + n * q) := by grind
  have a1 : 0 ≤ (l - n) * p := Int.mul_nonneg (by omega) (by omega)
  have a2 : 0 ≤ n * q := Int.mul_nonneg (by omega) (by omega)
  rw [e]
  omega
theorem fr_step : ∀ (l : List S27) (s n : Int), MapFrom l → l ≠ [] → (∀ t, l.head? = some t → t.f0 ≤ n) → n + 1 ≤ 1000000000 → fr l s n ≤ fr l s (n + 1)
 | [], _, _, _, h, _, _ => absurd rfl h
 | [t], s, n, hm, _, hh, hn => by
  have ht := hh t rfl
  obtain ⟨m0, m1, m2, m3, m4⟩ := hm
  have := Crv.frames_step (c := .even t.f1) (n := n - t.f0) (by omega) ⟨m2, m3, by omega, by omega⟩
  show s + _ ≤ s + _
  rw [show n + 1 - t.f0 = n - t.f0 + 1 by omega]
  omega
 | t :: t2 :: r, s, n, hm, _, hh, hn => by
  have ht := hh t rfl
  have hm8 := hm.2.2.2.2.2.2.2.2
  have hlt := hm.2.2.2.2.2.2.1
  by_cases h1 : t2.f0 ≤ n
  · simp only [fr, if_pos h1, if_pos (show t2.f0 ≤ n + 1 by omega)]
    exact fr_step (t2 :: r) _ n hm8 (by simp) (fun t' e => by cases e; exact h1) hn
  · have hs := Crv.frames_step (c := crvOf t (some t2)) (n := n - t.f0) (by omega) (crv_ok hm (by omega) (by omega))
    rw [show n - t.f0 + 1 = n + 1 - t.f0 by omega] at hs
    by_cases h2 : t2.f0 ≤ n + 1
    · have e : n + 1 = t2.f0 := by omega
      have hz : fr (t2 :: r) (s + (crvOf t (some t2)).frames (t2.f0 - t.f0)) (n + 1) = s + (crvOf t (some t2)).frames (t2.f0 - t.f0) := by
       rw [e]
       cases r with
       | nil =>
        show _ + rnd ((t2.f0 - t2.f0) * t2.f1) 65536 = _
        rw [Int.sub_self, Int.zero_mul, show rnd 0 65536 = 0 by decide]
        omega
       | cons t3 r =>
        have h23 := hm8.2.2.2.2.2.2.1
        simp only [fr, if_neg (show ¬ t3.f0 ≤ t2.f0 by omega)]
        have hz : (crvOf t2 (some t3)).frames (t2.f0 - t2.f0) = 0 := by
         rw [Int.sub_self]
         unfold crvOf
         by_cases hc : t2.f2 = 1
         · simp only [hc, if_true, Crv.frames]
           have : 2 * (t3.f0 - t2.f0) * 0 * t2.f1 + (t3.f1 - t2.f1) * 0 * (0 - 1) = 0 := by simp
           rw [this]
           unfold rnd
           rw [if_neg (by omega)]
           exact Int.ediv_eq_zero_of_lt (by omega) (by omega)
         · simp only [hc, if_false, Crv.frames, Int.zero_mul]
           decide
        rw [hz]; omega
      simp only [fr, if_neg h1, if_pos h2] at hz ⊢
      have hz' : fr (t2 :: r) (s + (crvOf t (some t2)).frames (t2.f0 - t.f0)) (n + 1) = s + (crvOf t (some t2)).frames (t2.f0 - t.f0) := by simpa [fr] using hz
      rw [hz', ← e]
      omega
    · simp only [fr, if_neg h1, if_neg h2]
      omega
theorem fr_mono (l : List S27) (s : Int) (hok : MapOk l) (d : Nat) : ∀ n : Int, 0 ≤ n → n + d ≤ 1000000000 → fr l s n ≤ fr l s (n + d) := by
 obtain ⟨h1, h2, h3, h4⟩ := hok
 induction d with
 | zero => intro n _ _; simp
 | succ d ih =>
  intro n h0 h1'
  have a := ih n h0 (by omega)
  have b := fr_step l s (n + d) h4 (by intro e; subst e; simp at h1) (fun t e => by rw [h3 t e]; omega) (by omega)
  rw [show n + ((d + 1 : Nat) : Int) = n + d + 1 by omega]
  omega
theorem fr_le {l : List S27} {s : Int} (hok : MapOk l) {a b : Int} (h0 : 0 ≤ a) (hab : a ≤ b) (hb : b ≤ 1000000000) : fr l s a ≤ fr l s b := by
 have := fr_mono l s hok (b - a).toNat a h0 (by omega)
 rwa [show a + ((b - a).toNat : Int) = b by omega] at this
theorem bs_spec (p : Int → Bool) (lo hi : Int) (h : lo ≤ hi) (hm : ∀ a b, lo ≤ a → a ≤ b → b ≤ hi → p b = true → p a = true) (h0 : p lo = true) :
 lo ≤ bs p lo hi ∧ bs p lo hi ≤ hi ∧ p (bs p lo hi) = true ∧ ∀ a, lo ≤ a → a ≤ hi → p a = true → a ≤ bs p lo hi := by
 generalize hd : (hi - lo).toNat = d
 induction d using Nat.strongRecOn generalizing lo hi with
 | _ d ih =>
  unfold bs
  by_cases hlt : lo < hi
  · rw [if_pos hlt]
    by_cases hc : p (lo + (hi - lo + 1) / 2) = true
    · rw [if_pos hc]
      obtain ⟨a1, a2, a3, a4⟩ := ih _ (by omega) (lo + (hi - lo + 1) / 2) hi (by omega) (fun a b ha hab hb => hm a b (by omega) hab hb) hc rfl
      refine ⟨by omega, a2, a3, fun a ha hb hp => ?_⟩
      by_cases hx : lo + (hi - lo + 1) / 2 ≤ a
      · exact a4 a hx hb hp
      · omega
    · rw [if_neg hc]
      obtain ⟨a1, a2, a3, a4⟩ := ih _ (by omega) lo (lo + (hi - lo + 1) / 2 - 1) (by omega) (fun a b ha hab hb => hm a b ha hab (by omega)) h0 rfl
      refine ⟨a1, by omega, a3, fun a ha hb hp => ?_⟩
      by_cases hx : a ≤ lo + (hi - lo + 1) / 2 - 1
      · exact a4 a ha hx hp
      · exact absurd (hm _ a (by omega) (by omega) hb hp) hc
  · rw [if_neg hlt]
    exact ⟨Int.le_refl _, by omega, h0, fun a _ _ _ => by omega⟩
end Go.Proofs.Ytomlfbmfdoallaa.Pure

namespace Go.Proofs.Ytomlfbmfdoallaa.Pure
open Go.RowKit Go.Proofs.Ytomlfbmfdoallaa.PA Go.Proofs.YtomlfbmfdoallaaW.PrintWords Go.Proofs.YtomlfbmfdoallaaW.PrintLast
set_option linter.unusedVariables false
set_option linter.unusedSimpArgs false
theorem upb {α : Type} {g : Nat → Option α} (hm : ∀ k, LeO (g k) (g (k + 1))) {b : Nat} {r : α} (h : g b = some r) : ∀ k, b ≤ k → g k = some r := by
 intro k hk
 obtain ⟨d, rfl⟩ : ∃ d, k = b + d := ⟨k - b, by omega⟩
 clear hk
 induction d with
 | zero => exact h
 | succ d ih => exact hm _ _ ih
def tm (n : Int) : Bool := decide (0 ≤ n) && decide (n ≤ 1000000000)
theorem tm_iff (n : Int) : tm n = true ↔ 0 ≤ n ∧ n ≤ 1000000000 := by simp [tm]
theorem tm_inTime (n : Int) : inTime n = tm n := rfl
theorem reftime_eq (n : Int) : continuoref30_time.f n = some (tm n) := by
 unfold continuoref30_time.f tm
 by_cases h : n ≥ 0
 · rw [if_pos h]; simp [show 0 ≤ n from h]
 · rw [if_neg h]; simp [show ¬ 0 ≤ n from h]
def FR (l : List S27) (s x : Int) : Int × Int := if mapOkB l = true then (if tm s = true ∧ tm x = true then (if fr l s x > 1000000000 then (0, 7) else (fr l s x, 0)) else (0, 7)) else (0, 1)
def TK (l : List S27) (s y : Int) : Int × Int := if mapOkB l = true then (if tm s = true ∧ tm y = true ∧ s ≤ y then (bs (fun n => decide (fr l s n ≤ y)) 0 1000000000, 0) else (0, 7)) else (0, 1)
def PR (l : List S27) (x : Int) : Int × Int := if mapOkB l = true then (if tm x = true then (per l x, 0) else (0, 7)) else (0, 1)
section
variable {l : List S27} (hl : l.length ≤ 100) {k : Nat} (hk : 250 ≤ k)
include hl hk
theorem valid_prog : tempo_Valid.f k l = some (mapOkB l) := upb (g := fun k => tempo_Valid.f k l) (fun k => tempo_Valid.mono l k) (v_eq l hl) k (by omega)
theorem valid_ref : continuoref30_Valid.f k l = some (mapOkB l) := upb (g := fun k => continuoref30_Valid.f k l) (fun k => continuoref30_Valid.mono l k) (refv_eq l hl) k (by omega)
theorem frame_prog (s x : Int) : tempo_Frame.f k l s x = some (FR l s x) := by
 unfold tempo_Frame.f tempo_asked.f FR
 rw [valid_prog hl hk]
 simp only [Option.bind_some]
 cases hv : mapOkB l with
 | false => rfl
 | true =>
  simp only [if_true, List.any_cons, List.any_nil, Bool.or_false, tm_inTime]
  by_cases h : tm s = true ∧ tm x = true
  · obtain ⟨h1, h2⟩ := h
    have q1 := (tm_iff _).1 h1
    have q2 := (tm_iff _).1 h2
    rw [h1, h2]
    simp only [Bool.not_true, Bool.or_false, Bool.false_eq_true, if_false, Option.bind_some, if_true, and_self]
    unfold tempo_frame.f
    rw [if_pos ⟨hv, q1.1, q1.2, q2.1, q2.2⟩]
    simp only [Option.bind_some]
    split <;> rfl
  · rw [if_neg h]
    have : (!tm s || !tm x) = true := by
     cases h1 : tm s <;> cases h2 : tm x <;> simp_all
    rw [if_pos this]
    rfl
theorem frame_ref (s x : Int) : continuoref30_Frame.f k l s x = some (FR l s x) := by
 obtain ⟨k, rfl⟩ : ∃ q, k = q + 1 := ⟨k - 1, by omega⟩
 unfold continuoref30_Frame.f FR
 rw [valid_ref hl hk]
 simp only [Option.bind_some, reftime_eq]
 cases hv : mapOkB l with
 | false => rfl
 | true =>
  simp only [if_true]
  cases h1 : tm s with
  | false => simp [continuoref30_Frame.j0.eq_2]
  | true =>
   cases h2 : tm x with
   | false => simp [continuoref30_Frame.j0.eq_2]
   | true =>
    have q1 := (tm_iff _).1 h1
    have q2 := (tm_iff _).1 h2
    simp only [if_true, continuoref30_Frame.j0.eq_2, Bool.not_true, Bool.false_eq_true, if_false, and_self]
    rw [(refframe_eq l ((mapOkB_iff l).1 hv) s x q1.1 q1.2 q2.1 q2.2 k (by omega)).1]
    simp only [Option.bind_some]
    split <;> rfl
theorem tick_prog (s y : Int) : tempo_Tick.f k l s y = some (TK l s y) := by
 unfold tempo_Tick.f tempo_asked.f TK
 rw [valid_prog hl hk]
 simp only [Option.bind_some]
 cases hv : mapOkB l with
 | false => rfl
 | true =>
  simp only [if_true, List.any_cons, List.any_nil, Bool.or_false, tm_inTime]
  by_cases h : tm s = true ∧ tm y = true
  · obtain ⟨h1, h2⟩ := h
    have q1 := (tm_iff _).1 h1
    rw [h1, h2]
    simp only [Bool.not_true, Bool.or_false, Bool.false_eq_true, if_false, Option.bind_some, if_true, true_and]
    by_cases h3 : y < s
    · rw [if_pos h3, if_neg (by omega)]
    · rw [if_neg h3, if_pos (by omega)]
      unfold tempo_tick.f
      rw [if_pos ⟨hv, q1.1, q1.2⟩]
      rfl
  · have : (!tm s || !tm y) = true := by
     cases h1 : tm s <;> cases h2 : tm y <;> simp_all
    rw [if_pos this, if_neg (show ¬ (tm s = true ∧ tm y = true ∧ s ≤ y) from fun hh => h ⟨hh.1, hh.2.1⟩)]
    rfl
theorem tick_ref (s y : Int) : continuoref30_Tick.f k l s y = some (TK l s y) := by
 unfold continuoref30_Tick.f TK
 rw [valid_ref hl hk]
 simp only [Option.bind_some, reftime_eq]
 cases hv : mapOkB l with
 | false => rfl
 | true =>
  simp only [if_true]
  cases h1 : tm s with
  | false => simp
  | true =>
   have q1 := (tm_iff _).1 h1
   simp only [if_true, true_and]
   by_cases h2 : y < s
   · rw [if_pos h2, if_neg (by omega)]
   · rw [if_neg h2]
     by_cases h3 : y > 1000000000
     · rw [if_pos h3, if_neg (by rw [tm_iff]; omega)]
     · rw [if_neg h3, if_pos (by rw [tm_iff]; omega), reflast_eq l ((mapOkB_iff l).1 hv) s y q1.1 q1.2 k (by omega)]
       rfl
theorem period_prog (x : Int) : tempo_Period.f k l x = some (PR l x) := by
 unfold tempo_Period.f tempo_asked.f PR
 rw [valid_prog hl hk]
 simp only [Option.bind_some]
 cases hv : mapOkB l with
 | false => rfl
 | true =>
  simp only [if_true, List.any_cons, List.any_nil, Bool.or_false, tm_inTime]
  cases h1 : tm x with
  | false => rfl
  | true =>
   have q1 := (tm_iff _).1 h1
   simp [q1.1, q1.2]
theorem period_ref (x : Int) : continuoref30_Period.f k l x = some (PR l x) := by
 unfold PR
 cases hv : mapOkB l with
 | false =>
  unfold continuoref30_Period.f
  rw [valid_ref hl hk, hv]
  rfl
 | true =>
  cases h1 : tm x with
  | false =>
   unfold continuoref30_Period.f
   rw [valid_ref hl hk, hv]
   simp only [Option.bind_some, if_true]
   rw [reftime_eq, h1]
   rfl
  | true =>
   have q1 := (tm_iff _).1 h1
   rw [refperiod_eq l ((mapOkB_iff l).1 hv) x q1.1 q1.2 k (by omega) (by rw [valid_ref hl hk, hv]) (by rw [reftime_eq, h1])]
   rfl
end
theorem fr_ge {l : List S27} (hok : MapOk l) {s x : Int} (hs : tm s = true) (hx : tm x = true) : s ≤ fr l s x := by
 have q1 := (tm_iff _).1 hs
 have q2 := (tm_iff _).1 hx
 exact (refframe_eq l hok s x q1.1 q1.2 q2.1 q2.2 300 (by omega)).2.1
theorem tick_of_frame {l : List S27} {s x a : Int} (h : FR l s x = (a, 0)) : ∃ n, TK l s a = (n, 0) ∧ x ≤ n ∧ FR l s n = (a, 0) := by
 unfold FR at h
 by_cases hv : mapOkB l = true
 · rw [if_pos hv] at h
   by_cases hc : tm s = true ∧ tm x = true
   · rw [if_pos hc] at h
     by_cases hf : fr l s x > 1000000000
     · rw [if_pos hf] at h; simp at h
     · rw [if_neg hf] at h
       simp only [Prod.mk.injEq, and_true] at h
       have hok := (mapOkB_iff l).1 hv
       obtain ⟨h1, h2⟩ := hc
       have q1 := (tm_iff _).1 h1
       have q2 := (tm_iff _).1 h2
       have g1 := fr_ge hok h1 h2
       have ha : tm a = true := by rw [tm_iff]; omega
       have g0 := fr_ge (x := 0) hok h1 (by decide)
       have m0 := fr_le (s := s) hok (Int.le_refl 0) q2.1 q2.2
       obtain ⟨b1, b2, b3, b4⟩ := bs_spec (fun n => decide (fr l s n ≤ a)) 0 1000000000 (by omega) (fun u v hu huv hv' hp => by
        have := fr_le (s := s) hok hu huv hv'
        simp only [decide_eq_true_eq] at hp ⊢
        omega) (by simp only [decide_eq_true_eq]; omega)
       have b5 := b4 x q2.1 q2.2 (by simp only [decide_eq_true_eq]; omega)
       simp only [decide_eq_true_eq] at b3
       refine ⟨bs (fun n => decide (fr l s n ≤ a)) 0 1000000000, ?_, b5, ?_⟩
       · unfold TK
         rw [if_pos hv, if_pos ⟨h1, ha, by omega⟩]
       · generalize bs (fun n => decide (fr l s n ≤ a)) 0 1000000000 = n at *
         have := fr_le (s := s) hok q2.1 b5 b2
         unfold FR
         rw [if_pos hv, if_pos ⟨h1, by rw [tm_iff]; omega⟩, if_neg (by omega)]
         rw [show fr l s n = a by omega]
   · rw [if_neg hc] at h; simp at h
 · rw [if_neg hv] at h; simp at h
theorem awake_ok : continuolaw30_awake.f 200 = some true := by decide +kernel
theorem TempoFrames : ∀ (l : List S27) (s x y : Int), ∃ k, continuolaw30_TempoFrames.f k l s x y = some true := by
 intro l s x y
 refine ⟨300, ?_⟩
 unfold continuolaw30_TempoFrames.f
 rw [upb (g := fun k => continuolaw30_awake.f k) (fun k => continuolaw30_awake.mono k) awake_ok 300 (by omega)]
 simp only [Option.bind_some, if_true]
 have hlong : continuolaw30_long.f l ([] : List S61) ([] : List S56) = some (decide (60 < l.length)) := by
  unfold continuolaw30_long.f
  by_cases h : 60 < l.length
  · rw [if_pos (by omega)]; simp [h]
  · rw [if_neg (by omega), if_neg (by simp)]; simp [h]
 rw [hlong]
 simp only [Option.bind_some, decide_eq_true_eq]
 by_cases hl0 : 60 < l.length
 · rw [if_pos hl0]
 · rw [if_neg hl0]
   have hl : l.length ≤ 100 := by omega
   have j3 : ∀ k, 252 ≤ k → continuolaw30_TempoFrames.j3 k l x false = some true := by
    intro k hk
    obtain ⟨k, rfl⟩ : ∃ q, k = q + 1 := ⟨k - 1, by omega⟩
    rw [continuolaw30_TempoFrames.j3.eq_2, if_neg (by simp), period_prog hl (by omega), period_ref hl (by omega)]
    simp
   have j2 : ∀ k, 253 ≤ k → continuolaw30_TempoFrames.j2 k l s x y = some true := by
    intro k hk
    obtain ⟨k, rfl⟩ : ∃ q, k = q + 1 := ⟨k - 1, by omega⟩
    rw [continuolaw30_TempoFrames.j2.eq_2, tick_prog hl (by omega), tick_ref hl (by omega)]
    simp only [Option.bind_some, if_true, bne_self_eq_false]
    exact j3 k (by omega)
   rw [frame_prog hl (by omega), frame_ref hl (by omega), valid_prog hl (by omega), valid_ref hl (by omega)]
   simp only [Option.bind_some, if_true, bne_self_eq_false]
   rw [continuolaw30_TempoFrames.j0.eq_2, if_neg (by simp)]
   by_cases h0 : (FR l s x).2 = 0
   · rw [if_pos h0]
     obtain ⟨n, t1, t2, t3⟩ := tick_of_frame (l := l) (s := s) (x := x) (a := (FR l s x).1) (by rw [← h0])
     rw [tick_prog hl (by omega), t1]
     simp only [Option.bind_some, if_true]
     rw [continuolaw30_TempoFrames.j1.eq_2, if_neg (by simp; omega), frame_prog hl (by omega), t3]
     simp only [Option.bind_some, if_true]
     exact j2 _ (by omega)
   · rw [if_neg h0]
     exact j2 _ (by omega)
end Go.Proofs.Ytomlfbmfdoallaa.Pure

namespace Go.Proofs.Ytomlfbmfdoallaa
open Go.ChangeShapes Go.WideShapes Go.Deep
set_option linter.unusedVariables false
section
variable {H : Type} {enc : TypeId × Value → H} {P : Program} {w : World} {base : Nat} {spare : Nat → Bool} {held : Bool}
theorem open_slice_fields {t e : TypeId} {fs : Array Field} {fuel : Nat} {cs : List Value} {x : DataW H × List MemPlace} (ht : P.underlying t = some (.slice e)) (he : P.underlying e = some (.struct fs))
 (hone : oneCellFields P fs = true) (hC : P.cellsOf e = fs.size) (h : DataW.trod enc P w base spare held fuel t cs = some x) :
 (cs = [.slice none 0 0] ∧ x = (.nil, [])) ∨
 ∃ (a : Addr) (len cap m : Nat) (D : Nat → DataW H) (Pl : Nat → List MemPlace), cs = [.slice (some a) len cap] ∧ base ≤ a.block ∧ len ≤ cap ∧ cap ≤ maxLen ∧ m = (if spare a.block then cap else len) ∧
  x = (.slice ((List.range len).map D) ((List.range (m - len)).map fun j => D (len + j)), MemPlace.row a (m * fs.size) ++ (List.range m).flatMap Pl) ∧
  ∀ i, i < m → ∃ (ys : List (DataW H × List MemPlace)) (n : Nat), D i = .agg (ys.map (·.1)) ∧ Pl i = ys.flatMap (·.2) ∧ ys.length = fs.size ∧
   ∀ (j : Nat) (f : Field), fs[j]? = some f → ∃ (v : Value) (y : DataW H × List MemPlace), w.cell? (a.add (i * fs.size + j)) = some v ∧ ys[j]? = some y ∧ DataW.trod enc P w base spare held n f.type [v] = some y := by
 rcases open_slice ht h with h0 | ⟨a, len, cap, m, n, D, Pl, hcs, hb, hl, hm, hmm, hx, hi⟩
 · exact .inl h0
 · refine .inr ⟨a, len, cap, m, D, Pl, hcs, hb, hl, hm, hmm, by rw [hC] at hx; exact hx, fun i him => ?_⟩
   obtain ⟨cs', hc, ht'⟩ := hi i him
   rw [hC] at hc
   obtain ⟨ys, n', hn', hy, hlen, hyl, hf⟩ := DataW.trod_struct he ht'
   obtain ⟨_, hcl, hat⟩ := World.cells?_some hc
   simp only [Prod.mk.injEq] at hy
   refine ⟨ys, n', hy.1, hy.2, hyl, fun j f hj => ?_⟩
   obtain ⟨ho, hk⟩ := hone_of hone j f hj
   have hjl : j < fs.size := (Array.getElem?_eq_some_iff.1 hj).1
   have hcell := hat j hjl
   have hv : cs'[j]? = some (cs'[j]'(by omega)) := List.getElem?_eq_getElem (by omega)
   have h1 := hf j f hj
   rw [ho, hk] at h1
   have hone' : (cs'.drop j).take 1 = [cs'[j]'(by omega)] := by
    rw [List.drop_eq_getElem_cons (by omega)]
    rfl
   rw [hone'] at h1
   have hys : ys[j]? = some (ys[j]'(by omega)) := List.getElem?_eq_getElem (by omega)
   refine ⟨_, _, ?_, hys, h1.trans hys⟩
   rw [← Go.Deep.add_add, hcell, hv]
end
section
variable {H : Type} {enc : TypeId × Value → H} {P : Program} {w : World} {base : Nat} {spare : Nat → Bool} {held : Bool}
def Triples (w : World) (a : Option Addr) (len cap : Nat) (zs : List (Int × Int × Int)) : Prop :=
 zs.length = len ∧ len ≤ cap ∧ len ≤ 9223372036854775807 ∧ (∀ p ∈ zs, (Lit.int .i64 p.1).wf = true ∧ (Lit.int .i64 p.2.1).wf = true ∧ (Lit.int .i64 p.2.2).wf = true) ∧
  (0 < len → ∃ ad, a = some ad ∧ ∀ j p, zs[j]? = some p → ∀ i u, [Value.int .i64 p.1, .int .i64 p.2.1, .int .i64 p.2.2][i]? = some u → w.cell? (ad.add (j * 3 + i)) = some u)
theorem open_slice3 {t e : TypeId} {f0 f1 f2 : Field} {fuel : Nat} {a : Option Addr} {len cap : Nat} {x : DataW H × List MemPlace} (ht : P.underlying t = some (.slice e)) (he : P.underlying e = some (.struct #[f0, f1, f2]))
 (hone : oneCellFields P #[f0, f1, f2] = true) (hC : P.cellsOf e = 3) (h0 : P.underlying f0.type = some (.int .i64)) (h1 : P.underlying f1.type = some (.int .i64)) (h2 : P.underlying f2.type = some (.int .i64))
 (h : DataW.trod enc P w base spare held fuel t [.slice a len cap] = some x) : ∃ zs, Triples w a len cap zs := by
 rcases open_slice_fields ht he hone hC h with ⟨hcs, _⟩ | ⟨ad, l, c, m, D, Pl, hcs, _, hl, hm, hmm, _, hi⟩
 · simp at hcs
   obtain ⟨rfl, rfl, rfl⟩ := hcs
   exact ⟨[], rfl, by omega, by omega, by simp, fun h => absurd h (Nat.lt_irrefl 0)⟩
 · simp at hcs
   obtain ⟨rfl, rfl, rfl⟩ := hcs
   have hlm : len ≤ m := by rw [hmm]; split <;> omega
   have key : ∀ i, i < len → ∃ p : Int × Int × Int, ((Lit.int .i64 p.1).wf = true ∧ (Lit.int .i64 p.2.1).wf = true ∧ (Lit.int .i64 p.2.2).wf = true) ∧ ∀ k u, [Value.int .i64 p.1, .int .i64 p.2.1, .int .i64 p.2.2][k]? = some u → w.cell? (ad.add (i * 3 + k)) = some u := by
    intro i hil
    obtain ⟨ys, n, _, _, hy, hf⟩ := hi i (by omega)
    obtain ⟨v0, y0, c0, _, t0⟩ := hf 0 f0 rfl
    obtain ⟨v1, y1, c1, _, t1⟩ := hf 1 f1 rfl
    obtain ⟨v2, y2, c2, _, t2⟩ := hf 2 f2 rfl
    obtain ⟨p0, e0, _, w0⟩ := DataW.trod_int h0 t0
    obtain ⟨p1, e1, _, w1⟩ := DataW.trod_int h1 t1
    obtain ⟨p2, e2, _, w2⟩ := DataW.trod_int h2 t2
    simp only [List.cons.injEq, and_true] at e0 e1 e2
    subst e0 e1 e2
    refine ⟨(p0, p1, p2), ⟨w0, w1, w2⟩, fun k u hk => ?_⟩
    match k with
    | 0 => simp at hk; subst hk; exact c0
    | 1 => simp at hk; subst hk; exact c1
    | 2 => simp at hk; subst hk; exact c2
    | k + 3 => simp at hk
   have key2 : ∀ n, n ≤ len → ∃ zs : List (Int × Int × Int), zs.length = n ∧ (∀ p ∈ zs, (Lit.int .i64 p.1).wf = true ∧ (Lit.int .i64 p.2.1).wf = true ∧ (Lit.int .i64 p.2.2).wf = true) ∧ ∀ j p, zs[j]? = some p → ∀ k u, [Value.int .i64 p.1, .int .i64 p.2.1, .int .i64 p.2.2][k]? = some u → w.cell? (ad.add (j * 3 + k)) = some u := by
    intro n
    induction n with
    | zero => intro _; exact ⟨[], rfl, by simp, by simp⟩
    | succ n ih =>
     intro hn
     obtain ⟨zs, hz, hw, hc⟩ := ih (by omega)
     obtain ⟨p, hwp, hp⟩ := key n (by omega)
     refine ⟨zs ++ [p], by simp [hz], ?_, ?_⟩
     · intro q hq
       rcases List.mem_append.1 hq with hq | hq
       · exact hw q hq
       · rw [List.mem_singleton.1 hq]; exact hwp
     · intro j q hj
       by_cases hjn : j < n
       · rw [List.getElem?_append_left (by omega)] at hj
         exact hc j q hj
       · have hj2 := (List.getElem?_eq_some_iff.1 hj).1
         simp [hz] at hj2
         obtain rfl : j = n := by omega
         rw [List.getElem?_append_right (by omega)] at hj
         simp [hz] at hj
         subst hj
         exact hp
   obtain ⟨zs, hz, hw, hc⟩ := key2 len (Nat.le_refl _)
   exact ⟨zs, hz, hl, by unfold maxLen at hm; omega, hw, fun _ => ⟨ad, rfl, hc⟩⟩
end
end Go.Proofs.Ytomlfbmfdoallaa

namespace Go.Proofs.Ytomlfbmfdoallaa.tempoFrames
open Go.ChangeShapes Go.WideShapes Go.ChangeAt Go.RowKit Go.Joins
set_option linter.unusedVariables false
theorem own : ownKnob Try.prog.godebug = none := by kernel_rfl
theorem laidOut : laidOutB Try.prog = true := by kernel_rfl
def tr27 (zs : List (Int × Int × Int)) : List PA.S27 := zs.map fun p => ⟨p.1, p.2.1, p.2.2⟩
theorem kd27 {W : World} {a : Option Addr} {len cap : Nat} {zs : List (Int × Int × Int)} (h : Triples W a len cap zs) : Go.Proofs.YtomlfbmfdoallaaW.PrintWords.Kd.C PA.k27 W a (tr27 zs).length (tr27 zs) ∧ (tr27 zs).length = len := by
 obtain ⟨h1, h2, h3, _, h4⟩ := h
 have hl : (tr27 zs).length = len := by simp [tr27, h1]
 refine ⟨⟨rfl, by omega, fun hp => ?_⟩, hl⟩
 obtain ⟨ad, e, hc⟩ := h4 (by omega)
 refine ⟨ad, e, fun j p hj => ?_⟩
 simp only [tr27, List.getElem?_map, Option.map_eq_some_iff] at hj
 obtain ⟨q, hq, rfl⟩ := hj
 exact ⟨_, rfl, PA.k27_mk W _, hc j q hq⟩
set_option maxRecDepth 100000 in
theorem lifted (os : Os) (started : os.Started) (H : Type) (enc : TypeId × Value → H) :
 ReturnsInHanded {} Try.checked os 6 .any (Rows.tempoFramesSpec.pre6 enc Try.prog Try.f6 Rows.tempoFramesRow.domain false) (Rows.tempoFramesSpec.post enc Try.prog Try.f6 false true false false) := by
 refine returnsInHanded_of_change_sized (C := Try.checked) own started (by kernel_rfl) Try.func6
  (ChangeSpec.witness6 (enc := enc) (C := Try.checked) false ⟨#[], #[.slice none 0 0, .int .i64 0, .int .i64 0, .int .i64 0], []⟩ 8 (by kernel_rfl) (by kernel_rfl) (by kernel_rfl) (by kernel_rfl)) ?_
 intro W base args ds gs before hval0 hW hcnd hsz0 _
 have hval : ∀ (j : Nat) t v, Try.f6.params[j]? = some t → args[j]? = some v → Value.okWide Try.prog W .any base t v := hval0
 have hW' := hW
 obtain ⟨p, q, hA0, hV, rfl, hfz, hnd⟩ := hW
 have hA : DataW.TrodAll enc Try.prog W 0 (fun _ => true) true Try.f6.params.toList args.toList ds p := hA0
 rw [Try.params6] at hA hval
 obtain ⟨v0, vs0, d0, ds0, p0, q0, hargs, rfl, rfl, h0, r0⟩ := trodAll_cons hA
 obtain ⟨v1, vs1, d1, ds1, p1, q1, rfl, rfl, rfl, h1, r1⟩ := trodAll_cons r0
 obtain ⟨v2, vs2, d2, ds2, p2, q2, rfl, rfl, rfl, h2, r2⟩ := trodAll_cons r1
 obtain ⟨v3, vs3, d3, ds3, p3, q3, rfl, rfl, rfl, h3, r3⟩ := trodAll_cons r2
 obtain ⟨rfl, rfl, rfl⟩ := trodAll_nil r3
 obtain rfl : args = #[v0, v1, v2, v3] := by cases args; simp_all
 obtain ⟨rfl, rfl⟩ := trodVars_none hV
 obtain ⟨a0, len0, cap0, rfl⟩ := okWide_slice Try.underlying22 (hval 0 22 v0 rfl rfl)
 have k0 := h0
 have lt0 : ∀ x ∈ p0, x.block < W.heap.size := by obtain ⟨m, hm⟩ := k0; exact DataW.trod_lt m _ _ _ hm
 obtain ⟨zs0, tz0⟩ : ∃ zs, Triples W a0 len0 cap0 zs := by
  obtain ⟨fuel, hf⟩ := h0
  exact open_slice3 Try.underlying22 Try.underlying27 (by kernel_rfl) (by kernel_rfl) Try.underlying3 Try.underlying3 Try.underlying3 (by simpa [Value.cells] using hf)
 obtain ⟨kd0, kl0⟩ := kd27 tz0
 obtain ⟨a1, rfl, rfl, rfl, w1⟩ := open_int Try.underlying3 (hval 1 3 v1 rfl rfl) h1
 obtain ⟨a2, rfl, rfl, rfl, w2⟩ := open_int Try.underlying3 (hval 2 3 v2 rfl rfl) h2
 obtain ⟨a3, rfl, rfl, rfl, w3⟩ := open_int Try.underlying3 (hval 3 3 v3 rfl rfl) h3
 clear hA0 hval0 hsz0
 obtain ⟨k, hk⟩ := Pure.TempoFrames (tr27 zs0) a1 a2 a3
 have HC := PA.continuolaw30_TempoFrames.calls k a0 cap0 (tr27 zs0) a1 a2 a3 true W kd0 (by rw [kl0]; exact tz0.2.1) hk
 rw [kl0] at HC
 refine HC.mono fun e W' ⟨he, bel⟩ => ?_
 subst he
 exact ⟨_, rfl, _, _, _, [], _, [], hW', trodAll_mk1 (shut_bool Try.underlying4 _), (trodAll_cons_mk (Below.trod laidOut (by kernel_rfl) (of_decide_eq_true (by kernel_rfl)) k0 bel lt0) (trodAll_cons_mk (shut_int Try.underlying3 w1) (trodAll_cons_mk (shut_int Try.underlying3 w2) (trodAll_cons_mk (shut_int Try.underlying3 w3) trodAll_mk0)))), rfl, bel.frame _, fun h => by cases h⟩
theorem over : Rows.tempoFramesRow.holds Try.pinned (OpenSpec.ofChange Rows.tempoFramesSpec) :=
 OpenClaim.holds_of_wide 6 Try.f6 rfl rfl rfl rfl rfl rfl rfl ⟨rfl, rfl, rfl, rfl, rfl⟩ rfl rfl rfl rfl rfl (by kernel_rfl) Try.func6 (by kernel_rfl)
  (of_decide_eq_true (by kernel_rfl)) (by unfold Func.isWrapper; first | (rw [if_pos (by decide +kernel)]; kernel_rfl) | (rw [if_neg (by decide +kernel)]; exact ⟨rfl, rfl⟩))
  (fun os started H enc _ => lifted os started H enc)
theorem proved : Rows.TempoFramesSaid := over
#print axioms proved
end Go.Proofs.Ytomlfbmfdoallaa.tempoFrames
namespace Go.Proofs.Ytomlfbmfdoallaa
theorem tempoFrames_holds : Rows.TempoFramesSaid := tempoFrames.proved
end Go.Proofs.Ytomlfbmfdoallaa
