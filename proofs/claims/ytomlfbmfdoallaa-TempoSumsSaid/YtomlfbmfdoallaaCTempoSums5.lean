/- With Curve 0 the frames of n ticks are within one frame of the sum of their periods, times the points, for all maps and ticks. -/
import Derived.Test.YtomlfbmfdoallaaCTempoSums4
import Derived.Deep.Slices
import Derived.Deep.Fields
import Derived.ChangeSame
import Derived.Lib.SmallJoins
import Derived.Test.YtomlfbmfdoallaaRows
import Derived.WalkKit
import Derived.ProofKit
import Derived.OpenShut
import Derived.ShutString
import Derived.ChangeOld
import Derived.Below
import Derived.SizedLaws
namespace Go.Proofs.Ytomlfbmfdoallaa.PA
open Go.RowKit Go.Proofs.YtomlfbmfdoallaaW.PrintWords Go.Proofs.YtomlfbmfdoallaaW.PrintLast Go.Proofs.YtomlfbmfdoallaaW.PrintMore
attribute [local go_sem] max2_int min2_int max_two min_two max_three min_three max_four min_four
set_option linter.unusedVariables false
set_option linter.unusedSimpArgs false
def continuoref30_length.f (l0 : List (S27)) (a1 : Int) (a2 : Int) : Option (Int) := if 0 ≤ a1 then (if a1 < (l0.length : Int) then (if ((rd_T27 l0 a1).f2) = 0 then ((continuoref30_Rounded.f (wrap64 (a2 * ((rd_T27 l0 a1).f1))) 65536).bind fun t271 => (some t271)) else (if 0 ≤ (wrap64 (a1 + 1)) then (if (wrap64 (a1 + 1)) < (l0.length : Int) then ((continuoref30_Rounded.f (wrap64 ((wrap64 ((wrap64 ((wrap64 (2 * (wrap64 (((rd_T27 l0 (wrap64 (a1 + 1))).f0) - ((rd_T27 l0 a1).f0))))) * a2)) * ((rd_T27 l0 a1).f1))) + (wrap64 ((wrap64 ((wrap64 (((rd_T27 l0 (wrap64 (a1 + 1))).f1) - ((rd_T27 l0 a1).f1))) * a2)) * (wrap64 (a2 - 1)))))) (wrap64 ((wrap64 (2 * (wrap64 (((rd_T27 l0 (wrap64 (a1 + 1))).f0) - ((rd_T27 l0 a1).f0))))) * 65536))).bind fun t275 => (some t275)) else (none)) else (none))) else (none)) else (none)
set_option maxHeartbeats 8000000 in
set_option maxRecDepth 100000 in
theorem continuoref30_length.calls (A0 : Option Addr) (c0 : Nat) (l0 : List (S27)) (a1 : Int) (a2 : Int) (r : Int) (w : World) (hr0 : Kd.C k27 w A0 l0.length l0) (hc0 : l0.length ≤ c0) (h : continuoref30_length.f l0 a1 a2 = some r) :
 Calls Try.prog 70 #[.slice A0 l0.length c0, .int .i64 a1, .int .i64 a2] w fun e w' => e = .returned (.int .i64 r) ∧ Drawn0 w w' := by
 have HR0 := Aside0.mk hr0
 have HC0 := Aside0.mk hc0
 clear hr0 hc0
 have H : (if 0 ≤ a1 then (if a1 < (l0.length : Int) then (if ((rd_T27 l0 a1).f2) = 0 then ((continuoref30_Rounded.f (wrap64 (a2 * ((rd_T27 l0 a1).f1))) 65536).bind fun t271 => (some t271)) else (if 0 ≤ (wrap64 (a1 + 1)) then (if (wrap64 (a1 + 1)) < (l0.length : Int) then ((continuoref30_Rounded.f (wrap64 ((wrap64 ((wrap64 ((wrap64 (2 * (wrap64 (((rd_T27 l0 (wrap64 (a1 + 1))).f0) - ((rd_T27 l0 a1).f0))))) * a2)) * ((rd_T27 l0 a1).f1))) + (wrap64 ((wrap64 ((wrap64 (((rd_T27 l0 (wrap64 (a1 + 1))).f1) - ((rd_T27 l0 a1).f1))) * a2)) * (wrap64 (a2 - 1)))))) (wrap64 ((wrap64 (2 * (wrap64 (((rd_T27 l0 (wrap64 (a1 + 1))).f0) - ((rd_T27 l0 a1).f0))))) * 65536))).bind fun t275 => (some t275)) else (none)) else (none))) else (none)) else (none)) = some r := h
 clear h
 by_cases c4 : 0 ≤ a1
 · rw [if_pos c4] at H
   have c4b0 : decide (0 ≤ a1) = true := decide_eq_true c4
   clear c4
   by_cases c5 : a1 < (l0.length : Int)
   · rw [if_pos c5] at H
     have c5b0 : decide (a1 < (l0.length : Int)) = true := decide_eq_true c5
     clear c5
     by_cases c6 : ((rd_T27 l0 a1).f2) = 0
     · rw [if_pos c6] at H
       have c6b0 : (((rd_T27 l0 a1).f2) == 0) = true := beq_iff_eq.mpr c6
       have c6b1 : (((rd_T27 l0 a1).f2) != 0) = false := bne_eq_false_iff_eq.mpr c6
       clear c6
       replace H := Option.bind_eq_some_iff.mp H
       obtain ⟨t271, A70, H⟩ := H
       replace H : (some t271) = some r := H
       have A7 := Aside0.mk A70
       clear A70
       obtain rfl := Option.some.inj H
       have p269 : 0 ≤ (a1 : Int) := of_decide_eq_true (by first | (with_reducible assumption) | assumption)
       have q269 : a1 < (l0.length : Int) := of_decide_eq_true (by first | (with_reducible assumption) | assumption)
       obtain ⟨ad269, e269, hx269_0, hx269_1, hx269_2⟩ := at_T27 HR0.out a1 p269 q269
       cases e269
       replace p269 := eq_true p269
       replace q269 := eq_true q269
       have p270 : 0 ≤ (a1 : Int) := of_decide_eq_true (by first | (with_reducible assumption) | assumption)
       have q270 : a1 < (l0.length : Int) := of_decide_eq_true (by first | (with_reducible assumption) | assumption)
       obtain ⟨ad270, e270, hx270_0, hx270_1, hx270_2⟩ := at_T27 HR0.out a1 p270 q270
       obtain rfl : ad269 = ad270 := (by injection e270)
       replace p270 := eq_true p270
       replace q270 := eq_true q270
       go_enter Try.func70, Try.ntmps70
       go_wp2_with (first | (go_at_call 45; (with_reducible refine (continuoref30_Rounded.calls (wrap64 (a2 * ((rd_T27 l0 a1).f1))) 65536 t271 _ A7.out).mono ?_); rintro e w' ⟨rfl, ⟨nd, rfl⟩⟩; (try first | exact ⟨rfl, _, World.drewN_drewN _ _ _⟩ | exact ⟨rfl, _, Eq.trans (World.drewN_drewN _ _ _) (congrArg (World.drewN _) (Nat.add_assoc _ _ _))⟩)))
       repeat (go_quiet (first | (go_at_call 45; (with_reducible refine (continuoref30_Rounded.calls (wrap64 (a2 * ((rd_T27 l0 a1).f1))) 65536 t271 _ A7.out).mono ?_); rintro e w' ⟨rfl, ⟨nd, rfl⟩⟩; (try first | exact ⟨rfl, _, World.drewN_drewN _ _ _⟩ | exact ⟨rfl, _, Eq.trans (World.drewN_drewN _ _ _) (congrArg (World.drewN _) (Nat.add_assoc _ _ _))⟩))); try go_wp2_with (first | (go_at_call 45; (with_reducible refine (continuoref30_Rounded.calls (wrap64 (a2 * ((rd_T27 l0 a1).f1))) 65536 t271 _ A7.out).mono ?_); rintro e w' ⟨rfl, ⟨nd, rfl⟩⟩; (try first | exact ⟨rfl, _, World.drewN_drewN _ _ _⟩ | exact ⟨rfl, _, Eq.trans (World.drewN_drewN _ _ _) (congrArg (World.drewN _) (Nat.add_assoc _ _ _))⟩))))
       go_ret
       exact ⟨by first | rfl | (simp; done) | (simp [*]; done), by repeat (first | exact Drawn0.refl _ | apply Drawn0.step)⟩
     · rw [if_neg c6] at H
       have c6b0 : (((rd_T27 l0 a1).f2) == 0) = false := beq_eq_false_iff_ne.mpr c6
       have c6b1 : (((rd_T27 l0 a1).f2) != 0) = true := bne_iff_ne.mpr c6
       obtain ⟨ji8, hji8⟩ : ∃ j_ : Int, (wrap64 (a1 + 1)) = j_ := ⟨_, rfl⟩
       replace H : (if 0 ≤ (ji8) then (if (ji8) < (l0.length : Int) then ((continuoref30_Rounded.f (wrap64 ((wrap64 ((wrap64 ((wrap64 (2 * (wrap64 (((rd_T27 l0 (ji8)).f0) - ((rd_T27 l0 a1).f0))))) * a2)) * ((rd_T27 l0 a1).f1))) + (wrap64 ((wrap64 ((wrap64 (((rd_T27 l0 (ji8)).f1) - ((rd_T27 l0 a1).f1))) * a2)) * (wrap64 (a2 - 1)))))) (wrap64 ((wrap64 (2 * (wrap64 (((rd_T27 l0 (ji8)).f0) - ((rd_T27 l0 a1).f0))))) * 65536))).bind fun t275 => (some t275)) else (none)) else (none)) = some r := by first | (rw [hji8] at H; exact H) | (simp only [hji8] at H ⊢; exact H)
       have hji8w : (IntKind.i64.wrap (a1 + 1)) = ji8 := (i64_w _).trans hji8
       by_cases c9 : 0 ≤ (ji8)
       · rw [if_pos c9] at H
         have c9b0 : decide (0 ≤ (ji8)) = true := decide_eq_true c9
         clear c9
         by_cases c10 : (ji8) < (l0.length : Int)
         · rw [if_pos c10] at H
           have c10b0 : decide ((ji8) < (l0.length : Int)) = true := decide_eq_true c10
           clear c10
           replace H := Option.bind_eq_some_iff.mp H
           obtain ⟨t275, A110, H⟩ := H
           replace H : (some t275) = some r := H
           have A11 := Aside0.mk A110
           clear A110
           obtain rfl := Option.some.inj H
           have p269 : 0 ≤ (a1 : Int) := of_decide_eq_true (by first | (with_reducible assumption) | assumption)
           have q269 : a1 < (l0.length : Int) := of_decide_eq_true (by first | (with_reducible assumption) | assumption)
           obtain ⟨ad269, e269, hx269_0, hx269_1, hx269_2⟩ := at_T27 HR0.out a1 p269 q269
           cases e269
           replace p269 := eq_true p269
           replace q269 := eq_true q269
           have p270 : 0 ≤ (a1 : Int) := of_decide_eq_true (by first | (with_reducible assumption) | assumption)
           have q270 : a1 < (l0.length : Int) := of_decide_eq_true (by first | (with_reducible assumption) | assumption)
           obtain ⟨ad270, e270, hx270_0, hx270_1, hx270_2⟩ := at_T27 HR0.out a1 p270 q270
           obtain rfl : ad269 = ad270 := (by injection e270)
           replace p270 := eq_true p270
           replace q270 := eq_true q270
           have p272 : 0 ≤ ((ji8) : Int) := of_decide_eq_true (by first | (with_reducible assumption) | assumption)
           have q272 : (ji8) < (l0.length : Int) := of_decide_eq_true (by first | (with_reducible assumption) | assumption)
           obtain ⟨ad272, e272, hx272_0, hx272_1, hx272_2⟩ := at_T27 HR0.out (ji8) p272 q272
           obtain rfl : ad269 = ad272 := (by injection e272)
           replace p272 := eq_true p272
           replace q272 := eq_true q272
           have p273 : 0 ≤ (a1 : Int) := of_decide_eq_true (by first | (with_reducible assumption) | assumption)
           have q273 : a1 < (l0.length : Int) := of_decide_eq_true (by first | (with_reducible assumption) | assumption)
           obtain ⟨ad273, e273, hx273_0, hx273_1, hx273_2⟩ := at_T27 HR0.out a1 p273 q273
           obtain rfl : ad269 = ad273 := (by injection e273)
           replace p273 := eq_true p273
           replace q273 := eq_true q273
           have p274 : 0 ≤ ((ji8) : Int) := of_decide_eq_true (by first | (with_reducible assumption) | assumption)
           have q274 : (ji8) < (l0.length : Int) := of_decide_eq_true (by first | (with_reducible assumption) | assumption)
           obtain ⟨ad274, e274, hx274_0, hx274_1, hx274_2⟩ := at_T27 HR0.out (ji8) p274 q274
           obtain rfl : ad269 = ad274 := (by injection e274)
           replace p274 := eq_true p274
           replace q274 := eq_true q274
           go_enter Try.func70, Try.ntmps70
           go_wp2_with (first | (go_at_call 45; (with_reducible refine (continuoref30_Rounded.calls (wrap64 ((wrap64 ((wrap64 ((wrap64 (2 * (wrap64 (((rd_T27 l0 (ji8)).f0) - ((rd_T27 l0 a1).f0))))) * a2)) * ((rd_T27 l0 a1).f1))) + (wrap64 ((wrap64 ((wrap64 (((rd_T27 l0 (ji8)).f1) - ((rd_T27 l0 a1).f1))) * a2)) * (wrap64 (a2 - 1)))))) (wrap64 ((wrap64 (2 * (wrap64 (((rd_T27 l0 (ji8)).f0) - ((rd_T27 l0 a1).f0))))) * 65536)) t275 _ A11.out).mono ?_); rintro e w' ⟨rfl, ⟨nd, rfl⟩⟩; (try first | exact ⟨rfl, _, World.drewN_drewN _ _ _⟩ | exact ⟨rfl, _, Eq.trans (World.drewN_drewN _ _ _) (congrArg (World.drewN _) (Nat.add_assoc _ _ _))⟩)))
           repeat (go_quiet (first | (go_at_call 45; (with_reducible refine (continuoref30_Rounded.calls (wrap64 ((wrap64 ((wrap64 ((wrap64 (2 * (wrap64 (((rd_T27 l0 (ji8)).f0) - ((rd_T27 l0 a1).f0))))) * a2)) * ((rd_T27 l0 a1).f1))) + (wrap64 ((wrap64 ((wrap64 (((rd_T27 l0 (ji8)).f1) - ((rd_T27 l0 a1).f1))) * a2)) * (wrap64 (a2 - 1)))))) (wrap64 ((wrap64 (2 * (wrap64 (((rd_T27 l0 (ji8)).f0) - ((rd_T27 l0 a1).f0))))) * 65536)) t275 _ A11.out).mono ?_); rintro e w' ⟨rfl, ⟨nd, rfl⟩⟩; (try first | exact ⟨rfl, _, World.drewN_drewN _ _ _⟩ | exact ⟨rfl, _, Eq.trans (World.drewN_drewN _ _ _) (congrArg (World.drewN _) (Nat.add_assoc _ _ _))⟩))); try go_wp2_with (first | (go_at_call 45; (with_reducible refine (continuoref30_Rounded.calls (wrap64 ((wrap64 ((wrap64 ((wrap64 (2 * (wrap64 (((rd_T27 l0 (ji8)).f0) - ((rd_T27 l0 a1).f0))))) * a2)) * ((rd_T27 l0 a1).f1))) + (wrap64 ((wrap64 ((wrap64 (((rd_T27 l0 (ji8)).f1) - ((rd_T27 l0 a1).f1))) * a2)) * (wrap64 (a2 - 1)))))) (wrap64 ((wrap64 (2 * (wrap64 (((rd_T27 l0 (ji8)).f0) - ((rd_T27 l0 a1).f0))))) * 65536)) t275 _ A11.out).mono ?_); rintro e w' ⟨rfl, ⟨nd, rfl⟩⟩; (try first | exact ⟨rfl, _, World.drewN_drewN _ _ _⟩ | exact ⟨rfl, _, Eq.trans (World.drewN_drewN _ _ _) (congrArg (World.drewN _) (Nat.add_assoc _ _ _))⟩))))
           go_ret
           exact ⟨by first | rfl | (simp; done) | (simp only [← hji8] <;> (first | rfl | simp)) | (simp [*]; done), by repeat (first | exact Drawn0.refl _ | apply Drawn0.step)⟩
         · rw [if_neg c10] at H
           exact absurd H (by simp)
       · rw [if_neg c9] at H
         exact absurd H (by simp)
   · rw [if_neg c5] at H
     exact absurd H (by simp)
 · rw [if_neg c4] at H
   exact absurd H (by simp)
end Go.Proofs.Ytomlfbmfdoallaa.PA

namespace Go.Proofs.Ytomlfbmfdoallaa.PA
open Go.RowKit Go.Proofs.YtomlfbmfdoallaaW.PrintWords Go.Proofs.YtomlfbmfdoallaaW.PrintLast Go.Proofs.YtomlfbmfdoallaaW.PrintMore
attribute [local go_sem] max2_int min2_int max_two min_two max_three min_three max_four min_four
set_option linter.unusedVariables false
set_option linter.unusedSimpArgs false
def continuoref30_frame.l0 : Nat → List (S27) → Int → Int → Int → Option (Int)
 | 0, _, _, _, _ => none
 | k + 1, x0, x1, x2, x7 => if (wrap64 (x7 + 1)) < (x0.length : Int) then (if 0 ≤ (wrap64 (x7 + 1)) then (if ((rd_T27 x0 (wrap64 (x7 + 1))).f0) ≤ x2 then (if 0 ≤ x7 then (if x7 < (x0.length : Int) then ((continuoref30_length.f x0 x7 (wrap64 (((rd_T27 x0 (wrap64 (x7 + 1))).f0) - ((rd_T27 x0 x7).f0)))).bind fun t279 => (continuoref30_frame.l0 k x0 (wrap64 (x1 + t279)) x2 (wrap64 (x7 + 1)))) else (none)) else (none)) else ((continuoref30_at.f k x0 x2).bind fun t280 => (if 0 ≤ t280 then (if t280 < (x0.length : Int) then ((continuoref30_length.f x0 t280 (wrap64 (x2 - ((rd_T27 x0 t280).f0)))).bind fun t282 => (some (wrap64 (x1 + t282)))) else (none)) else (none)))) else (none)) else ((continuoref30_at.f k x0 x2).bind fun t283 => (if 0 ≤ t283 then (if t283 < (x0.length : Int) then ((continuoref30_length.f x0 t283 (wrap64 (x2 - ((rd_T27 x0 t283).f0)))).bind fun t285 => (some (wrap64 (x1 + t285)))) else (none)) else (none)))
def continuoref30_frame.f (k : Nat) (l0 : List (S27)) (a1 : Int) (a2 : Int) : Option (Int) := continuoref30_frame.l0 k l0 a1 a2 0
theorem continuoref30_frame.mono_l : ∀ k, (∀ y0 y1 y2 y3, LeO (continuoref30_frame.l0 k y0 y1 y2 y3) (continuoref30_frame.l0 (k + 1) y0 y1 y2 y3))
 | 0 => fun _ _ _ _ r h => by simp [continuoref30_frame.l0] at h
 | k + 1 => by
  have ih0 := continuoref30_frame.mono_l k
  · intro y0 y1 y2 y3
    unfold continuoref30_frame.l0
    repeat' first
    | (with_reducible exact ih0 _ _ _ _)
    | (with_reducible exact continuoref30_at.mono _ _ _)
    | (with_reducible exact LeO.refl _)
    | (with_reducible exact LeO.none _)
    | (with_reducible refine LeO.ite ?_ ?_)
    | (with_reducible refine LeO.bind ?_ (fun _ => ?_))
    | exact ih0 _ _ _ _
    | exact continuoref30_at.mono _ _ _
    | exact LeO.none _
    | refine LeO.ite ?_ ?_
    | refine LeO.bind ?_ (fun _ => ?_)
theorem continuoref30_frame.mono : ∀ a0 a1 a2 k, LeO (continuoref30_frame.f k a0 a1 a2) (continuoref30_frame.f (k + 1) a0 a1 a2) := by
 intro a0 a1 a2 k
 have ih0 := continuoref30_frame.mono_l k
 unfold continuoref30_frame.f
 repeat' first
  | (with_reducible exact ih0 _ _ _ _)
  | (with_reducible exact continuoref30_at.mono _ _ _)
  | (with_reducible exact LeO.refl _)
  | (with_reducible exact LeO.none _)
  | (with_reducible refine LeO.ite ?_ ?_)
  | (with_reducible refine LeO.bind ?_ (fun _ => ?_))
  | exact ih0 _ _ _ _
  | exact continuoref30_at.mono _ _ _
  | exact LeO.none _
  | refine LeO.ite ?_ ?_
  | refine LeO.bind ?_ (fun _ => ?_)
set_option maxHeartbeats 8000000 in
set_option maxRecDepth 100000 in
theorem continuoref30_frame.calls (k : Nat) (A0 : Option Addr) (c0 : Nat) (l0 : List (S27)) (a1 : Int) (a2 : Int) (r : Int) (w : World) (hr0 : Kd.C k27 w A0 l0.length l0) (hc0 : l0.length ≤ c0) (h : continuoref30_frame.f k l0 a1 a2 = some r) :
 Calls Try.prog 53 #[.slice A0 l0.length c0, .int .i64 a1, .int .i64 a2] w fun e w' => e = .returned (.int .i64 r) ∧ Drawn0 w w' := by
 have HR0 := Aside0.mk hr0
 have HC0 := Aside0.mk hc0
 clear hr0 hc0
 have H : (continuoref30_frame.l0 k l0 a1 a2 0) = some r := h
 clear h
 have H' := Aside0.mk H
 clear H
 go_enter Try.func53, Try.ntmps53
 go_wp2
 repeat (go_quiet (fail); try go_wp2)
 go_loopg [1, 7] k (fun kq v1 v7 w' => ∃ (x1_1 : Int) (x7_1 : Int), v1 = .int .i64 x1_1 ∧ v7 = .int .i64 x7_1 ∧ Aside0 (continuoref30_frame.l0 kq l0 x1_1 a2 x7_1 = some r) ∧ Aside0 (kq ≤ k) ∧ Drawn0 w w')
 case atStart => exact ⟨(a1), (0), (by first | rfl | (simp; done) | (simp [*]; done)), (by first | rfl | (simp; done) | (simp [*]; done)), H', ⟨Nat.le_refl _⟩, by repeat (first | exact Drawn0.refl _ | apply Drawn0.step)⟩
 case round =>
  clear H'
  try clear p2
  obtain ⟨x1_1, x7_1, rfl, rfl, HA, HK1, ⟨m1, rfl⟩⟩ := hrel
  cases gk with
  | zero => exact absurd HA.out (by simp [continuoref30_frame.l0])
  | succ k1 =>
   have H := HA.out
   clear HA
   simp only [continuoref30_frame.l0] at H
   by_cases c4 : (wrap64 (x7_1 + 1)) < (l0.length : Int)
   · rw [if_pos c4] at H
     have c4b0 : decide ((wrap64 (x7_1 + 1)) < (l0.length : Int)) = true := decide_eq_true c4
     clear c4
     obtain ⟨ji5, hji5⟩ : ∃ j_ : Int, (wrap64 (x7_1 + 1)) = j_ := ⟨_, rfl⟩
     replace H : (if 0 ≤ (ji5) then (if ((rd_T27 l0 (ji5)).f0) ≤ a2 then (if 0 ≤ x7_1 then (if x7_1 < (l0.length : Int) then ((continuoref30_length.f l0 x7_1 (wrap64 (((rd_T27 l0 (ji5)).f0) - ((rd_T27 l0 x7_1).f0)))).bind fun t279 => (continuoref30_frame.l0 k1 l0 (wrap64 (x1_1 + t279)) a2 ji5)) else (none)) else (none)) else ((continuoref30_at.f k1 l0 a2).bind fun t280 => (if 0 ≤ t280 then (if t280 < (l0.length : Int) then ((continuoref30_length.f l0 t280 (wrap64 (a2 - ((rd_T27 l0 t280).f0)))).bind fun t282 => (some (wrap64 (x1_1 + t282)))) else (none)) else (none)))) else (none)) = some r := by first | (rw [hji5] at H; exact H) | (simp only [hji5] at H ⊢; exact H)
     (try rw [hji5] at c4b0)
     have hji5w : (IntKind.i64.wrap (x7_1 + 1)) = ji5 := (i64_w _).trans hji5
     by_cases c6 : 0 ≤ (ji5)
     · rw [if_pos c6] at H
       have c6b0 : decide (0 ≤ (ji5)) = true := decide_eq_true c6
       clear c6
       by_cases c7 : ((rd_T27 l0 (ji5)).f0) ≤ a2
       · rw [if_pos c7] at H
         have c7b0 : decide (((rd_T27 l0 (ji5)).f0) ≤ a2) = true := decide_eq_true c7
         clear c7
         by_cases c8 : 0 ≤ x7_1
         · rw [if_pos c8] at H
           have c8b0 : decide (0 ≤ x7_1) = true := decide_eq_true c8
           clear c8
           by_cases c9 : x7_1 < (l0.length : Int)
           · rw [if_pos c9] at H
             have c9b0 : decide (x7_1 < (l0.length : Int)) = true := decide_eq_true c9
             clear c9
             replace H := Option.bind_eq_some_iff.mp H
             obtain ⟨t279, A100, H⟩ := H
             replace H : (continuoref30_frame.l0 k1 l0 (wrap64 (x1_1 + t279)) a2 ji5) = some r := H
             have A10 := Aside0.mk A100
             clear A100
             have H' := Aside0.mk H
             clear H
             have p276 : 0 ≤ ((ji5) : Int) := of_decide_eq_true (by first | (with_reducible assumption) | assumption)
             have q276 : (ji5) < (l0.length : Int) := of_decide_eq_true (by first | (with_reducible assumption) | assumption)
             obtain ⟨ad276, e276, hx276_0, hx276_1, hx276_2⟩ := at_T27 HR0.out (ji5) p276 q276
             cases e276
             replace p276 := eq_true p276
             replace q276 := eq_true q276
             have p277 : 0 ≤ ((ji5) : Int) := of_decide_eq_true (by first | (with_reducible assumption) | assumption)
             have q277 : (ji5) < (l0.length : Int) := of_decide_eq_true (by first | (with_reducible assumption) | assumption)
             obtain ⟨ad277, e277, hx277_0, hx277_1, hx277_2⟩ := at_T27 HR0.out (ji5) p277 q277
             obtain rfl : ad276 = ad277 := (by injection e277)
             replace p277 := eq_true p277
             replace q277 := eq_true q277
             have p278 : 0 ≤ (x7_1 : Int) := of_decide_eq_true (by first | (with_reducible assumption) | assumption)
             have q278 : x7_1 < (l0.length : Int) := of_decide_eq_true (by first | (with_reducible assumption) | assumption)
             obtain ⟨ad278, e278, hx278_0, hx278_1, hx278_2⟩ := at_T27 HR0.out x7_1 p278 q278
             obtain rfl : ad276 = ad278 := (by injection e278)
             replace p278 := eq_true p278
             replace q278 := eq_true q278
             go_wp2_with (first | (go_at_call 70; (with_reducible refine (continuoref30_length.calls _ _ l0 x7_1 (wrap64 (((rd_T27 l0 (ji5)).f0) - ((rd_T27 l0 x7_1).f0))) t279 _ ?side1 ?side2 A10.out).mono ?_); (case side1 => repeat (first | exact HR0.out | (with_reducible refine Kd.C_alloc ?_ _) | (with_reducible refine Kd.C_drewN ?_ _) | (with_reducible refine Kd.C_drew ?_))); (case side2 => exact HC0.out); rintro e w' ⟨rfl, ⟨nd, rfl⟩⟩; (try first | exact ⟨rfl, _, World.drewN_drewN _ _ _⟩ | exact ⟨rfl, _, Eq.trans (World.drewN_drewN _ _ _) (congrArg (World.drewN _) (Nat.add_assoc _ _ _))⟩)))
             repeat (go_quiet (first | (go_at_call 70; (with_reducible refine (continuoref30_length.calls _ _ l0 x7_1 (wrap64 (((rd_T27 l0 (ji5)).f0) - ((rd_T27 l0 x7_1).f0))) t279 _ ?side1 ?side2 A10.out).mono ?_); (case side1 => repeat (first | exact HR0.out | (with_reducible refine Kd.C_alloc ?_ _) | (with_reducible refine Kd.C_drewN ?_ _) | (with_reducible refine Kd.C_drew ?_))); (case side2 => exact HC0.out); rintro e w' ⟨rfl, ⟨nd, rfl⟩⟩; (try first | exact ⟨rfl, _, World.drewN_drewN _ _ _⟩ | exact ⟨rfl, _, Eq.trans (World.drewN_drewN _ _ _) (congrArg (World.drewN _) (Nat.add_assoc _ _ _))⟩))); try go_wp2_with (first | (go_at_call 70; (with_reducible refine (continuoref30_length.calls _ _ l0 x7_1 (wrap64 (((rd_T27 l0 (ji5)).f0) - ((rd_T27 l0 x7_1).f0))) t279 _ ?side1 ?side2 A10.out).mono ?_); (case side1 => repeat (first | exact HR0.out | (with_reducible refine Kd.C_alloc ?_ _) | (with_reducible refine Kd.C_drewN ?_ _) | (with_reducible refine Kd.C_drew ?_))); (case side2 => exact HC0.out); rintro e w' ⟨rfl, ⟨nd, rfl⟩⟩; (try first | exact ⟨rfl, _, World.drewN_drewN _ _ _⟩ | exact ⟨rfl, _, Eq.trans (World.drewN_drewN _ _ _) (congrArg (World.drewN _) (Nat.add_assoc _ _ _))⟩))))
             go_roundg k1
             case measure => have := HK1.out; omega
             case rel => exact ⟨(wrap64 (x1_1 + t279)), (ji5), (by first | rfl | (simp; done) | (simp [*]; done)), (by first | rfl | (simp; done) | (simp only [← hji5] <;> (first | rfl | simp)) | (simp [*]; done)), H', ⟨by have := HK1.out; omega⟩, by repeat (first | exact Drawn0.refl _ | apply Drawn0.step)⟩
           · rw [if_neg c9] at H
             exact absurd H (by simp)
         · rw [if_neg c8] at H
           exact absurd H (by simp)
       · rw [if_neg c7] at H
         have c7b0 : decide (((rd_T27 l0 (ji5)).f0) ≤ a2) = false := decide_eq_false c7
         clear c7
         replace H := Option.bind_eq_some_iff.mp H
         obtain ⟨t280, A110, H⟩ := H
         replace H : (if 0 ≤ t280 then (if t280 < (l0.length : Int) then ((continuoref30_length.f l0 t280 (wrap64 (a2 - ((rd_T27 l0 t280).f0)))).bind fun t282 => (some (wrap64 (x1_1 + t282)))) else (none)) else (none)) = some r := H
         have A11 := Aside0.mk A110
         clear A110
         by_cases c12 : 0 ≤ t280
         · rw [if_pos c12] at H
           have c12b0 : decide (0 ≤ t280) = true := decide_eq_true c12
           clear c12
           by_cases c13 : t280 < (l0.length : Int)
           · rw [if_pos c13] at H
             have c13b0 : decide (t280 < (l0.length : Int)) = true := decide_eq_true c13
             clear c13
             replace H := Option.bind_eq_some_iff.mp H
             obtain ⟨t282, A140, H⟩ := H
             replace H : (some (wrap64 (x1_1 + t282))) = some r := H
             have A14 := Aside0.mk A140
             clear A140
             obtain rfl := Option.some.inj H
             have p276 : 0 ≤ ((ji5) : Int) := of_decide_eq_true (by first | (with_reducible assumption) | assumption)
             have q276 : (ji5) < (l0.length : Int) := of_decide_eq_true (by first | (with_reducible assumption) | assumption)
             obtain ⟨ad276, e276, hx276_0, hx276_1, hx276_2⟩ := at_T27 HR0.out (ji5) p276 q276
             cases e276
             replace p276 := eq_true p276
             replace q276 := eq_true q276
             go_wp2_with (first | (go_at_call 56; (with_reducible refine (continuoref30_at.calls k1 _ _ l0 a2 t280 _ ?side1 ?side2 A11.out).mono ?_); (case side1 => repeat (first | exact HR0.out | (with_reducible refine Kd.C_alloc ?_ _) | (with_reducible refine Kd.C_drewN ?_ _) | (with_reducible refine Kd.C_drew ?_))); (case side2 => exact HC0.out); rintro e w' ⟨rfl, ⟨nd, rfl⟩⟩; (try first | exact ⟨rfl, _, World.drewN_drewN _ _ _⟩ | exact ⟨rfl, _, Eq.trans (World.drewN_drewN _ _ _) (congrArg (World.drewN _) (Nat.add_assoc _ _ _))⟩); have p281 : 0 ≤ (t280 : Int) := of_decide_eq_true (by first | (with_reducible assumption) | assumption); have q281 : t280 < (l0.length : Int) := of_decide_eq_true (by first | (with_reducible assumption) | assumption); obtain ⟨ad281, e281, hx281_0, hx281_1, hx281_2⟩ := at_T27 HR0.out t280 p281 q281; obtain rfl : ad276 = ad281 := (by injection e281); replace p281 := eq_true p281; replace q281 := eq_true q281) | (go_at_call 70; (with_reducible refine (continuoref30_length.calls _ _ l0 t280 (wrap64 (a2 - ((rd_T27 l0 t280).f0))) t282 _ ?side1 ?side2 A14.out).mono ?_); (case side1 => repeat (first | exact HR0.out | (with_reducible refine Kd.C_alloc ?_ _) | (with_reducible refine Kd.C_drewN ?_ _) | (with_reducible refine Kd.C_drew ?_))); (case side2 => exact HC0.out); rintro e w' ⟨rfl, ⟨nd, rfl⟩⟩; (try first | exact ⟨rfl, _, World.drewN_drewN _ _ _⟩ | exact ⟨rfl, _, Eq.trans (World.drewN_drewN _ _ _) (congrArg (World.drewN _) (Nat.add_assoc _ _ _))⟩)))
             repeat (go_quiet (first | (go_at_call 56; (with_reducible refine (continuoref30_at.calls k1 _ _ l0 a2 t280 _ ?side1 ?side2 A11.out).mono ?_); (case side1 => repeat (first | exact HR0.out | (with_reducible refine Kd.C_alloc ?_ _) | (with_reducible refine Kd.C_drewN ?_ _) | (with_reducible refine Kd.C_drew ?_))); (case side2 => exact HC0.out); rintro e w' ⟨rfl, ⟨nd, rfl⟩⟩; (try first | exact ⟨rfl, _, World.drewN_drewN _ _ _⟩ | exact ⟨rfl, _, Eq.trans (World.drewN_drewN _ _ _) (congrArg (World.drewN _) (Nat.add_assoc _ _ _))⟩); have p281 : 0 ≤ (t280 : Int) := of_decide_eq_true (by first | (with_reducible assumption) | assumption); have q281 : t280 < (l0.length : Int) := of_decide_eq_true (by first | (with_reducible assumption) | assumption); obtain ⟨ad281, e281, hx281_0, hx281_1, hx281_2⟩ := at_T27 HR0.out t280 p281 q281; obtain rfl : ad276 = ad281 := (by injection e281); replace p281 := eq_true p281; replace q281 := eq_true q281) | (go_at_call 70; (with_reducible refine (continuoref30_length.calls _ _ l0 t280 (wrap64 (a2 - ((rd_T27 l0 t280).f0))) t282 _ ?side1 ?side2 A14.out).mono ?_); (case side1 => repeat (first | exact HR0.out | (with_reducible refine Kd.C_alloc ?_ _) | (with_reducible refine Kd.C_drewN ?_ _) | (with_reducible refine Kd.C_drew ?_))); (case side2 => exact HC0.out); rintro e w' ⟨rfl, ⟨nd, rfl⟩⟩; (try first | exact ⟨rfl, _, World.drewN_drewN _ _ _⟩ | exact ⟨rfl, _, Eq.trans (World.drewN_drewN _ _ _) (congrArg (World.drewN _) (Nat.add_assoc _ _ _))⟩))); try go_wp2_with (first | (go_at_call 56; (with_reducible refine (continuoref30_at.calls k1 _ _ l0 a2 t280 _ ?side1 ?side2 A11.out).mono ?_); (case side1 => repeat (first | exact HR0.out | (with_reducible refine Kd.C_alloc ?_ _) | (with_reducible refine Kd.C_drewN ?_ _) | (with_reducible refine Kd.C_drew ?_))); (case side2 => exact HC0.out); rintro e w' ⟨rfl, ⟨nd, rfl⟩⟩; (try first | exact ⟨rfl, _, World.drewN_drewN _ _ _⟩ | exact ⟨rfl, _, Eq.trans (World.drewN_drewN _ _ _) (congrArg (World.drewN _) (Nat.add_assoc _ _ _))⟩); have p281 : 0 ≤ (t280 : Int) := of_decide_eq_true (by first | (with_reducible assumption) | assumption); have q281 : t280 < (l0.length : Int) := of_decide_eq_true (by first | (with_reducible assumption) | assumption); obtain ⟨ad281, e281, hx281_0, hx281_1, hx281_2⟩ := at_T27 HR0.out t280 p281 q281; obtain rfl : ad276 = ad281 := (by injection e281); replace p281 := eq_true p281; replace q281 := eq_true q281) | (go_at_call 70; (with_reducible refine (continuoref30_length.calls _ _ l0 t280 (wrap64 (a2 - ((rd_T27 l0 t280).f0))) t282 _ ?side1 ?side2 A14.out).mono ?_); (case side1 => repeat (first | exact HR0.out | (with_reducible refine Kd.C_alloc ?_ _) | (with_reducible refine Kd.C_drewN ?_ _) | (with_reducible refine Kd.C_drew ?_))); (case side2 => exact HC0.out); rintro e w' ⟨rfl, ⟨nd, rfl⟩⟩; (try first | exact ⟨rfl, _, World.drewN_drewN _ _ _⟩ | exact ⟨rfl, _, Eq.trans (World.drewN_drewN _ _ _) (congrArg (World.drewN _) (Nat.add_assoc _ _ _))⟩))))
             go_ret
             exact ⟨by first | rfl | (simp; done) | (simp only [← hji5] <;> (first | rfl | simp)) | (simp [*]; done), by repeat (first | exact Drawn0.refl _ | apply Drawn0.step)⟩
           · rw [if_neg c13] at H
             exact absurd H (by simp)
         · rw [if_neg c12] at H
           exact absurd H (by simp)
     · rw [if_neg c6] at H
       exact absurd H (by simp)
   · rw [if_neg c4] at H
     have c4b0 : decide ((wrap64 (x7_1 + 1)) < (l0.length : Int)) = false := decide_eq_false c4
     clear c4
     replace H := Option.bind_eq_some_iff.mp H
     obtain ⟨t283, A150, H⟩ := H
     replace H : (if 0 ≤ t283 then (if t283 < (l0.length : Int) then ((continuoref30_length.f l0 t283 (wrap64 (a2 - ((rd_T27 l0 t283).f0)))).bind fun t285 => (some (wrap64 (x1_1 + t285)))) else (none)) else (none)) = some r := H
     have A15 := Aside0.mk A150
     clear A150
     by_cases c16 : 0 ≤ t283
     · rw [if_pos c16] at H
       have c16b0 : decide (0 ≤ t283) = true := decide_eq_true c16
       clear c16
       by_cases c17 : t283 < (l0.length : Int)
       · rw [if_pos c17] at H
         have c17b0 : decide (t283 < (l0.length : Int)) = true := decide_eq_true c17
         clear c17
         replace H := Option.bind_eq_some_iff.mp H
         obtain ⟨t285, A180, H⟩ := H
         replace H : (some (wrap64 (x1_1 + t285))) = some r := H
         have A18 := Aside0.mk A180
         clear A180
         obtain rfl := Option.some.inj H
         go_wp2_with (first | (go_at_call 56; (with_reducible refine (continuoref30_at.calls k1 _ _ l0 a2 t283 _ ?side1 ?side2 A15.out).mono ?_); (case side1 => repeat (first | exact HR0.out | (with_reducible refine Kd.C_alloc ?_ _) | (with_reducible refine Kd.C_drewN ?_ _) | (with_reducible refine Kd.C_drew ?_))); (case side2 => exact HC0.out); rintro e w' ⟨rfl, ⟨nd, rfl⟩⟩; (try first | exact ⟨rfl, _, World.drewN_drewN _ _ _⟩ | exact ⟨rfl, _, Eq.trans (World.drewN_drewN _ _ _) (congrArg (World.drewN _) (Nat.add_assoc _ _ _))⟩); have p284 : 0 ≤ (t283 : Int) := of_decide_eq_true (by first | (with_reducible assumption) | assumption); have q284 : t283 < (l0.length : Int) := of_decide_eq_true (by first | (with_reducible assumption) | assumption); obtain ⟨ad284, e284, hx284_0, hx284_1, hx284_2⟩ := at_T27 HR0.out t283 p284 q284; cases e284; replace p284 := eq_true p284; replace q284 := eq_true q284) | (go_at_call 70; (with_reducible refine (continuoref30_length.calls _ _ l0 t283 (wrap64 (a2 - ((rd_T27 l0 t283).f0))) t285 _ ?side1 ?side2 A18.out).mono ?_); (case side1 => repeat (first | exact HR0.out | (with_reducible refine Kd.C_alloc ?_ _) | (with_reducible refine Kd.C_drewN ?_ _) | (with_reducible refine Kd.C_drew ?_))); (case side2 => exact HC0.out); rintro e w' ⟨rfl, ⟨nd, rfl⟩⟩; (try first | exact ⟨rfl, _, World.drewN_drewN _ _ _⟩ | exact ⟨rfl, _, Eq.trans (World.drewN_drewN _ _ _) (congrArg (World.drewN _) (Nat.add_assoc _ _ _))⟩)))
         repeat (go_quiet (first | (go_at_call 56; (with_reducible refine (continuoref30_at.calls k1 _ _ l0 a2 t283 _ ?side1 ?side2 A15.out).mono ?_); (case side1 => repeat (first | exact HR0.out | (with_reducible refine Kd.C_alloc ?_ _) | (with_reducible refine Kd.C_drewN ?_ _) | (with_reducible refine Kd.C_drew ?_))); (case side2 => exact HC0.out); rintro e w' ⟨rfl, ⟨nd, rfl⟩⟩; (try first | exact ⟨rfl, _, World.drewN_drewN _ _ _⟩ | exact ⟨rfl, _, Eq.trans (World.drewN_drewN _ _ _) (congrArg (World.drewN _) (Nat.add_assoc _ _ _))⟩); have p284 : 0 ≤ (t283 : Int) := of_decide_eq_true (by first | (with_reducible assumption) | assumption); have q284 : t283 < (l0.length : Int) := of_decide_eq_true (by first | (with_reducible assumption) | assumption); obtain ⟨ad284, e284, hx284_0, hx284_1, hx284_2⟩ := at_T27 HR0.out t283 p284 q284; cases e284; replace p284 := eq_true p284; replace q284 := eq_true q284) | (go_at_call 70; (with_reducible refine (continuoref30_length.calls _ _ l0 t283 (wrap64 (a2 - ((rd_T27 l0 t283).f0))) t285 _ ?side1 ?side2 A18.out).mono ?_); (case side1 => repeat (first | exact HR0.out | (with_reducible refine Kd.C_alloc ?_ _) | (with_reducible refine Kd.C_drewN ?_ _) | (with_reducible refine Kd.C_drew ?_))); (case side2 => exact HC0.out); rintro e w' ⟨rfl, ⟨nd, rfl⟩⟩; (try first | exact ⟨rfl, _, World.drewN_drewN _ _ _⟩ | exact ⟨rfl, _, Eq.trans (World.drewN_drewN _ _ _) (congrArg (World.drewN _) (Nat.add_assoc _ _ _))⟩))); try go_wp2_with (first | (go_at_call 56; (with_reducible refine (continuoref30_at.calls k1 _ _ l0 a2 t283 _ ?side1 ?side2 A15.out).mono ?_); (case side1 => repeat (first | exact HR0.out | (with_reducible refine Kd.C_alloc ?_ _) | (with_reducible refine Kd.C_drewN ?_ _) | (with_reducible refine Kd.C_drew ?_))); (case side2 => exact HC0.out); rintro e w' ⟨rfl, ⟨nd, rfl⟩⟩; (try first | exact ⟨rfl, _, World.drewN_drewN _ _ _⟩ | exact ⟨rfl, _, Eq.trans (World.drewN_drewN _ _ _) (congrArg (World.drewN _) (Nat.add_assoc _ _ _))⟩); have p284 : 0 ≤ (t283 : Int) := of_decide_eq_true (by first | (with_reducible assumption) | assumption); have q284 : t283 < (l0.length : Int) := of_decide_eq_true (by first | (with_reducible assumption) | assumption); obtain ⟨ad284, e284, hx284_0, hx284_1, hx284_2⟩ := at_T27 HR0.out t283 p284 q284; cases e284; replace p284 := eq_true p284; replace q284 := eq_true q284) | (go_at_call 70; (with_reducible refine (continuoref30_length.calls _ _ l0 t283 (wrap64 (a2 - ((rd_T27 l0 t283).f0))) t285 _ ?side1 ?side2 A18.out).mono ?_); (case side1 => repeat (first | exact HR0.out | (with_reducible refine Kd.C_alloc ?_ _) | (with_reducible refine Kd.C_drewN ?_ _) | (with_reducible refine Kd.C_drew ?_))); (case side2 => exact HC0.out); rintro e w' ⟨rfl, ⟨nd, rfl⟩⟩; (try first | exact ⟨rfl, _, World.drewN_drewN _ _ _⟩ | exact ⟨rfl, _, Eq.trans (World.drewN_drewN _ _ _) (congrArg (World.drewN _) (Nat.add_assoc _ _ _))⟩))))
         go_ret
         exact ⟨by first | rfl | (simp; done) | (simp [*]; done), by repeat (first | exact Drawn0.refl _ | apply Drawn0.step)⟩
       · rw [if_neg c17] at H
         exact absurd H (by simp)
     · rw [if_neg c16] at H
       exact absurd H (by simp)
end Go.Proofs.Ytomlfbmfdoallaa.PA

namespace Go.Proofs.Ytomlfbmfdoallaa.PA
open Go.RowKit Go.Proofs.YtomlfbmfdoallaaW.PrintWords Go.Proofs.YtomlfbmfdoallaaW.PrintLast Go.Proofs.YtomlfbmfdoallaaW.PrintMore
attribute [local go_sem] max2_int min2_int max_two min_two max_three min_three max_four min_four
set_option linter.unusedVariables false
set_option linter.unusedSimpArgs false
def continuoref30_last.l0 : Nat → List (S27) → Int → Int → Int → Int → Option (Int)
 | 0, _, _, _, _, _ => none
 | k + 1, x0, x1, x2, x7, x8 => if x7 < x8 then ((continuoref30_frame.f k x0 x1 (wrap64 (Int.tdiv (wrap64 ((wrap64 (x7 + x8)) + 1)) 2))).bind fun t295 => (if t295 ≤ x2 then (continuoref30_last.l0 k x0 x1 x2 (wrap64 (Int.tdiv (wrap64 ((wrap64 (x7 + x8)) + 1)) 2)) x8) else (continuoref30_last.l0 k x0 x1 x2 x7 (wrap64 ((wrap64 (Int.tdiv (wrap64 ((wrap64 (x7 + x8)) + 1)) 2)) - 1))))) else (some x7)
def continuoref30_last.f (k : Nat) (l0 : List (S27)) (a1 : Int) (a2 : Int) : Option (Int) := continuoref30_last.l0 k l0 a1 a2 0 1000000000
theorem continuoref30_last.mono_l : ∀ k, (∀ y0 y1 y2 y3 y4, LeO (continuoref30_last.l0 k y0 y1 y2 y3 y4) (continuoref30_last.l0 (k + 1) y0 y1 y2 y3 y4))
 | 0 => fun _ _ _ _ _ r h => by simp [continuoref30_last.l0] at h
 | k + 1 => by
  have ih0 := continuoref30_last.mono_l k
  · intro y0 y1 y2 y3 y4
    unfold continuoref30_last.l0
    repeat' first
    | (with_reducible exact ih0 _ _ _ _ _)
    | (with_reducible exact continuoref30_frame.mono _ _ _ _)
    | (with_reducible exact LeO.refl _)
    | (with_reducible exact LeO.none _)
    | (with_reducible refine LeO.ite ?_ ?_)
    | (with_reducible refine LeO.bind ?_ (fun _ => ?_))
    | exact ih0 _ _ _ _ _
    | exact continuoref30_frame.mono _ _ _ _
    | exact LeO.none _
    | refine LeO.ite ?_ ?_
    | refine LeO.bind ?_ (fun _ => ?_)
theorem continuoref30_last.mono : ∀ a0 a1 a2 k, LeO (continuoref30_last.f k a0 a1 a2) (continuoref30_last.f (k + 1) a0 a1 a2) := by
 intro a0 a1 a2 k
 have ih0 := continuoref30_last.mono_l k
 unfold continuoref30_last.f
 repeat' first
  | (with_reducible exact ih0 _ _ _ _ _)
  | (with_reducible exact continuoref30_frame.mono _ _ _ _)
  | (with_reducible exact LeO.refl _)
  | (with_reducible exact LeO.none _)
  | (with_reducible refine LeO.ite ?_ ?_)
  | (with_reducible refine LeO.bind ?_ (fun _ => ?_))
  | exact ih0 _ _ _ _ _
  | exact continuoref30_frame.mono _ _ _ _
  | exact LeO.none _
  | refine LeO.ite ?_ ?_
  | refine LeO.bind ?_ (fun _ => ?_)
set_option maxHeartbeats 8000000 in
set_option maxRecDepth 100000 in
theorem continuoref30_last.calls (k : Nat) (A0 : Option Addr) (c0 : Nat) (l0 : List (S27)) (a1 : Int) (a2 : Int) (r : Int) (w : World) (hr0 : Kd.C k27 w A0 l0.length l0) (hc0 : l0.length ≤ c0) (h : continuoref30_last.f k l0 a1 a2 = some r) :
 Calls Try.prog 55 #[.slice A0 l0.length c0, .int .i64 a1, .int .i64 a2] w fun e w' => e = .returned (.int .i64 r) ∧ Drawn0 w w' := by
 have HR0 := Aside0.mk hr0
 have HC0 := Aside0.mk hc0
 clear hr0 hc0
 have H : (continuoref30_last.l0 k l0 a1 a2 0 1000000000) = some r := h
 clear h
 have H' := Aside0.mk H
 clear H
 go_enter Try.func55, Try.ntmps55
 go_wp2
 go_loopg [7, 8] k (fun kq v7 v8 w' => ∃ (x7_1 : Int) (x8_1 : Int), v7 = .int .i64 x7_1 ∧ v8 = .int .i64 x8_1 ∧ Aside0 (continuoref30_last.l0 kq l0 a1 a2 x7_1 x8_1 = some r) ∧ Aside0 (kq ≤ k) ∧ Drawn0 w w')
 case atStart => exact ⟨(0), (1000000000), (by first | rfl | (simp; done) | (simp [*]; done)), (by first | rfl | (simp; done) | (simp [*]; done)), H', ⟨Nat.le_refl _⟩, by repeat (first | exact Drawn0.refl _ | apply Drawn0.step)⟩
 case round =>
  clear H'
  try clear p2
  obtain ⟨x7_1, x8_1, rfl, rfl, HA, HK1, ⟨m1, rfl⟩⟩ := hrel
  cases gk with
  | zero => exact absurd HA.out (by simp [continuoref30_last.l0])
  | succ k1 =>
   have H := HA.out
   clear HA
   simp only [continuoref30_last.l0] at H
   by_cases c4 : x7_1 < x8_1
   · rw [if_pos c4] at H
     have c4b0 : decide (x7_1 < x8_1) = true := decide_eq_true c4
     clear c4
     replace H := Option.bind_eq_some_iff.mp H
     obtain ⟨t295, A50, H⟩ := H
     replace H : (if t295 ≤ a2 then (continuoref30_last.l0 k1 l0 a1 a2 (wrap64 (Int.tdiv (wrap64 ((wrap64 (x7_1 + x8_1)) + 1)) 2)) x8_1) else (continuoref30_last.l0 k1 l0 a1 a2 x7_1 (wrap64 ((wrap64 (Int.tdiv (wrap64 ((wrap64 (x7_1 + x8_1)) + 1)) 2)) - 1)))) = some r := H
     have A5 := Aside0.mk A50
     clear A50
     by_cases c6 : t295 ≤ a2
     · rw [if_pos c6] at H
       have c6b0 : decide (t295 ≤ a2) = true := decide_eq_true c6
       clear c6
       have H' := Aside0.mk H
       clear H
       go_wp2_with (first | ((with_reducible refine gate_callee (f := 53) rfl ?_); refine goesL_ (some 21) rfl rfl Try.func53 (by kernel_rfl) rfl #[.slice A0 l0.length c0, .int .i64 a1, .int .i64 (wrap64 (Int.tdiv (wrap64 ((wrap64 (x7_1 + x8_1)) + 1)) 2))] rfl (by (try simp only [List.map_toArray, List.map_cons, List.map_nil]); first | done | rfl | (simp only [List.length_drop, List.length_take]; rfl)) ?_; (with_reducible refine (continuoref30_frame.calls k1 _ _ l0 a1 (wrap64 (Int.tdiv (wrap64 ((wrap64 (x7_1 + x8_1)) + 1)) 2)) t295 _ ?side1 ?side2 A5.out).mono ?_); (case side1 => repeat (first | exact HR0.out | (with_reducible refine Kd.C_alloc ?_ _) | (with_reducible refine Kd.C_drewN ?_ _) | (with_reducible refine Kd.C_drew ?_))); (case side2 => exact HC0.out); rintro e w' ⟨rfl, ⟨nd, rfl⟩⟩; refine ⟨_, rfl, ?_⟩))
       go_roundg k1
       case measure => have := HK1.out; omega
       case rel => exact ⟨(wrap64 (Int.tdiv (wrap64 ((wrap64 (x7_1 + x8_1)) + 1)) 2)), (x8_1), (by first | rfl | (simp; done) | (simp [*]; done)), (by first | rfl | (simp; done) | (simp [*]; done)), H', ⟨by have := HK1.out; omega⟩, by repeat (first | exact Drawn0.refl _ | apply Drawn0.step)⟩
     · rw [if_neg c6] at H
       have c6b0 : decide (t295 ≤ a2) = false := decide_eq_false c6
       clear c6
       have H' := Aside0.mk H
       clear H
       go_wp2_with (first | ((with_reducible refine gate_callee (f := 53) rfl ?_); refine goesL_ (some 21) rfl rfl Try.func53 (by kernel_rfl) rfl #[.slice A0 l0.length c0, .int .i64 a1, .int .i64 (wrap64 (Int.tdiv (wrap64 ((wrap64 (x7_1 + x8_1)) + 1)) 2))] rfl (by (try simp only [List.map_toArray, List.map_cons, List.map_nil]); first | done | rfl | (simp only [List.length_drop, List.length_take]; rfl)) ?_; (with_reducible refine (continuoref30_frame.calls k1 _ _ l0 a1 (wrap64 (Int.tdiv (wrap64 ((wrap64 (x7_1 + x8_1)) + 1)) 2)) t295 _ ?side1 ?side2 A5.out).mono ?_); (case side1 => repeat (first | exact HR0.out | (with_reducible refine Kd.C_alloc ?_ _) | (with_reducible refine Kd.C_drewN ?_ _) | (with_reducible refine Kd.C_drew ?_))); (case side2 => exact HC0.out); rintro e w' ⟨rfl, ⟨nd, rfl⟩⟩; refine ⟨_, rfl, ?_⟩))
       go_roundg k1
       case measure => have := HK1.out; omega
       case rel => exact ⟨(x7_1), (wrap64 ((wrap64 (Int.tdiv (wrap64 ((wrap64 (x7_1 + x8_1)) + 1)) 2)) - 1)), (by first | rfl | (simp; done) | (simp [*]; done)), (by first | rfl | (simp; done) | (simp [*]; done)), H', ⟨by have := HK1.out; omega⟩, by repeat (first | exact Drawn0.refl _ | apply Drawn0.step)⟩
   · rw [if_neg c4] at H
     have c4b0 : decide (x7_1 < x8_1) = false := decide_eq_false c4
     clear c4
     obtain rfl := Option.some.inj H
     go_wp2
     go_ret
     exact ⟨by first | rfl | (simp; done) | (simp [*]; done), by repeat (first | exact Drawn0.refl _ | apply Drawn0.step)⟩
end Go.Proofs.Ytomlfbmfdoallaa.PA

namespace Go.Proofs.Ytomlfbmfdoallaa.Pure
open Go.RowKit Go.Proofs.Ytomlfbmfdoallaa.PA Go.Proofs.YtomlfbmfdoallaaW.PrintWords Go.Proofs.YtomlfbmfdoallaaW.PrintLast
set_option linter.unusedVariables false
set_option linter.unusedSimpArgs false
theorem rd27 (l : List S27) (i : Nat) (h : i < l.length) : rd_T27 l (i : Int) = l[i] := by simp [rd_T27, h]
def okT (t : S27) : Bool := decide (0 ≤ t.f0) && decide (t.f0 ≤ 1000000000) && (decide (1 ≤ t.f1) && decide (t.f1 ≤ 67108864)) && (decide (0 ≤ t.f2) && decide (t.f2 ≤ 1))
def mvL : Option S27 → List S27 → Bool
 | _, [] => true
 | p, t :: r => okT t && (match p with | none => true | some q => decide (q.f0 < t.f0)) && (match r.head? with | none => decide (t.f2 ≠ 1) | some t2 => decide (t.f2 ≠ 1) || decide (wrap64 (t2.f0 - t.f0) ≤ 10000)) && mvL (some t) r
theorem prev_succ27 (l : List S27) (i : Nat) (h : i < l.length) : (if i + 1 = 0 then none else l[i + 1 - 1]?) = some l[i] := by simp [h]
theorem head_drop (l : List S27) (i : Nat) : (l.drop i).head? = l[i]? := by simp
theorem refv_loop (l : List S27) (hl : l.length ≤ 100) : ∀ (d k i : Nat), l.length - i = d → i ≤ l.length → 2 * d < k → continuoref30_Valid.l0 k l (i : Int) = some (mvL (if i = 0 then none else l[i - 1]?) (l.drop i)) := by
 intro d
 induction d with
 | zero =>
  intro k i hd hi hk
  obtain ⟨k, rfl⟩ : ∃ m, k = m + 1 := ⟨k - 1, by omega⟩
  rw [continuoref30_Valid.l0.eq_2]
  rw [if_neg (by omega), List.drop_eq_nil_of_le (by omega)]
  rfl
 | succ d ih =>
  intro k i hd hi hk
  obtain ⟨k, rfl⟩ : ∃ m, k = m + 1 + 1 := ⟨k - 2, by omega⟩
  have hlt : i < l.length := by omega
  have hih := ih k (i + 1) (by omega) (by omega) (by omega)
  rw [prev_succ27 l i hlt] at hih
  have hw : wrap64 ((i : Int) + 1) = ((i + 1 : Nat) : Int) := by rw [w64 (by omega) (by omega)]; omega
  have hwl : wrap64 ((l.length : Int) - 1) = (l.length : Int) - 1 := w64 (by omega) (by omega)
  have hj : ∀ b : Bool, continuoref30_Valid.j2 (k + 1) l (i : Int) b l[i].f0 l[i].f1 l[i].f2 = some (!b && ((match (l.drop (i + 1)).head? with | none => decide (l[i].f2 ≠ 1) | some t2 => decide (l[i].f2 ≠ 1) || decide (wrap64 (t2.f0 - l[i].f0) ≤ 10000)) && mvL (some l[i]) (l.drop (i + 1)))) := by
   intro b
   rw [continuoref30_Valid.j2.eq_2, hw, hih, hwl, head_drop]
   cases b with
   | true => rfl
   | false =>
    rw [if_neg (by simp)]
    by_cases h1 : l[i].f2 = 1
    · rw [if_pos h1]
      by_cases h2 : i + 1 < l.length
      · rw [if_neg (by omega), if_pos (by omega), if_pos (by omega), rd27 l (i + 1) h2, List.getElem?_eq_getElem h2]
        by_cases h3 : wrap64 (l[i + 1].f0 - l[i].f0) ≤ 10000
        · rw [if_neg (by omega)]; simp [h1, h3]
        · rw [if_pos (by omega)]; simp [h1, h3]
      · rw [if_pos (by omega), List.getElem?_eq_none (by omega)]
        simp [h1]
    · rw [if_neg h1]
      by_cases h2 : i + 1 < l.length
      · rw [List.getElem?_eq_getElem h2]; simp [h1]
      · rw [List.getElem?_eq_none (by omega)]; simp [h1]
  rw [continuoref30_Valid.l0.eq_2]
  rw [if_pos (by omega), if_pos (by omega), rd27 l i hlt]
  simp only [hj]
  rw [List.drop_eq_getElem_cons hlt]
  simp only [mvL]
  generalize hM : ((match (l.drop (i + 1)).head? with | none => decide (l[i].f2 ≠ 1) | some t2 => decide (l[i].f2 ≠ 1) || decide (wrap64 (t2.f0 - l[i].f0) ≤ 10000))) = M
  generalize hR : mvL (some l[i]) (l.drop (i + 1)) = R
  by_cases h0 : i = 0
  · subst h0
    rw [if_neg (show ¬ (((0 : Nat) : Int) > 0) by omega)]
    simp only [okT, if_true]
    clear hM hR hj hih ih
    generalize l[0] = m
    repeat' split
    all_goals (first | (simp_all; done) | (simp_all; omega) | (simp_all; intros; exfalso; omega) | (congr 1; rw [Bool.eq_iff_iff]; simp only [Bool.and_eq_true, decide_eq_true_eq] at *; cases M <;> cases R <;> simp <;> omega))
  · have hw2 : wrap64 ((i : Int) - 1) = ((i - 1 : Nat) : Int) := by rw [w64 (by omega) (by omega)]; omega
    rw [if_pos (show (i : Int) > 0 by omega), hw2, if_pos (show (0 : Int) ≤ ((i - 1 : Nat) : Int) by omega), if_pos (show ((i - 1 : Nat) : Int) < (l.length : Int) by omega), rd27 l (i - 1) (by omega)]
    rw [if_neg h0, List.getElem?_eq_getElem (show i - 1 < l.length by omega)]
    simp only [okT]
    clear hM hR hj hih ih
    generalize l[i - 1] = q
    generalize l[i] = m
    repeat' split
    all_goals (first | (simp_all; done) | (simp_all; omega) | (simp_all; intros; exfalso; omega) | (congr 1; rw [Bool.eq_iff_iff]; simp only [Bool.and_eq_true, decide_eq_true_eq] at *; cases M <;> cases R <;> simp <;> omega))
theorem v_loop (l : List S27) (hl : l.length ≤ 100) (hz : ∀ h : l.length - 1 < l.length, l[l.length - 1].f2 = 0) : ∀ (d k i : Nat), l.length - i = d → i ≤ l.length → 2 * d < k → tempo_Valid.l0 k l l (l.length : Int) (i : Int) = some (mvL (if i = 0 then none else l[i - 1]?) (l.drop i)) := by
 intro d
 induction d with
 | zero =>
  intro k i hd hi hk
  obtain ⟨k, rfl⟩ : ∃ m, k = m + 1 := ⟨k - 1, by omega⟩
  rw [tempo_Valid.l0.eq_2]
  rw [if_neg (by omega), List.drop_eq_nil_of_le (by omega)]
  rfl
 | succ d ih =>
  intro k i hd hi hk
  obtain ⟨k, rfl⟩ : ∃ m, k = m + 1 + 1 := ⟨k - 2, by omega⟩
  have hlt : i < l.length := by omega
  have hih := ih k (i + 1) (by omega) (by omega) (by omega)
  rw [prev_succ27 l i hlt] at hih
  have hw : wrap64 ((i : Int) + 1) = ((i + 1 : Nat) : Int) := by rw [w64 (by omega) (by omega)]; omega
  have hj : ∀ b : Bool, tempo_Valid.j2 (k + 1) l (i : Int) l (l.length : Int) (i : Int) b l[i].f0 l[i].f1 l[i].f2 = some (!b && ((match (l.drop (i + 1)).head? with | none => decide (l[i].f2 ≠ 1) | some t2 => decide (l[i].f2 ≠ 1) || decide (wrap64 (t2.f0 - l[i].f0) ≤ 10000)) && mvL (some l[i]) (l.drop (i + 1)))) := by
   intro b
   rw [tempo_Valid.j2.eq_2, hw, hih, head_drop]
   cases b with
   | true => rfl
   | false =>
    rw [if_neg (by simp)]
    by_cases h1 : l[i].f2 = 1
    · rw [if_pos h1]
      by_cases h2 : i + 1 < l.length
      · rw [if_pos (by omega), if_pos (by omega), rd27 l (i + 1) h2, List.getElem?_eq_getElem h2]
        by_cases h3 : wrap64 (l[i + 1].f0 - l[i].f0) ≤ 10000
        · rw [if_neg (by omega)]; simp [h1, h3]
        · rw [if_pos (by omega)]; simp [h1, h3]
      · exfalso
        have := hz (by omega)
        have e : l.length - 1 = i := by omega
        simp only [e] at this
        omega
    · rw [if_neg h1]
      by_cases h2 : i + 1 < l.length
      · rw [List.getElem?_eq_getElem h2]; simp [h1]
      · rw [List.getElem?_eq_none (by omega)]; simp [h1]
  rw [tempo_Valid.l0.eq_2]
  rw [if_pos (by omega), if_pos (by omega), if_pos (by omega), rd27 l i hlt]
  simp only [hj]
  rw [List.drop_eq_getElem_cons hlt]
  simp only [mvL, tempo_within.eq, Option.bind_some]
  generalize hM : ((match (l.drop (i + 1)).head? with | none => decide (l[i].f2 ≠ 1) | some t2 => decide (l[i].f2 ≠ 1) || decide (wrap64 (t2.f0 - l[i].f0) ≤ 10000))) = M
  generalize hR : mvL (some l[i]) (l.drop (i + 1)) = R
  by_cases h0 : i = 0
  · subst h0
    rw [if_neg (show ¬ (((0 : Nat) : Int) > 0) by omega)]
    simp only [okT, if_true]
    clear hM hR hj hih ih
    generalize l[0] = m
    repeat' split
    all_goals (first | (simp_all; done) | (simp_all; omega) | (simp_all; intros; exfalso; omega) | (congr 1; rw [Bool.eq_iff_iff]; simp only [Bool.and_eq_true, decide_eq_true_eq] at *; cases M <;> cases R <;> simp <;> omega))
  · have hw2 : wrap64 ((i : Int) - 1) = ((i - 1 : Nat) : Int) := by rw [w64 (by omega) (by omega)]; omega
    rw [if_pos (show (i : Int) > 0 by omega), hw2, if_pos (show (0 : Int) ≤ ((i - 1 : Nat) : Int) by omega), if_pos (show ((i - 1 : Nat) : Int) < (l.length : Int) by omega), rd27 l (i - 1) (by omega)]
    rw [if_neg h0, List.getElem?_eq_getElem (show i - 1 < l.length by omega)]
    simp only [okT]
    clear hM hR hj hih ih
    generalize l[i - 1] = q
    generalize l[i] = m
    repeat' split
    all_goals (first | (simp_all; done) | (simp_all; omega) | (simp_all; intros; exfalso; omega) | (congr 1; rw [Bool.eq_iff_iff]; simp only [Bool.and_eq_true, decide_eq_true_eq] at *; cases M <;> cases R <;> simp <;> omega))
theorem mvL_iff : ∀ (l : List S27) (p : Option S27), mvL p l = true ↔ MapFrom l ∧ (∀ q t, p = some q → l.head? = some t → q.f0 < t.f0)
 | [], p => by simp [mvL, MapFrom]
 | [t], p => by
  cases p <;> simp [mvL, MapFrom, okT] <;> omega
 | t :: t2 :: r, p => by
  have ih := mvL_iff (t2 :: r) (some t)
  have e : mvL p (t :: t2 :: r) = (okT t && (match p with | none => true | some q => decide (q.f0 < t.f0)) && (decide (t.f2 ≠ 1) || decide (wrap64 (t2.f0 - t.f0) ≤ 10000)) && mvL (some t) (t2 :: r)) := rfl
  rw [e]
  simp only [Bool.and_eq_true, ih, MapFrom, okT, decide_eq_true_eq, Bool.or_eq_true]
  generalize hP : (match p with | none => true | some q => decide (q.f0 < t.f0)) = P
  have hp : (∀ q x, p = some q → (t :: t2 :: r).head? = some x → q.f0 < x.f0) ↔ P = true := by
   rw [← hP]
   cases p <;> simp
  rw [hp]
  have hh : (∀ q x, some t = some q → (t2 :: r).head? = some x → q.f0 < x.f0) ↔ t.f0 < t2.f0 := by simp
  rw [hh]
  constructor
  · rintro ⟨⟨⟨⟨⟨⟨a, b⟩, ⟨c, d⟩⟩, ⟨f, g⟩⟩, hq⟩, hx⟩, ⟨hm, hlt⟩⟩
    have hd : 0 ≤ t2.f0 ∧ t2.f0 ≤ 1000000000 := by
     cases r with
     | nil => exact ⟨hm.1, hm.2.1⟩
     | cons t3 r => exact ⟨hm.1, hm.2.1⟩
    rw [w64 (by omega) (by omega)] at hx
    exact ⟨⟨a, b, c, d, f, g, hlt, fun h1 => hx.resolve_left (fun n => n h1), hm⟩, hq⟩
  · rintro ⟨⟨a, b, c, d, f, g, hlt, hx, hm⟩, hq⟩
    have hd : 0 ≤ t2.f0 ∧ t2.f0 ≤ 1000000000 := by
     cases r with
     | nil => exact ⟨hm.1, hm.2.1⟩
     | cons t3 r => exact ⟨hm.1, hm.2.1⟩
    rw [w64 (by omega) (by omega)]
    exact ⟨⟨⟨⟨⟨⟨a, b⟩, ⟨c, d⟩⟩, ⟨f, g⟩⟩, hq⟩, (Classical.em (t.f2 = 1)).elim (fun k => .inr (hx k)) .inl⟩, ⟨hm, hlt⟩⟩
theorem mvL_none (l : List S27) : mvL none l = mapFromB l := by
 rw [Bool.eq_iff_iff, mvL_iff, mapFromB_iff]
 simp
theorem mapFrom_last : ∀ (l : List S27) (h : l ≠ []), MapFrom l → (l.getLast h).f2 = 0
 | [t], _, hm => hm.2.2.2.2
 | t :: t2 :: r, _, hm => by
  rw [List.getLast_cons (by simp)]
  exact mapFrom_last (t2 :: r) (by simp) hm.2.2.2.2.2.2.2.2
theorem refv_eq (l : List S27) (hl : l.length ≤ 100) : continuoref30_Valid.f 210 l = some (mapOkB l) := by
 unfold continuoref30_Valid.f mapOkB
 by_cases h : 1 ≤ l.length ∧ l.length ≤ 50
 · rw [if_neg (by omega), if_neg (by omega), if_pos (by omega)]
   rw [show continuoref30_Valid.j0 210 l ((rd_T27 l 0).f0 != 0) = if ((rd_T27 l 0).f0 != 0) = true then some false else continuoref30_Valid.l0 209 l 0 from rfl]
   have := refv_loop l hl l.length 209 0 (by omega) (by omega) (by omega)
   simp only [if_true, List.drop_zero] at this
   rw [show ((0 : Nat) : Int) = 0 from rfl] at this
   rw [this, mvL_none]
   have h0 : rd_T27 l 0 = l[0]'(by omega) := rd27 l 0 (by omega)
   rw [h0]
   cases l with
   | nil => simp at h
   | cons m r =>
    simp only [List.getElem_cons_zero, List.head?_cons]
    by_cases e : m.f0 = 0
    · simp [e, h.1, h.2]; simp at h; omega
    · simp [e]
 · have e : continuoref30_Valid.j0 210 l true = some false := rfl
   by_cases h1 : 1 ≤ l.length
   · rw [if_neg (by omega), if_pos (by omega), e]
     simp [h1, show ¬ l.length ≤ 50 by omega]
   · rw [if_pos (by omega), e]
     simp [h1]
theorem v_eq (l : List S27) (hl : l.length ≤ 100) : tempo_Valid.f 210 l = some (mapOkB l) := by
 unfold tempo_Valid.f mapOkB
 simp only [tempo_within.eq, Option.bind_some]
 have ej : tempo_Valid.j0 210 l true = some false := rfl
 by_cases h : 1 ≤ l.length ∧ l.length ≤ 50
 · have hw : wrap64 ((l.length : Int) - 1) = ((l.length - 1 : Nat) : Int) := by rw [w64 (by omega) (by omega)]; omega
   rw [if_pos (by simp; omega), if_pos (by omega)]
   have h0 : rd_T27 l 0 = l[0]'(by omega) := rd27 l 0 (by omega)
   rw [h0, hw, if_pos (show (0 : Int) ≤ ((l.length - 1 : Nat) : Int) by omega), if_pos (show ((l.length - 1 : Nat) : Int) < (l.length : Int) by omega), rd27 l (l.length - 1) (by omega)]
   rw [show ∀ b, tempo_Valid.j0 210 l b = if b = true then some false else tempo_Valid.l0 209 l l (l.length : Int) 0 from fun _ => rfl]
   have hh : l.head? = some (l[0]'(by omega)) := by
    cases l with
    | nil => simp at h
    | cons m r => rfl
   rw [hh]
   by_cases e : (l[0]'(by omega)).f0 = 0
   · rw [if_pos e]
     by_cases hz : (l[l.length - 1]'(by omega)).f2 = 0
     · have := v_loop l hl (fun _ => hz) l.length 209 0 (by omega) (by omega) (by omega)
       simp only [if_true, List.drop_zero] at this
       rw [show ((0 : Nat) : Int) = 0 from rfl] at this
       rw [if_neg (by simp [hz]), this, mvL_none]
       simp [e, h.1, h.2]
     · rw [if_pos (by simpa using hz)]
       have : mapFromB l = false := by
        rw [Bool.eq_false_iff]
        intro hc
        rw [mapFromB_iff] at hc
        have hne : l ≠ [] := by intro e; subst e; simp at h
        have := mapFrom_last l hne hc
        rw [List.getLast_eq_getElem] at this
        exact hz this
       simp [this]
   · rw [if_neg e, ej]
     simp [e]
 · rw [if_neg (by simp; omega), ej]
   congr 1
   by_cases h1 : 1 ≤ l.length
   · simp [h1, show ¬ l.length ≤ 50 by omega]
   · simp [h1]
end Go.Proofs.Ytomlfbmfdoallaa.Pure

namespace Go.Proofs.Ytomlfbmfdoallaa.PA
open Go.RowKit Go.Proofs.YtomlfbmfdoallaaW.PrintWords Go.Proofs.YtomlfbmfdoallaaW.PrintLast Go.Proofs.YtomlfbmfdoallaaW.PrintMore
attribute [local go_sem] max2_int min2_int max_two min_two max_three min_three max_four min_four
set_option linter.unusedVariables false
set_option linter.unusedSimpArgs false
def continuoref30_time.f (a0 : Int) : Option (Bool) := if a0 ≥ 0 then (some (decide (a0 ≤ 1000000000))) else (some false)
set_option maxHeartbeats 8000000 in
set_option maxRecDepth 100000 in
theorem continuoref30_time.calls (a0 : Int) (r : Bool) (w : World) (h : continuoref30_time.f a0 = some r) :
 Calls Try.prog 50 #[.int .i64 a0] w fun e w' => e = .returned (.bool r) ∧ Drawn0 w w' := by
 have H : (if a0 ≥ 0 then (some (decide (a0 ≤ 1000000000))) else (some false)) = some r := h
 clear h
 by_cases c2 : a0 ≥ 0
 · rw [if_pos c2] at H
   have c2b0 : decide (0 ≤ a0) = true := decide_eq_true c2
   clear c2
   obtain rfl := Option.some.inj H
   go_enter Try.func50, Try.ntmps50
   go_wp2
   go_ret
   exact ⟨by first | rfl | (simp; done) | (simp [*]; done), by repeat (first | exact Drawn0.refl _ | apply Drawn0.step)⟩
 · rw [if_neg c2] at H
   have c2b0 : decide (0 ≤ a0) = false := decide_eq_false c2
   clear c2
   obtain rfl := Option.some.inj H
   go_enter Try.func50, Try.ntmps50
   go_wp2
   go_ret
   exact ⟨by first | rfl | (simp; done) | (simp [*]; done), by repeat (first | exact Drawn0.refl _ | apply Drawn0.step)⟩
end Go.Proofs.Ytomlfbmfdoallaa.PA

namespace Go.Proofs.Ytomlfbmfdoallaa.PA
open Go.RowKit Go.Proofs.YtomlfbmfdoallaaW.PrintWords Go.Proofs.YtomlfbmfdoallaaW.PrintLast Go.Proofs.YtomlfbmfdoallaaW.PrintMore
attribute [local go_sem] max2_int min2_int max_two min_two max_three min_three max_four min_four
set_option linter.unusedVariables false
set_option linter.unusedSimpArgs false
def continuoref30_Period.f (k : Nat) (l0 : List (S27)) (a1 : Int) : Option (Int × Int) := (continuoref30_Valid.f k l0).bind fun t299 => (if t299 = true then ((continuoref30_time.f a1).bind fun t300 => (if t300 = true then ((continuoref30_at.f k l0 a1).bind fun t301 => (if 0 ≤ t301 then (if t301 < (l0.length : Int) then (if ((rd_T27 l0 t301).f2) = 0 then (some ((rd_T27 l0 t301).f1, 0)) else (if 0 ≤ (wrap64 (t301 + 1)) then (if (wrap64 (t301 + 1)) < (l0.length : Int) then ((continuoref30_Rounded.f (wrap64 ((wrap64 (((rd_T27 l0 t301).f1) * (wrap64 ((wrap64 (((rd_T27 l0 (wrap64 (t301 + 1))).f0) - ((rd_T27 l0 t301).f0))) - (wrap64 (a1 - ((rd_T27 l0 t301).f0))))))) + (wrap64 (((rd_T27 l0 (wrap64 (t301 + 1))).f1) * (wrap64 (a1 - ((rd_T27 l0 t301).f0))))))) (wrap64 (((rd_T27 l0 (wrap64 (t301 + 1))).f0) - ((rd_T27 l0 t301).f0)))).bind fun t309 => (some (t309, 0))) else (none)) else (none))) else (none)) else (none))) else (some (0, 7)))) else (some (0, 1)))
theorem continuoref30_Period.mono : ∀ a0 a1 k, LeO (continuoref30_Period.f k a0 a1) (continuoref30_Period.f (k + 1) a0 a1) := by
 intro a0 a1 k
 unfold continuoref30_Period.f
 repeat' first
  | (with_reducible exact continuoref30_Valid.mono _ _)
  | (with_reducible exact continuoref30_at.mono _ _ _)
  | (with_reducible exact LeO.refl _)
  | (with_reducible exact LeO.none _)
  | (with_reducible refine LeO.ite ?_ ?_)
  | (with_reducible refine LeO.bind ?_ (fun _ => ?_))
  | exact continuoref30_Valid.mono _ _
  | exact continuoref30_at.mono _ _ _
  | exact LeO.none _
  | refine LeO.ite ?_ ?_
  | refine LeO.bind ?_ (fun _ => ?_)
set_option maxHeartbeats 8000000 in
set_option maxRecDepth 100000 in
theorem continuoref30_Period.calls (k : Nat) (A0 : Option Addr) (c0 : Nat) (l0 : List (S27)) (a1 : Int) (r1 : Int) (r2 : Int) (w : World) (hr0 : Kd.C k27 w A0 l0.length l0) (hc0 : l0.length ≤ c0) (h : continuoref30_Period.f k l0 a1 = some (r1, r2)) :
 Calls Try.prog 28 #[.slice A0 l0.length c0, .int .i64 a1] w fun e w' => e = .returned (.tuple #[.int .i64 r1, .int .i64 r2]) ∧ Below w.heap.size w w' := by
 have HR0 := Aside0.mk hr0
 have HC0 := Aside0.mk hc0
 clear hr0 hc0
 have HB := Aside0.mk (Below.refl w.heap.size w)
 have H : ((continuoref30_Valid.f k l0).bind fun t299 => (if t299 = true then ((continuoref30_time.f a1).bind fun t300 => (if t300 = true then ((continuoref30_at.f k l0 a1).bind fun t301 => (if 0 ≤ t301 then (if t301 < (l0.length : Int) then (if ((rd_T27 l0 t301).f2) = 0 then (some ((rd_T27 l0 t301).f1, 0)) else (if 0 ≤ (wrap64 (t301 + 1)) then (if (wrap64 (t301 + 1)) < (l0.length : Int) then ((continuoref30_Rounded.f (wrap64 ((wrap64 (((rd_T27 l0 t301).f1) * (wrap64 ((wrap64 (((rd_T27 l0 (wrap64 (t301 + 1))).f0) - ((rd_T27 l0 t301).f0))) - (wrap64 (a1 - ((rd_T27 l0 t301).f0))))))) + (wrap64 (((rd_T27 l0 (wrap64 (t301 + 1))).f1) * (wrap64 (a1 - ((rd_T27 l0 t301).f0))))))) (wrap64 (((rd_T27 l0 (wrap64 (t301 + 1))).f0) - ((rd_T27 l0 t301).f0)))).bind fun t309 => (some (t309, 0))) else (none)) else (none))) else (none)) else (none))) else (some (0, 7)))) else (some (0, 1)))) = some (r1, r2) := h
 clear h
 replace H := Option.bind_eq_some_iff.mp H
 obtain ⟨t299, A30, H⟩ := H
 replace H : (if t299 = true then ((continuoref30_time.f a1).bind fun t300 => (if t300 = true then ((continuoref30_at.f k l0 a1).bind fun t301 => (if 0 ≤ t301 then (if t301 < (l0.length : Int) then (if ((rd_T27 l0 t301).f2) = 0 then (some ((rd_T27 l0 t301).f1, 0)) else (if 0 ≤ (wrap64 (t301 + 1)) then (if (wrap64 (t301 + 1)) < (l0.length : Int) then ((continuoref30_Rounded.f (wrap64 ((wrap64 (((rd_T27 l0 t301).f1) * (wrap64 ((wrap64 (((rd_T27 l0 (wrap64 (t301 + 1))).f0) - ((rd_T27 l0 t301).f0))) - (wrap64 (a1 - ((rd_T27 l0 t301).f0))))))) + (wrap64 (((rd_T27 l0 (wrap64 (t301 + 1))).f1) * (wrap64 (a1 - ((rd_T27 l0 t301).f0))))))) (wrap64 (((rd_T27 l0 (wrap64 (t301 + 1))).f0) - ((rd_T27 l0 t301).f0)))).bind fun t309 => (some (t309, 0))) else (none)) else (none))) else (none)) else (none))) else (some (0, 7)))) else (some (0, 1))) = some (r1, r2) := H
 have A3 := Aside0.mk A30
 clear A30
 by_cases c4 : t299 = true
 · subst c4
   have H1 : ((continuoref30_time.f a1).bind fun t300 => (if t300 = true then ((continuoref30_at.f k l0 a1).bind fun t301 => (if 0 ≤ t301 then (if t301 < (l0.length : Int) then (if ((rd_T27 l0 t301).f2) = 0 then (some ((rd_T27 l0 t301).f1, 0)) else (if 0 ≤ (wrap64 (t301 + 1)) then (if (wrap64 (t301 + 1)) < (l0.length : Int) then ((continuoref30_Rounded.f (wrap64 ((wrap64 (((rd_T27 l0 t301).f1) * (wrap64 ((wrap64 (((rd_T27 l0 (wrap64 (t301 + 1))).f0) - ((rd_T27 l0 t301).f0))) - (wrap64 (a1 - ((rd_T27 l0 t301).f0))))))) + (wrap64 (((rd_T27 l0 (wrap64 (t301 + 1))).f1) * (wrap64 (a1 - ((rd_T27 l0 t301).f0))))))) (wrap64 (((rd_T27 l0 (wrap64 (t301 + 1))).f0) - ((rd_T27 l0 t301).f0)))).bind fun t309 => (some (t309, 0))) else (none)) else (none))) else (none)) else (none))) else (some (0, 7)))) = some (r1, r2) := by rw [if_pos rfl] at H; exact H
   clear H
   have H := H1
   clear H1
   replace H := Option.bind_eq_some_iff.mp H
   obtain ⟨t300, A50, H⟩ := H
   replace H : (if t300 = true then ((continuoref30_at.f k l0 a1).bind fun t301 => (if 0 ≤ t301 then (if t301 < (l0.length : Int) then (if ((rd_T27 l0 t301).f2) = 0 then (some ((rd_T27 l0 t301).f1, 0)) else (if 0 ≤ (wrap64 (t301 + 1)) then (if (wrap64 (t301 + 1)) < (l0.length : Int) then ((continuoref30_Rounded.f (wrap64 ((wrap64 (((rd_T27 l0 t301).f1) * (wrap64 ((wrap64 (((rd_T27 l0 (wrap64 (t301 + 1))).f0) - ((rd_T27 l0 t301).f0))) - (wrap64 (a1 - ((rd_T27 l0 t301).f0))))))) + (wrap64 (((rd_T27 l0 (wrap64 (t301 + 1))).f1) * (wrap64 (a1 - ((rd_T27 l0 t301).f0))))))) (wrap64 (((rd_T27 l0 (wrap64 (t301 + 1))).f0) - ((rd_T27 l0 t301).f0)))).bind fun t309 => (some (t309, 0))) else (none)) else (none))) else (none)) else (none))) else (some (0, 7))) = some (r1, r2) := H
   have A5 := Aside0.mk A50
   clear A50
   by_cases c6 : t300 = true
   · subst c6
     have H1 : ((continuoref30_at.f k l0 a1).bind fun t301 => (if 0 ≤ t301 then (if t301 < (l0.length : Int) then (if ((rd_T27 l0 t301).f2) = 0 then (some ((rd_T27 l0 t301).f1, 0)) else (if 0 ≤ (wrap64 (t301 + 1)) then (if (wrap64 (t301 + 1)) < (l0.length : Int) then ((continuoref30_Rounded.f (wrap64 ((wrap64 (((rd_T27 l0 t301).f1) * (wrap64 ((wrap64 (((rd_T27 l0 (wrap64 (t301 + 1))).f0) - ((rd_T27 l0 t301).f0))) - (wrap64 (a1 - ((rd_T27 l0 t301).f0))))))) + (wrap64 (((rd_T27 l0 (wrap64 (t301 + 1))).f1) * (wrap64 (a1 - ((rd_T27 l0 t301).f0))))))) (wrap64 (((rd_T27 l0 (wrap64 (t301 + 1))).f0) - ((rd_T27 l0 t301).f0)))).bind fun t309 => (some (t309, 0))) else (none)) else (none))) else (none)) else (none))) = some (r1, r2) := by rw [if_pos rfl] at H; exact H
     clear H
     have H := H1
     clear H1
     replace H := Option.bind_eq_some_iff.mp H
     obtain ⟨t301, A70, H⟩ := H
     replace H : (if 0 ≤ t301 then (if t301 < (l0.length : Int) then (if ((rd_T27 l0 t301).f2) = 0 then (some ((rd_T27 l0 t301).f1, 0)) else (if 0 ≤ (wrap64 (t301 + 1)) then (if (wrap64 (t301 + 1)) < (l0.length : Int) then ((continuoref30_Rounded.f (wrap64 ((wrap64 (((rd_T27 l0 t301).f1) * (wrap64 ((wrap64 (((rd_T27 l0 (wrap64 (t301 + 1))).f0) - ((rd_T27 l0 t301).f0))) - (wrap64 (a1 - ((rd_T27 l0 t301).f0))))))) + (wrap64 (((rd_T27 l0 (wrap64 (t301 + 1))).f1) * (wrap64 (a1 - ((rd_T27 l0 t301).f0))))))) (wrap64 (((rd_T27 l0 (wrap64 (t301 + 1))).f0) - ((rd_T27 l0 t301).f0)))).bind fun t309 => (some (t309, 0))) else (none)) else (none))) else (none)) else (none)) = some (r1, r2) := H
     have A7 := Aside0.mk A70
     clear A70
     by_cases c8 : 0 ≤ t301
     · rw [if_pos c8] at H
       have c8b0 : decide (0 ≤ t301) = true := decide_eq_true c8
       clear c8
       by_cases c9 : t301 < (l0.length : Int)
       · rw [if_pos c9] at H
         have c9b0 : decide (t301 < (l0.length : Int)) = true := decide_eq_true c9
         clear c9
         by_cases c10 : ((rd_T27 l0 t301).f2) = 0
         · rw [if_pos c10] at H
           have c10b0 : (((rd_T27 l0 t301).f2) == 0) = true := beq_iff_eq.mpr c10
           have c10b1 : (((rd_T27 l0 t301).f2) != 0) = false := bne_eq_false_iff_eq.mpr c10
           clear c10
           simp only [Option.some.injEq, Prod.mk.injEq] at H
           obtain ⟨rfl, rfl⟩ := H
           go_enter Try.func28, Try.ntmps28
           go_wp2_with (first | (go_at_call 11; (with_reducible refine (continuoref30_Valid.calls k _ _ l0 true _ ?side1 ?side2 A3.out).mono ?_); (case side1 => repeat (first | exact HR0.out | (with_reducible refine Kd.C_alloc ?_ _) | (with_reducible refine Kd.C_drewN ?_ _) | (with_reducible refine Kd.C_drew ?_))); (case side2 => exact HC0.out); rintro e w11 ⟨rfl, hb⟩; have n0_ := Aside0.mk (below_step (by repeat (first | (with_reducible first | exact HB.out | apply below_alloc | apply pw_below_drewN | apply below_drew1) | exact HB.out)) hb); clear HB; have HB := n0_; clear n0_; (try clear hb); (try clear hb2); (try clear hk); (try clear hi)) | (go_at_call 50; (with_reducible refine (continuoref30_time.calls a1 true _ A5.out).mono ?_); rintro e w' ⟨rfl, ⟨nd, rfl⟩⟩; (try first | exact ⟨rfl, _, World.drewN_drewN _ _ _⟩ | exact ⟨rfl, _, Eq.trans (World.drewN_drewN _ _ _) (congrArg (World.drewN _) (Nat.add_assoc _ _ _))⟩)) | (go_at_call 56; (with_reducible refine (continuoref30_at.calls k _ _ l0 a1 t301 _ ?side1 ?side2 A7.out).mono ?_); (case side1 => repeat (first | exact (Kd.C_below HR0.out (by repeat (first | (with_reducible first | exact HB.out | apply below_alloc | apply pw_below_drewN | apply below_drew1) | exact HB.out))) | (with_reducible refine Kd.C_alloc ?_ _) | (with_reducible refine Kd.C_drewN ?_ _) | (with_reducible refine Kd.C_drew ?_))); (case side2 => exact HC0.out); rintro e w' ⟨rfl, ⟨nd, rfl⟩⟩; (try first | exact ⟨rfl, _, World.drewN_drewN _ _ _⟩ | exact ⟨rfl, _, Eq.trans (World.drewN_drewN _ _ _) (congrArg (World.drewN _) (Nat.add_assoc _ _ _))⟩); have p302 : 0 ≤ (t301 : Int) := of_decide_eq_true (by first | (with_reducible assumption) | assumption); have q302 : t301 < (l0.length : Int) := of_decide_eq_true (by first | (with_reducible assumption) | assumption); obtain ⟨ad302, e302, hx302_0, hx302_1, hx302_2⟩ := at_T27 HR0.out t301 p302 q302; cases e302; replace hx302_0 := (HB.out.cell (World.block_lt_of_cell? w _ hx302_0)).trans hx302_0; replace hx302_1 := (HB.out.cell (World.block_lt_of_cell? w _ hx302_1)).trans hx302_1; replace hx302_2 := (HB.out.cell (World.block_lt_of_cell? w _ hx302_2)).trans hx302_2; replace p302 := eq_true p302; replace q302 := eq_true q302; have p303 : 0 ≤ (t301 : Int) := of_decide_eq_true (by first | (with_reducible assumption) | assumption); have q303 : t301 < (l0.length : Int) := of_decide_eq_true (by first | (with_reducible assumption) | assumption); obtain ⟨ad303, e303, hx303_0, hx303_1, hx303_2⟩ := at_T27 HR0.out t301 p303 q303; obtain rfl : ad302 = ad303 := (by injection e303); replace hx303_0 := (HB.out.cell (World.block_lt_of_cell? w _ hx303_0)).trans hx303_0; replace hx303_1 := (HB.out.cell (World.block_lt_of_cell? w _ hx303_1)).trans hx303_1; replace hx303_2 := (HB.out.cell (World.block_lt_of_cell? w _ hx303_2)).trans hx303_2; replace p303 := eq_true p303; replace q303 := eq_true q303))
           repeat (go_quiet (first | (go_at_call 11; (with_reducible refine (continuoref30_Valid.calls k _ _ l0 true _ ?side1 ?side2 A3.out).mono ?_); (case side1 => repeat (first | exact HR0.out | (with_reducible refine Kd.C_alloc ?_ _) | (with_reducible refine Kd.C_drewN ?_ _) | (with_reducible refine Kd.C_drew ?_))); (case side2 => exact HC0.out); rintro e w11 ⟨rfl, hb⟩; have n0_ := Aside0.mk (below_step (by repeat (first | (with_reducible first | exact HB.out | apply below_alloc | apply pw_below_drewN | apply below_drew1) | exact HB.out)) hb); clear HB; have HB := n0_; clear n0_; (try clear hb); (try clear hb2); (try clear hk); (try clear hi)) | (go_at_call 50; (with_reducible refine (continuoref30_time.calls a1 true _ A5.out).mono ?_); rintro e w' ⟨rfl, ⟨nd, rfl⟩⟩; (try first | exact ⟨rfl, _, World.drewN_drewN _ _ _⟩ | exact ⟨rfl, _, Eq.trans (World.drewN_drewN _ _ _) (congrArg (World.drewN _) (Nat.add_assoc _ _ _))⟩)) | (go_at_call 56; (with_reducible refine (continuoref30_at.calls k _ _ l0 a1 t301 _ ?side1 ?side2 A7.out).mono ?_); (case side1 => repeat (first | exact (Kd.C_below HR0.out (by repeat (first | (with_reducible first | exact HB.out | apply below_alloc | apply pw_below_drewN | apply below_drew1) | exact HB.out))) | (with_reducible refine Kd.C_alloc ?_ _) | (with_reducible refine Kd.C_drewN ?_ _) | (with_reducible refine Kd.C_drew ?_))); (case side2 => exact HC0.out); rintro e w' ⟨rfl, ⟨nd, rfl⟩⟩; (try first | exact ⟨rfl, _, World.drewN_drewN _ _ _⟩ | exact ⟨rfl, _, Eq.trans (World.drewN_drewN _ _ _) (congrArg (World.drewN _) (Nat.add_assoc _ _ _))⟩); have p302 : 0 ≤ (t301 : Int) := of_decide_eq_true (by first | (with_reducible assumption) | assumption); have q302 : t301 < (l0.length : Int) := of_decide_eq_true (by first | (with_reducible assumption) | assumption); obtain ⟨ad302, e302, hx302_0, hx302_1, hx302_2⟩ := at_T27 HR0.out t301 p302 q302; cases e302; replace hx302_0 := (HB.out.cell (World.block_lt_of_cell? w _ hx302_0)).trans hx302_0; replace hx302_1 := (HB.out.cell (World.block_lt_of_cell? w _ hx302_1)).trans hx302_1; replace hx302_2 := (HB.out.cell (World.block_lt_of_cell? w _ hx302_2)).trans hx302_2; replace p302 := eq_true p302; replace q302 := eq_true q302; have p303 : 0 ≤ (t301 : Int) := of_decide_eq_true (by first | (with_reducible assumption) | assumption); have q303 : t301 < (l0.length : Int) := of_decide_eq_true (by first | (with_reducible assumption) | assumption); obtain ⟨ad303, e303, hx303_0, hx303_1, hx303_2⟩ := at_T27 HR0.out t301 p303 q303; obtain rfl : ad302 = ad303 := (by injection e303); replace hx303_0 := (HB.out.cell (World.block_lt_of_cell? w _ hx303_0)).trans hx303_0; replace hx303_1 := (HB.out.cell (World.block_lt_of_cell? w _ hx303_1)).trans hx303_1; replace hx303_2 := (HB.out.cell (World.block_lt_of_cell? w _ hx303_2)).trans hx303_2; replace p303 := eq_true p303; replace q303 := eq_true q303)); try go_wp2_with (first | (go_at_call 11; (with_reducible refine (continuoref30_Valid.calls k _ _ l0 true _ ?side1 ?side2 A3.out).mono ?_); (case side1 => repeat (first | exact HR0.out | (with_reducible refine Kd.C_alloc ?_ _) | (with_reducible refine Kd.C_drewN ?_ _) | (with_reducible refine Kd.C_drew ?_))); (case side2 => exact HC0.out); rintro e w11 ⟨rfl, hb⟩; have n0_ := Aside0.mk (below_step (by repeat (first | (with_reducible first | exact HB.out | apply below_alloc | apply pw_below_drewN | apply below_drew1) | exact HB.out)) hb); clear HB; have HB := n0_; clear n0_; (try clear hb); (try clear hb2); (try clear hk); (try clear hi)) | (go_at_call 50; (with_reducible refine (continuoref30_time.calls a1 true _ A5.out).mono ?_); rintro e w' ⟨rfl, ⟨nd, rfl⟩⟩; (try first | exact ⟨rfl, _, World.drewN_drewN _ _ _⟩ | exact ⟨rfl, _, Eq.trans (World.drewN_drewN _ _ _) (congrArg (World.drewN _) (Nat.add_assoc _ _ _))⟩)) | (go_at_call 56; (with_reducible refine (continuoref30_at.calls k _ _ l0 a1 t301 _ ?side1 ?side2 A7.out).mono ?_); (case side1 => repeat (first | exact (Kd.C_below HR0.out (by repeat (first | (with_reducible first | exact HB.out | apply below_alloc | apply pw_below_drewN | apply below_drew1) | exact HB.out))) | (with_reducible refine Kd.C_alloc ?_ _) | (with_reducible refine Kd.C_drewN ?_ _) | (with_reducible refine Kd.C_drew ?_))); (case side2 => exact HC0.out); rintro e w' ⟨rfl, ⟨nd, rfl⟩⟩; (try first | exact ⟨rfl, _, World.drewN_drewN _ _ _⟩ | exact ⟨rfl, _, Eq.trans (World.drewN_drewN _ _ _) (congrArg (World.drewN _) (Nat.add_assoc _ _ _))⟩); have p302 : 0 ≤ (t301 : Int) := of_decide_eq_true (by first | (with_reducible assumption) | assumption); have q302 : t301 < (l0.length : Int) := of_decide_eq_true (by first | (with_reducible assumption) | assumption); obtain ⟨ad302, e302, hx302_0, hx302_1, hx302_2⟩ := at_T27 HR0.out t301 p302 q302; cases e302; replace hx302_0 := (HB.out.cell (World.block_lt_of_cell? w _ hx302_0)).trans hx302_0; replace hx302_1 := (HB.out.cell (World.block_lt_of_cell? w _ hx302_1)).trans hx302_1; replace hx302_2 := (HB.out.cell (World.block_lt_of_cell? w _ hx302_2)).trans hx302_2; replace p302 := eq_true p302; replace q302 := eq_true q302; have p303 : 0 ≤ (t301 : Int) := of_decide_eq_true (by first | (with_reducible assumption) | assumption); have q303 : t301 < (l0.length : Int) := of_decide_eq_true (by first | (with_reducible assumption) | assumption); obtain ⟨ad303, e303, hx303_0, hx303_1, hx303_2⟩ := at_T27 HR0.out t301 p303 q303; obtain rfl : ad302 = ad303 := (by injection e303); replace hx303_0 := (HB.out.cell (World.block_lt_of_cell? w _ hx303_0)).trans hx303_0; replace hx303_1 := (HB.out.cell (World.block_lt_of_cell? w _ hx303_1)).trans hx303_1; replace hx303_2 := (HB.out.cell (World.block_lt_of_cell? w _ hx303_2)).trans hx303_2; replace p303 := eq_true p303; replace q303 := eq_true q303)))
           go_ret2
           exact ⟨by first | rfl | (simp [errW_none, errW_some] <;> rfl) | (simp [*, errW_none, errW_some] <;> rfl), by repeat (first | (with_reducible first | exact HB.out | apply below_alloc | apply pw_below_drewN | apply below_drew1) | exact HB.out)⟩
         · rw [if_neg c10] at H
           have c10b0 : (((rd_T27 l0 t301).f2) == 0) = false := beq_eq_false_iff_ne.mpr c10
           have c10b1 : (((rd_T27 l0 t301).f2) != 0) = true := bne_iff_ne.mpr c10
           obtain ⟨ji12, hji12⟩ : ∃ j_ : Int, (wrap64 (t301 + 1)) = j_ := ⟨_, rfl⟩
           replace H : (if 0 ≤ (ji12) then (if (ji12) < (l0.length : Int) then ((continuoref30_Rounded.f (wrap64 ((wrap64 (((rd_T27 l0 t301).f1) * (wrap64 ((wrap64 (((rd_T27 l0 (ji12)).f0) - ((rd_T27 l0 t301).f0))) - (wrap64 (a1 - ((rd_T27 l0 t301).f0))))))) + (wrap64 (((rd_T27 l0 (ji12)).f1) * (wrap64 (a1 - ((rd_T27 l0 t301).f0))))))) (wrap64 (((rd_T27 l0 (ji12)).f0) - ((rd_T27 l0 t301).f0)))).bind fun t309 => (some (t309, 0))) else (none)) else (none)) = some (r1, r2) := by first | (rw [hji12] at H; exact H) | (simp only [hji12] at H ⊢; exact H)
           (try rw [hji12] at A3)
           (try rw [hji12] at A5)
           (try rw [hji12] at A7)
           have hji12w : (IntKind.i64.wrap (t301 + 1)) = ji12 := (i64_w _).trans hji12
           by_cases c13 : 0 ≤ (ji12)
           · rw [if_pos c13] at H
             have c13b0 : decide (0 ≤ (ji12)) = true := decide_eq_true c13
             clear c13
             by_cases c14 : (ji12) < (l0.length : Int)
             · rw [if_pos c14] at H
               have c14b0 : decide ((ji12) < (l0.length : Int)) = true := decide_eq_true c14
               clear c14
               replace H := Option.bind_eq_some_iff.mp H
               obtain ⟨t309, A150, H⟩ := H
               replace H : (some (t309, 0)) = some (r1, r2) := H
               have A15 := Aside0.mk A150
               clear A150
               simp only [Option.some.injEq, Prod.mk.injEq] at H
               obtain ⟨rfl, rfl⟩ := H
               go_enter Try.func28, Try.ntmps28
               go_wp2_with (first | (go_at_call 11; (with_reducible refine (continuoref30_Valid.calls k _ _ l0 true _ ?side1 ?side2 A3.out).mono ?_); (case side1 => repeat (first | exact HR0.out | (with_reducible refine Kd.C_alloc ?_ _) | (with_reducible refine Kd.C_drewN ?_ _) | (with_reducible refine Kd.C_drew ?_))); (case side2 => exact HC0.out); rintro e w16 ⟨rfl, hb⟩; have n0_ := Aside0.mk (below_step (by repeat (first | (with_reducible first | exact HB.out | apply below_alloc | apply pw_below_drewN | apply below_drew1) | exact HB.out)) hb); clear HB; have HB := n0_; clear n0_; (try clear hb); (try clear hb2); (try clear hk); (try clear hi)) | (go_at_call 50; (with_reducible refine (continuoref30_time.calls a1 true _ A5.out).mono ?_); rintro e w' ⟨rfl, ⟨nd, rfl⟩⟩; (try first | exact ⟨rfl, _, World.drewN_drewN _ _ _⟩ | exact ⟨rfl, _, Eq.trans (World.drewN_drewN _ _ _) (congrArg (World.drewN _) (Nat.add_assoc _ _ _))⟩)) | (go_at_call 56; (with_reducible refine (continuoref30_at.calls k _ _ l0 a1 t301 _ ?side1 ?side2 A7.out).mono ?_); (case side1 => repeat (first | exact (Kd.C_below HR0.out (by repeat (first | (with_reducible first | exact HB.out | apply below_alloc | apply pw_below_drewN | apply below_drew1) | exact HB.out))) | (with_reducible refine Kd.C_alloc ?_ _) | (with_reducible refine Kd.C_drewN ?_ _) | (with_reducible refine Kd.C_drew ?_))); (case side2 => exact HC0.out); rintro e w' ⟨rfl, ⟨nd, rfl⟩⟩; (try first | exact ⟨rfl, _, World.drewN_drewN _ _ _⟩ | exact ⟨rfl, _, Eq.trans (World.drewN_drewN _ _ _) (congrArg (World.drewN _) (Nat.add_assoc _ _ _))⟩); have p302 : 0 ≤ (t301 : Int) := of_decide_eq_true (by first | (with_reducible assumption) | assumption); have q302 : t301 < (l0.length : Int) := of_decide_eq_true (by first | (with_reducible assumption) | assumption); obtain ⟨ad302, e302, hx302_0, hx302_1, hx302_2⟩ := at_T27 HR0.out t301 p302 q302; cases e302; replace hx302_0 := (HB.out.cell (World.block_lt_of_cell? w _ hx302_0)).trans hx302_0; replace hx302_1 := (HB.out.cell (World.block_lt_of_cell? w _ hx302_1)).trans hx302_1; replace hx302_2 := (HB.out.cell (World.block_lt_of_cell? w _ hx302_2)).trans hx302_2; replace p302 := eq_true p302; replace q302 := eq_true q302; have p304 : 0 ≤ ((ji12) : Int) := of_decide_eq_true (by first | (with_reducible assumption) | assumption); have q304 : (ji12) < (l0.length : Int) := of_decide_eq_true (by first | (with_reducible assumption) | assumption); obtain ⟨ad304, e304, hx304_0, hx304_1, hx304_2⟩ := at_T27 HR0.out (ji12) p304 q304; obtain rfl : ad302 = ad304 := (by injection e304); replace hx304_0 := (HB.out.cell (World.block_lt_of_cell? w _ hx304_0)).trans hx304_0; replace hx304_1 := (HB.out.cell (World.block_lt_of_cell? w _ hx304_1)).trans hx304_1; replace hx304_2 := (HB.out.cell (World.block_lt_of_cell? w _ hx304_2)).trans hx304_2; replace p304 := eq_true p304; replace q304 := eq_true q304; have p305 : 0 ≤ (t301 : Int) := of_decide_eq_true (by first | (with_reducible assumption) | assumption); have q305 : t301 < (l0.length : Int) := of_decide_eq_true (by first | (with_reducible assumption) | assumption); obtain ⟨ad305, e305, hx305_0, hx305_1, hx305_2⟩ := at_T27 HR0.out t301 p305 q305; obtain rfl : ad302 = ad305 := (by injection e305); replace hx305_0 := (HB.out.cell (World.block_lt_of_cell? w _ hx305_0)).trans hx305_0; replace hx305_1 := (HB.out.cell (World.block_lt_of_cell? w _ hx305_1)).trans hx305_1; replace hx305_2 := (HB.out.cell (World.block_lt_of_cell? w _ hx305_2)).trans hx305_2; replace p305 := eq_true p305; replace q305 := eq_true q305; have p306 : 0 ≤ (t301 : Int) := of_decide_eq_true (by first | (with_reducible assumption) | assumption); have q306 : t301 < (l0.length : Int) := of_decide_eq_true (by first | (with_reducible assumption) | assumption); obtain ⟨ad306, e306, hx306_0, hx306_1, hx306_2⟩ := at_T27 HR0.out t301 p306 q306; obtain rfl : ad302 = ad306 := (by injection e306); replace hx306_0 := (HB.out.cell (World.block_lt_of_cell? w _ hx306_0)).trans hx306_0; replace hx306_1 := (HB.out.cell (World.block_lt_of_cell? w _ hx306_1)).trans hx306_1; replace hx306_2 := (HB.out.cell (World.block_lt_of_cell? w _ hx306_2)).trans hx306_2; replace p306 := eq_true p306; replace q306 := eq_true q306; have p307 : 0 ≤ (t301 : Int) := of_decide_eq_true (by first | (with_reducible assumption) | assumption); have q307 : t301 < (l0.length : Int) := of_decide_eq_true (by first | (with_reducible assumption) | assumption); obtain ⟨ad307, e307, hx307_0, hx307_1, hx307_2⟩ := at_T27 HR0.out t301 p307 q307; obtain rfl : ad302 = ad307 := (by injection e307); replace hx307_0 := (HB.out.cell (World.block_lt_of_cell? w _ hx307_0)).trans hx307_0; replace hx307_1 := (HB.out.cell (World.block_lt_of_cell? w _ hx307_1)).trans hx307_1; replace hx307_2 := (HB.out.cell (World.block_lt_of_cell? w _ hx307_2)).trans hx307_2; replace p307 := eq_true p307; replace q307 := eq_true q307; have p308 : 0 ≤ ((ji12) : Int) := of_decide_eq_true (by first | (with_reducible assumption) | assumption); have q308 : (ji12) < (l0.length : Int) := of_decide_eq_true (by first | (with_reducible assumption) | assumption); obtain ⟨ad308, e308, hx308_0, hx308_1, hx308_2⟩ := at_T27 HR0.out (ji12) p308 q308; obtain rfl : ad302 = ad308 := (by injection e308); replace hx308_0 := (HB.out.cell (World.block_lt_of_cell? w _ hx308_0)).trans hx308_0; replace hx308_1 := (HB.out.cell (World.block_lt_of_cell? w _ hx308_1)).trans hx308_1; replace hx308_2 := (HB.out.cell (World.block_lt_of_cell? w _ hx308_2)).trans hx308_2; replace p308 := eq_true p308; replace q308 := eq_true q308) | (go_at_call 45; (with_reducible refine (continuoref30_Rounded.calls (wrap64 ((wrap64 (((rd_T27 l0 t301).f1) * (wrap64 ((wrap64 (((rd_T27 l0 (ji12)).f0) - ((rd_T27 l0 t301).f0))) - (wrap64 (a1 - ((rd_T27 l0 t301).f0))))))) + (wrap64 (((rd_T27 l0 (ji12)).f1) * (wrap64 (a1 - ((rd_T27 l0 t301).f0))))))) (wrap64 (((rd_T27 l0 (ji12)).f0) - ((rd_T27 l0 t301).f0))) t309 _ A15.out).mono ?_); rintro e w' ⟨rfl, ⟨nd, rfl⟩⟩; (try first | exact ⟨rfl, _, World.drewN_drewN _ _ _⟩ | exact ⟨rfl, _, Eq.trans (World.drewN_drewN _ _ _) (congrArg (World.drewN _) (Nat.add_assoc _ _ _))⟩)))
               repeat (go_quiet (first | (go_at_call 11; (with_reducible refine (continuoref30_Valid.calls k _ _ l0 true _ ?side1 ?side2 A3.out).mono ?_); (case side1 => repeat (first | exact HR0.out | (with_reducible refine Kd.C_alloc ?_ _) | (with_reducible refine Kd.C_drewN ?_ _) | (with_reducible refine Kd.C_drew ?_))); (case side2 => exact HC0.out); rintro e w16 ⟨rfl, hb⟩; have n0_ := Aside0.mk (below_step (by repeat (first | (with_reducible first | exact HB.out | apply below_alloc | apply pw_below_drewN | apply below_drew1) | exact HB.out)) hb); clear HB; have HB := n0_; clear n0_; (try clear hb); (try clear hb2); (try clear hk); (try clear hi)) | (go_at_call 50; (with_reducible refine (continuoref30_time.calls a1 true _ A5.out).mono ?_); rintro e w' ⟨rfl, ⟨nd, rfl⟩⟩; (try first | exact ⟨rfl, _, World.drewN_drewN _ _ _⟩ | exact ⟨rfl, _, Eq.trans (World.drewN_drewN _ _ _) (congrArg (World.drewN _) (Nat.add_assoc _ _ _))⟩)) | (go_at_call 56; (with_reducible refine (continuoref30_at.calls k _ _ l0 a1 t301 _ ?side1 ?side2 A7.out).mono ?_); (case side1 => repeat (first | exact (Kd.C_below HR0.out (by repeat (first | (with_reducible first | exact HB.out | apply below_alloc | apply pw_below_drewN | apply below_drew1) | exact HB.out))) | (with_reducible refine Kd.C_alloc ?_ _) | (with_reducible refine Kd.C_drewN ?_ _) | (with_reducible refine Kd.C_drew ?_))); (case side2 => exact HC0.out); rintro e w' ⟨rfl, ⟨nd, rfl⟩⟩; (try first | exact ⟨rfl, _, World.drewN_drewN _ _ _⟩ | exact ⟨rfl, _, Eq.trans (World.drewN_drewN _ _ _) (congrArg (World.drewN _) (Nat.add_assoc _ _ _))⟩); have p302 : 0 ≤ (t301 : Int) := of_decide_eq_true (by first | (with_reducible assumption) | assumption); have q302 : t301 < (l0.length : Int) := of_decide_eq_true (by first | (with_reducible assumption) | assumption); obtain ⟨ad302, e302, hx302_0, hx302_1, hx302_2⟩ := at_T27 HR0.out t301 p302 q302; cases e302; replace hx302_0 := (HB.out.cell (World.block_lt_of_cell? w _ hx302_0)).trans hx302_0; replace hx302_1 := (HB.out.cell (World.block_lt_of_cell? w _ hx302_1)).trans hx302_1; replace hx302_2 := (HB.out.cell (World.block_lt_of_cell? w _ hx302_2)).trans hx302_2; replace p302 := eq_true p302; replace q302 := eq_true q302; have p304 : 0 ≤ ((ji12) : Int) := of_decide_eq_true (by first | (with_reducible assumption) | assumption); have q304 : (ji12) < (l0.length : Int) := of_decide_eq_true (by first | (with_reducible assumption) | assumption); obtain ⟨ad304, e304, hx304_0, hx304_1, hx304_2⟩ := at_T27 HR0.out (ji12) p304 q304; obtain rfl : ad302 = ad304 := (by injection e304); replace hx304_0 := (HB.out.cell (World.block_lt_of_cell? w _ hx304_0)).trans hx304_0; replace hx304_1 := (HB.out.cell (World.block_lt_of_cell? w _ hx304_1)).trans hx304_1; replace hx304_2 := (HB.out.cell (World.block_lt_of_cell? w _ hx304_2)).trans hx304_2; replace p304 := eq_true p304; replace q304 := eq_true q304; have p305 : 0 ≤ (t301 : Int) := of_decide_eq_true (by first | (with_reducible assumption) | assumption); have q305 : t301 < (l0.length : Int) := of_decide_eq_true (by first | (with_reducible assumption) | assumption); obtain ⟨ad305, e305, hx305_0, hx305_1, hx305_2⟩ := at_T27 HR0.out t301 p305 q305; obtain rfl : ad302 = ad305 := (by injection e305); replace hx305_0 := (HB.out.cell (World.block_lt_of_cell? w _ hx305_0)).trans hx305_0; replace hx305_1 := (HB.out.cell (World.block_lt_of_cell? w _ hx305_1)).trans hx305_1; replace hx305_2 := (HB.out.cell (World.block_lt_of_cell? w _ hx305_2)).trans hx305_2; replace p305 := eq_true p305; replace q305 := eq_true q305; have p306 : 0 ≤ (t301 : Int) := of_decide_eq_true (by first | (with_reducible assumption) | assumption); have q306 : t301 < (l0.length : Int) := of_decide_eq_true (by first | (with_reducible assumption) | assumption); obtain ⟨ad306, e306, hx306_0, hx306_1, hx306_2⟩ := at_T27 HR0.out t301 p306 q306; obtain rfl : ad302 = ad306 := (by injection e306); replace hx306_0 := (HB.out.cell (World.block_lt_of_cell? w _ hx306_0)).trans hx306_0; replace hx306_1 := (HB.out.cell (World.block_lt_of_cell? w _ hx306_1)).trans hx306_1; replace hx306_2 := (HB.out.cell (World.block_lt_of_cell? w _ hx306_2)).trans hx306_2; replace p306 := eq_true p306; replace q306 := eq_true q306; have p307 : 0 ≤ (t301 : Int) := of_decide_eq_true (by first | (with_reducible assumption) | assumption); have q307 : t301 < (l0.length : Int) := of_decide_eq_true (by first | (with_reducible assumption) | assumption); obtain ⟨ad307, e307, hx307_0, hx307_1, hx307_2⟩ := at_T27 HR0.out t301 p307 q307; obtain rfl : ad302 = ad307 := (by injection e307); replace hx307_0 := (HB.out.cell (World.block_lt_of_cell? w _ hx307_0)).trans hx307_0; replace hx307_1 := (HB.out.cell (World.block_lt_of_cell? w _ hx307_1)).trans hx307_1; replace hx307_2 := (HB.out.cell (World.block_lt_of_cell? w _ hx307_2)).trans hx307_2; replace p307 := eq_true p307; replace q307 := eq_true q307; have p308 : 0 ≤ ((ji12) : Int) := of_decide_eq_true (by first | (with_reducible assumption) | assumption); have q308 : (ji12) < (l0.length : Int) := of_decide_eq_true (by first | (with_reducible assumption) | assumption); obtain ⟨ad308, e308, hx308_0, hx308_1, hx308_2⟩ := at_T27 HR0.out (ji12) p308 q308; obtain rfl : ad302 = ad308 := (by injection e308); replace hx308_0 := (HB.out.cell (World.block_lt_of_cell? w _ hx308_0)).trans hx308_0; replace hx308_1 := (HB.out.cell (World.block_lt_of_cell? w _ hx308_1)).trans hx308_1; replace hx308_2 := (HB.out.cell (World.block_lt_of_cell? w _ hx308_2)).trans hx308_2; replace p308 := eq_true p308; replace q308 := eq_true q308) | (go_at_call 45; (with_reducible refine (continuoref30_Rounded.calls (wrap64 ((wrap64 (((rd_T27 l0 t301).f1) * (wrap64 ((wrap64 (((rd_T27 l0 (ji12)).f0) - ((rd_T27 l0 t301).f0))) - (wrap64 (a1 - ((rd_T27 l0 t301).f0))))))) + (wrap64 (((rd_T27 l0 (ji12)).f1) * (wrap64 (a1 - ((rd_T27 l0 t301).f0))))))) (wrap64 (((rd_T27 l0 (ji12)).f0) - ((rd_T27 l0 t301).f0))) t309 _ A15.out).mono ?_); rintro e w' ⟨rfl, ⟨nd, rfl⟩⟩; (try first | exact ⟨rfl, _, World.drewN_drewN _ _ _⟩ | exact ⟨rfl, _, Eq.trans (World.drewN_drewN _ _ _) (congrArg (World.drewN _) (Nat.add_assoc _ _ _))⟩))); try go_wp2_with (first | (go_at_call 11; (with_reducible refine (continuoref30_Valid.calls k _ _ l0 true _ ?side1 ?side2 A3.out).mono ?_); (case side1 => repeat (first | exact HR0.out | (with_reducible refine Kd.C_alloc ?_ _) | (with_reducible refine Kd.C_drewN ?_ _) | (with_reducible refine Kd.C_drew ?_))); (case side2 => exact HC0.out); rintro e w16 ⟨rfl, hb⟩; have n0_ := Aside0.mk (below_step (by repeat (first | (with_reducible first | exact HB.out | apply below_alloc | apply pw_below_drewN | apply below_drew1) | exact HB.out)) hb); clear HB; have HB := n0_; clear n0_; (try clear hb); (try clear hb2); (try clear hk); (try clear hi)) | (go_at_call 50; (with_reducible refine (continuoref30_time.calls a1 true _ A5.out).mono ?_); rintro e w' ⟨rfl, ⟨nd, rfl⟩⟩; (try first | exact ⟨rfl, _, World.drewN_drewN _ _ _⟩ | exact ⟨rfl, _, Eq.trans (World.drewN_drewN _ _ _) (congrArg (World.drewN _) (Nat.add_assoc _ _ _))⟩)) | (go_at_call 56; (with_reducible refine (continuoref30_at.calls k _ _ l0 a1 t301 _ ?side1 ?side2 A7.out).mono ?_); (case side1 => repeat (first | exact (Kd.C_below HR0.out (by repeat (first | (with_reducible first | exact HB.out | apply below_alloc | apply pw_below_drewN | apply below_drew1) | exact HB.out))) | (with_reducible refine Kd.C_alloc ?_ _) | (with_reducible refine Kd.C_drewN ?_ _) | (with_reducible refine Kd.C_drew ?_))); (case side2 => exact HC0.out); rintro e w' ⟨rfl, ⟨nd, rfl⟩⟩; (try first | exact ⟨rfl, _, World.drewN_drewN _ _ _⟩ | exact ⟨rfl, _, Eq.trans (World.drewN_drewN _ _ _) (congrArg (World.drewN _) (Nat.add_assoc _ _ _))⟩); have p302 : 0 ≤ (t301 : Int) := of_decide_eq_true (by first | (with_reducible assumption) | assumption); have q302 : t301 < (l0.length : Int) := of_decide_eq_true (by first | (with_reducible assumption) | assumption); obtain ⟨ad302, e302, hx302_0, hx302_1, hx302_2⟩ := at_T27 HR0.out t301 p302 q302; cases e302; replace hx302_0 := (HB.out.cell (World.block_lt_of_cell? w _ hx302_0)).trans hx302_0; replace hx302_1 := (HB.out.cell (World.block_lt_of_cell? w _ hx302_1)).trans hx302_1; replace hx302_2 := (HB.out.cell (World.block_lt_of_cell? w _ hx302_2)).trans hx302_2; replace p302 := eq_true p302; replace q302 := eq_true q302; have p304 : 0 ≤ ((ji12) : Int) := of_decide_eq_true (by first | (with_reducible assumption) | assumption); have q304 : (ji12) < (l0.length : Int) := of_decide_eq_true (by first | (with_reducible assumption) | assumption); obtain ⟨ad304, e304, hx304_0, hx304_1, hx304_2⟩ := at_T27 HR0.out (ji12) p304 q304; obtain rfl : ad302 = ad304 := (by injection e304); replace hx304_0 := (HB.out.cell (World.block_lt_of_cell? w _ hx304_0)).trans hx304_0; replace hx304_1 := (HB.out.cell (World.block_lt_of_cell? w _ hx304_1)).trans hx304_1; replace hx304_2 := (HB.out.cell (World.block_lt_of_cell? w _ hx304_2)).trans hx304_2; replace p304 := eq_true p304; replace q304 := eq_true q304; have p305 : 0 ≤ (t301 : Int) := of_decide_eq_true (by first | (with_reducible assumption) | assumption); have q305 : t301 < (l0.length : Int) := of_decide_eq_true (by first | (with_reducible assumption) | assumption); obtain ⟨ad305, e305, hx305_0, hx305_1, hx305_2⟩ := at_T27 HR0.out t301 p305 q305; obtain rfl : ad302 = ad305 := (by injection e305); replace hx305_0 := (HB.out.cell (World.block_lt_of_cell? w _ hx305_0)).trans hx305_0; replace hx305_1 := (HB.out.cell (World.block_lt_of_cell? w _ hx305_1)).trans hx305_1; replace hx305_2 := (HB.out.cell (World.block_lt_of_cell? w _ hx305_2)).trans hx305_2; replace p305 := eq_true p305; replace q305 := eq_true q305; have p306 : 0 ≤ (t301 : Int) := of_decide_eq_true (by first | (with_reducible assumption) | assumption); have q306 : t301 < (l0.length : Int) := of_decide_eq_true (by first | (with_reducible assumption) | assumption); obtain ⟨ad306, e306, hx306_0, hx306_1, hx306_2⟩ := at_T27 HR0.out t301 p306 q306; obtain rfl : ad302 = ad306 := (by injection e306); replace hx306_0 := (HB.out.cell (World.block_lt_of_cell? w _ hx306_0)).trans hx306_0; replace hx306_1 := (HB.out.cell (World.block_lt_of_cell? w _ hx306_1)).trans hx306_1; replace hx306_2 := (HB.out.cell (World.block_lt_of_cell? w _ hx306_2)).trans hx306_2; replace p306 := eq_true p306; replace q306 := eq_true q306; have p307 : 0 ≤ (t301 : Int) := of_decide_eq_true (by first | (with_reducible assumption) | assumption); have q307 : t301 < (l0.length : Int) := of_decide_eq_true (by first | (with_reducible assumption) | assumption); obtain ⟨ad307, e307, hx307_0, hx307_1, hx307_2⟩ := at_T27 HR0.out t301 p307 q307; obtain rfl : ad302 = ad307 := (by injection e307); replace hx307_0 := (HB.out.cell (World.block_lt_of_cell? w _ hx307_0)).trans hx307_0; replace hx307_1 := (HB.out.cell (World.block_lt_of_cell? w _ hx307_1)).trans hx307_1; replace hx307_2 := (HB.out.cell (World.block_lt_of_cell? w _ hx307_2)).trans hx307_2; replace p307 := eq_true p307; replace q307 := eq_true q307; have p308 : 0 ≤ ((ji12) : Int) := of_decide_eq_true (by first | (with_reducible assumption) | assumption); have q308 : (ji12) < (l0.length : Int) := of_decide_eq_true (by first | (with_reducible assumption) | assumption); obtain ⟨ad308, e308, hx308_0, hx308_1, hx308_2⟩ := at_T27 HR0.out (ji12) p308 q308; obtain rfl : ad302 = ad308 := (by injection e308); replace hx308_0 := (HB.out.cell (World.block_lt_of_cell? w _ hx308_0)).trans hx308_0; replace hx308_1 := (HB.out.cell (World.block_lt_of_cell? w _ hx308_1)).trans hx308_1; replace hx308_2 := (HB.out.cell (World.block_lt_of_cell? w _ hx308_2)).trans hx308_2; replace p308 := eq_true p308; replace q308 := eq_true q308) | (go_at_call 45; (with_reducible refine (continuoref30_Rounded.calls (wrap64 ((wrap64 (((rd_T27 l0 t301).f1) * (wrap64 ((wrap64 (((rd_T27 l0 (ji12)).f0) - ((rd_T27 l0 t301).f0))) - (wrap64 (a1 - ((rd_T27 l0 t301).f0))))))) + (wrap64 (((rd_T27 l0 (ji12)).f1) * (wrap64 (a1 - ((rd_T27 l0 t301).f0))))))) (wrap64 (((rd_T27 l0 (ji12)).f0) - ((rd_T27 l0 t301).f0))) t309 _ A15.out).mono ?_); rintro e w' ⟨rfl, ⟨nd, rfl⟩⟩; (try first | exact ⟨rfl, _, World.drewN_drewN _ _ _⟩ | exact ⟨rfl, _, Eq.trans (World.drewN_drewN _ _ _) (congrArg (World.drewN _) (Nat.add_assoc _ _ _))⟩))))
               go_ret2
               exact ⟨by first | rfl | (simp [errW_none, errW_some] <;> rfl) | (simp only [← hji12]; first | rfl | (simp [errW_none, errW_some] <;> rfl)) | (simp [*, errW_none, errW_some] <;> rfl), by repeat (first | (with_reducible first | exact HB.out | apply below_alloc | apply pw_below_drewN | apply below_drew1) | exact HB.out)⟩
             · rw [if_neg c14] at H
               exact absurd H (by simp)
           · rw [if_neg c13] at H
             exact absurd H (by simp)
       · rw [if_neg c9] at H
         exact absurd H (by simp)
     · rw [if_neg c8] at H
       exact absurd H (by simp)
   · replace c6 := Bool.eq_false_iff.mpr c6
     subst c6
     have H1 : (some (0, 7)) = some (r1, r2) := by rw [if_neg (show ¬ (false = true) by decide)] at H; exact H
     clear H
     have H := H1
     clear H1
     simp only [Option.some.injEq, Prod.mk.injEq] at H
     obtain ⟨rfl, rfl⟩ := H
     go_enter Try.func28, Try.ntmps28
     go_wp2_with (first | (go_at_call 11; (with_reducible refine (continuoref30_Valid.calls k _ _ l0 true _ ?side1 ?side2 A3.out).mono ?_); (case side1 => repeat (first | exact HR0.out | (with_reducible refine Kd.C_alloc ?_ _) | (with_reducible refine Kd.C_drewN ?_ _) | (with_reducible refine Kd.C_drew ?_))); (case side2 => exact HC0.out); rintro e w17 ⟨rfl, hb⟩; have n0_ := Aside0.mk (below_step (by repeat (first | (with_reducible first | exact HB.out | apply below_alloc | apply pw_below_drewN | apply below_drew1) | exact HB.out)) hb); clear HB; have HB := n0_; clear n0_; (try clear hb); (try clear hb2); (try clear hk); (try clear hi)) | (go_at_call 50; (with_reducible refine (continuoref30_time.calls a1 false _ A5.out).mono ?_); rintro e w' ⟨rfl, ⟨nd, rfl⟩⟩; (try first | exact ⟨rfl, _, World.drewN_drewN _ _ _⟩ | exact ⟨rfl, _, Eq.trans (World.drewN_drewN _ _ _) (congrArg (World.drewN _) (Nat.add_assoc _ _ _))⟩)))
     repeat (go_quiet (first | (go_at_call 11; (with_reducible refine (continuoref30_Valid.calls k _ _ l0 true _ ?side1 ?side2 A3.out).mono ?_); (case side1 => repeat (first | exact HR0.out | (with_reducible refine Kd.C_alloc ?_ _) | (with_reducible refine Kd.C_drewN ?_ _) | (with_reducible refine Kd.C_drew ?_))); (case side2 => exact HC0.out); rintro e w17 ⟨rfl, hb⟩; have n0_ := Aside0.mk (below_step (by repeat (first | (with_reducible first | exact HB.out | apply below_alloc | apply pw_below_drewN | apply below_drew1) | exact HB.out)) hb); clear HB; have HB := n0_; clear n0_; (try clear hb); (try clear hb2); (try clear hk); (try clear hi)) | (go_at_call 50; (with_reducible refine (continuoref30_time.calls a1 false _ A5.out).mono ?_); rintro e w' ⟨rfl, ⟨nd, rfl⟩⟩; (try first | exact ⟨rfl, _, World.drewN_drewN _ _ _⟩ | exact ⟨rfl, _, Eq.trans (World.drewN_drewN _ _ _) (congrArg (World.drewN _) (Nat.add_assoc _ _ _))⟩))); try go_wp2_with (first | (go_at_call 11; (with_reducible refine (continuoref30_Valid.calls k _ _ l0 true _ ?side1 ?side2 A3.out).mono ?_); (case side1 => repeat (first | exact HR0.out | (with_reducible refine Kd.C_alloc ?_ _) | (with_reducible refine Kd.C_drewN ?_ _) | (with_reducible refine Kd.C_drew ?_))); (case side2 => exact HC0.out); rintro e w17 ⟨rfl, hb⟩; have n0_ := Aside0.mk (below_step (by repeat (first | (with_reducible first | exact HB.out | apply below_alloc | apply pw_below_drewN | apply below_drew1) | exact HB.out)) hb); clear HB; have HB := n0_; clear n0_; (try clear hb); (try clear hb2); (try clear hk); (try clear hi)) | (go_at_call 50; (with_reducible refine (continuoref30_time.calls a1 false _ A5.out).mono ?_); rintro e w' ⟨rfl, ⟨nd, rfl⟩⟩; (try first | exact ⟨rfl, _, World.drewN_drewN _ _ _⟩ | exact ⟨rfl, _, Eq.trans (World.drewN_drewN _ _ _) (congrArg (World.drewN _) (Nat.add_assoc _ _ _))⟩))))
     go_ret2
     exact ⟨by first | rfl | (simp [errW_none, errW_some] <;> rfl) | (simp [*, errW_none, errW_some] <;> rfl), by repeat (first | (with_reducible first | exact HB.out | apply below_alloc | apply pw_below_drewN | apply below_drew1) | exact HB.out)⟩
 · replace c4 := Bool.eq_false_iff.mpr c4
   subst c4
   have H1 : (some (0, 1)) = some (r1, r2) := by rw [if_neg (show ¬ (false = true) by decide)] at H; exact H
   clear H
   have H := H1
   clear H1
   simp only [Option.some.injEq, Prod.mk.injEq] at H
   obtain ⟨rfl, rfl⟩ := H
   go_enter Try.func28, Try.ntmps28
   go_wp2_with (first | (go_at_call 11; (with_reducible refine (continuoref30_Valid.calls k _ _ l0 false _ ?side1 ?side2 A3.out).mono ?_); (case side1 => repeat (first | exact HR0.out | (with_reducible refine Kd.C_alloc ?_ _) | (with_reducible refine Kd.C_drewN ?_ _) | (with_reducible refine Kd.C_drew ?_))); (case side2 => exact HC0.out); rintro e w18 ⟨rfl, hb⟩; have n0_ := Aside0.mk (below_step (by repeat (first | (with_reducible first | exact HB.out | apply below_alloc | apply pw_below_drewN | apply below_drew1) | exact HB.out)) hb); clear HB; have HB := n0_; clear n0_; (try clear hb); (try clear hb2); (try clear hk); (try clear hi)))
   repeat (go_quiet (first | (go_at_call 11; (with_reducible refine (continuoref30_Valid.calls k _ _ l0 false _ ?side1 ?side2 A3.out).mono ?_); (case side1 => repeat (first | exact HR0.out | (with_reducible refine Kd.C_alloc ?_ _) | (with_reducible refine Kd.C_drewN ?_ _) | (with_reducible refine Kd.C_drew ?_))); (case side2 => exact HC0.out); rintro e w18 ⟨rfl, hb⟩; have n0_ := Aside0.mk (below_step (by repeat (first | (with_reducible first | exact HB.out | apply below_alloc | apply pw_below_drewN | apply below_drew1) | exact HB.out)) hb); clear HB; have HB := n0_; clear n0_; (try clear hb); (try clear hb2); (try clear hk); (try clear hi))); try go_wp2_with (first | (go_at_call 11; (with_reducible refine (continuoref30_Valid.calls k _ _ l0 false _ ?side1 ?side2 A3.out).mono ?_); (case side1 => repeat (first | exact HR0.out | (with_reducible refine Kd.C_alloc ?_ _) | (with_reducible refine Kd.C_drewN ?_ _) | (with_reducible refine Kd.C_drew ?_))); (case side2 => exact HC0.out); rintro e w18 ⟨rfl, hb⟩; have n0_ := Aside0.mk (below_step (by repeat (first | (with_reducible first | exact HB.out | apply below_alloc | apply pw_below_drewN | apply below_drew1) | exact HB.out)) hb); clear HB; have HB := n0_; clear n0_; (try clear hb); (try clear hb2); (try clear hk); (try clear hi))))
   go_ret2
   exact ⟨by first | rfl | (simp [errW_none, errW_some] <;> rfl) | (simp [*, errW_none, errW_some] <;> rfl), by repeat (first | (with_reducible first | exact HB.out | apply below_alloc | apply pw_below_drewN | apply below_drew1) | exact HB.out)⟩
end Go.Proofs.Ytomlfbmfdoallaa.PA



namespace Go.Proofs.Ytomlfbmfdoallaa.PA
open Go.RowKit Go.Proofs.YtomlfbmfdoallaaW.PrintWords Go.Proofs.YtomlfbmfdoallaaW.PrintLast Go.Proofs.YtomlfbmfdoallaaW.PrintMore
attribute [local go_sem] max2_int min2_int max_two min_two max_three min_three max_four min_four
set_option linter.unusedVariables false
set_option linter.unusedSimpArgs false
def continuoref30_Frame.j0 : Nat → List (S27) → Int → Int → Bool → Option (Int × Int)
 | 0, _, _, _, _ => none
 | k + 1, x0, x1, x2, x19 => if x19 = true then (some (0, 7)) else ((continuoref30_frame.f k x0 x1 x2).bind fun t289 => (if t289 > 1000000000 then (some (0, 7)) else (some (t289, 0))))
def continuoref30_Frame.f (k : Nat) (l0 : List (S27)) (a1 : Int) (a2 : Int) : Option (Int × Int) := (continuoref30_Valid.f k l0).bind fun t286 => (if t286 = true then ((continuoref30_time.f a1).bind fun t287 => (if t287 = true then ((continuoref30_time.f a2).bind fun t288 => (continuoref30_Frame.j0 k l0 a1 a2 (!t288))) else (continuoref30_Frame.j0 k l0 a1 a2 true))) else (some (0, 1)))
theorem continuoref30_Frame.mono_l : ∀ k, (∀ y0 y1 y2 y3, LeO (continuoref30_Frame.j0 k y0 y1 y2 y3) (continuoref30_Frame.j0 (k + 1) y0 y1 y2 y3))
 | 0 => fun _ _ _ _ r h => by simp [continuoref30_Frame.j0] at h
 | k + 1 => by
  have ih0 := continuoref30_Frame.mono_l k
  · intro y0 y1 y2 y3
    unfold continuoref30_Frame.j0
    repeat' first
    | (with_reducible exact ih0 _ _ _ _)
    | (with_reducible exact continuoref30_Valid.mono _ _)
    | (with_reducible exact continuoref30_frame.mono _ _ _ _)
    | (with_reducible exact LeO.refl _)
    | (with_reducible exact LeO.none _)
    | (with_reducible refine LeO.ite ?_ ?_)
    | (with_reducible refine LeO.bind ?_ (fun _ => ?_))
    | exact ih0 _ _ _ _
    | exact continuoref30_Valid.mono _ _
    | exact continuoref30_frame.mono _ _ _ _
    | exact LeO.none _
    | refine LeO.ite ?_ ?_
    | refine LeO.bind ?_ (fun _ => ?_)
theorem continuoref30_Frame.mono : ∀ a0 a1 a2 k, LeO (continuoref30_Frame.f k a0 a1 a2) (continuoref30_Frame.f (k + 1) a0 a1 a2) := by
 intro a0 a1 a2 k
 have ih0 := continuoref30_Frame.mono_l k
 unfold continuoref30_Frame.f
 repeat' first
  | (with_reducible exact ih0 _ _ _ _)
  | (with_reducible exact continuoref30_Valid.mono _ _)
  | (with_reducible exact continuoref30_frame.mono _ _ _ _)
  | (with_reducible exact LeO.refl _)
  | (with_reducible exact LeO.none _)
  | (with_reducible refine LeO.ite ?_ ?_)
  | (with_reducible refine LeO.bind ?_ (fun _ => ?_))
  | exact ih0 _ _ _ _
  | exact continuoref30_Valid.mono _ _
  | exact continuoref30_frame.mono _ _ _ _
  | exact LeO.none _
  | refine LeO.ite ?_ ?_
  | refine LeO.bind ?_ (fun _ => ?_)
set_option maxHeartbeats 8000000 in
set_option maxRecDepth 100000 in
theorem continuoref30_Frame.calls (k : Nat) (A0 : Option Addr) (c0 : Nat) (l0 : List (S27)) (a1 : Int) (a2 : Int) (r1 : Int) (r2 : Int) (w : World) (hr0 : Kd.C k27 w A0 l0.length l0) (hc0 : l0.length ≤ c0) (h : continuoref30_Frame.f k l0 a1 a2 = some (r1, r2)) :
 Calls Try.prog 24 #[.slice A0 l0.length c0, .int .i64 a1, .int .i64 a2] w fun e w' => e = .returned (.tuple #[.int .i64 r1, .int .i64 r2]) ∧ Below w.heap.size w w' := by
 have HR0 := Aside0.mk hr0
 have HC0 := Aside0.mk hc0
 clear hr0 hc0
 have HB := Aside0.mk (Below.refl w.heap.size w)
 have H : ((continuoref30_Valid.f k l0).bind fun t286 => (if t286 = true then ((continuoref30_time.f a1).bind fun t287 => (if t287 = true then ((continuoref30_time.f a2).bind fun t288 => (continuoref30_Frame.j0 k l0 a1 a2 (!t288))) else (continuoref30_Frame.j0 k l0 a1 a2 true))) else (some (0, 1)))) = some (r1, r2) := h
 clear h
 replace H := Option.bind_eq_some_iff.mp H
 obtain ⟨t286, A40, H⟩ := H
 replace H : (if t286 = true then ((continuoref30_time.f a1).bind fun t287 => (if t287 = true then ((continuoref30_time.f a2).bind fun t288 => (continuoref30_Frame.j0 k l0 a1 a2 (!t288))) else (continuoref30_Frame.j0 k l0 a1 a2 true))) else (some (0, 1))) = some (r1, r2) := H
 have A4 := Aside0.mk A40
 clear A40
 by_cases c5 : t286 = true
 · subst c5
   have H1 : ((continuoref30_time.f a1).bind fun t287 => (if t287 = true then ((continuoref30_time.f a2).bind fun t288 => (continuoref30_Frame.j0 k l0 a1 a2 (!t288))) else (continuoref30_Frame.j0 k l0 a1 a2 true))) = some (r1, r2) := by rw [if_pos rfl] at H; exact H
   clear H
   have H := H1
   clear H1
   have HC6 := Aside0.mk H
   clear H
   go_enter Try.func24, Try.ntmps24
   go_upto_region 3 with (first | ((with_reducible refine gate_callee (f := 11) rfl ?_); refine goesL_ (some 10) rfl rfl Try.func11 (by kernel_rfl) rfl #[.slice A0 l0.length c0] rfl (by (try simp only [List.map_toArray, List.map_cons, List.map_nil]); first | done | rfl | (simp only [List.length_drop, List.length_take]; rfl)) ?_; (with_reducible refine (continuoref30_Valid.calls k _ _ l0 true _ ?side1 ?side2 A4.out).mono ?_); (case side1 => repeat (first | exact HR0.out | (with_reducible refine Kd.C_alloc ?_ _) | (with_reducible refine Kd.C_drewN ?_ _) | (with_reducible refine Kd.C_drew ?_))); (case side2 => exact HC0.out); rintro e w7 ⟨rfl, hb⟩; refine ⟨_, rfl, ?_⟩; have n0_ := Aside0.mk (below_step (by repeat (first | (with_reducible first | exact HB.out | apply below_alloc | apply pw_below_drewN | apply below_drew1) | exact HB.out)) hb); clear HB; have HB := n0_; clear n0_; (try clear hb); (try clear hb2); (try clear hk); (try clear hi)))
   (try simp only [Act.put, List.setIfInBounds_toArray, List.set_cons_zero, List.set_cons_succ])
   go_cut [19] (fun v19 wc => ∃ (kq : Nat) (x19_5 : Bool), v19 = .bool x19_5 ∧ Aside0 (continuoref30_Frame.j0 kq l0 a1 a2 x19_5 = some (r1, r2)) ∧ Aside0 (kq ≤ k) ∧ Aside0 (Below w.heap.size w wc))
   case first =>
    have H := HC6.out
    clear HC6
    replace H := Option.bind_eq_some_iff.mp H
    obtain ⟨t287, A80, H⟩ := H
    replace H : (if t287 = true then ((continuoref30_time.f a2).bind fun t288 => (continuoref30_Frame.j0 k l0 a1 a2 (!t288))) else (continuoref30_Frame.j0 k l0 a1 a2 true)) = some (r1, r2) := H
    have A8 := Aside0.mk A80
    clear A80
    by_cases c9 : t287 = true
    · subst c9
      have H1 : ((continuoref30_time.f a2).bind fun t288 => (continuoref30_Frame.j0 k l0 a1 a2 (!t288))) = some (r1, r2) := by rw [if_pos rfl] at H; exact H
      clear H
      have H := H1
      clear H1
      replace H := Option.bind_eq_some_iff.mp H
      obtain ⟨t288, A100, H⟩ := H
      replace H : (continuoref30_Frame.j0 k l0 a1 a2 (!t288)) = some (r1, r2) := H
      have A10 := Aside0.mk A100
      clear A100
      have H' := Aside0.mk H
      clear H
      go_wp2_with (first | ((with_reducible refine gate_callee (f := 50) rfl ?_); refine goesL_ (some 13) rfl rfl Try.func50 (by kernel_rfl) rfl #[.int .i64 a1] rfl (by (try simp only [List.map_toArray, List.map_cons, List.map_nil]); first | done | rfl | (simp only [List.length_drop, List.length_take]; rfl)) ?_; (with_reducible refine (continuoref30_time.calls a1 true _ A8.out).mono ?_); rintro e w' ⟨rfl, ⟨nd, rfl⟩⟩; refine ⟨_, rfl, ?_⟩) | (go_at_call 50; (with_reducible refine (continuoref30_time.calls a2 t288 _ A10.out).mono ?_); rintro e w' ⟨rfl, ⟨nd, rfl⟩⟩))
      go_meet
      case rel => exact ⟨_, (!t288), (by first | rfl | (simp; done) | (simp [*]; done)), H', ⟨by first | omega | exact Nat.le_refl _⟩, ⟨by repeat (first | (with_reducible first | exact HB.out | apply below_alloc | apply pw_below_drewN | apply below_drew1) | exact HB.out)⟩⟩
    · replace c9 := Bool.eq_false_iff.mpr c9
      subst c9
      have H1 : (continuoref30_Frame.j0 k l0 a1 a2 true) = some (r1, r2) := by rw [if_neg (show ¬ (false = true) by decide)] at H; exact H
      clear H
      have H := H1
      clear H1
      have H' := Aside0.mk H
      clear H
      go_wp2_with (first | ((with_reducible refine gate_callee (f := 50) rfl ?_); refine goesL_ (some 13) rfl rfl Try.func50 (by kernel_rfl) rfl #[.int .i64 a1] rfl (by (try simp only [List.map_toArray, List.map_cons, List.map_nil]); first | done | rfl | (simp only [List.length_drop, List.length_take]; rfl)) ?_; (with_reducible refine (continuoref30_time.calls a1 false _ A8.out).mono ?_); rintro e w' ⟨rfl, ⟨nd, rfl⟩⟩; refine ⟨_, rfl, ?_⟩))
      go_meet
      case rel => exact ⟨_, (true), (by first | rfl | (simp; done) | (simp [*]; done)), H', ⟨by first | omega | exact Nat.le_refl _⟩, ⟨by repeat (first | (with_reducible first | exact HB.out | apply below_alloc | apply pw_below_drewN | apply below_drew1) | exact HB.out)⟩⟩
   case rest =>
    clear HC6
    try clear c1
    try clear c2
    try clear p2
    try clear c5
    try clear c9
    obtain ⟨kq, x19_5, rfl, HA, HJ5, HB⟩ := hcut
    cases kq with
    | zero => exact absurd HA.out (by simp [continuoref30_Frame.j0])
    | succ kj5 =>
     have H := HA.out
     clear HA
     simp only [continuoref30_Frame.j0] at H
     by_cases c11 : x19_5 = true
     · subst c11
       have H1 : (some (0, 7)) = some (r1, r2) := by rw [if_pos rfl] at H; exact H
       clear H
       have H := H1
       clear H1
       simp only [Option.some.injEq, Prod.mk.injEq] at H
       obtain ⟨rfl, rfl⟩ := H
       go_wp2
       go_ret2
       exact ⟨by first | rfl | (simp [errW_none, errW_some] <;> rfl) | (simp [*, errW_none, errW_some] <;> rfl), by repeat (first | (with_reducible first | exact HB.out | apply below_alloc | apply pw_below_drewN | apply below_drew1) | exact HB.out)⟩
     · replace c11 := Bool.eq_false_iff.mpr c11
       subst c11
       have H1 : ((continuoref30_frame.f kj5 l0 a1 a2).bind fun t289 => (if t289 > 1000000000 then (some (0, 7)) else (some (t289, 0)))) = some (r1, r2) := by rw [if_neg (show ¬ (false = true) by decide)] at H; exact H
       clear H
       have H := H1
       clear H1
       replace H := Option.bind_eq_some_iff.mp H
       obtain ⟨t289, A120, H⟩ := H
       replace H : (if t289 > 1000000000 then (some (0, 7)) else (some (t289, 0))) = some (r1, r2) := H
       have A12 := Aside0.mk A120
       clear A120
       by_cases c13 : t289 > 1000000000
       · rw [if_pos c13] at H
         have c13b0 : decide (1000000000 < t289) = true := decide_eq_true c13
         clear c13
         simp only [Option.some.injEq, Prod.mk.injEq] at H
         obtain ⟨rfl, rfl⟩ := H
         go_wp2_with (first | ((with_reducible refine gate_callee (f := 53) rfl ?_); refine goesL_ (some 23) rfl rfl Try.func53 (by kernel_rfl) rfl #[.slice A0 l0.length c0, .int .i64 a1, .int .i64 a2] rfl (by (try simp only [List.map_toArray, List.map_cons, List.map_nil]); first | done | rfl | (simp only [List.length_drop, List.length_take]; rfl)) ?_; (with_reducible refine (continuoref30_frame.calls kj5 _ _ l0 a1 a2 t289 _ ?side1 ?side2 A12.out).mono ?_); (case side1 => repeat (first | exact (Kd.C_below HR0.out HB.out) | (with_reducible refine Kd.C_alloc ?_ _) | (with_reducible refine Kd.C_drewN ?_ _) | (with_reducible refine Kd.C_drew ?_))); (case side2 => exact HC0.out); rintro e w' ⟨rfl, ⟨nd, rfl⟩⟩; refine ⟨_, rfl, ?_⟩))
         go_ret2
         exact ⟨by first | rfl | (simp [errW_none, errW_some] <;> rfl) | (simp [*, errW_none, errW_some] <;> rfl), by repeat (first | (with_reducible first | exact HB.out | apply below_alloc | apply pw_below_drewN | apply below_drew1) | exact HB.out)⟩
       · rw [if_neg c13] at H
         have c13b0 : decide (1000000000 < t289) = false := decide_eq_false c13
         clear c13
         simp only [Option.some.injEq, Prod.mk.injEq] at H
         obtain ⟨rfl, rfl⟩ := H
         go_wp2_with (first | ((with_reducible refine gate_callee (f := 53) rfl ?_); refine goesL_ (some 23) rfl rfl Try.func53 (by kernel_rfl) rfl #[.slice A0 l0.length c0, .int .i64 a1, .int .i64 a2] rfl (by (try simp only [List.map_toArray, List.map_cons, List.map_nil]); first | done | rfl | (simp only [List.length_drop, List.length_take]; rfl)) ?_; (with_reducible refine (continuoref30_frame.calls kj5 _ _ l0 a1 a2 t289 _ ?side1 ?side2 A12.out).mono ?_); (case side1 => repeat (first | exact (Kd.C_below HR0.out HB.out) | (with_reducible refine Kd.C_alloc ?_ _) | (with_reducible refine Kd.C_drewN ?_ _) | (with_reducible refine Kd.C_drew ?_))); (case side2 => exact HC0.out); rintro e w' ⟨rfl, ⟨nd, rfl⟩⟩; refine ⟨_, rfl, ?_⟩))
         go_ret2
         exact ⟨by first | rfl | (simp [errW_none, errW_some] <;> rfl) | (simp [*, errW_none, errW_some] <;> rfl), by repeat (first | (with_reducible first | exact HB.out | apply below_alloc | apply pw_below_drewN | apply below_drew1) | exact HB.out)⟩
 · replace c5 := Bool.eq_false_iff.mpr c5
   subst c5
   have H1 : (some (0, 1)) = some (r1, r2) := by rw [if_neg (show ¬ (false = true) by decide)] at H; exact H
   clear H
   have H := H1
   clear H1
   simp only [Option.some.injEq, Prod.mk.injEq] at H
   obtain ⟨rfl, rfl⟩ := H
   go_enter Try.func24, Try.ntmps24
   go_wp2_with (first | ((with_reducible refine gate_callee (f := 11) rfl ?_); refine goesL_ (some 10) rfl rfl Try.func11 (by kernel_rfl) rfl #[.slice A0 l0.length c0] rfl (by (try simp only [List.map_toArray, List.map_cons, List.map_nil]); first | done | rfl | (simp only [List.length_drop, List.length_take]; rfl)) ?_; (with_reducible refine (continuoref30_Valid.calls k _ _ l0 false _ ?side1 ?side2 A4.out).mono ?_); (case side1 => repeat (first | exact HR0.out | (with_reducible refine Kd.C_alloc ?_ _) | (with_reducible refine Kd.C_drewN ?_ _) | (with_reducible refine Kd.C_drew ?_))); (case side2 => exact HC0.out); rintro e w14 ⟨rfl, hb⟩; refine ⟨_, rfl, ?_⟩; have n0_ := Aside0.mk (below_step (by repeat (first | (with_reducible first | exact HB.out | apply below_alloc | apply pw_below_drewN | apply below_drew1) | exact HB.out)) hb); clear HB; have HB := n0_; clear n0_; (try clear hb); (try clear hb2); (try clear hk); (try clear hi)))
   go_ret2
   exact ⟨by first | rfl | (simp [errW_none, errW_some] <;> rfl) | (simp [*, errW_none, errW_some] <;> rfl), by repeat (first | (with_reducible first | exact HB.out | apply below_alloc | apply pw_below_drewN | apply below_drew1) | exact HB.out)⟩
end Go.Proofs.Ytomlfbmfdoallaa.PA

namespace Go.Proofs.Ytomlfbmfdoallaa.PA
open Go.RowKit Go.Proofs.YtomlfbmfdoallaaW.PrintWords Go.Proofs.YtomlfbmfdoallaaW.PrintLast Go.Proofs.YtomlfbmfdoallaaW.PrintMore
attribute [local go_sem] max2_int min2_int max_two min_two max_three min_three max_four min_four
set_option linter.unusedVariables false
set_option linter.unusedSimpArgs false
end Go.Proofs.Ytomlfbmfdoallaa.PA

namespace Go.Proofs.Ytomlfbmfdoallaa.PA
open Go.RowKit Go.Proofs.YtomlfbmfdoallaaW.PrintWords Go.Proofs.YtomlfbmfdoallaaW.PrintLast Go.Proofs.YtomlfbmfdoallaaW.PrintMore
attribute [local go_sem] max2_int min2_int max_two min_two max_three min_three max_four min_four
set_option linter.unusedVariables false
set_option linter.unusedSimpArgs false
def tempo_Tick.f (k : Nat) (l0 : List (S27)) (a1 : Int) (a2 : Int) : Option (Int × Int) := (tempo_asked.f k l0 (([a1, a2] : List Int))).bind fun t293 => (if t293 = 0 then (if a2 < a1 then (some (0, 7)) else ((tempo_tick.f l0 a1 a2).bind fun t294 => (some (t294, 0)))) else (some (0, t293)))
theorem tempo_Tick.mono : ∀ a0 a1 a2 k, LeO (tempo_Tick.f k a0 a1 a2) (tempo_Tick.f (k + 1) a0 a1 a2) := by
 intro a0 a1 a2 k
 unfold tempo_Tick.f
 repeat' first
  | (with_reducible exact tempo_asked.mono _ _ _)
  | (with_reducible exact LeO.refl _)
  | (with_reducible exact LeO.none _)
  | (with_reducible refine LeO.ite ?_ ?_)
  | (with_reducible refine LeO.bind ?_ (fun _ => ?_))
  | exact tempo_asked.mono _ _ _
  | exact LeO.none _
  | refine LeO.ite ?_ ?_
  | refine LeO.bind ?_ (fun _ => ?_)
set_option maxHeartbeats 8000000 in
set_option maxRecDepth 100000 in
theorem tempo_Tick.calls (k : Nat) (A0 : Option Addr) (c0 : Nat) (l0 : List (S27)) (a1 : Int) (a2 : Int) (r1 : Int) (r2 : Int) (w : World) (hr0 : Kd.C k27 w A0 l0.length l0) (hc0 : l0.length ≤ c0) (h : tempo_Tick.f k l0 a1 a2 = some (r1, r2)) :
 Calls Try.prog 26 #[.slice A0 l0.length c0, .int .i64 a1, .int .i64 a2] w fun e w' => e = .returned (.tuple #[.int .i64 r1, .int .i64 r2]) ∧ Below w.heap.size w w' := by
 have HR0 := Aside0.mk hr0
 have HC0 := Aside0.mk hc0
 clear hr0 hc0
 have HB := Aside0.mk (Below.refl w.heap.size w)
 have H : ((tempo_asked.f k l0 (([a1, a2] : List Int))).bind fun t293 => (if t293 = 0 then (if a2 < a1 then (some (0, 7)) else ((tempo_tick.f l0 a1 a2).bind fun t294 => (some (t294, 0)))) else (some (0, t293)))) = some (r1, r2) := h
 clear h
 obtain ⟨y290, hy290⟩ : ∃ y_ : List Int, y_ = (([a1, a2] : List Int)) := ⟨_, rfl⟩
 replace H : ((tempo_asked.f k l0 y290).bind fun t293 => (if t293 = 0 then (if a2 < a1 then (some (0, 7)) else ((tempo_tick.f l0 a1 a2).bind fun t294 => (some (t294, 0)))) else (some (0, t293)))) = some (r1, r2) := by first | (rw [hy290]; with_reducible exact H) | (have H2_ := (Option.bind_some _ _).symm.trans H; rw [hy290]; with_reducible exact H2_) | (have H2_ := (Option.bind_some _ _).symm.trans H; with_reducible exact H2_) | with_reducible exact H | (rw [hy290]; exact H) | exact H
 have Ny290 := Aside0.mk hy290
 clear hy290
 replace H := Option.bind_eq_some_iff.mp H
 obtain ⟨t293, A40, H⟩ := H
 replace H : (if t293 = 0 then (if a2 < a1 then (some (0, 7)) else ((tempo_tick.f l0 a1 a2).bind fun t294 => (some (t294, 0)))) else (some (0, t293))) = some (r1, r2) := H
 have A4 := Aside0.mk A40
 clear A40
 by_cases c5 : t293 = 0
 · rw [if_pos c5] at H
   have c5b0 : (t293 == 0) = true := beq_iff_eq.mpr c5
   have c5b1 : (t293 != 0) = false := bne_eq_false_iff_eq.mpr c5
   clear c5
   by_cases c6 : a2 < a1
   · rw [if_pos c6] at H
     have c6b0 : decide (a2 < a1) = true := decide_eq_true c6
     clear c6
     simp only [Option.some.injEq, Prod.mk.injEq] at H
     obtain ⟨rfl, rfl⟩ := H
     go_enter Try.func26, Try.ntmps26
     go_wp2_with (first | ((with_reducible refine gate_dst (N := 12) rfl ?_); refine Kd.R_lit (Kd.int .i64) _ 3 ?hg (N := 12) ?hd (xs := ([a1, a2] : List Int)) (inner := [.int .i64 a1, .int .i64 a2]) (ok := fun _ => True) (okp := fun _ => True) ?hr ?hp (fun _ hk => hk) trivial (Below.refl _ _) (Nat.le_refl _) (by simp) ?_; (case hd => rfl); (case hg => rfl); (case hr => first | (go_simp; done) | (go_simp; rfl)); (case hp => exact (Reps.one (show Kd.M (Kd.int .i64) _ _ _ a1 [.int .i64 a1] from rfl) (Reps.one (show Kd.M (Kd.int .i64) _ _ _ a2 [.int .i64 a2] from rfl) (Reps.none _ _)))); intro v291 w7 ho8 hb hg_ hnew_; clear hg_ hnew_; (first | rw [← Ny290.out] at ho8 | (simp only [Int.reduceToNat] at ho8; rw [← Ny290.out] at ho8)); have n0_ := Aside0.mk (Kd.R_lower ho8 (below_size (by repeat (first | (with_reducible first | exact HB.out | apply below_alloc | apply pw_below_drewN | apply below_drew1) | exact HB.out)))); have n1_ := Aside0.mk (below_step (by repeat (first | (with_reducible first | exact HB.out | apply below_alloc | apply pw_below_drewN | apply below_drew1) | exact HB.out)) hb); clear HB; have HO292 := n0_; have HB := n1_; clear n0_ n1_; clear hb ho8; obtain ⟨Ao9, co9, eo9⟩ := Kd.R_slice HO292.out; subst eo9) | ((with_reducible refine gate_callee (f := 40) rfl ?_); refine goesL_ (some 13) rfl rfl Try.func40 (by kernel_rfl) rfl #[.slice A0 l0.length c0, .slice Ao9 y290.length co9] rfl (by (try simp only [List.map_toArray, List.map_cons, List.map_nil]); first | done | rfl | (simp only [List.length_drop, List.length_take]; rfl)) ?_; (with_reducible refine (tempo_asked.calls k _ _ l0 _ _ y290 t293 _ ?side1 ?side2 ?side3 ?side4 A4.out).mono ?_); (case side1 => repeat (first | exact (Kd.C_below HR0.out HB.out) | (with_reducible refine Kd.C_alloc ?_ _) | (with_reducible refine Kd.C_drewN ?_ _) | (with_reducible refine Kd.C_drew ?_))); (case side2 => exact HC0.out); (case side3 => repeat (first | exact (Kd.R_reads' HO292.out).2.2 | (with_reducible refine Kd.C_alloc ?_ _) | (with_reducible refine Kd.C_drewN ?_ _) | (with_reducible refine Kd.C_drew ?_))); (case side4 => exact (Kd.R_reads' HO292.out).2.1); rintro e w10 ⟨rfl, hb⟩; refine ⟨_, rfl, ?_⟩; have n0_ := Aside0.mk (Kd.R_below (by (with_reducible repeat (first | apply Kd.R_alloc | apply Kd.R_drewN | apply Kd.R_drew)); exact HO292.out) hb); have n1_ := Aside0.mk (below_step (by repeat (first | (with_reducible first | exact HB.out | apply below_alloc | apply pw_below_drewN | apply below_drew1) | exact HB.out)) hb); clear HO292; clear HB; have HO292 := n0_; have HB := n1_; clear n0_ n1_; (try clear hb); (try clear hb2); (try clear hk); (try clear hi)))
     go_ret2
     exact ⟨by first | rfl | (simp [errW_none, errW_some] <;> rfl) | (simp [*, errW_none, errW_some] <;> rfl), by repeat (first | (with_reducible first | exact HB.out | apply below_alloc | apply pw_below_drewN | apply below_drew1) | exact HB.out)⟩
   · rw [if_neg c6] at H
     have c6b0 : decide (a2 < a1) = false := decide_eq_false c6
     clear c6
     replace H := Option.bind_eq_some_iff.mp H
     obtain ⟨t294, A110, H⟩ := H
     replace H : (some (t294, 0)) = some (r1, r2) := H
     have A11 := Aside0.mk A110
     clear A110
     simp only [Option.some.injEq, Prod.mk.injEq] at H
     obtain ⟨rfl, rfl⟩ := H
     go_enter Try.func26, Try.ntmps26
     go_wp2_with (first | ((with_reducible refine gate_dst (N := 12) rfl ?_); refine Kd.R_lit (Kd.int .i64) _ 3 ?hg (N := 12) ?hd (xs := ([a1, a2] : List Int)) (inner := [.int .i64 a1, .int .i64 a2]) (ok := fun _ => True) (okp := fun _ => True) ?hr ?hp (fun _ hk => hk) trivial (Below.refl _ _) (Nat.le_refl _) (by simp) ?_; (case hd => rfl); (case hg => rfl); (case hr => first | (go_simp; done) | (go_simp; rfl)); (case hp => exact (Reps.one (show Kd.M (Kd.int .i64) _ _ _ a1 [.int .i64 a1] from rfl) (Reps.one (show Kd.M (Kd.int .i64) _ _ _ a2 [.int .i64 a2] from rfl) (Reps.none _ _)))); intro v291 w12 ho13 hb hg_ hnew_; clear hg_ hnew_; (first | rw [← Ny290.out] at ho13 | (simp only [Int.reduceToNat] at ho13; rw [← Ny290.out] at ho13)); have n0_ := Aside0.mk (Kd.R_lower ho13 (below_size (by repeat (first | (with_reducible first | exact HB.out | apply below_alloc | apply pw_below_drewN | apply below_drew1) | exact HB.out)))); have n1_ := Aside0.mk (below_step (by repeat (first | (with_reducible first | exact HB.out | apply below_alloc | apply pw_below_drewN | apply below_drew1) | exact HB.out)) hb); clear HB; have HO292 := n0_; have HB := n1_; clear n0_ n1_; clear hb ho13; obtain ⟨Ao14, co14, eo14⟩ := Kd.R_slice HO292.out; subst eo14) | ((with_reducible refine gate_callee (f := 40) rfl ?_); refine goesL_ (some 13) rfl rfl Try.func40 (by kernel_rfl) rfl #[.slice A0 l0.length c0, .slice Ao14 y290.length co14] rfl (by (try simp only [List.map_toArray, List.map_cons, List.map_nil]); first | done | rfl | (simp only [List.length_drop, List.length_take]; rfl)) ?_; (with_reducible refine (tempo_asked.calls k _ _ l0 _ _ y290 t293 _ ?side1 ?side2 ?side3 ?side4 A4.out).mono ?_); (case side1 => repeat (first | exact (Kd.C_below HR0.out HB.out) | (with_reducible refine Kd.C_alloc ?_ _) | (with_reducible refine Kd.C_drewN ?_ _) | (with_reducible refine Kd.C_drew ?_))); (case side2 => exact HC0.out); (case side3 => repeat (first | exact (Kd.R_reads' HO292.out).2.2 | (with_reducible refine Kd.C_alloc ?_ _) | (with_reducible refine Kd.C_drewN ?_ _) | (with_reducible refine Kd.C_drew ?_))); (case side4 => exact (Kd.R_reads' HO292.out).2.1); rintro e w15 ⟨rfl, hb⟩; refine ⟨_, rfl, ?_⟩; have n0_ := Aside0.mk (Kd.R_below (by (with_reducible repeat (first | apply Kd.R_alloc | apply Kd.R_drewN | apply Kd.R_drew)); exact HO292.out) hb); have n1_ := Aside0.mk (below_step (by repeat (first | (with_reducible first | exact HB.out | apply below_alloc | apply pw_below_drewN | apply below_drew1) | exact HB.out)) hb); clear HO292; clear HB; have HO292 := n0_; have HB := n1_; clear n0_ n1_; (try clear hb); (try clear hb2); (try clear hk); (try clear hi)) | ((with_reducible refine gate_callee (f := 54) rfl ?_); refine goesL_ (some 23) rfl rfl Try.func54 (by kernel_rfl) rfl #[.slice A0 l0.length c0, .int .i64 a1, .int .i64 a2] rfl (by (try simp only [List.map_toArray, List.map_cons, List.map_nil]); first | done | rfl | (simp only [List.length_drop, List.length_take]; rfl)) ?_; (with_reducible refine (tempo_tick.calls _ _ l0 a1 a2 t294 _ ?side1 ?side2 A11.out).mono ?_); (case side1 => repeat (first | exact (Kd.C_below HR0.out HB.out) | (with_reducible refine Kd.C_alloc ?_ _) | (with_reducible refine Kd.C_drewN ?_ _) | (with_reducible refine Kd.C_drew ?_))); (case side2 => exact HC0.out); rintro e w16 ⟨rfl, hb⟩; refine ⟨_, rfl, ?_⟩; have n0_ := Aside0.mk (Kd.R_below (by (with_reducible repeat (first | apply Kd.R_alloc | apply Kd.R_drewN | apply Kd.R_drew)); exact HO292.out) hb); have n1_ := Aside0.mk (below_step (by repeat (first | (with_reducible first | exact HB.out | apply below_alloc | apply pw_below_drewN | apply below_drew1) | exact HB.out)) hb); clear HO292; clear HB; have HO292 := n0_; have HB := n1_; clear n0_ n1_; (try clear hb); (try clear hb2); (try clear hk); (try clear hi)))
     go_ret2
     exact ⟨by first | rfl | (simp [errW_none, errW_some] <;> rfl) | (simp [*, errW_none, errW_some] <;> rfl), by repeat (first | (with_reducible first | exact HB.out | apply below_alloc | apply pw_below_drewN | apply below_drew1) | exact HB.out)⟩
 · rw [if_neg c5] at H
   have c5b0 : (t293 == 0) = false := beq_eq_false_iff_ne.mpr c5
   have c5b1 : (t293 != 0) = true := bne_iff_ne.mpr c5
   simp only [Option.some.injEq, Prod.mk.injEq] at H
   obtain ⟨rfl, rfl⟩ := H
   go_enter Try.func26, Try.ntmps26
   go_wp2_with (first | ((with_reducible refine gate_dst (N := 12) rfl ?_); refine Kd.R_lit (Kd.int .i64) _ 3 ?hg (N := 12) ?hd (xs := ([a1, a2] : List Int)) (inner := [.int .i64 a1, .int .i64 a2]) (ok := fun _ => True) (okp := fun _ => True) ?hr ?hp (fun _ hk => hk) trivial (Below.refl _ _) (Nat.le_refl _) (by simp) ?_; (case hd => rfl); (case hg => rfl); (case hr => first | (go_simp; done) | (go_simp; rfl)); (case hp => exact (Reps.one (show Kd.M (Kd.int .i64) _ _ _ a1 [.int .i64 a1] from rfl) (Reps.one (show Kd.M (Kd.int .i64) _ _ _ a2 [.int .i64 a2] from rfl) (Reps.none _ _)))); intro v291 w17 ho18 hb hg_ hnew_; clear hg_ hnew_; (first | rw [← Ny290.out] at ho18 | (simp only [Int.reduceToNat] at ho18; rw [← Ny290.out] at ho18)); have n0_ := Aside0.mk (Kd.R_lower ho18 (below_size (by repeat (first | (with_reducible first | exact HB.out | apply below_alloc | apply pw_below_drewN | apply below_drew1) | exact HB.out)))); have n1_ := Aside0.mk (below_step (by repeat (first | (with_reducible first | exact HB.out | apply below_alloc | apply pw_below_drewN | apply below_drew1) | exact HB.out)) hb); clear HB; have HO292 := n0_; have HB := n1_; clear n0_ n1_; clear hb ho18; obtain ⟨Ao19, co19, eo19⟩ := Kd.R_slice HO292.out; subst eo19) | ((with_reducible refine gate_callee (f := 40) rfl ?_); refine goesL_ (some 13) rfl rfl Try.func40 (by kernel_rfl) rfl #[.slice A0 l0.length c0, .slice Ao19 y290.length co19] rfl (by (try simp only [List.map_toArray, List.map_cons, List.map_nil]); first | done | rfl | (simp only [List.length_drop, List.length_take]; rfl)) ?_; (with_reducible refine (tempo_asked.calls k _ _ l0 _ _ y290 t293 _ ?side1 ?side2 ?side3 ?side4 A4.out).mono ?_); (case side1 => repeat (first | exact (Kd.C_below HR0.out HB.out) | (with_reducible refine Kd.C_alloc ?_ _) | (with_reducible refine Kd.C_drewN ?_ _) | (with_reducible refine Kd.C_drew ?_))); (case side2 => exact HC0.out); (case side3 => repeat (first | exact (Kd.R_reads' HO292.out).2.2 | (with_reducible refine Kd.C_alloc ?_ _) | (with_reducible refine Kd.C_drewN ?_ _) | (with_reducible refine Kd.C_drew ?_))); (case side4 => exact (Kd.R_reads' HO292.out).2.1); rintro e w20 ⟨rfl, hb⟩; refine ⟨_, rfl, ?_⟩; have n0_ := Aside0.mk (Kd.R_below (by (with_reducible repeat (first | apply Kd.R_alloc | apply Kd.R_drewN | apply Kd.R_drew)); exact HO292.out) hb); have n1_ := Aside0.mk (below_step (by repeat (first | (with_reducible first | exact HB.out | apply below_alloc | apply pw_below_drewN | apply below_drew1) | exact HB.out)) hb); clear HO292; clear HB; have HO292 := n0_; have HB := n1_; clear n0_ n1_; (try clear hb); (try clear hb2); (try clear hk); (try clear hi)))
   go_ret2
   exact ⟨by first | rfl | (simp [errW_none, errW_some] <;> rfl) | (simp [*, errW_none, errW_some] <;> rfl), by repeat (first | (with_reducible first | exact HB.out | apply below_alloc | apply pw_below_drewN | apply below_drew1) | exact HB.out)⟩
end Go.Proofs.Ytomlfbmfdoallaa.PA

namespace Go.Proofs.Ytomlfbmfdoallaa.PA
open Go.RowKit Go.Proofs.YtomlfbmfdoallaaW.PrintWords Go.Proofs.YtomlfbmfdoallaaW.PrintLast Go.Proofs.YtomlfbmfdoallaaW.PrintMore
attribute [local go_sem] max2_int min2_int max_two min_two max_three min_three max_four min_four
set_option linter.unusedVariables false
set_option linter.unusedSimpArgs false
def continuoref30_Tick.f (k : Nat) (l0 : List (S27)) (a1 : Int) (a2 : Int) : Option (Int × Int) := (continuoref30_Valid.f k l0).bind fun t296 => (if t296 = true then ((continuoref30_time.f a1).bind fun t297 => (if t297 = true then (if a2 < a1 then (some (0, 7)) else (if a2 > 1000000000 then (some (0, 7)) else ((continuoref30_last.f k l0 a1 a2).bind fun t298 => (some (t298, 0))))) else (some (0, 7)))) else (some (0, 1)))
theorem continuoref30_Tick.mono : ∀ a0 a1 a2 k, LeO (continuoref30_Tick.f k a0 a1 a2) (continuoref30_Tick.f (k + 1) a0 a1 a2) := by
 intro a0 a1 a2 k
 unfold continuoref30_Tick.f
 repeat' first
  | (with_reducible exact continuoref30_Valid.mono _ _)
  | (with_reducible exact continuoref30_last.mono _ _ _ _)
  | (with_reducible exact LeO.refl _)
  | (with_reducible exact LeO.none _)
  | (with_reducible refine LeO.ite ?_ ?_)
  | (with_reducible refine LeO.bind ?_ (fun _ => ?_))
  | exact continuoref30_Valid.mono _ _
  | exact continuoref30_last.mono _ _ _ _
  | exact LeO.none _
  | refine LeO.ite ?_ ?_
  | refine LeO.bind ?_ (fun _ => ?_)
set_option maxHeartbeats 8000000 in
set_option maxRecDepth 100000 in
theorem continuoref30_Tick.calls (k : Nat) (A0 : Option Addr) (c0 : Nat) (l0 : List (S27)) (a1 : Int) (a2 : Int) (r1 : Int) (r2 : Int) (w : World) (hr0 : Kd.C k27 w A0 l0.length l0) (hc0 : l0.length ≤ c0) (h : continuoref30_Tick.f k l0 a1 a2 = some (r1, r2)) :
 Calls Try.prog 27 #[.slice A0 l0.length c0, .int .i64 a1, .int .i64 a2] w fun e w' => e = .returned (.tuple #[.int .i64 r1, .int .i64 r2]) ∧ Below w.heap.size w w' := by
 have HR0 := Aside0.mk hr0
 have HC0 := Aside0.mk hc0
 clear hr0 hc0
 have HB := Aside0.mk (Below.refl w.heap.size w)
 have H : ((continuoref30_Valid.f k l0).bind fun t296 => (if t296 = true then ((continuoref30_time.f a1).bind fun t297 => (if t297 = true then (if a2 < a1 then (some (0, 7)) else (if a2 > 1000000000 then (some (0, 7)) else ((continuoref30_last.f k l0 a1 a2).bind fun t298 => (some (t298, 0))))) else (some (0, 7)))) else (some (0, 1)))) = some (r1, r2) := h
 clear h
 replace H := Option.bind_eq_some_iff.mp H
 obtain ⟨t296, A40, H⟩ := H
 replace H : (if t296 = true then ((continuoref30_time.f a1).bind fun t297 => (if t297 = true then (if a2 < a1 then (some (0, 7)) else (if a2 > 1000000000 then (some (0, 7)) else ((continuoref30_last.f k l0 a1 a2).bind fun t298 => (some (t298, 0))))) else (some (0, 7)))) else (some (0, 1))) = some (r1, r2) := H
 have A4 := Aside0.mk A40
 clear A40
 by_cases c5 : t296 = true
 · subst c5
   have H1 : ((continuoref30_time.f a1).bind fun t297 => (if t297 = true then (if a2 < a1 then (some (0, 7)) else (if a2 > 1000000000 then (some (0, 7)) else ((continuoref30_last.f k l0 a1 a2).bind fun t298 => (some (t298, 0))))) else (some (0, 7)))) = some (r1, r2) := by rw [if_pos rfl] at H; exact H
   clear H
   have H := H1
   clear H1
   replace H := Option.bind_eq_some_iff.mp H
   obtain ⟨t297, A60, H⟩ := H
   replace H : (if t297 = true then (if a2 < a1 then (some (0, 7)) else (if a2 > 1000000000 then (some (0, 7)) else ((continuoref30_last.f k l0 a1 a2).bind fun t298 => (some (t298, 0))))) else (some (0, 7))) = some (r1, r2) := H
   have A6 := Aside0.mk A60
   clear A60
   by_cases c7 : t297 = true
   · subst c7
     have H1 : (if a2 < a1 then (some (0, 7)) else (if a2 > 1000000000 then (some (0, 7)) else ((continuoref30_last.f k l0 a1 a2).bind fun t298 => (some (t298, 0))))) = some (r1, r2) := by rw [if_pos rfl] at H; exact H
     clear H
     have H := H1
     clear H1
     by_cases c8 : a2 < a1
     · rw [if_pos c8] at H
       have c8b0 : decide (a2 < a1) = true := decide_eq_true c8
       clear c8
       simp only [Option.some.injEq, Prod.mk.injEq] at H
       obtain ⟨rfl, rfl⟩ := H
       go_enter Try.func27, Try.ntmps27
       go_wp2_with (first | ((with_reducible refine gate_callee (f := 11) rfl ?_); refine goesL_ (some 9) rfl rfl Try.func11 (by kernel_rfl) rfl #[.slice A0 l0.length c0] rfl (by (try simp only [List.map_toArray, List.map_cons, List.map_nil]); first | done | rfl | (simp only [List.length_drop, List.length_take]; rfl)) ?_; (with_reducible refine (continuoref30_Valid.calls k _ _ l0 true _ ?side1 ?side2 A4.out).mono ?_); (case side1 => repeat (first | exact HR0.out | (with_reducible refine Kd.C_alloc ?_ _) | (with_reducible refine Kd.C_drewN ?_ _) | (with_reducible refine Kd.C_drew ?_))); (case side2 => exact HC0.out); rintro e w9 ⟨rfl, hb⟩; refine ⟨_, rfl, ?_⟩; have n0_ := Aside0.mk (below_step (by repeat (first | (with_reducible first | exact HB.out | apply below_alloc | apply pw_below_drewN | apply below_drew1) | exact HB.out)) hb); clear HB; have HB := n0_; clear n0_; (try clear hb); (try clear hb2); (try clear hk); (try clear hi)) | ((with_reducible refine gate_callee (f := 50) rfl ?_); refine goesL_ (some 12) rfl rfl Try.func50 (by kernel_rfl) rfl #[.int .i64 a1] rfl (by (try simp only [List.map_toArray, List.map_cons, List.map_nil]); first | done | rfl | (simp only [List.length_drop, List.length_take]; rfl)) ?_; (with_reducible refine (continuoref30_time.calls a1 true _ A6.out).mono ?_); rintro e w' ⟨rfl, ⟨nd, rfl⟩⟩; refine ⟨_, rfl, ?_⟩))
       go_ret2
       exact ⟨by first | rfl | (simp [errW_none, errW_some] <;> rfl) | (simp [*, errW_none, errW_some] <;> rfl), by repeat (first | (with_reducible first | exact HB.out | apply below_alloc | apply pw_below_drewN | apply below_drew1) | exact HB.out)⟩
     · rw [if_neg c8] at H
       have c8b0 : decide (a2 < a1) = false := decide_eq_false c8
       clear c8
       by_cases c10 : a2 > 1000000000
       · rw [if_pos c10] at H
         have c10b0 : decide (1000000000 < a2) = true := decide_eq_true c10
         clear c10
         simp only [Option.some.injEq, Prod.mk.injEq] at H
         obtain ⟨rfl, rfl⟩ := H
         go_enter Try.func27, Try.ntmps27
         go_wp2_with (first | ((with_reducible refine gate_callee (f := 11) rfl ?_); refine goesL_ (some 9) rfl rfl Try.func11 (by kernel_rfl) rfl #[.slice A0 l0.length c0] rfl (by (try simp only [List.map_toArray, List.map_cons, List.map_nil]); first | done | rfl | (simp only [List.length_drop, List.length_take]; rfl)) ?_; (with_reducible refine (continuoref30_Valid.calls k _ _ l0 true _ ?side1 ?side2 A4.out).mono ?_); (case side1 => repeat (first | exact HR0.out | (with_reducible refine Kd.C_alloc ?_ _) | (with_reducible refine Kd.C_drewN ?_ _) | (with_reducible refine Kd.C_drew ?_))); (case side2 => exact HC0.out); rintro e w11 ⟨rfl, hb⟩; refine ⟨_, rfl, ?_⟩; have n0_ := Aside0.mk (below_step (by repeat (first | (with_reducible first | exact HB.out | apply below_alloc | apply pw_below_drewN | apply below_drew1) | exact HB.out)) hb); clear HB; have HB := n0_; clear n0_; (try clear hb); (try clear hb2); (try clear hk); (try clear hi)) | ((with_reducible refine gate_callee (f := 50) rfl ?_); refine goesL_ (some 12) rfl rfl Try.func50 (by kernel_rfl) rfl #[.int .i64 a1] rfl (by (try simp only [List.map_toArray, List.map_cons, List.map_nil]); first | done | rfl | (simp only [List.length_drop, List.length_take]; rfl)) ?_; (with_reducible refine (continuoref30_time.calls a1 true _ A6.out).mono ?_); rintro e w' ⟨rfl, ⟨nd, rfl⟩⟩; refine ⟨_, rfl, ?_⟩))
         go_ret2
         exact ⟨by first | rfl | (simp [errW_none, errW_some] <;> rfl) | (simp [*, errW_none, errW_some] <;> rfl), by repeat (first | (with_reducible first | exact HB.out | apply below_alloc | apply pw_below_drewN | apply below_drew1) | exact HB.out)⟩
       · rw [if_neg c10] at H
         have c10b0 : decide (1000000000 < a2) = false := decide_eq_false c10
         clear c10
         replace H := Option.bind_eq_some_iff.mp H
         obtain ⟨t298, A120, H⟩ := H
         replace H : (some (t298, 0)) = some (r1, r2) := H
         have A12 := Aside0.mk A120
         clear A120
         simp only [Option.some.injEq, Prod.mk.injEq] at H
         obtain ⟨rfl, rfl⟩ := H
         go_enter Try.func27, Try.ntmps27
         go_wp2_with (first | ((with_reducible refine gate_callee (f := 11) rfl ?_); refine goesL_ (some 9) rfl rfl Try.func11 (by kernel_rfl) rfl #[.slice A0 l0.length c0] rfl (by (try simp only [List.map_toArray, List.map_cons, List.map_nil]); first | done | rfl | (simp only [List.length_drop, List.length_take]; rfl)) ?_; (with_reducible refine (continuoref30_Valid.calls k _ _ l0 true _ ?side1 ?side2 A4.out).mono ?_); (case side1 => repeat (first | exact HR0.out | (with_reducible refine Kd.C_alloc ?_ _) | (with_reducible refine Kd.C_drewN ?_ _) | (with_reducible refine Kd.C_drew ?_))); (case side2 => exact HC0.out); rintro e w13 ⟨rfl, hb⟩; refine ⟨_, rfl, ?_⟩; have n0_ := Aside0.mk (below_step (by repeat (first | (with_reducible first | exact HB.out | apply below_alloc | apply pw_below_drewN | apply below_drew1) | exact HB.out)) hb); clear HB; have HB := n0_; clear n0_; (try clear hb); (try clear hb2); (try clear hk); (try clear hi)) | ((with_reducible refine gate_callee (f := 50) rfl ?_); refine goesL_ (some 12) rfl rfl Try.func50 (by kernel_rfl) rfl #[.int .i64 a1] rfl (by (try simp only [List.map_toArray, List.map_cons, List.map_nil]); first | done | rfl | (simp only [List.length_drop, List.length_take]; rfl)) ?_; (with_reducible refine (continuoref30_time.calls a1 true _ A6.out).mono ?_); rintro e w' ⟨rfl, ⟨nd, rfl⟩⟩; refine ⟨_, rfl, ?_⟩) | ((with_reducible refine gate_callee (f := 55) rfl ?_); refine goesL_ (some 26) rfl rfl Try.func55 (by kernel_rfl) rfl #[.slice A0 l0.length c0, .int .i64 a1, .int .i64 a2] rfl (by (try simp only [List.map_toArray, List.map_cons, List.map_nil]); first | done | rfl | (simp only [List.length_drop, List.length_take]; rfl)) ?_; (with_reducible refine (continuoref30_last.calls k _ _ l0 a1 a2 t298 _ ?side1 ?side2 A12.out).mono ?_); (case side1 => repeat (first | exact (Kd.C_below HR0.out (by repeat (first | (with_reducible first | exact HB.out | apply below_alloc | apply pw_below_drewN | apply below_drew1) | exact HB.out))) | (with_reducible refine Kd.C_alloc ?_ _) | (with_reducible refine Kd.C_drewN ?_ _) | (with_reducible refine Kd.C_drew ?_))); (case side2 => exact HC0.out); rintro e w' ⟨rfl, ⟨nd, rfl⟩⟩; refine ⟨_, rfl, ?_⟩))
         go_ret2
         exact ⟨by first | rfl | (simp [errW_none, errW_some] <;> rfl) | (simp [*, errW_none, errW_some] <;> rfl), by repeat (first | (with_reducible first | exact HB.out | apply below_alloc | apply pw_below_drewN | apply below_drew1) | exact HB.out)⟩
   · replace c7 := Bool.eq_false_iff.mpr c7
     subst c7
     have H1 : (some (0, 7)) = some (r1, r2) := by rw [if_neg (show ¬ (false = true) by decide)] at H; exact H
     clear H
     have H := H1
     clear H1
     simp only [Option.some.injEq, Prod.mk.injEq] at H
     obtain ⟨rfl, rfl⟩ := H
     go_enter Try.func27, Try.ntmps27
     go_wp2_with (first | ((with_reducible refine gate_callee (f := 11) rfl ?_); refine goesL_ (some 9) rfl rfl Try.func11 (by kernel_rfl) rfl #[.slice A0 l0.length c0] rfl (by (try simp only [List.map_toArray, List.map_cons, List.map_nil]); first | done | rfl | (simp only [List.length_drop, List.length_take]; rfl)) ?_; (with_reducible refine (continuoref30_Valid.calls k _ _ l0 true _ ?side1 ?side2 A4.out).mono ?_); (case side1 => repeat (first | exact HR0.out | (with_reducible refine Kd.C_alloc ?_ _) | (with_reducible refine Kd.C_drewN ?_ _) | (with_reducible refine Kd.C_drew ?_))); (case side2 => exact HC0.out); rintro e w14 ⟨rfl, hb⟩; refine ⟨_, rfl, ?_⟩; have n0_ := Aside0.mk (below_step (by repeat (first | (with_reducible first | exact HB.out | apply below_alloc | apply pw_below_drewN | apply below_drew1) | exact HB.out)) hb); clear HB; have HB := n0_; clear n0_; (try clear hb); (try clear hb2); (try clear hk); (try clear hi)) | ((with_reducible refine gate_callee (f := 50) rfl ?_); refine goesL_ (some 12) rfl rfl Try.func50 (by kernel_rfl) rfl #[.int .i64 a1] rfl (by (try simp only [List.map_toArray, List.map_cons, List.map_nil]); first | done | rfl | (simp only [List.length_drop, List.length_take]; rfl)) ?_; (with_reducible refine (continuoref30_time.calls a1 false _ A6.out).mono ?_); rintro e w' ⟨rfl, ⟨nd, rfl⟩⟩; refine ⟨_, rfl, ?_⟩))
     go_ret2
     exact ⟨by first | rfl | (simp [errW_none, errW_some] <;> rfl) | (simp [*, errW_none, errW_some] <;> rfl), by repeat (first | (with_reducible first | exact HB.out | apply below_alloc | apply pw_below_drewN | apply below_drew1) | exact HB.out)⟩
 · replace c5 := Bool.eq_false_iff.mpr c5
   subst c5
   have H1 : (some (0, 1)) = some (r1, r2) := by rw [if_neg (show ¬ (false = true) by decide)] at H; exact H
   clear H
   have H := H1
   clear H1
   simp only [Option.some.injEq, Prod.mk.injEq] at H
   obtain ⟨rfl, rfl⟩ := H
   go_enter Try.func27, Try.ntmps27
   go_wp2_with (first | ((with_reducible refine gate_callee (f := 11) rfl ?_); refine goesL_ (some 9) rfl rfl Try.func11 (by kernel_rfl) rfl #[.slice A0 l0.length c0] rfl (by (try simp only [List.map_toArray, List.map_cons, List.map_nil]); first | done | rfl | (simp only [List.length_drop, List.length_take]; rfl)) ?_; (with_reducible refine (continuoref30_Valid.calls k _ _ l0 false _ ?side1 ?side2 A4.out).mono ?_); (case side1 => repeat (first | exact HR0.out | (with_reducible refine Kd.C_alloc ?_ _) | (with_reducible refine Kd.C_drewN ?_ _) | (with_reducible refine Kd.C_drew ?_))); (case side2 => exact HC0.out); rintro e w15 ⟨rfl, hb⟩; refine ⟨_, rfl, ?_⟩; have n0_ := Aside0.mk (below_step (by repeat (first | (with_reducible first | exact HB.out | apply below_alloc | apply pw_below_drewN | apply below_drew1) | exact HB.out)) hb); clear HB; have HB := n0_; clear n0_; (try clear hb); (try clear hb2); (try clear hk); (try clear hi)))
   go_ret2
   exact ⟨by first | rfl | (simp [errW_none, errW_some] <;> rfl) | (simp [*, errW_none, errW_some] <;> rfl), by repeat (first | (with_reducible first | exact HB.out | apply below_alloc | apply pw_below_drewN | apply below_drew1) | exact HB.out)⟩
end Go.Proofs.Ytomlfbmfdoallaa.PA

namespace Go.Proofs.Ytomlfbmfdoallaa.PA
open Go.RowKit Go.Proofs.YtomlfbmfdoallaaW.PrintWords Go.Proofs.YtomlfbmfdoallaaW.PrintLast Go.Proofs.YtomlfbmfdoallaaW.PrintMore
attribute [local go_sem] max2_int min2_int max_two min_two max_three min_three max_four min_four
set_option linter.unusedVariables false
set_option linter.unusedSimpArgs false
mutual
def continuolaw30_TempoFrames.j0 : Nat → List (S27) → Int → Int → Int → Int → Int → Bool → Option (Bool)
 | 0, _, _, _, _, _, _, _ => none
 | k + 1, x0, x1, x2, x3, x9, x10, x49 => if x49 = true then (some false) else (if x10 = 0 then ((tempo_Tick.f k x0 x1 x9).bind fun bt318 => (if bt318.2 = 0 then (continuolaw30_TempoFrames.j1 k x0 x1 x2 x3 x9 bt318.1 (decide (bt318.1 < x2))) else (continuolaw30_TempoFrames.j1 k x0 x1 x2 x3 x9 bt318.1 true))) else (continuolaw30_TempoFrames.j2 k x0 x1 x2 x3))
def continuolaw30_TempoFrames.j2 : Nat → List (S27) → Int → Int → Int → Option (Bool)
 | 0, _, _, _, _ => none
 | k + 1, x0, x1, x2, x3 => (tempo_Tick.f k x0 x1 x3).bind fun bt322 => ((continuoref30_Tick.f k x0 x1 x3).bind fun bt324 => (if bt322.1 = bt324.1 then (continuolaw30_TempoFrames.j3 k x0 x2 (bt322.2 != bt324.2)) else (continuolaw30_TempoFrames.j3 k x0 x2 true)))
def continuolaw30_TempoFrames.j3 : Nat → List (S27) → Int → Bool → Option (Bool)
 | 0, _, _, _ => none
 | k + 1, x0, x2, x101 => if x101 = true then (some false) else ((tempo_Period.f k x0 x2).bind fun bt326 => ((continuoref30_Period.f k x0 x2).bind fun bt328 => (if bt326.1 = bt328.1 then (some (bt326.2 == bt328.2)) else (some false))))
def continuolaw30_TempoFrames.j1 : Nat → List (S27) → Int → Int → Int → Int → Int → Bool → Option (Bool)
 | 0, _, _, _, _, _, _, _ => none
 | k + 1, x0, x1, x2, x3, x9, x13, x65 => if x65 = true then (some false) else ((tempo_Frame.f k x0 x1 x13).bind fun bt320 => (if bt320.2 = 0 then (if bt320.1 = x9 then (continuolaw30_TempoFrames.j2 k x0 x1 x2 x3) else (some false)) else (some false)))
end
def continuolaw30_TempoFrames.f (k : Nat) (l0 : List (S27)) (a1 : Int) (a2 : Int) (a3 : Int) : Option (Bool) := (continuolaw30_awake.f k).bind fun t310 => (if t310 = true then ((continuolaw30_long.f l0 ([] : List (S61)) ([] : List (S56))).bind fun t311 => (if t311 = true then (some true) else ((tempo_Frame.f k l0 a1 a2).bind fun bt312 => ((continuoref30_Frame.f k l0 a1 a2).bind fun bt314 => (if bt312.1 = bt314.1 then (if bt312.2 = bt314.2 then ((tempo_Valid.f k l0).bind fun t316 => ((continuoref30_Valid.f k l0).bind fun t317 => (continuolaw30_TempoFrames.j0 k l0 a1 a2 a3 bt312.1 bt312.2 (t316 != t317)))) else (continuolaw30_TempoFrames.j0 k l0 a1 a2 a3 bt312.1 bt312.2 true)) else (continuolaw30_TempoFrames.j0 k l0 a1 a2 a3 bt312.1 bt312.2 true)))))) else (some false))
theorem continuolaw30_TempoFrames.mono_l : ∀ k, (∀ y0 y1 y2 y3 y4 y5 y6, LeO (continuolaw30_TempoFrames.j0 k y0 y1 y2 y3 y4 y5 y6) (continuolaw30_TempoFrames.j0 (k + 1) y0 y1 y2 y3 y4 y5 y6)) ∧ (∀ y0 y1 y2 y3, LeO (continuolaw30_TempoFrames.j2 k y0 y1 y2 y3) (continuolaw30_TempoFrames.j2 (k + 1) y0 y1 y2 y3)) ∧ (∀ y0 y1 y2, LeO (continuolaw30_TempoFrames.j3 k y0 y1 y2) (continuolaw30_TempoFrames.j3 (k + 1) y0 y1 y2)) ∧ (∀ y0 y1 y2 y3 y4 y5 y6, LeO (continuolaw30_TempoFrames.j1 k y0 y1 y2 y3 y4 y5 y6) (continuolaw30_TempoFrames.j1 (k + 1) y0 y1 y2 y3 y4 y5 y6))
 | 0 => ⟨fun _ _ _ _ _ _ _ r h => by simp [continuolaw30_TempoFrames.j0] at h, fun _ _ _ _ r h => by simp [continuolaw30_TempoFrames.j2] at h, fun _ _ _ r h => by simp [continuolaw30_TempoFrames.j3] at h, fun _ _ _ _ _ _ _ r h => by simp [continuolaw30_TempoFrames.j1] at h⟩
 | k + 1 => by
  obtain ⟨ih0, ih1, ih2, ih3⟩ := continuolaw30_TempoFrames.mono_l k
  refine ⟨?_, ?_, ?_, ?_⟩
  · intro y0 y1 y2 y3 y4 y5 y6
    unfold continuolaw30_TempoFrames.j0
    repeat' first
    | (with_reducible exact ih0 _ _ _ _ _ _ _)
    | (with_reducible exact ih1 _ _ _ _)
    | (with_reducible exact ih2 _ _ _)
    | (with_reducible exact ih3 _ _ _ _ _ _ _)
    | (with_reducible exact continuolaw30_awake.mono _)
    | (with_reducible exact continuoref30_Frame.mono _ _ _ _)
    | (with_reducible exact continuoref30_Period.mono _ _ _)
    | (with_reducible exact continuoref30_Tick.mono _ _ _ _)
    | (with_reducible exact continuoref30_Valid.mono _ _)
    | (with_reducible exact tempo_Frame.mono _ _ _ _)
    | (with_reducible exact tempo_Period.mono _ _ _)
    | (with_reducible exact tempo_Tick.mono _ _ _ _)
    | (with_reducible exact tempo_Valid.mono _ _)
    | (with_reducible exact LeO.refl _)
    | (with_reducible exact LeO.none _)
    | (with_reducible refine LeO.ite ?_ ?_)
    | (with_reducible refine LeO.bind ?_ (fun _ => ?_))
    | exact ih0 _ _ _ _ _ _ _
    | exact ih1 _ _ _ _
    | exact ih2 _ _ _
    | exact ih3 _ _ _ _ _ _ _
    | exact continuolaw30_awake.mono _
    | exact continuoref30_Frame.mono _ _ _ _
    | exact continuoref30_Period.mono _ _ _
    | exact continuoref30_Tick.mono _ _ _ _
    | exact continuoref30_Valid.mono _ _
    | exact tempo_Frame.mono _ _ _ _
    | exact tempo_Period.mono _ _ _
    | exact tempo_Tick.mono _ _ _ _
    | exact tempo_Valid.mono _ _
    | exact LeO.none _
    | refine LeO.ite ?_ ?_
    | refine LeO.bind ?_ (fun _ => ?_)
  · intro y0 y1 y2 y3
    unfold continuolaw30_TempoFrames.j2
    repeat' first
    | (with_reducible exact ih0 _ _ _ _ _ _ _)
    | (with_reducible exact ih1 _ _ _ _)
    | (with_reducible exact ih2 _ _ _)
    | (with_reducible exact ih3 _ _ _ _ _ _ _)
    | (with_reducible exact continuolaw30_awake.mono _)
    | (with_reducible exact continuoref30_Frame.mono _ _ _ _)
    | (with_reducible exact continuoref30_Period.mono _ _ _)
    | (with_reducible exact continuoref30_Tick.mono _ _ _ _)
    | (with_reducible exact continuoref30_Valid.mono _ _)
    | (with_reducible exact tempo_Frame.mono _ _ _ _)
    | (with_reducible exact tempo_Period.mono _ _ _)
    | (with_reducible exact tempo_Tick.mono _ _ _ _)
    | (with_reducible exact tempo_Valid.mono _ _)
    | (with_reducible exact LeO.refl _)
    | (with_reducible exact LeO.none _)
    | (with_reducible refine LeO.ite ?_ ?_)
    | (with_reducible refine LeO.bind ?_ (fun _ => ?_))
    | exact ih0 _ _ _ _ _ _ _
    | exact ih1 _ _ _ _
    | exact ih2 _ _ _
    | exact ih3 _ _ _ _ _ _ _
    | exact continuolaw30_awake.mono _
    | exact continuoref30_Frame.mono _ _ _ _
    | exact continuoref30_Period.mono _ _ _
    | exact continuoref30_Tick.mono _ _ _ _
    | exact continuoref30_Valid.mono _ _
    | exact tempo_Frame.mono _ _ _ _
    | exact tempo_Period.mono _ _ _
    | exact tempo_Tick.mono _ _ _ _
    | exact tempo_Valid.mono _ _
    | exact LeO.none _
    | refine LeO.ite ?_ ?_
    | refine LeO.bind ?_ (fun _ => ?_)
  · intro y0 y1 y2
    unfold continuolaw30_TempoFrames.j3
    repeat' first
    | (with_reducible exact ih0 _ _ _ _ _ _ _)
    | (with_reducible exact ih1 _ _ _ _)
    | (with_reducible exact ih2 _ _ _)
    | (with_reducible exact ih3 _ _ _ _ _ _ _)
    | (with_reducible exact continuolaw30_awake.mono _)
    | (with_reducible exact continuoref30_Frame.mono _ _ _ _)
    | (with_reducible exact continuoref30_Period.mono _ _ _)
    | (with_reducible exact continuoref30_Tick.mono _ _ _ _)
    | (with_reducible exact continuoref30_Valid.mono _ _)
    | (with_reducible exact tempo_Frame.mono _ _ _ _)
    | (with_reducible exact tempo_Period.mono _ _ _)
    | (with_reducible exact tempo_Tick.mono _ _ _ _)
    | (with_reducible exact tempo_Valid.mono _ _)
    | (with_reducible exact LeO.refl _)
    | (with_reducible exact LeO.none _)
    | (with_reducible refine LeO.ite ?_ ?_)
    | (with_reducible refine LeO.bind ?_ (fun _ => ?_))
    | exact ih0 _ _ _ _ _ _ _
    | exact ih1 _ _ _ _
    | exact ih2 _ _ _
    | exact ih3 _ _ _ _ _ _ _
    | exact continuolaw30_awake.mono _
    | exact continuoref30_Frame.mono _ _ _ _
    | exact continuoref30_Period.mono _ _ _
    | exact continuoref30_Tick.mono _ _ _ _
    | exact continuoref30_Valid.mono _ _
    | exact tempo_Frame.mono _ _ _ _
    | exact tempo_Period.mono _ _ _
    | exact tempo_Tick.mono _ _ _ _
    | exact tempo_Valid.mono _ _
    | exact LeO.none _
    | refine LeO.ite ?_ ?_
    | refine LeO.bind ?_ (fun _ => ?_)
  · intro y0 y1 y2 y3 y4 y5 y6
    unfold continuolaw30_TempoFrames.j1
    repeat' first
    | (with_reducible exact ih0 _ _ _ _ _ _ _)
    | (with_reducible exact ih1 _ _ _ _)
    | (with_reducible exact ih2 _ _ _)
    | (with_reducible exact ih3 _ _ _ _ _ _ _)
    | (with_reducible exact continuolaw30_awake.mono _)
    | (with_reducible exact continuoref30_Frame.mono _ _ _ _)
    | (with_reducible exact continuoref30_Period.mono _ _ _)
    | (with_reducible exact continuoref30_Tick.mono _ _ _ _)
    | (with_reducible exact continuoref30_Valid.mono _ _)
    | (with_reducible exact tempo_Frame.mono _ _ _ _)
    | (with_reducible exact tempo_Period.mono _ _ _)
    | (with_reducible exact tempo_Tick.mono _ _ _ _)
    | (with_reducible exact tempo_Valid.mono _ _)
    | (with_reducible exact LeO.refl _)
    | (with_reducible exact LeO.none _)
    | (with_reducible refine LeO.ite ?_ ?_)
    | (with_reducible refine LeO.bind ?_ (fun _ => ?_))
    | exact ih0 _ _ _ _ _ _ _
    | exact ih1 _ _ _ _
    | exact ih2 _ _ _
    | exact ih3 _ _ _ _ _ _ _
    | exact continuolaw30_awake.mono _
    | exact continuoref30_Frame.mono _ _ _ _
    | exact continuoref30_Period.mono _ _ _
    | exact continuoref30_Tick.mono _ _ _ _
    | exact continuoref30_Valid.mono _ _
    | exact tempo_Frame.mono _ _ _ _
    | exact tempo_Period.mono _ _ _
    | exact tempo_Tick.mono _ _ _ _
    | exact tempo_Valid.mono _ _
    | exact LeO.none _
    | refine LeO.ite ?_ ?_
    | refine LeO.bind ?_ (fun _ => ?_)
theorem continuolaw30_TempoFrames.mono : ∀ a0 a1 a2 a3 k, LeO (continuolaw30_TempoFrames.f k a0 a1 a2 a3) (continuolaw30_TempoFrames.f (k + 1) a0 a1 a2 a3) := by
 intro a0 a1 a2 a3 k
 obtain ⟨ih0, ih1, ih2, ih3⟩ := continuolaw30_TempoFrames.mono_l k
 unfold continuolaw30_TempoFrames.f
 repeat' first
  | (with_reducible exact ih0 _ _ _ _ _ _ _)
  | (with_reducible exact ih1 _ _ _ _)
  | (with_reducible exact ih2 _ _ _)
  | (with_reducible exact ih3 _ _ _ _ _ _ _)
  | (with_reducible exact continuolaw30_awake.mono _)
  | (with_reducible exact continuoref30_Frame.mono _ _ _ _)
  | (with_reducible exact continuoref30_Period.mono _ _ _)
  | (with_reducible exact continuoref30_Tick.mono _ _ _ _)
  | (with_reducible exact continuoref30_Valid.mono _ _)
  | (with_reducible exact tempo_Frame.mono _ _ _ _)
  | (with_reducible exact tempo_Period.mono _ _ _)
  | (with_reducible exact tempo_Tick.mono _ _ _ _)
  | (with_reducible exact tempo_Valid.mono _ _)
  | (with_reducible exact LeO.refl _)
  | (with_reducible exact LeO.none _)
  | (with_reducible refine LeO.ite ?_ ?_)
  | (with_reducible refine LeO.bind ?_ (fun _ => ?_))
  | exact ih0 _ _ _ _ _ _ _
  | exact ih1 _ _ _ _
  | exact ih2 _ _ _
  | exact ih3 _ _ _ _ _ _ _
  | exact continuolaw30_awake.mono _
  | exact continuoref30_Frame.mono _ _ _ _
  | exact continuoref30_Period.mono _ _ _
  | exact continuoref30_Tick.mono _ _ _ _
  | exact continuoref30_Valid.mono _ _
  | exact tempo_Frame.mono _ _ _ _
  | exact tempo_Period.mono _ _ _
  | exact tempo_Tick.mono _ _ _ _
  | exact tempo_Valid.mono _ _
  | exact LeO.none _
  | refine LeO.ite ?_ ?_
  | refine LeO.bind ?_ (fun _ => ?_)
set_option maxHeartbeats 8000000 in
set_option maxRecDepth 100000 in
theorem continuolaw30_TempoFrames.calls (k : Nat) (A0 : Option Addr) (c0 : Nat) (l0 : List (S27)) (a1 : Int) (a2 : Int) (a3 : Int) (r : Bool) (w : World) (hr0 : Kd.C k27 w A0 l0.length l0) (hc0 : l0.length ≤ c0) (h : continuolaw30_TempoFrames.f k l0 a1 a2 a3 = some r) :
 Calls Try.prog 6 #[.slice A0 l0.length c0, .int .i64 a1, .int .i64 a2, .int .i64 a3] w fun e w' => e = .returned (.bool r) ∧ Below w.heap.size w w' := by
 have HR0 := Aside0.mk hr0
 have HC0 := Aside0.mk hc0
 clear hr0 hc0
 have HB := Aside0.mk (Below.refl w.heap.size w)
 have H : ((continuolaw30_awake.f k).bind fun t310 => (if t310 = true then ((continuolaw30_long.f l0 ([] : List (S61)) ([] : List (S56))).bind fun t311 => (if t311 = true then (some true) else ((tempo_Frame.f k l0 a1 a2).bind fun bt312 => ((continuoref30_Frame.f k l0 a1 a2).bind fun bt314 => (if bt312.1 = bt314.1 then (if bt312.2 = bt314.2 then ((tempo_Valid.f k l0).bind fun t316 => ((continuoref30_Valid.f k l0).bind fun t317 => (continuolaw30_TempoFrames.j0 k l0 a1 a2 a3 bt312.1 bt312.2 (t316 != t317)))) else (continuolaw30_TempoFrames.j0 k l0 a1 a2 a3 bt312.1 bt312.2 true)) else (continuolaw30_TempoFrames.j0 k l0 a1 a2 a3 bt312.1 bt312.2 true)))))) else (some false))) = some r := h
 clear h
 replace H := Option.bind_eq_some_iff.mp H
 obtain ⟨t310, A50, H⟩ := H
 replace H : (if t310 = true then ((continuolaw30_long.f l0 ([] : List (S61)) ([] : List (S56))).bind fun t311 => (if t311 = true then (some true) else ((tempo_Frame.f k l0 a1 a2).bind fun bt312 => ((continuoref30_Frame.f k l0 a1 a2).bind fun bt314 => (if bt312.1 = bt314.1 then (if bt312.2 = bt314.2 then ((tempo_Valid.f k l0).bind fun t316 => ((continuoref30_Valid.f k l0).bind fun t317 => (continuolaw30_TempoFrames.j0 k l0 a1 a2 a3 bt312.1 bt312.2 (t316 != t317)))) else (continuolaw30_TempoFrames.j0 k l0 a1 a2 a3 bt312.1 bt312.2 true)) else (continuolaw30_TempoFrames.j0 k l0 a1 a2 a3 bt312.1 bt312.2 true)))))) else (some false)) = some r := H
 have A5 := Aside0.mk A50
 clear A50
 by_cases c6 : t310 = true
 · subst c6
   have H1 : ((continuolaw30_long.f l0 ([] : List (S61)) ([] : List (S56))).bind fun t311 => (if t311 = true then (some true) else ((tempo_Frame.f k l0 a1 a2).bind fun bt312 => ((continuoref30_Frame.f k l0 a1 a2).bind fun bt314 => (if bt312.1 = bt314.1 then (if bt312.2 = bt314.2 then ((tempo_Valid.f k l0).bind fun t316 => ((continuoref30_Valid.f k l0).bind fun t317 => (continuolaw30_TempoFrames.j0 k l0 a1 a2 a3 bt312.1 bt312.2 (t316 != t317)))) else (continuolaw30_TempoFrames.j0 k l0 a1 a2 a3 bt312.1 bt312.2 true)) else (continuolaw30_TempoFrames.j0 k l0 a1 a2 a3 bt312.1 bt312.2 true)))))) = some r := by rw [if_pos rfl] at H; exact H
   clear H
   have H := H1
   clear H1
   replace H := Option.bind_eq_some_iff.mp H
   obtain ⟨t311, A70, H⟩ := H
   replace H : (if t311 = true then (some true) else ((tempo_Frame.f k l0 a1 a2).bind fun bt312 => ((continuoref30_Frame.f k l0 a1 a2).bind fun bt314 => (if bt312.1 = bt314.1 then (if bt312.2 = bt314.2 then ((tempo_Valid.f k l0).bind fun t316 => ((continuoref30_Valid.f k l0).bind fun t317 => (continuolaw30_TempoFrames.j0 k l0 a1 a2 a3 bt312.1 bt312.2 (t316 != t317)))) else (continuolaw30_TempoFrames.j0 k l0 a1 a2 a3 bt312.1 bt312.2 true)) else (continuolaw30_TempoFrames.j0 k l0 a1 a2 a3 bt312.1 bt312.2 true))))) = some r := H
   have A7 := Aside0.mk A70
   clear A70
   by_cases c8 : t311 = true
   · subst c8
     have H1 : (some true) = some r := by rw [if_pos rfl] at H; exact H
     clear H
     have H := H1
     clear H1
     obtain rfl := Option.some.inj H
     go_enter Try.func6, Try.ntmps6
     go_wp2_with (first | ((with_reducible refine gate_callee (f := 9) rfl ?_); refine goesL_ (some 17) rfl rfl Try.func9 (by kernel_rfl) rfl #[] rfl (by (try simp only [List.map_toArray, List.map_cons, List.map_nil]); first | done | rfl | (simp only [List.length_drop, List.length_take]; rfl)) ?_; (with_reducible refine (continuolaw30_awake.calls k  true _ A5.out).mono ?_); rintro e w9 ⟨rfl, hb⟩; refine ⟨_, rfl, ?_⟩; have n0_ := Aside0.mk (below_step (by repeat (first | (with_reducible first | exact HB.out | apply below_alloc | apply pw_below_drewN | apply below_drew1) | exact HB.out)) hb); clear HB; have HB := n0_; clear n0_; (try clear hb); (try clear hb2); (try clear hk); (try clear hi)) | ((with_reducible refine gate_callee (f := 10) rfl ?_); refine goesL_ (some 20) rfl rfl Try.func10 (by kernel_rfl) rfl #[.slice A0 l0.length c0, .slice none 0 0, .slice none 0 0] rfl (by (try simp only [List.map_toArray, List.map_cons, List.map_nil]); first | done | rfl | (simp only [List.length_drop, List.length_take]; rfl)) ?_; (refine (continuolaw30_long.calls _ _ l0 _ _ ([] : List (S61)) _ _ ([] : List (S56)) true _ ?side1 ?side2 ?side3 ?side4 ?side5 ?side6 A7.out).mono ?_); (case side1 => repeat (first | exact (Kd.C_below HR0.out HB.out) | (with_reducible refine Kd.C_alloc ?_ _) | (with_reducible refine Kd.C_drewN ?_ _) | (with_reducible refine Kd.C_drew ?_))); (case side2 => exact HC0.out); (case side3 => exact Kd.C_nil _ _); (case side4 => exact Nat.le_refl _); (case side5 => exact Kd.C_nil _ _); (case side6 => exact Nat.le_refl _); rintro e w' ⟨rfl, ⟨nd, rfl⟩⟩; refine ⟨_, rfl, ?_⟩))
     go_ret
     exact ⟨by first | rfl | (simp [errW_none, errW_some] <;> rfl) | (simp [*, errW_none, errW_some] <;> rfl), by repeat (first | (with_reducible first | exact HB.out | apply below_alloc | apply pw_below_drewN | apply below_drew1) | exact HB.out)⟩
   · replace c8 := Bool.eq_false_iff.mpr c8
     subst c8
     have H1 : ((tempo_Frame.f k l0 a1 a2).bind fun bt312 => ((continuoref30_Frame.f k l0 a1 a2).bind fun bt314 => (if bt312.1 = bt314.1 then (if bt312.2 = bt314.2 then ((tempo_Valid.f k l0).bind fun t316 => ((continuoref30_Valid.f k l0).bind fun t317 => (continuolaw30_TempoFrames.j0 k l0 a1 a2 a3 bt312.1 bt312.2 (t316 != t317)))) else (continuolaw30_TempoFrames.j0 k l0 a1 a2 a3 bt312.1 bt312.2 true)) else (continuolaw30_TempoFrames.j0 k l0 a1 a2 a3 bt312.1 bt312.2 true)))) = some r := by rw [if_neg (show ¬ (false = true) by decide)] at H; exact H
     clear H
     have H := H1
     clear H1
     replace H := Option.bind_eq_some_iff.mp H
     obtain ⟨⟨t312, t313⟩, A100, H⟩ := H
     replace H : ((continuoref30_Frame.f k l0 a1 a2).bind fun bt314 => (if t312 = bt314.1 then (if t313 = bt314.2 then ((tempo_Valid.f k l0).bind fun t316 => ((continuoref30_Valid.f k l0).bind fun t317 => (continuolaw30_TempoFrames.j0 k l0 a1 a2 a3 t312 t313 (t316 != t317)))) else (continuolaw30_TempoFrames.j0 k l0 a1 a2 a3 t312 t313 true)) else (continuolaw30_TempoFrames.j0 k l0 a1 a2 a3 t312 t313 true))) = some r := H
     have A10 := Aside0.mk A100
     clear A100
     replace H := Option.bind_eq_some_iff.mp H
     obtain ⟨⟨t314, t315⟩, A110, H⟩ := H
     replace H : (if t312 = t314 then (if t313 = t315 then ((tempo_Valid.f k l0).bind fun t316 => ((continuoref30_Valid.f k l0).bind fun t317 => (continuolaw30_TempoFrames.j0 k l0 a1 a2 a3 t312 t313 (t316 != t317)))) else (continuolaw30_TempoFrames.j0 k l0 a1 a2 a3 t312 t313 true)) else (continuolaw30_TempoFrames.j0 k l0 a1 a2 a3 t312 t313 true)) = some r := H
     have A11 := Aside0.mk A110
     clear A110
     have HC12 := Aside0.mk H
     clear H
     go_enter Try.func6, Try.ntmps6
     go_upto_region 7 with (first | ((with_reducible refine gate_callee (f := 9) rfl ?_); refine goesL_ (some 17) rfl rfl Try.func9 (by kernel_rfl) rfl #[] rfl (by (try simp only [List.map_toArray, List.map_cons, List.map_nil]); first | done | rfl | (simp only [List.length_drop, List.length_take]; rfl)) ?_; (with_reducible refine (continuolaw30_awake.calls k  true _ A5.out).mono ?_); rintro e w13 ⟨rfl, hb⟩; refine ⟨_, rfl, ?_⟩; have n0_ := Aside0.mk (below_step (by repeat (first | (with_reducible first | exact HB.out | apply below_alloc | apply pw_below_drewN | apply below_drew1) | exact HB.out)) hb); clear HB; have HB := n0_; clear n0_; (try clear hb); (try clear hb2); (try clear hk); (try clear hi)) | ((with_reducible refine gate_callee (f := 10) rfl ?_); refine goesL_ (some 20) rfl rfl Try.func10 (by kernel_rfl) rfl #[.slice A0 l0.length c0, .slice none 0 0, .slice none 0 0] rfl (by (try simp only [List.map_toArray, List.map_cons, List.map_nil]); first | done | rfl | (simp only [List.length_drop, List.length_take]; rfl)) ?_; (refine (continuolaw30_long.calls _ _ l0 _ _ ([] : List (S61)) _ _ ([] : List (S56)) false _ ?side1 ?side2 ?side3 ?side4 ?side5 ?side6 A7.out).mono ?_); (case side1 => repeat (first | exact (Kd.C_below HR0.out HB.out) | (with_reducible refine Kd.C_alloc ?_ _) | (with_reducible refine Kd.C_drewN ?_ _) | (with_reducible refine Kd.C_drew ?_))); (case side2 => exact HC0.out); (case side3 => exact Kd.C_nil _ _); (case side4 => exact Nat.le_refl _); (case side5 => exact Kd.C_nil _ _); (case side6 => exact Nat.le_refl _); rintro e w' ⟨rfl, ⟨nd, rfl⟩⟩; refine ⟨_, rfl, ?_⟩) | ((with_reducible refine gate_callee (f := 13) rfl ?_); refine goesL_ (some 25) rfl rfl Try.func13 (by kernel_rfl) rfl #[.slice A0 l0.length c0, .int .i64 a1, .int .i64 a2] rfl (by (try simp only [List.map_toArray, List.map_cons, List.map_nil]); first | done | rfl | (simp only [List.length_drop, List.length_take]; rfl)) ?_; (with_reducible refine (tempo_Frame.calls k _ _ l0 a1 a2 t312 t313 _ ?side1 ?side2 A10.out).mono ?_); (case side1 => repeat (first | exact (Kd.C_below HR0.out (by repeat (first | (with_reducible first | exact HB.out | apply below_alloc | apply pw_below_drewN | apply below_drew1) | exact HB.out))) | (with_reducible refine Kd.C_alloc ?_ _) | (with_reducible refine Kd.C_drewN ?_ _) | (with_reducible refine Kd.C_drew ?_))); (case side2 => exact HC0.out); rintro e w14 ⟨rfl, hb⟩; refine ⟨_, rfl, ?_⟩; have n0_ := Aside0.mk (below_step (by repeat (first | (with_reducible first | exact HB.out | apply below_alloc | apply pw_below_drewN | apply below_drew1) | exact HB.out)) hb); clear HB; have HB := n0_; clear n0_; (try clear hb); (try clear hb2); (try clear hk); (try clear hi)) | ((with_reducible refine gate_callee (f := 24) rfl ?_); refine goesL_ (some 32) rfl rfl Try.func24 (by kernel_rfl) rfl #[.slice A0 l0.length c0, .int .i64 a1, .int .i64 a2] rfl (by (try simp only [List.map_toArray, List.map_cons, List.map_nil]); first | done | rfl | (simp only [List.length_drop, List.length_take]; rfl)) ?_; (with_reducible refine (continuoref30_Frame.calls k _ _ l0 a1 a2 t314 t315 _ ?side1 ?side2 A11.out).mono ?_); (case side1 => repeat (first | exact (Kd.C_below HR0.out HB.out) | (with_reducible refine Kd.C_alloc ?_ _) | (with_reducible refine Kd.C_drewN ?_ _) | (with_reducible refine Kd.C_drew ?_))); (case side2 => exact HC0.out); rintro e w15 ⟨rfl, hb⟩; refine ⟨_, rfl, ?_⟩; have n0_ := Aside0.mk (below_step (by repeat (first | (with_reducible first | exact HB.out | apply below_alloc | apply pw_below_drewN | apply below_drew1) | exact HB.out)) hb); clear HB; have HB := n0_; clear n0_; (try clear hb); (try clear hb2); (try clear hk); (try clear hi)))
     (try simp only [Act.put, List.setIfInBounds_toArray, List.set_cons_zero, List.set_cons_succ])
     go_cut [49] (fun v49 wc => ∃ (kq : Nat) (x49_11 : Bool), v49 = .bool x49_11 ∧ Aside0 (continuolaw30_TempoFrames.j0 kq l0 a1 a2 a3 t312 t313 x49_11 = some r) ∧ Aside0 (kq ≤ k) ∧ Aside0 (Below w.heap.size w wc))
     case first =>
      have H := HC12.out
      clear HC12
      by_cases c16 : t312 = t314
      · rw [if_pos c16] at H
        have c16b0 : (t312 == t314) = true := beq_iff_eq.mpr c16
        have c16b1 : (t312 != t314) = false := bne_eq_false_iff_eq.mpr c16
        clear c16
        (first | rw [c16b0] | (simp only [i64_w, i32_w]; rw [c16b0]) | skip)
        by_cases c17 : t313 = t315
        · rw [if_pos c17] at H
          have c17b0 : (t313 == t315) = true := beq_iff_eq.mpr c17
          have c17b1 : (t313 != t315) = false := bne_eq_false_iff_eq.mpr c17
          clear c17
          replace H := Option.bind_eq_some_iff.mp H
          obtain ⟨t316, A180, H⟩ := H
          replace H : ((continuoref30_Valid.f k l0).bind fun t317 => (continuolaw30_TempoFrames.j0 k l0 a1 a2 a3 t312 t313 (t316 != t317))) = some r := H
          have A18 := Aside0.mk A180
          clear A180
          replace H := Option.bind_eq_some_iff.mp H
          obtain ⟨t317, A190, H⟩ := H
          replace H : (continuolaw30_TempoFrames.j0 k l0 a1 a2 a3 t312 t313 (t316 != t317)) = some r := H
          have A19 := Aside0.mk A190
          clear A190
          have H' := Aside0.mk H
          clear H
          go_wp2_with (first | (go_at_call 25; (with_reducible refine (tempo_Valid.calls k _ _ l0 t316 _ ?side1 ?side2 A18.out).mono ?_); (case side1 => repeat (first | exact (Kd.C_below HR0.out HB.out) | (with_reducible refine Kd.C_alloc ?_ _) | (with_reducible refine Kd.C_drewN ?_ _) | (with_reducible refine Kd.C_drew ?_))); (case side2 => exact HC0.out); rintro e w20 ⟨rfl, hb⟩; have n0_ := Aside0.mk (below_step (by repeat (first | (with_reducible first | exact HB.out | apply below_alloc | apply pw_below_drewN | apply below_drew1) | exact HB.out)) hb); clear HB; have HB := n0_; clear n0_; (try clear hb); (try clear hb2); (try clear hk); (try clear hi)) | (go_at_call 11; (with_reducible refine (continuoref30_Valid.calls k _ _ l0 t317 _ ?side1 ?side2 A19.out).mono ?_); (case side1 => repeat (first | exact (Kd.C_below HR0.out HB.out) | (with_reducible refine Kd.C_alloc ?_ _) | (with_reducible refine Kd.C_drewN ?_ _) | (with_reducible refine Kd.C_drew ?_))); (case side2 => exact HC0.out); rintro e w21 ⟨rfl, hb⟩; have n0_ := Aside0.mk (below_step (by repeat (first | (with_reducible first | exact HB.out | apply below_alloc | apply pw_below_drewN | apply below_drew1) | exact HB.out)) hb); clear HB; have HB := n0_; clear n0_; (try clear hb); (try clear hb2); (try clear hk); (try clear hi)))
          go_meet
          case rel => exact ⟨_, ((t316 != t317)), (by first | rfl | (simp; done) | (simp [*]; done)), H', ⟨by first | omega | exact Nat.le_refl _⟩, ⟨by repeat (first | (with_reducible first | exact HB.out | apply below_alloc | apply pw_below_drewN | apply below_drew1) | exact HB.out)⟩⟩
        · rw [if_neg c17] at H
          have c17b0 : (t313 == t315) = false := beq_eq_false_iff_ne.mpr c17
          have c17b1 : (t313 != t315) = true := bne_iff_ne.mpr c17
          have H' := Aside0.mk H
          clear H
          go_wp2
          go_meet
          case rel => exact ⟨_, (true), (by first | rfl | (simp; done) | (simp [*]; done)), H', ⟨by first | omega | exact Nat.le_refl _⟩, ⟨by repeat (first | (with_reducible first | exact HB.out | apply below_alloc | apply pw_below_drewN | apply below_drew1) | exact HB.out)⟩⟩
      · rw [if_neg c16] at H
        have c16b0 : (t312 == t314) = false := beq_eq_false_iff_ne.mpr c16
        have c16b1 : (t312 != t314) = true := bne_iff_ne.mpr c16
        (first | rw [c16b0] | (simp only [i64_w, i32_w]; rw [c16b0]) | skip)
        have H' := Aside0.mk H
        clear H
        go_wp2
        go_meet
        case rel => exact ⟨_, (true), (by first | rfl | (simp; done) | (simp [*]; done)), H', ⟨by first | omega | exact Nat.le_refl _⟩, ⟨by repeat (first | (with_reducible first | exact HB.out | apply below_alloc | apply pw_below_drewN | apply below_drew1) | exact HB.out)⟩⟩
     case rest =>
      clear HC12
      try clear c1
      try clear c2
      try clear p2
      try clear c6
      try clear c8
      try clear c9
      try clear c10
      try clear c13
      try clear c16
      try clear c16b0
      try clear c16b1
      try clear c17
      try clear c17b0
      try clear c17b1
      obtain ⟨kq, x49_11, rfl, HA, HJ11, HB⟩ := hcut
      cases kq with
      | zero => exact absurd HA.out (by simp [continuolaw30_TempoFrames.j0])
      | succ kj11 =>
       have H := HA.out
       clear HA
       simp only [continuolaw30_TempoFrames.j0] at H
       by_cases c22 : x49_11 = true
       · subst c22
         have H1 : (some false) = some r := by rw [if_pos rfl] at H; exact H
         clear H
         have H := H1
         clear H1
         obtain rfl := Option.some.inj H
         go_wp2
         go_ret
         exact ⟨by first | rfl | (simp [errW_none, errW_some] <;> rfl) | (simp [*, errW_none, errW_some] <;> rfl), by repeat (first | (with_reducible first | exact HB.out | apply below_alloc | apply pw_below_drewN | apply below_drew1) | exact HB.out)⟩
       · replace c22 := Bool.eq_false_iff.mpr c22
         subst c22
         have H1 : (if t313 = 0 then ((tempo_Tick.f kj11 l0 a1 t312).bind fun bt318 => (if bt318.2 = 0 then (continuolaw30_TempoFrames.j1 kj11 l0 a1 a2 a3 t312 bt318.1 (decide (bt318.1 < a2))) else (continuolaw30_TempoFrames.j1 kj11 l0 a1 a2 a3 t312 bt318.1 true))) else (continuolaw30_TempoFrames.j2 kj11 l0 a1 a2 a3)) = some r := by rw [if_neg (show ¬ (false = true) by decide)] at H; exact H
         clear H
         have H := H1
         clear H1
         have HC23 := Aside0.mk H
         clear H
         go_upto_if 51 with (fail)
         go_cut [] (fun wc => ∃ (kq : Nat), Aside0 (continuolaw30_TempoFrames.j2 kq l0 a1 a2 a3 = some r) ∧ Aside0 (kq ≤ kj11) ∧ Aside0 (Below w.heap.size w wc))
         case first =>
          have H := HC23.out
          clear HC23
          by_cases c24 : t313 = 0
          · rw [if_pos c24] at H
            have c24b0 : (t313 == 0) = true := beq_iff_eq.mpr c24
            have c24b1 : (t313 != 0) = false := bne_eq_false_iff_eq.mpr c24
            clear c24
            (first | rw [c24b0] | (simp only [i64_w, i32_w]; rw [c24b0]) | skip)
            replace H := Option.bind_eq_some_iff.mp H
            obtain ⟨⟨t318, t319⟩, A250, H⟩ := H
            replace H : (if t319 = 0 then (continuolaw30_TempoFrames.j1 kj11 l0 a1 a2 a3 t312 t318 (decide (t318 < a2))) else (continuolaw30_TempoFrames.j1 kj11 l0 a1 a2 a3 t312 t318 true)) = some r := H
            have A25 := Aside0.mk A250
            clear A250
            have HC26 := Aside0.mk H
            clear H
            go_upto_region 11 with (first | ((with_reducible refine gate_callee (f := 26) rfl ?_); refine goesL_ (some 56) rfl rfl Try.func26 (by kernel_rfl) rfl #[.slice A0 l0.length c0, .int .i64 a1, .int .i64 t312] rfl (by (try simp only [List.map_toArray, List.map_cons, List.map_nil]); first | done | rfl | (simp only [List.length_drop, List.length_take]; rfl)) ?_; (with_reducible refine (tempo_Tick.calls kj11 _ _ l0 a1 t312 t318 t319 _ ?side1 ?side2 A25.out).mono ?_); (case side1 => repeat (first | exact (Kd.C_below HR0.out HB.out) | (with_reducible refine Kd.C_alloc ?_ _) | (with_reducible refine Kd.C_drewN ?_ _) | (with_reducible refine Kd.C_drew ?_))); (case side2 => exact HC0.out); rintro e w27 ⟨rfl, hb⟩; refine ⟨_, rfl, ?_⟩; have n0_ := Aside0.mk (below_step (by repeat (first | (with_reducible first | exact HB.out | apply below_alloc | apply pw_below_drewN | apply below_drew1) | exact HB.out)) hb); clear HB; have HB := n0_; clear n0_; (try clear hb); (try clear hb2); (try clear hk); (try clear hi)))
            (try simp only [Act.put, List.setIfInBounds_toArray, List.set_cons_zero, List.set_cons_succ])
            go_cut [65] (fun v65 wc => ∃ (kq : Nat) (x65_25 : Bool), v65 = .bool x65_25 ∧ Aside0 (continuolaw30_TempoFrames.j1 kq l0 a1 a2 a3 t312 t318 x65_25 = some r) ∧ Aside0 (kq ≤ kj11) ∧ Aside0 (Below w.heap.size w wc))
            case first =>
             have H := HC26.out
             clear HC26
             by_cases c28 : t319 = 0
             · rw [if_pos c28] at H
               have c28b0 : (t319 == 0) = true := beq_iff_eq.mpr c28
               have c28b1 : (t319 != 0) = false := bne_eq_false_iff_eq.mpr c28
               clear c28
               (first | rw [c28b0] | (simp only [i64_w, i32_w]; rw [c28b0]) | skip)
               have H' := Aside0.mk H
               clear H
               go_wp2
               go_meet
               case rel => exact ⟨_, (decide (t318 < a2)), (by first | rfl | (simp; done) | (simp [*]; done)), H', ⟨by have := HJ11.out; first | omega | exact Nat.le_refl _⟩, ⟨by repeat (first | (with_reducible first | exact HB.out | apply below_alloc | apply pw_below_drewN | apply below_drew1) | exact HB.out)⟩⟩
             · rw [if_neg c28] at H
               have c28b0 : (t319 == 0) = false := beq_eq_false_iff_ne.mpr c28
               have c28b1 : (t319 != 0) = true := bne_iff_ne.mpr c28
               (first | rw [c28b0] | (simp only [i64_w, i32_w]; rw [c28b0]) | skip)
               have H' := Aside0.mk H
               clear H
               go_wp2
               go_meet
               case rel => exact ⟨_, (true), (by first | rfl | (simp; done) | (simp [*]; done)), H', ⟨by have := HJ11.out; first | omega | exact Nat.le_refl _⟩, ⟨by repeat (first | (with_reducible first | exact HB.out | apply below_alloc | apply pw_below_drewN | apply below_drew1) | exact HB.out)⟩⟩
            case rest =>
             clear HC26
             try clear c1
             try clear c2
             try clear p2
             try clear c6
             try clear c8
             try clear c9
             try clear c10
             try clear c13
             try clear c16
             try clear c16b0
             try clear c16b1
             try clear c17
             try clear c17b0
             try clear c17b1
             try clear c22
             try clear c24
             try clear c24b0
             try clear c24b1
             try clear c26
             try clear c28
             try clear c28b0
             try clear c28b1
             try clear p2
             obtain ⟨kq, x65_25, rfl, HA, HJ25, HB⟩ := hcut
             cases kq with
             | zero => exact absurd HA.out (by simp [continuolaw30_TempoFrames.j1])
             | succ kj25 =>
              have H := HA.out
              clear HA
              simp only [continuolaw30_TempoFrames.j1] at H
              by_cases c29 : x65_25 = true
              · subst c29
                have H1 : (some false) = some r := by rw [if_pos rfl] at H; exact H
                clear H
                have H := H1
                clear H1
                obtain rfl := Option.some.inj H
                go_wp2
                go_ret
                exact ⟨by first | rfl | (simp [errW_none, errW_some] <;> rfl) | (simp [*, errW_none, errW_some] <;> rfl), by repeat (first | (with_reducible first | exact HB.out | apply below_alloc | apply pw_below_drewN | apply below_drew1) | exact HB.out)⟩
              · replace c29 := Bool.eq_false_iff.mpr c29
                subst c29
                have H1 : ((tempo_Frame.f kj25 l0 a1 t318).bind fun bt320 => (if bt320.2 = 0 then (if bt320.1 = t312 then (continuolaw30_TempoFrames.j2 kj25 l0 a1 a2 a3) else (some false)) else (some false))) = some r := by rw [if_neg (show ¬ (false = true) by decide)] at H; exact H
                clear H
                have H := H1
                clear H1
                replace H := Option.bind_eq_some_iff.mp H
                obtain ⟨⟨t320, t321⟩, A300, H⟩ := H
                replace H : (if t321 = 0 then (if t320 = t312 then (continuolaw30_TempoFrames.j2 kj25 l0 a1 a2 a3) else (some false)) else (some false)) = some r := H
                have A30 := Aside0.mk A300
                clear A300
                by_cases c31 : t321 = 0
                · rw [if_pos c31] at H
                  have c31b0 : (t321 == 0) = true := beq_iff_eq.mpr c31
                  have c31b1 : (t321 != 0) = false := bne_eq_false_iff_eq.mpr c31
                  clear c31
                  by_cases c32 : t320 = t312
                  · rw [if_pos c32] at H
                    have c32b0 : (t320 == t312) = true := beq_iff_eq.mpr c32
                    have c32b1 : (t320 != t312) = false := bne_eq_false_iff_eq.mpr c32
                    clear c32
                    have H' := Aside0.mk H
                    clear H
                    go_wp2_with (first | ((with_reducible refine gate_callee (f := 13) rfl ?_); refine goesL_ (some 70) rfl rfl Try.func13 (by kernel_rfl) rfl #[.slice A0 l0.length c0, .int .i64 a1, .int .i64 t318] rfl (by (try simp only [List.map_toArray, List.map_cons, List.map_nil]); first | done | rfl | (simp only [List.length_drop, List.length_take]; rfl)) ?_; (with_reducible refine (tempo_Frame.calls kj25 _ _ l0 a1 t318 t320 t321 _ ?side1 ?side2 A30.out).mono ?_); (case side1 => repeat (first | exact (Kd.C_below HR0.out HB.out) | (with_reducible refine Kd.C_alloc ?_ _) | (with_reducible refine Kd.C_drewN ?_ _) | (with_reducible refine Kd.C_drew ?_))); (case side2 => exact HC0.out); rintro e w33 ⟨rfl, hb⟩; refine ⟨_, rfl, ?_⟩; have n0_ := Aside0.mk (below_step (by repeat (first | (with_reducible first | exact HB.out | apply below_alloc | apply pw_below_drewN | apply below_drew1) | exact HB.out)) hb); clear HB; have HB := n0_; clear n0_; (try clear hb); (try clear hb2); (try clear hk); (try clear hi)))
                    go_meet
                    case rel => exact ⟨_, H', ⟨by have := HJ11.out; have := HJ25.out; first | omega | exact Nat.le_refl _⟩, ⟨by repeat (first | (with_reducible first | exact HB.out | apply below_alloc | apply pw_below_drewN | apply below_drew1) | exact HB.out)⟩⟩
                  · rw [if_neg c32] at H
                    have c32b0 : (t320 == t312) = false := beq_eq_false_iff_ne.mpr c32
                    have c32b1 : (t320 != t312) = true := bne_iff_ne.mpr c32
                    obtain rfl := Option.some.inj H
                    go_wp2_with (first | ((with_reducible refine gate_callee (f := 13) rfl ?_); refine goesL_ (some 70) rfl rfl Try.func13 (by kernel_rfl) rfl #[.slice A0 l0.length c0, .int .i64 a1, .int .i64 t318] rfl (by (try simp only [List.map_toArray, List.map_cons, List.map_nil]); first | done | rfl | (simp only [List.length_drop, List.length_take]; rfl)) ?_; (with_reducible refine (tempo_Frame.calls kj25 _ _ l0 a1 t318 t320 t321 _ ?side1 ?side2 A30.out).mono ?_); (case side1 => repeat (first | exact (Kd.C_below HR0.out HB.out) | (with_reducible refine Kd.C_alloc ?_ _) | (with_reducible refine Kd.C_drewN ?_ _) | (with_reducible refine Kd.C_drew ?_))); (case side2 => exact HC0.out); rintro e w34 ⟨rfl, hb⟩; refine ⟨_, rfl, ?_⟩; have n0_ := Aside0.mk (below_step (by repeat (first | (with_reducible first | exact HB.out | apply below_alloc | apply pw_below_drewN | apply below_drew1) | exact HB.out)) hb); clear HB; have HB := n0_; clear n0_; (try clear hb); (try clear hb2); (try clear hk); (try clear hi)))
                    go_ret
                    exact ⟨by first | rfl | (simp [errW_none, errW_some] <;> rfl) | (simp [*, errW_none, errW_some] <;> rfl), by repeat (first | (with_reducible first | exact HB.out | apply below_alloc | apply pw_below_drewN | apply below_drew1) | exact HB.out)⟩
                · rw [if_neg c31] at H
                  have c31b0 : (t321 == 0) = false := beq_eq_false_iff_ne.mpr c31
                  have c31b1 : (t321 != 0) = true := bne_iff_ne.mpr c31
                  obtain rfl := Option.some.inj H
                  go_wp2_with (first | ((with_reducible refine gate_callee (f := 13) rfl ?_); refine goesL_ (some 70) rfl rfl Try.func13 (by kernel_rfl) rfl #[.slice A0 l0.length c0, .int .i64 a1, .int .i64 t318] rfl (by (try simp only [List.map_toArray, List.map_cons, List.map_nil]); first | done | rfl | (simp only [List.length_drop, List.length_take]; rfl)) ?_; (with_reducible refine (tempo_Frame.calls kj25 _ _ l0 a1 t318 t320 t321 _ ?side1 ?side2 A30.out).mono ?_); (case side1 => repeat (first | exact (Kd.C_below HR0.out HB.out) | (with_reducible refine Kd.C_alloc ?_ _) | (with_reducible refine Kd.C_drewN ?_ _) | (with_reducible refine Kd.C_drew ?_))); (case side2 => exact HC0.out); rintro e w35 ⟨rfl, hb⟩; refine ⟨_, rfl, ?_⟩; have n0_ := Aside0.mk (below_step (by repeat (first | (with_reducible first | exact HB.out | apply below_alloc | apply pw_below_drewN | apply below_drew1) | exact HB.out)) hb); clear HB; have HB := n0_; clear n0_; (try clear hb); (try clear hb2); (try clear hk); (try clear hi)))
                  go_ret
                  exact ⟨by first | rfl | (simp [errW_none, errW_some] <;> rfl) | (simp [*, errW_none, errW_some] <;> rfl), by repeat (first | (with_reducible first | exact HB.out | apply below_alloc | apply pw_below_drewN | apply below_drew1) | exact HB.out)⟩
          · rw [if_neg c24] at H
            have c24b0 : (t313 == 0) = false := beq_eq_false_iff_ne.mpr c24
            have c24b1 : (t313 != 0) = true := bne_iff_ne.mpr c24
            (first | rw [c24b0] | (simp only [i64_w, i32_w]; rw [c24b0]) | skip)
            have H' := Aside0.mk H
            clear H
            go_wp2
            go_meet
            case rel => exact ⟨_, H', ⟨by have := HJ11.out; first | omega | exact Nat.le_refl _⟩, ⟨by repeat (first | (with_reducible first | exact HB.out | apply below_alloc | apply pw_below_drewN | apply below_drew1) | exact HB.out)⟩⟩
         case rest =>
          clear HC23
          try clear c1
          try clear c2
          try clear p2
          try clear c3
          try clear c6
          try clear c8
          try clear c9
          try clear c10
          try clear c13
          try clear c16
          try clear c16b0
          try clear c16b1
          try clear c17
          try clear c17b0
          try clear c17b1
          try clear c22
          try clear c24
          try clear c24b0
          try clear c24b1
          try clear c26
          try clear c28
          try clear c28b0
          try clear c28b1
          try clear c29
          try clear c31
          try clear c31b0
          try clear c31b1
          try clear c32
          try clear c32b0
          try clear c32b1
          try clear p2
          obtain ⟨kq, HA, HJ22, HB⟩ := hcut
          cases kq with
          | zero => exact absurd HA.out (by simp [continuolaw30_TempoFrames.j2])
          | succ kj22 =>
           have H := HA.out
           clear HA
           simp only [continuolaw30_TempoFrames.j2] at H
           replace H := Option.bind_eq_some_iff.mp H
           obtain ⟨⟨t322, t323⟩, A360, H⟩ := H
           replace H : ((continuoref30_Tick.f kj22 l0 a1 a3).bind fun bt324 => (if t322 = bt324.1 then (continuolaw30_TempoFrames.j3 kj22 l0 a2 (t323 != bt324.2)) else (continuolaw30_TempoFrames.j3 kj22 l0 a2 true))) = some r := H
           have A36 := Aside0.mk A360
           clear A360
           replace H := Option.bind_eq_some_iff.mp H
           obtain ⟨⟨t324, t325⟩, A370, H⟩ := H
           replace H : (if t322 = t324 then (continuolaw30_TempoFrames.j3 kj22 l0 a2 (t323 != t325)) else (continuolaw30_TempoFrames.j3 kj22 l0 a2 true)) = some r := H
           have A37 := Aside0.mk A370
           clear A370
           have HC38 := Aside0.mk H
           clear H
           go_upto_region 18 with (first | ((with_reducible refine gate_callee (f := 26) rfl ?_); refine goesL_ (some 84) rfl rfl Try.func26 (by kernel_rfl) rfl #[.slice A0 l0.length c0, .int .i64 a1, .int .i64 a3] rfl (by (try simp only [List.map_toArray, List.map_cons, List.map_nil]); first | done | rfl | (simp only [List.length_drop, List.length_take]; rfl)) ?_; (with_reducible refine (tempo_Tick.calls kj22 _ _ l0 a1 a3 t322 t323 _ ?side1 ?side2 A36.out).mono ?_); (case side1 => repeat (first | exact (Kd.C_below HR0.out HB.out) | (with_reducible refine Kd.C_alloc ?_ _) | (with_reducible refine Kd.C_drewN ?_ _) | (with_reducible refine Kd.C_drew ?_))); (case side2 => exact HC0.out); rintro e w39 ⟨rfl, hb⟩; refine ⟨_, rfl, ?_⟩; have n0_ := Aside0.mk (below_step (by repeat (first | (with_reducible first | exact HB.out | apply below_alloc | apply pw_below_drewN | apply below_drew1) | exact HB.out)) hb); clear HB; have HB := n0_; clear n0_; (try clear hb); (try clear hb2); (try clear hk); (try clear hi)) | ((with_reducible refine gate_callee (f := 27) rfl ?_); refine goesL_ (some 91) rfl rfl Try.func27 (by kernel_rfl) rfl #[.slice A0 l0.length c0, .int .i64 a1, .int .i64 a3] rfl (by (try simp only [List.map_toArray, List.map_cons, List.map_nil]); first | done | rfl | (simp only [List.length_drop, List.length_take]; rfl)) ?_; (with_reducible refine (continuoref30_Tick.calls kj22 _ _ l0 a1 a3 t324 t325 _ ?side1 ?side2 A37.out).mono ?_); (case side1 => repeat (first | exact (Kd.C_below HR0.out HB.out) | (with_reducible refine Kd.C_alloc ?_ _) | (with_reducible refine Kd.C_drewN ?_ _) | (with_reducible refine Kd.C_drew ?_))); (case side2 => exact HC0.out); rintro e w40 ⟨rfl, hb⟩; refine ⟨_, rfl, ?_⟩; have n0_ := Aside0.mk (below_step (by repeat (first | (with_reducible first | exact HB.out | apply below_alloc | apply pw_below_drewN | apply below_drew1) | exact HB.out)) hb); clear HB; have HB := n0_; clear n0_; (try clear hb); (try clear hb2); (try clear hk); (try clear hi)))
           (try simp only [Act.put, List.setIfInBounds_toArray, List.set_cons_zero, List.set_cons_succ])
           go_cut [101] (fun v101 wc => ∃ (kq : Nat) (x101_37 : Bool), v101 = .bool x101_37 ∧ Aside0 (continuolaw30_TempoFrames.j3 kq l0 a2 x101_37 = some r) ∧ Aside0 (kq ≤ kj22) ∧ Aside0 (Below w.heap.size w wc))
           case first =>
            have H := HC38.out
            clear HC38
            by_cases c41 : t322 = t324
            · rw [if_pos c41] at H
              have c41b0 : (t322 == t324) = true := beq_iff_eq.mpr c41
              have c41b1 : (t322 != t324) = false := bne_eq_false_iff_eq.mpr c41
              clear c41
              (first | rw [c41b0] | (simp only [i64_w, i32_w]; rw [c41b0]) | skip)
              have H' := Aside0.mk H
              clear H
              go_wp2
              go_meet
              case rel => exact ⟨_, ((t323 != t325)), (by first | rfl | (simp; done) | (simp [*]; done)), H', ⟨by have := HJ11.out; have := HJ22.out; first | omega | exact Nat.le_refl _⟩, ⟨by repeat (first | (with_reducible first | exact HB.out | apply below_alloc | apply pw_below_drewN | apply below_drew1) | exact HB.out)⟩⟩
            · rw [if_neg c41] at H
              have c41b0 : (t322 == t324) = false := beq_eq_false_iff_ne.mpr c41
              have c41b1 : (t322 != t324) = true := bne_iff_ne.mpr c41
              (first | rw [c41b0] | (simp only [i64_w, i32_w]; rw [c41b0]) | skip)
              have H' := Aside0.mk H
              clear H
              go_wp2
              go_meet
              case rel => exact ⟨_, (true), (by first | rfl | (simp; done) | (simp [*]; done)), H', ⟨by have := HJ11.out; have := HJ22.out; first | omega | exact Nat.le_refl _⟩, ⟨by repeat (first | (with_reducible first | exact HB.out | apply below_alloc | apply pw_below_drewN | apply below_drew1) | exact HB.out)⟩⟩
           case rest =>
            clear HC38
            try clear c1
            try clear c2
            try clear p2
            try clear c3
            try clear c4
            try clear c6
            try clear c8
            try clear c9
            try clear c10
            try clear c13
            try clear c16
            try clear c16b0
            try clear c16b1
            try clear c17
            try clear c17b0
            try clear c17b1
            try clear c22
            try clear c24
            try clear c24b0
            try clear c24b1
            try clear c26
            try clear c27
            try clear c28
            try clear c28b0
            try clear c28b1
            try clear c29
            try clear c31
            try clear c31b0
            try clear c31b1
            try clear c32
            try clear c32b0
            try clear c32b1
            try clear c41
            try clear c41b0
            try clear c41b1
            try clear p2
            obtain ⟨kq, x101_37, rfl, HA, HJ37, HB⟩ := hcut
            cases kq with
            | zero => exact absurd HA.out (by simp [continuolaw30_TempoFrames.j3])
            | succ kj37 =>
             have H := HA.out
             clear HA
             simp only [continuolaw30_TempoFrames.j3] at H
             by_cases c42 : x101_37 = true
             · subst c42
               have H1 : (some false) = some r := by rw [if_pos rfl] at H; exact H
               clear H
               have H := H1
               clear H1
               obtain rfl := Option.some.inj H
               go_wp2
               go_ret
               exact ⟨by first | rfl | (simp [errW_none, errW_some] <;> rfl) | (simp [*, errW_none, errW_some] <;> rfl), by repeat (first | (with_reducible first | exact HB.out | apply below_alloc | apply pw_below_drewN | apply below_drew1) | exact HB.out)⟩
             · replace c42 := Bool.eq_false_iff.mpr c42
               subst c42
               have H1 : ((tempo_Period.f kj37 l0 a2).bind fun bt326 => ((continuoref30_Period.f kj37 l0 a2).bind fun bt328 => (if bt326.1 = bt328.1 then (some (bt326.2 == bt328.2)) else (some false)))) = some r := by rw [if_neg (show ¬ (false = true) by decide)] at H; exact H
               clear H
               have H := H1
               clear H1
               replace H := Option.bind_eq_some_iff.mp H
               obtain ⟨⟨t326, t327⟩, A430, H⟩ := H
               replace H : ((continuoref30_Period.f kj37 l0 a2).bind fun bt328 => (if t326 = bt328.1 then (some (t327 == bt328.2)) else (some false))) = some r := H
               have A43 := Aside0.mk A430
               clear A430
               replace H := Option.bind_eq_some_iff.mp H
               obtain ⟨⟨t328, t329⟩, A440, H⟩ := H
               replace H : (if t326 = t328 then (some (t327 == t329)) else (some false)) = some r := H
               have A44 := Aside0.mk A440
               clear A440
               by_cases c45 : t326 = t328
               · rw [if_pos c45] at H
                 have c45b0 : (t326 == t328) = true := beq_iff_eq.mpr c45
                 have c45b1 : (t326 != t328) = false := bne_eq_false_iff_eq.mpr c45
                 clear c45
                 obtain rfl := Option.some.inj H
                 go_wp2_with (first | ((with_reducible refine gate_callee (f := 12) rfl ?_); refine goesL_ (some 105) rfl rfl Try.func12 (by kernel_rfl) rfl #[.slice A0 l0.length c0, .int .i64 a2] rfl (by (try simp only [List.map_toArray, List.map_cons, List.map_nil]); first | done | rfl | (simp only [List.length_drop, List.length_take]; rfl)) ?_; (with_reducible refine (tempo_Period.calls kj37 _ _ l0 a2 t326 t327 _ ?side1 ?side2 A43.out).mono ?_); (case side1 => repeat (first | exact (Kd.C_below HR0.out HB.out) | (with_reducible refine Kd.C_alloc ?_ _) | (with_reducible refine Kd.C_drewN ?_ _) | (with_reducible refine Kd.C_drew ?_))); (case side2 => exact HC0.out); rintro e w46 ⟨rfl, hb⟩; refine ⟨_, rfl, ?_⟩; have n0_ := Aside0.mk (below_step (by repeat (first | (with_reducible first | exact HB.out | apply below_alloc | apply pw_below_drewN | apply below_drew1) | exact HB.out)) hb); clear HB; have HB := n0_; clear n0_; (try clear hb); (try clear hb2); (try clear hk); (try clear hi)) | ((with_reducible refine gate_callee (f := 28) rfl ?_); refine goesL_ (some 111) rfl rfl Try.func28 (by kernel_rfl) rfl #[.slice A0 l0.length c0, .int .i64 a2] rfl (by (try simp only [List.map_toArray, List.map_cons, List.map_nil]); first | done | rfl | (simp only [List.length_drop, List.length_take]; rfl)) ?_; (with_reducible refine (continuoref30_Period.calls kj37 _ _ l0 a2 t328 t329 _ ?side1 ?side2 A44.out).mono ?_); (case side1 => repeat (first | exact (Kd.C_below HR0.out HB.out) | (with_reducible refine Kd.C_alloc ?_ _) | (with_reducible refine Kd.C_drewN ?_ _) | (with_reducible refine Kd.C_drew ?_))); (case side2 => exact HC0.out); rintro e w47 ⟨rfl, hb⟩; refine ⟨_, rfl, ?_⟩; have n0_ := Aside0.mk (below_step (by repeat (first | (with_reducible first | exact HB.out | apply below_alloc | apply pw_below_drewN | apply below_drew1) | exact HB.out)) hb); clear HB; have HB := n0_; clear n0_; (try clear hb); (try clear hb2); (try clear hk); (try clear hi)))
                 go_ret
                 exact ⟨by first | rfl | (simp [errW_none, errW_some] <;> rfl) | (simp [*, errW_none, errW_some] <;> rfl), by repeat (first | (with_reducible first | exact HB.out | apply below_alloc | apply pw_below_drewN | apply below_drew1) | exact HB.out)⟩
               · rw [if_neg c45] at H
                 have c45b0 : (t326 == t328) = false := beq_eq_false_iff_ne.mpr c45
                 have c45b1 : (t326 != t328) = true := bne_iff_ne.mpr c45
                 obtain rfl := Option.some.inj H
                 go_wp2_with (first | ((with_reducible refine gate_callee (f := 12) rfl ?_); refine goesL_ (some 105) rfl rfl Try.func12 (by kernel_rfl) rfl #[.slice A0 l0.length c0, .int .i64 a2] rfl (by (try simp only [List.map_toArray, List.map_cons, List.map_nil]); first | done | rfl | (simp only [List.length_drop, List.length_take]; rfl)) ?_; (with_reducible refine (tempo_Period.calls kj37 _ _ l0 a2 t326 t327 _ ?side1 ?side2 A43.out).mono ?_); (case side1 => repeat (first | exact (Kd.C_below HR0.out HB.out) | (with_reducible refine Kd.C_alloc ?_ _) | (with_reducible refine Kd.C_drewN ?_ _) | (with_reducible refine Kd.C_drew ?_))); (case side2 => exact HC0.out); rintro e w48 ⟨rfl, hb⟩; refine ⟨_, rfl, ?_⟩; have n0_ := Aside0.mk (below_step (by repeat (first | (with_reducible first | exact HB.out | apply below_alloc | apply pw_below_drewN | apply below_drew1) | exact HB.out)) hb); clear HB; have HB := n0_; clear n0_; (try clear hb); (try clear hb2); (try clear hk); (try clear hi)) | ((with_reducible refine gate_callee (f := 28) rfl ?_); refine goesL_ (some 111) rfl rfl Try.func28 (by kernel_rfl) rfl #[.slice A0 l0.length c0, .int .i64 a2] rfl (by (try simp only [List.map_toArray, List.map_cons, List.map_nil]); first | done | rfl | (simp only [List.length_drop, List.length_take]; rfl)) ?_; (with_reducible refine (continuoref30_Period.calls kj37 _ _ l0 a2 t328 t329 _ ?side1 ?side2 A44.out).mono ?_); (case side1 => repeat (first | exact (Kd.C_below HR0.out HB.out) | (with_reducible refine Kd.C_alloc ?_ _) | (with_reducible refine Kd.C_drewN ?_ _) | (with_reducible refine Kd.C_drew ?_))); (case side2 => exact HC0.out); rintro e w49 ⟨rfl, hb⟩; refine ⟨_, rfl, ?_⟩; have n0_ := Aside0.mk (below_step (by repeat (first | (with_reducible first | exact HB.out | apply below_alloc | apply pw_below_drewN | apply below_drew1) | exact HB.out)) hb); clear HB; have HB := n0_; clear n0_; (try clear hb); (try clear hb2); (try clear hk); (try clear hi)))
                 go_ret
                 exact ⟨by first | rfl | (simp [errW_none, errW_some] <;> rfl) | (simp [*, errW_none, errW_some] <;> rfl), by repeat (first | (with_reducible first | exact HB.out | apply below_alloc | apply pw_below_drewN | apply below_drew1) | exact HB.out)⟩
 · replace c6 := Bool.eq_false_iff.mpr c6
   subst c6
   have H1 : (some false) = some r := by rw [if_neg (show ¬ (false = true) by decide)] at H; exact H
   clear H
   have H := H1
   clear H1
   obtain rfl := Option.some.inj H
   go_enter Try.func6, Try.ntmps6
   go_wp2_with (first | ((with_reducible refine gate_callee (f := 9) rfl ?_); refine goesL_ (some 17) rfl rfl Try.func9 (by kernel_rfl) rfl #[] rfl (by (try simp only [List.map_toArray, List.map_cons, List.map_nil]); first | done | rfl | (simp only [List.length_drop, List.length_take]; rfl)) ?_; (with_reducible refine (continuolaw30_awake.calls k  false _ A5.out).mono ?_); rintro e w50 ⟨rfl, hb⟩; refine ⟨_, rfl, ?_⟩; have n0_ := Aside0.mk (below_step (by repeat (first | (with_reducible first | exact HB.out | apply below_alloc | apply pw_below_drewN | apply below_drew1) | exact HB.out)) hb); clear HB; have HB := n0_; clear n0_; (try clear hb); (try clear hb2); (try clear hk); (try clear hi)))
   go_ret
   exact ⟨by first | rfl | (simp [errW_none, errW_some] <;> rfl) | (simp [*, errW_none, errW_some] <;> rfl), by repeat (first | (with_reducible first | exact HB.out | apply below_alloc | apply pw_below_drewN | apply below_drew1) | exact HB.out)⟩
end Go.Proofs.Ytomlfbmfdoallaa.PA

namespace Go.Proofs.Ytomlfbmfdoallaa.Pure
open Go.RowKit Go.Proofs.Ytomlfbmfdoallaa.PA Go.Proofs.YtomlfbmfdoallaaW.PrintWords Go.Proofs.YtomlfbmfdoallaaW.PrintLast
set_option linter.unusedVariables false
set_option linter.unusedSimpArgs false
theorem upb {α : Type} {g : Nat → Option α} (hm : ∀ k, LeO (g k) (g (k + 1))) {b : Nat} {r : α} (h : g b = some r) : ∀ k, b ≤ k → g k = some r := by
 intro k hk
 obtain ⟨d, rfl⟩ : ∃ d, k = b + d := ⟨k - b, by omega⟩
 clear hk
 induction d with
 | zero => exact h
 | succ d ih => exact hm _ _ ih
def tm (n : Int) : Bool := decide (0 ≤ n) && decide (n ≤ 1000000000)
theorem tm_iff (n : Int) : tm n = true ↔ 0 ≤ n ∧ n ≤ 1000000000 := by simp [tm]
theorem tm_inTime (n : Int) : inTime n = tm n := rfl
def FR (l : List S27) (s x : Int) : Int × Int := if mapOkB l = true then (if tm s = true ∧ tm x = true then (if fr l s x > 1000000000 then (0, 7) else (fr l s x, 0)) else (0, 7)) else (0, 1)
def PR (l : List S27) (x : Int) : Int × Int := if mapOkB l = true then (if tm x = true then (per l x, 0) else (0, 7)) else (0, 1)
section
variable {l : List S27} (hl : l.length ≤ 100) {k : Nat} (hk : 250 ≤ k)
include hl hk
theorem valid_prog : tempo_Valid.f k l = some (mapOkB l) := upb (g := fun k => tempo_Valid.f k l) (fun k => tempo_Valid.mono l k) (v_eq l hl) k (by omega)
theorem valid_ref : continuoref30_Valid.f k l = some (mapOkB l) := upb (g := fun k => continuoref30_Valid.f k l) (fun k => continuoref30_Valid.mono l k) (refv_eq l hl) k (by omega)
theorem frame_prog (s x : Int) : tempo_Frame.f k l s x = some (FR l s x) := by
 unfold tempo_Frame.f tempo_asked.f FR
 rw [valid_prog hl hk]
 simp only [Option.bind_some]
 cases hv : mapOkB l with
 | false => rfl
 | true =>
  simp only [if_true, List.any_cons, List.any_nil, Bool.or_false, tm_inTime]
  by_cases h : tm s = true ∧ tm x = true
  · obtain ⟨h1, h2⟩ := h
    have q1 := (tm_iff _).1 h1
    have q2 := (tm_iff _).1 h2
    rw [h1, h2]
    simp only [Bool.not_true, Bool.or_false, Bool.false_eq_true, if_false, Option.bind_some, if_true, and_self]
    unfold tempo_frame.f
    rw [if_pos ⟨hv, q1.1, q1.2, q2.1, q2.2⟩]
    simp only [Option.bind_some]
    split <;> rfl
  · rw [if_neg h]
    have : (!tm s || !tm x) = true := by
     cases h1 : tm s <;> cases h2 : tm x <;> simp_all
    rw [if_pos this]
    rfl
theorem period_prog (x : Int) : tempo_Period.f k l x = some (PR l x) := by
 unfold tempo_Period.f tempo_asked.f PR
 rw [valid_prog hl hk]
 simp only [Option.bind_some]
 cases hv : mapOkB l with
 | false => rfl
 | true =>
  simp only [if_true, List.any_cons, List.any_nil, Bool.or_false, tm_inTime]
  cases h1 : tm x with
  | false => rfl
  | true =>
   have q1 := (tm_iff _).1 h1
   simp [q1.1, q1.2]
end
theorem awake_ok : continuolaw30_awake.f 200 = some true := by decide +kernel
end Go.Proofs.Ytomlfbmfdoallaa.Pure

namespace Go.Proofs.Ytomlfbmfdoallaa.Pure
open Go.RowKit Go.Proofs.Ytomlfbmfdoallaa.PA Go.Proofs.YtomlfbmfdoallaaW.PrintWords Go.Proofs.YtomlfbmfdoallaaW.PrintLast
set_option linter.unusedVariables false
set_option linter.unusedSimpArgs false
def ex : List S27 → Int → Int
 | [], _ => 0
 | [t], k => (k - t.f0) * t.f1
 | t :: t2 :: r, k => if t2.f0 ≤ k then (t2.f0 - t.f0) * t.f1 + ex (t2 :: r) k else (k - t.f0) * t.f1
theorem rnd_err (a : Int) (ha : 0 ≤ a) : 65536 * rnd a 65536 - a ≤ 32768 ∧ -32768 ≤ 65536 * rnd a 65536 - a := by
 unfold rnd
 rw [if_neg (by omega)]
 omega
def flat (l : List S27) : Prop := ∀ t ∈ l, t.f2 = 0
theorem crv_flat {t : S27} (h : t.f2 = 0) (o : Option S27) : crvOf t o = .even t.f1 := by
 cases o with
 | none => rfl
 | some t2 => simp [crvOf, h]
theorem fr_ex : ∀ (l : List S27) (s n : Int), MapFrom l → flat l → l ≠ [] → (∀ t, l.head? = some t → t.f0 ≤ n) → n ≤ 1000000000 →
 65536 * (fr l s n - s) - ex l n ≤ 32768 * (l.length : Int) ∧ -(32768 * (l.length : Int)) ≤ 65536 * (fr l s n - s) - ex l n
 | [], _, _, _, _, h, _, _ => absurd rfl h
 | [t], s, n, hm, hf, _, hh, hn => by
  have ht := hh t rfl
  obtain ⟨m0, m1, m2, m3, m4⟩ := hm
  have := rnd_err ((n - t.f0) * t.f1) (Int.mul_nonneg (by omega) (by omega))
  simp only [fr, ex, Crv.frames, List.length_singleton]
  omega
 | t :: t2 :: r, s, n, hm, hf, _, hh, hn => by
  have ht := hh t rfl
  have hm8 := hm.2.2.2.2.2.2.2.2
  have hlt := hm.2.2.2.2.2.2.1
  have hp := hm.2.2.1
  have hc := crv_flat (hf t (by simp)) (some t2)
  by_cases h1 : t2.f0 ≤ n
  · have ih := fr_ex (t2 :: r) (s + (crvOf t (some t2)).frames (t2.f0 - t.f0)) n hm8 (fun x hx => hf x (by simp [hx])) (by simp) (fun t' e => by cases e; exact h1) hn
    have e1 := rnd_err ((t2.f0 - t.f0) * t.f1) (Int.mul_nonneg (by omega) (by omega))
    simp only [fr, ex, if_pos h1, hc, Crv.frames] at ih ⊢
    simp only [List.length_cons] at ih ⊢
    omega
  · have e1 := rnd_err ((n - t.f0) * t.f1) (Int.mul_nonneg (by omega) (by omega))
    simp only [fr, ex, if_neg h1, hc, Crv.frames, List.length_cons]
    omega
theorem ex_step : ∀ (l : List S27) (n : Int), MapFrom l → flat l → l ≠ [] → (∀ t, l.head? = some t → t.f0 ≤ n) → ex l (n + 1) = ex l n + per l n ∧ 1 ≤ per l n ∧ per l n ≤ 67108864
 | [], _, _, _, h, _ => absurd rfl h
 | [t], n, hm, hf, _, hh => by
  obtain ⟨m0, m1, m2, m3, m4⟩ := hm
  refine ⟨?_, m2, m3⟩
  show (n + 1 - t.f0) * t.f1 = (n - t.f0) * t.f1 + t.f1
  grind
 | t :: t2 :: r, n, hm, hf, _, hh => by
  have ht := hh t rfl
  have hm8 := hm.2.2.2.2.2.2.2.2
  have hlt := hm.2.2.2.2.2.2.1
  have hp := hm.2.2.1
  have hp2 := hm.2.2.2.1
  have hc := crv_flat (hf t (by simp)) (some t2)
  by_cases h1 : t2.f0 ≤ n
  · have ih := ex_step (t2 :: r) n hm8 (fun x hx => hf x (by simp [hx])) (by simp) (fun t' e => by cases e; exact h1)
    simp only [ex, per, if_pos h1, if_pos (show t2.f0 ≤ n + 1 by omega)] at ih ⊢
    omega
  · simp only [per, if_neg h1, hc, Crv.period]
    refine ⟨?_, hp, hp2⟩
    by_cases h2 : t2.f0 ≤ n + 1
    · have e : n + 1 = t2.f0 := by omega
      have hz : ex (t2 :: r) (n + 1) = 0 := by
       rw [e]
       cases r with
       | nil => show (t2.f0 - t2.f0) * t2.f1 = 0; simp
       | cons t3 r =>
        have h23 := hm8.2.2.2.2.2.2.1
        simp only [ex, if_neg (show ¬ t3.f0 ≤ t2.f0 by omega)]
        simp
      simp only [ex, if_neg h1, if_pos h2, hz]
      rw [show n - t.f0 = t2.f0 - t.f0 - 1 by omega]
      grind
    · simp only [ex, if_neg h1, if_neg h2]
      grind
theorem curve_loop (l : List S27) (hl : l.length ≤ 100) (x c : Int) : ∀ (d k i : Nat), l.length - i = d → i ≤ l.length → d < k →
 continuolaw30_TempoSums.l0 k l x c (i : Int) = if (l.drop i).all (fun t => decide (t.f2 = 0)) = true then continuolaw30_TempoSums.l1 (k - d - 1) l x c 0 else some true := by
 intro d
 induction d with
 | zero =>
  intro k i hd hi hk
  obtain ⟨k, rfl⟩ : ∃ m, k = m + 1 := ⟨k - 1, by omega⟩
  rw [continuolaw30_TempoSums.l0.eq_2, if_neg (by omega), List.drop_eq_nil_of_le (by omega), if_pos (by rfl)]
  rfl
 | succ d ih =>
  intro k i hd hi hk
  obtain ⟨k, rfl⟩ : ∃ m, k = m + 1 := ⟨k - 1, by omega⟩
  have hlt : i < l.length := by omega
  have hw : wrap64 ((i : Int) + 1) = ((i + 1 : Nat) : Int) := by rw [w64 (by omega) (by omega)]; omega
  rw [continuolaw30_TempoSums.l0.eq_2, if_pos (by omega), if_pos (by omega), rd27 l i hlt, hw, ih k (i + 1) (by omega) (by omega) (by omega), List.drop_eq_getElem_cons hlt, List.all_cons]
  by_cases h : l[i].f2 = 0
  · rw [if_pos h, show k - d - 1 = k + 1 - (d + 1) - 1 by omega]
    simp [h]
  · rw [if_neg h, if_neg (by simp [h])]
theorem sum_loop (l : List S27) (hl : l.length ≤ 100) (hok : MapOk l) (hf : flat l) (x : Int) (hx : x ≤ 3000) : ∀ (d k : Nat) (n : Int), (x - n).toNat = d → 0 ≤ n → (n ≤ x ∨ n = 0) → 260 + d < k →
 0 ≤ ex l n → ex l n ≤ n * 67108864 → continuolaw30_TempoSums.l1 k l x (ex l n) n = some true := by
 obtain ⟨o1, o2, o3, o4⟩ := hok
 have hne : l ≠ [] := by intro e; subst e; simp at o1
 have hv : mapOkB l = true := (mapOkB_iff l).2 ⟨o1, o2, o3, o4⟩
 intro d
 induction d with
 | zero =>
  intro k n hd h0 h1 hk e0 e1
  obtain ⟨k, rfl⟩ : ∃ m, k = m + 1 := ⟨k - 1, by omega⟩
  rw [continuolaw30_TempoSums.l1.eq_2, if_neg (by omega), frame_prog hl (by omega)]
  simp only [Option.bind_some]
  by_cases hx0 : 0 ≤ x
  · obtain rfl : n = x := by omega
    obtain ⟨q1, q2⟩ := fr_ex l 0 n o4 hf hne (fun t e => by rw [o3 t e]; exact hx0) (by omega)
    have hfr : FR l 0 n = (fr l 0 n, 0) := by
     unfold FR
     rw [if_pos hv, if_pos ⟨by decide, by rw [tm_iff]; omega⟩, if_neg (by omega)]
    rw [hfr]
    simp only [if_true]
    generalize fr l 0 n = F at *
    generalize ex l n = E at *
    rw [w64 (x := F * 65536) (by omega) (by omega), w64 (x := F * 65536 - E) (by omega) (by omega), w64 (x := 65536 * (l.length : Int)) (by omega) (by omega), w64 (x := -(F * 65536 - E)) (by omega) (by omega), if_pos (by omega)]
    congr 1
    simp
    omega
  · have hfr : FR l 0 x = (0, 7) := by
     unfold FR
     rw [if_pos hv, if_neg (by rw [tm_iff, tm_iff]; omega)]
    rw [hfr]
    rw [if_neg (by decide), if_pos (by omega)]
 | succ d ih =>
  intro k n hd h0 h1 hk e0 e1
  obtain ⟨k, rfl⟩ : ∃ m, k = m + 1 := ⟨k - 1, by omega⟩
  obtain ⟨s1, s2, s3⟩ := ex_step l n o4 hf hne (fun t e => by rw [o3 t e]; exact h0)
  have hpr : PR l n = (per l n, 0) := by
   unfold PR
   rw [if_pos hv, if_pos (by rw [tm_iff]; omega)]
  rw [continuolaw30_TempoSums.l1.eq_2, if_pos (by omega), period_prog hl (by omega), hpr]
  simp only [Option.bind_some, if_true]
  rw [w64 (x := n + 1) (by omega) (by omega), w64 (x := ex l n + per l n) (by omega) (by omega), ← s1]
  exact ih k (n + 1) (by omega) (by omega) (by omega) (by omega) (by omega) (by omega)
theorem TempoSums : ∀ (l : List S27) (x : Int), ∃ k, continuolaw30_TempoSums.f k l x = some true := by
 intro l x
 refine ⟨3500, ?_⟩
 unfold continuolaw30_TempoSums.f
 rw [upb (g := fun k => continuolaw30_awake.f k) (fun k => continuolaw30_awake.mono k) awake_ok 3500 (by omega)]
 simp only [Option.bind_some, if_true]
 have hlong : continuolaw30_long.f l ([] : List S61) ([] : List S56) = some (decide (60 < l.length)) := by
  unfold continuolaw30_long.f
  by_cases h : 60 < l.length
  · rw [if_pos (by omega)]; simp [h]
  · rw [if_neg (by omega), if_neg (by simp)]; simp [h]
 rw [hlong]
 have j0 : continuolaw30_TempoSums.j0 3500 l x true = some true := by rw [continuolaw30_TempoSums.j0.eq_2, if_pos rfl]
 simp only [Option.bind_some, decide_eq_true_eq]
 by_cases hl0 : 60 < l.length
 · rw [if_pos hl0, j0]
 · rw [if_neg hl0]
   have hl : l.length ≤ 100 := by omega
   by_cases hx : x > 3000
   · rw [if_pos hx, j0]
   · rw [if_neg hx, valid_ref hl (by omega)]
     simp only [Option.bind_some]
     cases hv : mapOkB l with
     | false => exact j0
     | true =>
      rw [continuolaw30_TempoSums.j0.eq_2, if_neg (by simp)]
      rw [show (0 : Int) = ((0 : Nat) : Int) from rfl, curve_loop l hl x _ l.length 3499 0 (by omega) (by omega) (by omega), List.drop_zero]
      by_cases hf : l.all (fun t => decide (t.f2 = 0)) = true
      · rw [if_pos hf]
        have hok := (mapOkB_iff l).1 hv
        have hz : ex l 0 = 0 := by
         obtain ⟨o1, o2, o3, o4⟩ := hok
         match l, o1, o3, o4 with
         | [t], _, o3, _ =>
          have := o3 t rfl
          show (0 - t.f0) * t.f1 = 0
          rw [this]; simp
         | t :: t2 :: r, _, o3, o4 =>
          have := o3 t rfl
          have h2 := o4.2.2.2.2.2.2.1
          simp only [ex, if_neg (show ¬ t2.f0 ≤ 0 by omega)]
          rw [this]; simp
        have := sum_loop l hl hok (fun t ht => by simpa using List.all_eq_true.1 hf t ht) x (by omega) _ (3499 - l.length - 1) 0 rfl (by omega) (.inr rfl) (by omega) (by omega) (by omega)
        rw [hz] at this
        exact this
      · rw [if_neg hf]
end Go.Proofs.Ytomlfbmfdoallaa.Pure

namespace Go.Proofs.Ytomlfbmfdoallaa
open Go.ChangeShapes Go.WideShapes Go.Deep
set_option linter.unusedVariables false
section
variable {H : Type} {enc : TypeId × Value → H} {P : Program} {w : World} {base : Nat} {spare : Nat → Bool} {held : Bool}
theorem open_slice_fields {t e : TypeId} {fs : Array Field} {fuel : Nat} {cs : List Value} {x : DataW H × List MemPlace} (ht : P.underlying t = some (.slice e)) (he : P.underlying e = some (.struct fs))
 (hone : oneCellFields P fs = true) (hC : P.cellsOf e = fs.size) (h : DataW.trod enc P w base spare held fuel t cs = some x) :
 (cs = [.slice none 0 0] ∧ x = (.nil, [])) ∨
 ∃ (a : Addr) (len cap m : Nat) (D : Nat → DataW H) (Pl : Nat → List MemPlace), cs = [.slice (some a) len cap] ∧ base ≤ a.block ∧ len ≤ cap ∧ cap ≤ maxLen ∧ m = (if spare a.block then cap else len) ∧
  x = (.slice ((List.range len).map D) ((List.range (m - len)).map fun j => D (len + j)), MemPlace.row a (m * fs.size) ++ (List.range m).flatMap Pl) ∧
  ∀ i, i < m → ∃ (ys : List (DataW H × List MemPlace)) (n : Nat), D i = .agg (ys.map (·.1)) ∧ Pl i = ys.flatMap (·.2) ∧ ys.length = fs.size ∧
   ∀ (j : Nat) (f : Field), fs[j]? = some f → ∃ (v : Value) (y : DataW H × List MemPlace), w.cell? (a.add (i * fs.size + j)) = some v ∧ ys[j]? = some y ∧ DataW.trod enc P w base spare held n f.type [v] = some y := by
 rcases open_slice ht h with h0 | ⟨a, len, cap, m, n, D, Pl, hcs, hb, hl, hm, hmm, hx, hi⟩
 · exact .inl h0
 · refine .inr ⟨a, len, cap, m, D, Pl, hcs, hb, hl, hm, hmm, by rw [hC] at hx; exact hx, fun i him => ?_⟩
   obtain ⟨cs', hc, ht'⟩ := hi i him
   rw [hC] at hc
   obtain ⟨ys, n', hn', hy, hlen, hyl, hf⟩ := DataW.trod_struct he ht'
   obtain ⟨_, hcl, hat⟩ := World.cells?_some hc
   simp only [Prod.mk.injEq] at hy
   refine ⟨ys, n', hy.1, hy.2, hyl, fun j f hj => ?_⟩
   obtain ⟨ho, hk⟩ := hone_of hone j f hj
   have hjl : j < fs.size := (Array.getElem?_eq_some_iff.1 hj).1
   have hcell := hat j hjl
   have hv : cs'[j]? = some (cs'[j]'(by omega)) := List.getElem?_eq_getElem (by omega)
   have h1 := hf j f hj
   rw [ho, hk] at h1
   have hone' : (cs'.drop j).take 1 = [cs'[j]'(by omega)] := by
    rw [List.drop_eq_getElem_cons (by omega)]
    rfl
   rw [hone'] at h1
   have hys : ys[j]? = some (ys[j]'(by omega)) := List.getElem?_eq_getElem (by omega)
   refine ⟨_, _, ?_, hys, h1.trans hys⟩
   rw [← Go.Deep.add_add, hcell, hv]
end
section
variable {H : Type} {enc : TypeId × Value → H} {P : Program} {w : World} {base : Nat} {spare : Nat → Bool} {held : Bool}
def Triples (w : World) (a : Option Addr) (len cap : Nat) (zs : List (Int × Int × Int)) : Prop :=
 zs.length = len ∧ len ≤ cap ∧ len ≤ 9223372036854775807 ∧ (∀ p ∈ zs, (Lit.int .i64 p.1).wf = true ∧ (Lit.int .i64 p.2.1).wf = true ∧ (Lit.int .i64 p.2.2).wf = true) ∧
  (0 < len → ∃ ad, a = some ad ∧ ∀ j p, zs[j]? = some p → ∀ i u, [Value.int .i64 p.1, .int .i64 p.2.1, .int .i64 p.2.2][i]? = some u → w.cell? (ad.add (j * 3 + i)) = some u)
theorem open_slice3 {t e : TypeId} {f0 f1 f2 : Field} {fuel : Nat} {a : Option Addr} {len cap : Nat} {x : DataW H × List MemPlace} (ht : P.underlying t = some (.slice e)) (he : P.underlying e = some (.struct #[f0, f1, f2]))
 (hone : oneCellFields P #[f0, f1, f2] = true) (hC : P.cellsOf e = 3) (h0 : P.underlying f0.type = some (.int .i64)) (h1 : P.underlying f1.type = some (.int .i64)) (h2 : P.underlying f2.type = some (.int .i64))
 (h : DataW.trod enc P w base spare held fuel t [.slice a len cap] = some x) : ∃ zs, Triples w a len cap zs := by
 rcases open_slice_fields ht he hone hC h with ⟨hcs, _⟩ | ⟨ad, l, c, m, D, Pl, hcs, _, hl, hm, hmm, _, hi⟩
 · simp at hcs
   obtain ⟨rfl, rfl, rfl⟩ := hcs
   exact ⟨[], rfl, by omega, by omega, by simp, fun h => absurd h (Nat.lt_irrefl 0)⟩
 · simp at hcs
   obtain ⟨rfl, rfl, rfl⟩ := hcs
   have hlm : len ≤ m := by rw [hmm]; split <;> omega
   have key : ∀ i, i < len → ∃ p : Int × Int × Int, ((Lit.int .i64 p.1).wf = true ∧ (Lit.int .i64 p.2.1).wf = true ∧ (Lit.int .i64 p.2.2).wf = true) ∧ ∀ k u, [Value.int .i64 p.1, .int .i64 p.2.1, .int .i64 p.2.2][k]? = some u → w.cell? (ad.add (i * 3 + k)) = some u := by
    intro i hil
    obtain ⟨ys, n, _, _, hy, hf⟩ := hi i (by omega)
    obtain ⟨v0, y0, c0, _, t0⟩ := hf 0 f0 rfl
    obtain ⟨v1, y1, c1, _, t1⟩ := hf 1 f1 rfl
    obtain ⟨v2, y2, c2, _, t2⟩ := hf 2 f2 rfl
    obtain ⟨p0, e0, _, w0⟩ := DataW.trod_int h0 t0
    obtain ⟨p1, e1, _, w1⟩ := DataW.trod_int h1 t1
    obtain ⟨p2, e2, _, w2⟩ := DataW.trod_int h2 t2
    simp only [List.cons.injEq, and_true] at e0 e1 e2
    subst e0 e1 e2
    refine ⟨(p0, p1, p2), ⟨w0, w1, w2⟩, fun k u hk => ?_⟩
    match k with
    | 0 => simp at hk; subst hk; exact c0
    | 1 => simp at hk; subst hk; exact c1
    | 2 => simp at hk; subst hk; exact c2
    | k + 3 => simp at hk
   have key2 : ∀ n, n ≤ len → ∃ zs : List (Int × Int × Int), zs.length = n ∧ (∀ p ∈ zs, (Lit.int .i64 p.1).wf = true ∧ (Lit.int .i64 p.2.1).wf = true ∧ (Lit.int .i64 p.2.2).wf = true) ∧ ∀ j p, zs[j]? = some p → ∀ k u, [Value.int .i64 p.1, .int .i64 p.2.1, .int .i64 p.2.2][k]? = some u → w.cell? (ad.add (j * 3 + k)) = some u := by
    intro n
    induction n with
    | zero => intro _; exact ⟨[], rfl, by simp, by simp⟩
    | succ n ih =>
     intro hn
     obtain ⟨zs, hz, hw, hc⟩ := ih (by omega)
     obtain ⟨p, hwp, hp⟩ := key n (by omega)
     refine ⟨zs ++ [p], by simp [hz], ?_, ?_⟩
     · intro q hq
       rcases List.mem_append.1 hq with hq | hq
       · exact hw q hq
       · rw [List.mem_singleton.1 hq]; exact hwp
     · intro j q hj
       by_cases hjn : j < n
       · rw [List.getElem?_append_left (by omega)] at hj
         exact hc j q hj
       · have hj2 := (List.getElem?_eq_some_iff.1 hj).1
         simp [hz] at hj2
         obtain rfl : j = n := by omega
         rw [List.getElem?_append_right (by omega)] at hj
         simp [hz] at hj
         subst hj
         exact hp
   obtain ⟨zs, hz, hw, hc⟩ := key2 len (Nat.le_refl _)
   exact ⟨zs, hz, hl, by unfold maxLen at hm; omega, hw, fun _ => ⟨ad, rfl, hc⟩⟩
end
end Go.Proofs.Ytomlfbmfdoallaa

namespace Go.Proofs.Ytomlfbmfdoallaa.tempoSums
open Go.ChangeShapes Go.WideShapes Go.ChangeAt Go.RowKit Go.Joins
set_option linter.unusedVariables false
theorem own : ownKnob Try.prog.godebug = none := by kernel_rfl
theorem laidOut : laidOutB Try.prog = true := by kernel_rfl
def tr27 (zs : List (Int × Int × Int)) : List PA.S27 := zs.map fun p => ⟨p.1, p.2.1, p.2.2⟩
theorem kd27 {W : World} {a : Option Addr} {len cap : Nat} {zs : List (Int × Int × Int)} (h : Triples W a len cap zs) : Go.Proofs.YtomlfbmfdoallaaW.PrintWords.Kd.C PA.k27 W a (tr27 zs).length (tr27 zs) ∧ (tr27 zs).length = len := by
 obtain ⟨h1, h2, h3, _, h4⟩ := h
 have hl : (tr27 zs).length = len := by simp [tr27, h1]
 refine ⟨⟨rfl, by omega, fun hp => ?_⟩, hl⟩
 obtain ⟨ad, e, hc⟩ := h4 (by omega)
 refine ⟨ad, e, fun j p hj => ?_⟩
 simp only [tr27, List.getElem?_map, Option.map_eq_some_iff] at hj
 obtain ⟨q, hq, rfl⟩ := hj
 exact ⟨_, rfl, PA.k27_mk W _, hc j q hq⟩
set_option maxRecDepth 100000 in
theorem lifted (os : Os) (started : os.Started) (H : Type) (enc : TypeId × Value → H) :
 ReturnsInHanded {} Try.checked os 3 .any (Rows.tempoSumsSpec.pre6 enc Try.prog Try.f3 Rows.tempoSumsRow.domain false) (Rows.tempoSumsSpec.post enc Try.prog Try.f3 false true false false) := by
 refine returnsInHanded_of_change_sized (C := Try.checked) own started (by kernel_rfl) Try.func3
  (ChangeSpec.witness6 (enc := enc) (C := Try.checked) false ⟨#[], #[.slice none 0 0, .int .i64 0], []⟩ 8 (by kernel_rfl) (by kernel_rfl) (by kernel_rfl) (by kernel_rfl)) ?_
 intro W base args ds gs before hval0 hW hcnd hsz0 _
 have hval : ∀ (j : Nat) t v, Try.f3.params[j]? = some t → args[j]? = some v → Value.okWide Try.prog W .any base t v := hval0
 have hW' := hW
 obtain ⟨p, q, hA0, hV, rfl, hfz, hnd⟩ := hW
 have hA : DataW.TrodAll enc Try.prog W 0 (fun _ => true) true Try.f3.params.toList args.toList ds p := hA0
 rw [Try.params3] at hA hval
 obtain ⟨v0, vs0, d0, ds0, p0, q0, hargs, rfl, rfl, h0, r0⟩ := trodAll_cons hA
 obtain ⟨v1, vs1, d1, ds1, p1, q1, rfl, rfl, rfl, h1, r1⟩ := trodAll_cons r0
 obtain ⟨rfl, rfl, rfl⟩ := trodAll_nil r1
 obtain rfl : args = #[v0, v1] := by cases args; simp_all
 obtain ⟨rfl, rfl⟩ := trodVars_none hV
 obtain ⟨a0, len0, cap0, rfl⟩ := okWide_slice Try.underlying22 (hval 0 22 v0 rfl rfl)
 have k0 := h0
 have lt0 : ∀ x ∈ p0, x.block < W.heap.size := by obtain ⟨m, hm⟩ := k0; exact DataW.trod_lt m _ _ _ hm
 obtain ⟨zs0, tz0⟩ : ∃ zs, Triples W a0 len0 cap0 zs := by
  obtain ⟨fuel, hf⟩ := h0
  exact open_slice3 Try.underlying22 Try.underlying27 (by kernel_rfl) (by kernel_rfl) Try.underlying3 Try.underlying3 Try.underlying3 (by simpa [Value.cells] using hf)
 obtain ⟨kd0, kl0⟩ := kd27 tz0
 obtain ⟨a1, rfl, rfl, rfl, w1⟩ := open_int Try.underlying3 (hval 1 3 v1 rfl rfl) h1
 clear hA0 hval0 hsz0
 obtain ⟨k, hk⟩ := Pure.TempoSums (tr27 zs0) a1
 have HC := PA.continuolaw30_TempoSums.calls k a0 cap0 (tr27 zs0) a1 true W kd0 (by rw [kl0]; exact tz0.2.1) hk
 rw [kl0] at HC
 refine HC.mono fun e W' ⟨he, bel⟩ => ?_
 subst he
 exact ⟨_, rfl, _, _, _, [], _, [], hW', trodAll_mk1 (shut_bool Try.underlying4 _), (trodAll_cons_mk (Below.trod laidOut (by kernel_rfl) (of_decide_eq_true (by kernel_rfl)) k0 bel lt0) (trodAll_cons_mk (shut_int Try.underlying3 w1) trodAll_mk0)), rfl, bel.frame _, fun h => by cases h⟩
theorem over : Rows.tempoSumsRow.holds Try.pinned (OpenSpec.ofChange Rows.tempoSumsSpec) :=
 OpenClaim.holds_of_wide 3 Try.f3 rfl rfl rfl rfl rfl rfl rfl ⟨rfl, rfl, rfl, rfl, rfl⟩ rfl rfl rfl rfl rfl (by kernel_rfl) Try.func3 (by kernel_rfl)
  (of_decide_eq_true (by kernel_rfl)) (by unfold Func.isWrapper; first | (rw [if_pos (by decide +kernel)]; kernel_rfl) | (rw [if_neg (by decide +kernel)]; exact ⟨rfl, rfl⟩))
  (fun os started H enc _ => lifted os started H enc)
theorem proved : Rows.TempoSumsSaid := over
#print axioms proved
end Go.Proofs.Ytomlfbmfdoallaa.tempoSums
namespace Go.Proofs.Ytomlfbmfdoallaa
theorem tempoSums_holds : Rows.TempoSumsSaid := tempoSums.proved
end Go.Proofs.Ytomlfbmfdoallaa
