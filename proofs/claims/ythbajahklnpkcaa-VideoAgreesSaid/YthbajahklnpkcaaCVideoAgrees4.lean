/- VideoAgrees -/
import Derived.Test.YthbajahklnpkcaaCVideoAgrees3
import Derived.BigQuiet
import Derived.Test.YthbajahklnpkcaaRows
import Derived.WalkKit
import Derived.ProofKit
import Derived.OpenShut
import Derived.ShutString
import Derived.ChangeOld
import Derived.Below
import Derived.SizedLaws
import Derived.Lib.SmallJoins
import Derived.ChangeSlices
namespace Go.Proofs.Ythbajahklnpkcaa.PA
open Go.RowKit Go.Proofs.YthbajahklnpkcaaW.PrintWords Go.Proofs.YthbajahklnpkcaaW.PrintLast Go.Proofs.YthbajahklnpkcaaW.PrintMore
attribute [local go_sem] max2_int min2_int max_two min_two max_three min_three max_four min_four
set_option linter.unusedVariables false
set_option linter.unusedSimpArgs false
attribute [local go_sem high] eqA43
def continuolaw25_awake.f  : Option (Bool) := (video_Region.f (([(⟨0, 0, 2, 2⟩ : S43), (⟨1, 1, 2, 2⟩ : S43)] : List (S43)))).bind fun bt254 => (if bt254.2 = 0 then (if (bt254.1.length : Int) = 3 then (if 1 < (bt254.1.length : Int) then (if (!(((rd_T43 bt254.1 1).f0) == 0) || (!(((rd_T43 bt254.1 1).f1) == 1) || (!(((rd_T43 bt254.1 1).f2) == 3) || (!(((rd_T43 bt254.1 1).f3) == 1))))) = true then (some false) else ((video_Convert.f 1 0 2 2 (⟨#[97, 98, 99, 100]⟩ : ByteArray) 1).bind fun bt259 => (if bt259.2.2.2.2.2 = 0 then (if (bt259.2.2.2.2.1.size : Int) = 16 then (if 0 ≤ 2 then (if 2 ≤ (bt259.2.2.2.2.1.size : Int) then (if (bt259.2.2.2.2.1.extract 0 2).toList = ([97, 98] : List UInt8) then (if 4 ≤ 6 then (if 6 ≤ (bt259.2.2.2.2.1.size : Int) then (some ((bt259.2.2.2.2.1.extract 4 6).toList == ([99, 100] : List UInt8))) else (none)) else (none)) else (some false)) else (none)) else (none)) else (some false)) else (some false)))) else (none)) else (some false)) else (some false))
set_option maxHeartbeats 8000000 in
set_option maxRecDepth 100000 in
theorem continuolaw25_awake.calls  (r : Bool) (w : World) (h : continuolaw25_awake.f  = some r) :
 Calls Try.prog 10 #[] w fun e w' => e = .returned (.bool r) ∧ Below w.heap.size w w' := by
 have hu43 := Try.underlying43
 have hu49 := Try.underlying49
 have HB := Aside0.mk (Below.refl w.heap.size w)
 have H : ((video_Region.f (([(⟨0, 0, 2, 2⟩ : S43), (⟨1, 1, 2, 2⟩ : S43)] : List (S43)))).bind fun bt254 => (if bt254.2 = 0 then (if (bt254.1.length : Int) = 3 then (if 1 < (bt254.1.length : Int) then (if (!(((rd_T43 bt254.1 1).f0) == 0) || (!(((rd_T43 bt254.1 1).f1) == 1) || (!(((rd_T43 bt254.1 1).f2) == 3) || (!(((rd_T43 bt254.1 1).f3) == 1))))) = true then (some false) else ((video_Convert.f 1 0 2 2 (⟨#[97, 98, 99, 100]⟩ : ByteArray) 1).bind fun bt259 => (if bt259.2.2.2.2.2 = 0 then (if (bt259.2.2.2.2.1.size : Int) = 16 then (if 0 ≤ 2 then (if 2 ≤ (bt259.2.2.2.2.1.size : Int) then (if (bt259.2.2.2.2.1.extract 0 2).toList = ([97, 98] : List UInt8) then (if 4 ≤ 6 then (if 6 ≤ (bt259.2.2.2.2.1.size : Int) then (some ((bt259.2.2.2.2.1.extract 4 6).toList == ([99, 100] : List UInt8))) else (none)) else (none)) else (some false)) else (none)) else (none)) else (some false)) else (some false)))) else (none)) else (some false)) else (some false))) = some r := h
 clear h
 obtain ⟨y251, hy251⟩ : ∃ y_ : List (S43), y_ = (([(⟨0, 0, 2, 2⟩ : S43), (⟨1, 1, 2, 2⟩ : S43)] : List (S43))) := ⟨_, rfl⟩
 replace H : ((video_Region.f y251).bind fun bt254 => (if bt254.2 = 0 then (if (bt254.1.length : Int) = 3 then (if 1 < (bt254.1.length : Int) then (if (!(((rd_T43 bt254.1 1).f0) == 0) || (!(((rd_T43 bt254.1 1).f1) == 1) || (!(((rd_T43 bt254.1 1).f2) == 3) || (!(((rd_T43 bt254.1 1).f3) == 1))))) = true then (some false) else ((video_Convert.f 1 0 2 2 (⟨#[97, 98, 99, 100]⟩ : ByteArray) 1).bind fun bt259 => (if bt259.2.2.2.2.2 = 0 then (if (bt259.2.2.2.2.1.size : Int) = 16 then (if 0 ≤ 2 then (if 2 ≤ (bt259.2.2.2.2.1.size : Int) then (if (bt259.2.2.2.2.1.extract 0 2).toList = ([97, 98] : List UInt8) then (if 4 ≤ 6 then (if 6 ≤ (bt259.2.2.2.2.1.size : Int) then (some ((bt259.2.2.2.2.1.extract 4 6).toList == ([99, 100] : List UInt8))) else (none)) else (none)) else (some false)) else (none)) else (none)) else (some false)) else (some false)))) else (none)) else (some false)) else (some false))) = some r := by first | (rw [hy251]; with_reducible exact H) | (have H2_ := (Option.bind_some _ _).symm.trans H; rw [hy251]; with_reducible exact H2_) | (have H2_ := (Option.bind_some _ _).symm.trans H; with_reducible exact H2_) | with_reducible exact H | (rw [hy251]; exact H) | exact H
 have Ny251 := Aside0.mk hy251
 clear hy251
 replace H := Option.bind_eq_some_iff.mp H
 obtain ⟨⟨t254, t255⟩, A10, H⟩ := H
 replace H : (if t255 = 0 then (if (t254.length : Int) = 3 then (if 1 < (t254.length : Int) then (if (!(((rd_T43 t254 1).f0) == 0) || (!(((rd_T43 t254 1).f1) == 1) || (!(((rd_T43 t254 1).f2) == 3) || (!(((rd_T43 t254 1).f3) == 1))))) = true then (some false) else ((video_Convert.f 1 0 2 2 (⟨#[97, 98, 99, 100]⟩ : ByteArray) 1).bind fun bt259 => (if bt259.2.2.2.2.2 = 0 then (if (bt259.2.2.2.2.1.size : Int) = 16 then (if 0 ≤ 2 then (if 2 ≤ (bt259.2.2.2.2.1.size : Int) then (if (bt259.2.2.2.2.1.extract 0 2).toList = ([97, 98] : List UInt8) then (if 4 ≤ 6 then (if 6 ≤ (bt259.2.2.2.2.1.size : Int) then (some ((bt259.2.2.2.2.1.extract 4 6).toList == ([99, 100] : List UInt8))) else (none)) else (none)) else (some false)) else (none)) else (none)) else (some false)) else (some false)))) else (none)) else (some false)) else (some false)) = some r := H
 have A1 := Aside0.mk A10
 clear A10
 by_cases c2 : t255 = 0
 · rw [if_pos c2] at H
   have c2b0 : (t255 == 0) = true := beq_iff_eq.mpr c2
   have c2b1 : (t255 != 0) = false := bne_eq_false_iff_eq.mpr c2
   clear c2
   by_cases c3 : (t254.length : Int) = 3
   · rw [if_pos c3] at H
     have c3b0 : ((t254.length : Int) == 3) = true := beq_iff_eq.mpr c3
     have c3b1 : ((t254.length : Int) != 3) = false := bne_eq_false_iff_eq.mpr c3
     clear c3
     by_cases c4 : 1 < (t254.length : Int)
     · rw [if_pos c4] at H
       have c4b0 : decide (1 < (t254.length : Int)) = true := decide_eq_true c4
       have c4b1 : decide (1 < t254.length) = true := decide_eq_true (by omega)
       clear c4
       by_cases c5 : (!(((rd_T43 t254 1).f0) == 0) || (!(((rd_T43 t254 1).f1) == 1) || (!(((rd_T43 t254 1).f2) == 3) || (!(((rd_T43 t254 1).f3) == 1))))) = true
       · rw [if_pos c5] at H
         have c5b0 : (!(((rd_T43 t254 1).f0) == 0) || (!(((rd_T43 t254 1).f1) == 1) || (!(((rd_T43 t254 1).f2) == 3) || (!(((rd_T43 t254 1).f3) == 1))))) = true := c5
         clear c5
         obtain rfl := Option.some.inj H
         go_enter Try.func10, Try.ntmps10
         go_wp2_with (first | ((with_reducible refine gate_dst (N := 7) rfl ?_); (try (refine gate_guard (by rfl) ?_; dsimp only)); refine Kd.R_lit k43 _ 43 ?hg (N := 7) ?hd (xs := ([(⟨0, 0, 2, 2⟩ : S43), (⟨1, 1, 2, 2⟩ : S43)] : List (S43))) (inner := [.int .i64 0, .int .i64 0, .int .i64 2, .int .i64 2, .int .i64 1, .int .i64 1, .int .i64 2, .int .i64 2]) (ok := fun _ => True) (okp := fun _ => True) ?hr ?hp (fun _ hk => hk) trivial (Below.refl _ _) (Nat.le_refl _) (by simp) ?_; (case hd => rfl); (case hg => rfl); (case hr => first | (go_simp; done) | (go_simp; rfl)); (case hp => exact (Reps.c4 (show Kd.M k43 _ _ _ (⟨0, 0, 2, 2⟩ : S43) [.int .i64 0, .int .i64 0, .int .i64 2, .int .i64 2] from (k43_mkM _ _ _ (⟨0, 0, 2, 2⟩ : S43) )) (Reps.c4 (show Kd.M k43 _ _ _ (⟨1, 1, 2, 2⟩ : S43) [.int .i64 1, .int .i64 1, .int .i64 2, .int .i64 2] from (k43_mkM _ _ _ (⟨1, 1, 2, 2⟩ : S43) )) (Reps.none _ _)))); intro v252 w6 ho7 hb hg_ hnew_; clear hg_ hnew_; (first | rw [← Ny251.out] at ho7 | (simp only [Int.reduceToNat] at ho7; rw [← Ny251.out] at ho7)); have n0_ := Aside0.mk (Kd.R_lower ho7 (below_size (by repeat (first | (with_reducible first | exact HB.out | apply below_alloc | apply pw_below_drewN | apply below_drew1) | exact HB.out)))); have n1_ := Aside0.mk (below_step (by repeat (first | (with_reducible first | exact HB.out | apply below_alloc | apply pw_below_drewN | apply below_drew1) | exact HB.out)) hb); clear HB; have HO253 := n0_; have HB := n1_; clear n0_ n1_; clear hb ho7; obtain ⟨Ao8, co8, eo8⟩ := Kd.R_slice HO253.out; subst eo8) | ((with_reducible refine gate_callee (f := 20) rfl ?_); refine goesL_ (some 8) rfl rfl Try.func20 (by kernel_rfl) rfl #[.slice Ao8 y251.length co8] rfl (by (try simp only [List.map_toArray, List.map_cons, List.map_nil]); first | done | rfl | (simp only [List.length_drop, List.length_take]; rfl)) ?_; (with_reducible refine (video_Region.calls _ _ y251 t254 t255 _ ?side1 ?side2 A1.out).mono ?_); (case side1 => repeat (first | exact (Kd.R_reads' HO253.out).2.2 | (with_reducible refine Kd.C_alloc ?_ _) | (with_reducible refine Kd.C_drewN ?_ _) | (with_reducible refine Kd.C_drew ?_))); (case side2 => exact (Kd.R_reads' HO253.out).2.1); rintro e w9 ⟨v256, rfl, ho0, hb⟩; refine ⟨_, rfl, ?_⟩; have n0_ := Aside0.mk (Kd.R_below (by (with_reducible repeat (first | apply Kd.R_alloc | apply Kd.R_drewN | apply Kd.R_drew)); exact HO253.out) hb); have n1_ := Aside0.mk (Kd.R_lower ho0 (below_size (by repeat (first | (with_reducible first | exact HB.out | apply below_alloc | apply pw_below_drewN | apply below_drew1) | exact HB.out)))); have n2_ := Aside0.mk (below_step (by repeat (first | (with_reducible first | exact HB.out | apply below_alloc | apply pw_below_drewN | apply below_drew1) | exact HB.out)) hb); clear HO253; clear HB; have HO253 := n0_; have HO257 := n1_; have HB := n2_; clear n0_ n1_ n2_; (try clear hb); (try clear hb2); (try clear hk); (try clear hi); (try clear ho0); obtain ⟨Ao10, co10, eo10⟩ := Kd.R_slice HO257.out; subst eo10; have p258 : 0 ≤ (1 : Int) := (by omega); have q258 : 1 < (t254.length : Int) := of_decide_eq_true (by first | (with_reducible assumption) | assumption); obtain ⟨ad258, e258, hx258_0, hx258_1, hx258_2, hx258_3⟩ := at_T43 (Kd.R_reads' HO257.out).2.2 1 p258 q258; cases e258; (try simp only [show (1 : Int).toNat = 1 from rfl, Nat.reduceMul, Nat.reduceEqDiff, Go.Addr.add, ↓reduceIte] at hx258_0); (try simp only [show (1 : Int).toNat = 1 from rfl, Nat.reduceMul, Nat.reduceEqDiff, Go.Addr.add, ↓reduceIte] at hx258_1); (try simp only [show (1 : Int).toNat = 1 from rfl, Nat.reduceMul, Nat.reduceEqDiff, Go.Addr.add, ↓reduceIte] at hx258_2); (try simp only [show (1 : Int).toNat = 1 from rfl, Nat.reduceMul, Nat.reduceEqDiff, Go.Addr.add, ↓reduceIte] at hx258_3); have qi258 : (1 < t254.length) = True := eq_true (by omega); (try rw [show ((1 : Int)).toNat = 1 from rfl] at hx258_0); (try rw [show 1 * 4 = 4 from rfl] at hx258_0); (try rw [show ((1 : Int)).toNat = 1 from rfl] at hx258_1); (try rw [show 1 * 4 = 4 from rfl] at hx258_1); (try rw [show ((1 : Int)).toNat = 1 from rfl] at hx258_2); (try rw [show 1 * 4 = 4 from rfl] at hx258_2); (try rw [show ((1 : Int)).toNat = 1 from rfl] at hx258_3); (try rw [show 1 * 4 = 4 from rfl] at hx258_3); replace p258 := eq_true p258; replace q258 := eq_true q258))
         go_ret
         exact ⟨by first | rfl | (simp [errW_none, errW_some] <;> rfl) | (simp [*, errW_none, errW_some] <;> rfl), by repeat (first | (with_reducible first | exact HB.out | apply below_alloc | apply pw_below_drewN | apply below_drew1) | exact HB.out)⟩
       · rw [if_neg c5] at H
         have c5b0 : (!(((rd_T43 t254 1).f0) == 0) || (!(((rd_T43 t254 1).f1) == 1) || (!(((rd_T43 t254 1).f2) == 3) || (!(((rd_T43 t254 1).f3) == 1))))) = false := by simpa using c5
         clear c5
         replace H := Option.bind_eq_some_iff.mp H
         obtain ⟨⟨t259, t260, t261, t262, t263, t264⟩, A110, H⟩ := H
         replace H : (if t264 = 0 then (if (t263.size : Int) = 16 then (if 0 ≤ 2 then (if 2 ≤ (t263.size : Int) then (if (t263.extract 0 2).toList = ([97, 98] : List UInt8) then (if 4 ≤ 6 then (if 6 ≤ (t263.size : Int) then (some ((t263.extract 4 6).toList == ([99, 100] : List UInt8))) else (none)) else (none)) else (some false)) else (none)) else (none)) else (some false)) else (some false)) = some r := H
         have A11 := Aside0.mk A110
         clear A110
         by_cases c12 : t264 = 0
         · rw [if_pos c12] at H
           have c12b0 : (t264 == 0) = true := beq_iff_eq.mpr c12
           have c12b1 : (t264 != 0) = false := bne_eq_false_iff_eq.mpr c12
           clear c12
           by_cases c13 : (t263.size : Int) = 16
           · rw [if_pos c13] at H
             have c13b0 : ((t263.size : Int) == 16) = true := beq_iff_eq.mpr c13
             have c13b1 : ((t263.size : Int) != 16) = false := bne_eq_false_iff_eq.mpr c13
             clear c13
             by_cases c14 : 0 ≤ 2
             · rw [if_pos c14] at H
               have c14b0 := eq_true c14
               have c14b1 : decide (0 ≤ 2) = true := decide_eq_true c14
               clear c14
               by_cases c15 : 2 ≤ (t263.size : Int)
               · rw [if_pos c15] at H
                 have c15b0 := eq_true c15
                 have c15b1 : decide (2 ≤ (t263.size : Int)) = true := decide_eq_true c15
                 clear c15
                 by_cases c16 : (t263.extract 0 2).toList = ([97, 98] : List UInt8)
                 · rw [if_pos c16] at H
                   have c16b0 : ((t263.extract 0 2).toList == ([97, 98] : List UInt8)) = true := beq_iff_eq.mpr c16
                   have c16b1 : ((t263.extract 0 2).toList != ([97, 98] : List UInt8)) = false := bne_eq_false_iff_eq.mpr c16
                   clear c16
                   by_cases c17 : 4 ≤ 6
                   · rw [if_pos c17] at H
                     have c17b0 := eq_true c17
                     have c17b1 : decide (4 ≤ 6) = true := decide_eq_true c17
                     clear c17
                     by_cases c18 : 6 ≤ (t263.size : Int)
                     · rw [if_pos c18] at H
                       have c18b0 := eq_true c18
                       have c18b1 : decide (6 ≤ (t263.size : Int)) = true := decide_eq_true c18
                       clear c18
                       obtain rfl := Option.some.inj H
                       go_enter Try.func10, Try.ntmps10
                       go_wp2_with (first | ((with_reducible refine gate_dst (N := 7) rfl ?_); (try (refine gate_guard (by rfl) ?_; dsimp only)); refine Kd.R_lit k43 _ 43 ?hg (N := 7) ?hd (xs := ([(⟨0, 0, 2, 2⟩ : S43), (⟨1, 1, 2, 2⟩ : S43)] : List (S43))) (inner := [.int .i64 0, .int .i64 0, .int .i64 2, .int .i64 2, .int .i64 1, .int .i64 1, .int .i64 2, .int .i64 2]) (ok := fun _ => True) (okp := fun _ => True) ?hr ?hp (fun _ hk => hk) trivial (Below.refl _ _) (Nat.le_refl _) (by simp) ?_; (case hd => rfl); (case hg => rfl); (case hr => first | (go_simp; done) | (go_simp; rfl)); (case hp => exact (Reps.c4 (show Kd.M k43 _ _ _ (⟨0, 0, 2, 2⟩ : S43) [.int .i64 0, .int .i64 0, .int .i64 2, .int .i64 2] from (k43_mkM _ _ _ (⟨0, 0, 2, 2⟩ : S43) )) (Reps.c4 (show Kd.M k43 _ _ _ (⟨1, 1, 2, 2⟩ : S43) [.int .i64 1, .int .i64 1, .int .i64 2, .int .i64 2] from (k43_mkM _ _ _ (⟨1, 1, 2, 2⟩ : S43) )) (Reps.none _ _)))); intro v252 w19 ho20 hb hg_ hnew_; clear hg_ hnew_; (first | rw [← Ny251.out] at ho20 | (simp only [Int.reduceToNat] at ho20; rw [← Ny251.out] at ho20)); have n0_ := Aside0.mk (Kd.R_lower ho20 (below_size (by repeat (first | (with_reducible first | exact HB.out | apply below_alloc | apply pw_below_drewN | apply below_drew1) | exact HB.out)))); have n1_ := Aside0.mk (below_step (by repeat (first | (with_reducible first | exact HB.out | apply below_alloc | apply pw_below_drewN | apply below_drew1) | exact HB.out)) hb); clear HB; have HO253 := n0_; have HB := n1_; clear n0_ n1_; clear hb ho20; obtain ⟨Ao21, co21, eo21⟩ := Kd.R_slice HO253.out; subst eo21) | ((with_reducible refine gate_callee (f := 20) rfl ?_); refine goesL_ (some 8) rfl rfl Try.func20 (by kernel_rfl) rfl #[.slice Ao21 y251.length co21] rfl (by (try simp only [List.map_toArray, List.map_cons, List.map_nil]); first | done | rfl | (simp only [List.length_drop, List.length_take]; rfl)) ?_; (with_reducible refine (video_Region.calls _ _ y251 t254 t255 _ ?side1 ?side2 A1.out).mono ?_); (case side1 => repeat (first | exact (Kd.R_reads' HO253.out).2.2 | (with_reducible refine Kd.C_alloc ?_ _) | (with_reducible refine Kd.C_drewN ?_ _) | (with_reducible refine Kd.C_drew ?_))); (case side2 => exact (Kd.R_reads' HO253.out).2.1); rintro e w22 ⟨v256, rfl, ho0, hb⟩; refine ⟨_, rfl, ?_⟩; have n0_ := Aside0.mk (Kd.R_below (by (with_reducible repeat (first | apply Kd.R_alloc | apply Kd.R_drewN | apply Kd.R_drew)); exact HO253.out) hb); have n1_ := Aside0.mk (Kd.R_lower ho0 (below_size (by repeat (first | (with_reducible first | exact HB.out | apply below_alloc | apply pw_below_drewN | apply below_drew1) | exact HB.out)))); have n2_ := Aside0.mk (below_step (by repeat (first | (with_reducible first | exact HB.out | apply below_alloc | apply pw_below_drewN | apply below_drew1) | exact HB.out)) hb); clear HO253; clear HB; have HO253 := n0_; have HO257 := n1_; have HB := n2_; clear n0_ n1_ n2_; (try clear hb); (try clear hb2); (try clear hk); (try clear hi); (try clear ho0); obtain ⟨Ao23, co23, eo23⟩ := Kd.R_slice HO257.out; subst eo23; have p258 : 0 ≤ (1 : Int) := (by omega); have q258 : 1 < (t254.length : Int) := of_decide_eq_true (by first | (with_reducible assumption) | assumption); obtain ⟨ad258, e258, hx258_0, hx258_1, hx258_2, hx258_3⟩ := at_T43 (Kd.R_reads' HO257.out).2.2 1 p258 q258; cases e258; (try simp only [show (1 : Int).toNat = 1 from rfl, Nat.reduceMul, Nat.reduceEqDiff, Go.Addr.add, ↓reduceIte] at hx258_0); (try simp only [show (1 : Int).toNat = 1 from rfl, Nat.reduceMul, Nat.reduceEqDiff, Go.Addr.add, ↓reduceIte] at hx258_1); (try simp only [show (1 : Int).toNat = 1 from rfl, Nat.reduceMul, Nat.reduceEqDiff, Go.Addr.add, ↓reduceIte] at hx258_2); (try simp only [show (1 : Int).toNat = 1 from rfl, Nat.reduceMul, Nat.reduceEqDiff, Go.Addr.add, ↓reduceIte] at hx258_3); have qi258 : (1 < t254.length) = True := eq_true (by omega); (try rw [show ((1 : Int)).toNat = 1 from rfl] at hx258_0); (try rw [show 1 * 4 = 4 from rfl] at hx258_0); (try rw [show ((1 : Int)).toNat = 1 from rfl] at hx258_1); (try rw [show 1 * 4 = 4 from rfl] at hx258_1); (try rw [show ((1 : Int)).toNat = 1 from rfl] at hx258_2); (try rw [show 1 * 4 = 4 from rfl] at hx258_2); (try rw [show ((1 : Int)).toNat = 1 from rfl] at hx258_3); (try rw [show 1 * 4 = 4 from rfl] at hx258_3); replace p258 := eq_true p258; replace q258 := eq_true q258) | ((with_reducible refine gate_callee (f := 42) rfl ?_); refine goesL_ (some 27) rfl rfl Try.func42 (by kernel_rfl) rfl #[.agg #[.int .i64 1, .int .i64 0, .int .i64 2, .int .i64 2, .string (⟨#[97, 98, 99, 100]⟩ : ByteArray)], .int .i64 1] rfl (by (try simp only [List.map_toArray, List.map_cons, List.map_nil]); first | done | rfl | (simp only [List.length_drop, List.length_take]; rfl)) ?_; (with_reducible refine (video_Convert.calls 1 0 2 2 (⟨#[97, 98, 99, 100]⟩ : ByteArray) 1 t259 t260 t261 t262 t263 t264 _ A11.out).mono ?_); rintro e w24 ⟨rfl, hb⟩; refine ⟨_, rfl, ?_⟩; have n0_ := Aside0.mk (Kd.R_below (by (with_reducible repeat (first | apply Kd.R_alloc | apply Kd.R_drewN | apply Kd.R_drew)); exact HO253.out) hb); have n1_ := Aside0.mk (Kd.R_below (by (with_reducible repeat (first | apply Kd.R_alloc | apply Kd.R_drewN | apply Kd.R_drew)); exact HO257.out) hb); have n2_ := Aside0.mk (below_step (by repeat (first | (with_reducible first | exact HB.out | apply below_alloc | apply pw_below_drewN | apply below_drew1) | exact HB.out)) hb); clear HO253; clear HO257; clear HB; have HO253 := n0_; have HO257 := n1_; have HB := n2_; clear n0_ n1_ n2_; (try clear hb); (try clear hb2); (try clear hk); (try clear hi)) | ((with_reducible refine gate_dst (N := 3) rfl ?_); (try (refine gate_guard (by rfl) ?_; dsimp only)); refine box_event ?hg (N := 3) ?hd (cs := #[.int .i64 0, .int .i64 0, .int .i64 0, .int .i64 0, .string (⟨#[]⟩ : ByteArray)]) (t := 49) ?hr ?_; (case hd => rfl); (case hg => rfl); (case hr => first | (go_simp; done) | (go_simp; rfl)); intro gb265 hg w25 hbox hb; have n0_ := Aside0.mk (Kd.R_below (by (with_reducible repeat (first | apply Kd.R_alloc | apply Kd.R_drewN | apply Kd.R_drew)); exact HO253.out) hb); have n1_ := Aside0.mk (Kd.R_below (by (with_reducible repeat (first | apply Kd.R_alloc | apply Kd.R_drewN | apply Kd.R_drew)); exact HO257.out) hb); have n2_ := Aside0.mk (below_step (by repeat (first | (with_reducible first | exact HB.out | apply below_alloc | apply pw_below_drewN | apply below_drew1) | exact HB.out)) hb); have n3_ := Aside0.mk (hbox); have n4_ := Aside0.mk ((by rw [hg]; exact (below_size (by repeat (first | (with_reducible first | exact HB.out | apply below_alloc | apply pw_below_drewN | apply below_drew1) | exact HB.out))) : w.heap.size ≤ gb265)); have n5_ := Aside0.mk ((by rw [hg]; exact (below_size (by repeat (first | (with_reducible first | exact HB.out | apply below_alloc | apply pw_below_drewN | apply below_drew1) | exact HB.out))) : w.heap.size ≤ gb265)); clear HO253; clear HO257; clear HB; have HO253 := n0_; have HO257 := n1_; have HB := n2_; have BK265 := n3_; have GW265 := n4_; have GE265 := n5_; clear n0_ n1_ n2_ n3_ n4_ n5_; clear hb hbox hg; have hcz26_0 : w25.cell? ⟨gb265, 0, none⟩ = some (.int .i64 0) := (blk_cell BK265.out 0).trans rfl; have hcz26_1 : w25.cell? ⟨gb265, 1, none⟩ = some (.int .i64 0) := (blk_cell BK265.out 1).trans rfl; have hcz26_2 : w25.cell? ⟨gb265, 2, none⟩ = some (.int .i64 0) := (blk_cell BK265.out 2).trans rfl; have hcz26_3 : w25.cell? ⟨gb265, 3, none⟩ = some (.int .i64 0) := (blk_cell BK265.out 3).trans rfl; have hcz26_4 : w25.cell? ⟨gb265, 4, none⟩ = some (.string (⟨#[]⟩ : ByteArray)) := (blk_cell BK265.out 4).trans rfl; have hfz26_0 := blk_frozen BK265.out 0; have hfz26_1 := blk_frozen BK265.out 1; have hfz26_2 := blk_frozen BK265.out 2; have hfz26_3 := blk_frozen BK265.out 3; have hfz26_4 := blk_frozen BK265.out 4))
                       go_ret
                       exact ⟨by first | rfl | (simp [errW_none, errW_some] <;> rfl) | (simp [*, errW_none, errW_some] <;> rfl), by repeat (first | (with_reducible first | exact HB.out | apply below_alloc | apply pw_below_drewN | apply below_drew1 | refine below_set ?_ GE265.out) | exact HB.out)⟩
                     · rw [if_neg c18] at H
                       exact absurd H (by simp)
                   · rw [if_neg c17] at H
                     exact absurd H (by simp)
                 · rw [if_neg c16] at H
                   have c16b0 : ((t263.extract 0 2).toList == ([97, 98] : List UInt8)) = false := beq_eq_false_iff_ne.mpr c16
                   have c16b1 : ((t263.extract 0 2).toList != ([97, 98] : List UInt8)) = true := bne_iff_ne.mpr c16
                   obtain rfl := Option.some.inj H
                   go_enter Try.func10, Try.ntmps10
                   go_wp2_with (first | ((with_reducible refine gate_dst (N := 7) rfl ?_); (try (refine gate_guard (by rfl) ?_; dsimp only)); refine Kd.R_lit k43 _ 43 ?hg (N := 7) ?hd (xs := ([(⟨0, 0, 2, 2⟩ : S43), (⟨1, 1, 2, 2⟩ : S43)] : List (S43))) (inner := [.int .i64 0, .int .i64 0, .int .i64 2, .int .i64 2, .int .i64 1, .int .i64 1, .int .i64 2, .int .i64 2]) (ok := fun _ => True) (okp := fun _ => True) ?hr ?hp (fun _ hk => hk) trivial (Below.refl _ _) (Nat.le_refl _) (by simp) ?_; (case hd => rfl); (case hg => rfl); (case hr => first | (go_simp; done) | (go_simp; rfl)); (case hp => exact (Reps.c4 (show Kd.M k43 _ _ _ (⟨0, 0, 2, 2⟩ : S43) [.int .i64 0, .int .i64 0, .int .i64 2, .int .i64 2] from (k43_mkM _ _ _ (⟨0, 0, 2, 2⟩ : S43) )) (Reps.c4 (show Kd.M k43 _ _ _ (⟨1, 1, 2, 2⟩ : S43) [.int .i64 1, .int .i64 1, .int .i64 2, .int .i64 2] from (k43_mkM _ _ _ (⟨1, 1, 2, 2⟩ : S43) )) (Reps.none _ _)))); intro v252 w27 ho28 hb hg_ hnew_; clear hg_ hnew_; (first | rw [← Ny251.out] at ho28 | (simp only [Int.reduceToNat] at ho28; rw [← Ny251.out] at ho28)); have n0_ := Aside0.mk (Kd.R_lower ho28 (below_size (by repeat (first | (with_reducible first | exact HB.out | apply below_alloc | apply pw_below_drewN | apply below_drew1) | exact HB.out)))); have n1_ := Aside0.mk (below_step (by repeat (first | (with_reducible first | exact HB.out | apply below_alloc | apply pw_below_drewN | apply below_drew1) | exact HB.out)) hb); clear HB; have HO253 := n0_; have HB := n1_; clear n0_ n1_; clear hb ho28; obtain ⟨Ao29, co29, eo29⟩ := Kd.R_slice HO253.out; subst eo29) | ((with_reducible refine gate_callee (f := 20) rfl ?_); refine goesL_ (some 8) rfl rfl Try.func20 (by kernel_rfl) rfl #[.slice Ao29 y251.length co29] rfl (by (try simp only [List.map_toArray, List.map_cons, List.map_nil]); first | done | rfl | (simp only [List.length_drop, List.length_take]; rfl)) ?_; (with_reducible refine (video_Region.calls _ _ y251 t254 t255 _ ?side1 ?side2 A1.out).mono ?_); (case side1 => repeat (first | exact (Kd.R_reads' HO253.out).2.2 | (with_reducible refine Kd.C_alloc ?_ _) | (with_reducible refine Kd.C_drewN ?_ _) | (with_reducible refine Kd.C_drew ?_))); (case side2 => exact (Kd.R_reads' HO253.out).2.1); rintro e w30 ⟨v256, rfl, ho0, hb⟩; refine ⟨_, rfl, ?_⟩; have n0_ := Aside0.mk (Kd.R_below (by (with_reducible repeat (first | apply Kd.R_alloc | apply Kd.R_drewN | apply Kd.R_drew)); exact HO253.out) hb); have n1_ := Aside0.mk (Kd.R_lower ho0 (below_size (by repeat (first | (with_reducible first | exact HB.out | apply below_alloc | apply pw_below_drewN | apply below_drew1) | exact HB.out)))); have n2_ := Aside0.mk (below_step (by repeat (first | (with_reducible first | exact HB.out | apply below_alloc | apply pw_below_drewN | apply below_drew1) | exact HB.out)) hb); clear HO253; clear HB; have HO253 := n0_; have HO257 := n1_; have HB := n2_; clear n0_ n1_ n2_; (try clear hb); (try clear hb2); (try clear hk); (try clear hi); (try clear ho0); obtain ⟨Ao31, co31, eo31⟩ := Kd.R_slice HO257.out; subst eo31; have p258 : 0 ≤ (1 : Int) := (by omega); have q258 : 1 < (t254.length : Int) := of_decide_eq_true (by first | (with_reducible assumption) | assumption); obtain ⟨ad258, e258, hx258_0, hx258_1, hx258_2, hx258_3⟩ := at_T43 (Kd.R_reads' HO257.out).2.2 1 p258 q258; cases e258; (try simp only [show (1 : Int).toNat = 1 from rfl, Nat.reduceMul, Nat.reduceEqDiff, Go.Addr.add, ↓reduceIte] at hx258_0); (try simp only [show (1 : Int).toNat = 1 from rfl, Nat.reduceMul, Nat.reduceEqDiff, Go.Addr.add, ↓reduceIte] at hx258_1); (try simp only [show (1 : Int).toNat = 1 from rfl, Nat.reduceMul, Nat.reduceEqDiff, Go.Addr.add, ↓reduceIte] at hx258_2); (try simp only [show (1 : Int).toNat = 1 from rfl, Nat.reduceMul, Nat.reduceEqDiff, Go.Addr.add, ↓reduceIte] at hx258_3); have qi258 : (1 < t254.length) = True := eq_true (by omega); (try rw [show ((1 : Int)).toNat = 1 from rfl] at hx258_0); (try rw [show 1 * 4 = 4 from rfl] at hx258_0); (try rw [show ((1 : Int)).toNat = 1 from rfl] at hx258_1); (try rw [show 1 * 4 = 4 from rfl] at hx258_1); (try rw [show ((1 : Int)).toNat = 1 from rfl] at hx258_2); (try rw [show 1 * 4 = 4 from rfl] at hx258_2); (try rw [show ((1 : Int)).toNat = 1 from rfl] at hx258_3); (try rw [show 1 * 4 = 4 from rfl] at hx258_3); replace p258 := eq_true p258; replace q258 := eq_true q258) | ((with_reducible refine gate_callee (f := 42) rfl ?_); refine goesL_ (some 27) rfl rfl Try.func42 (by kernel_rfl) rfl #[.agg #[.int .i64 1, .int .i64 0, .int .i64 2, .int .i64 2, .string (⟨#[97, 98, 99, 100]⟩ : ByteArray)], .int .i64 1] rfl (by (try simp only [List.map_toArray, List.map_cons, List.map_nil]); first | done | rfl | (simp only [List.length_drop, List.length_take]; rfl)) ?_; (with_reducible refine (video_Convert.calls 1 0 2 2 (⟨#[97, 98, 99, 100]⟩ : ByteArray) 1 t259 t260 t261 t262 t263 t264 _ A11.out).mono ?_); rintro e w32 ⟨rfl, hb⟩; refine ⟨_, rfl, ?_⟩; have n0_ := Aside0.mk (Kd.R_below (by (with_reducible repeat (first | apply Kd.R_alloc | apply Kd.R_drewN | apply Kd.R_drew)); exact HO253.out) hb); have n1_ := Aside0.mk (Kd.R_below (by (with_reducible repeat (first | apply Kd.R_alloc | apply Kd.R_drewN | apply Kd.R_drew)); exact HO257.out) hb); have n2_ := Aside0.mk (below_step (by repeat (first | (with_reducible first | exact HB.out | apply below_alloc | apply pw_below_drewN | apply below_drew1) | exact HB.out)) hb); clear HO253; clear HO257; clear HB; have HO253 := n0_; have HO257 := n1_; have HB := n2_; clear n0_ n1_ n2_; (try clear hb); (try clear hb2); (try clear hk); (try clear hi)) | ((with_reducible refine gate_dst (N := 3) rfl ?_); (try (refine gate_guard (by rfl) ?_; dsimp only)); refine box_event ?hg (N := 3) ?hd (cs := #[.int .i64 0, .int .i64 0, .int .i64 0, .int .i64 0, .string (⟨#[]⟩ : ByteArray)]) (t := 49) ?hr ?_; (case hd => rfl); (case hg => rfl); (case hr => first | (go_simp; done) | (go_simp; rfl)); intro gb265 hg w33 hbox hb; have n0_ := Aside0.mk (Kd.R_below (by (with_reducible repeat (first | apply Kd.R_alloc | apply Kd.R_drewN | apply Kd.R_drew)); exact HO253.out) hb); have n1_ := Aside0.mk (Kd.R_below (by (with_reducible repeat (first | apply Kd.R_alloc | apply Kd.R_drewN | apply Kd.R_drew)); exact HO257.out) hb); have n2_ := Aside0.mk (below_step (by repeat (first | (with_reducible first | exact HB.out | apply below_alloc | apply pw_below_drewN | apply below_drew1) | exact HB.out)) hb); have n3_ := Aside0.mk (hbox); have n4_ := Aside0.mk ((by rw [hg]; exact (below_size (by repeat (first | (with_reducible first | exact HB.out | apply below_alloc | apply pw_below_drewN | apply below_drew1) | exact HB.out))) : w.heap.size ≤ gb265)); have n5_ := Aside0.mk ((by rw [hg]; exact (below_size (by repeat (first | (with_reducible first | exact HB.out | apply below_alloc | apply pw_below_drewN | apply below_drew1) | exact HB.out))) : w.heap.size ≤ gb265)); clear HO253; clear HO257; clear HB; have HO253 := n0_; have HO257 := n1_; have HB := n2_; have BK265 := n3_; have GW265 := n4_; have GE265 := n5_; clear n0_ n1_ n2_ n3_ n4_ n5_; clear hb hbox hg; have hcz34_0 : w33.cell? ⟨gb265, 0, none⟩ = some (.int .i64 0) := (blk_cell BK265.out 0).trans rfl; have hcz34_1 : w33.cell? ⟨gb265, 1, none⟩ = some (.int .i64 0) := (blk_cell BK265.out 1).trans rfl; have hcz34_2 : w33.cell? ⟨gb265, 2, none⟩ = some (.int .i64 0) := (blk_cell BK265.out 2).trans rfl; have hcz34_3 : w33.cell? ⟨gb265, 3, none⟩ = some (.int .i64 0) := (blk_cell BK265.out 3).trans rfl; have hcz34_4 : w33.cell? ⟨gb265, 4, none⟩ = some (.string (⟨#[]⟩ : ByteArray)) := (blk_cell BK265.out 4).trans rfl; have hfz34_0 := blk_frozen BK265.out 0; have hfz34_1 := blk_frozen BK265.out 1; have hfz34_2 := blk_frozen BK265.out 2; have hfz34_3 := blk_frozen BK265.out 3; have hfz34_4 := blk_frozen BK265.out 4))
                   go_ret
                   exact ⟨by first | rfl | (simp [errW_none, errW_some] <;> rfl) | (simp [*, errW_none, errW_some] <;> rfl), by repeat (first | (with_reducible first | exact HB.out | apply below_alloc | apply pw_below_drewN | apply below_drew1 | refine below_set ?_ GE265.out) | exact HB.out)⟩
               · rw [if_neg c15] at H
                 exact absurd H (by simp)
             · rw [if_neg c14] at H
               exact absurd H (by simp)
           · rw [if_neg c13] at H
             have c13b0 : ((t263.size : Int) == 16) = false := beq_eq_false_iff_ne.mpr c13
             have c13b1 : ((t263.size : Int) != 16) = true := bne_iff_ne.mpr c13
             obtain rfl := Option.some.inj H
             go_enter Try.func10, Try.ntmps10
             go_wp2_with (first | ((with_reducible refine gate_dst (N := 7) rfl ?_); (try (refine gate_guard (by rfl) ?_; dsimp only)); refine Kd.R_lit k43 _ 43 ?hg (N := 7) ?hd (xs := ([(⟨0, 0, 2, 2⟩ : S43), (⟨1, 1, 2, 2⟩ : S43)] : List (S43))) (inner := [.int .i64 0, .int .i64 0, .int .i64 2, .int .i64 2, .int .i64 1, .int .i64 1, .int .i64 2, .int .i64 2]) (ok := fun _ => True) (okp := fun _ => True) ?hr ?hp (fun _ hk => hk) trivial (Below.refl _ _) (Nat.le_refl _) (by simp) ?_; (case hd => rfl); (case hg => rfl); (case hr => first | (go_simp; done) | (go_simp; rfl)); (case hp => exact (Reps.c4 (show Kd.M k43 _ _ _ (⟨0, 0, 2, 2⟩ : S43) [.int .i64 0, .int .i64 0, .int .i64 2, .int .i64 2] from (k43_mkM _ _ _ (⟨0, 0, 2, 2⟩ : S43) )) (Reps.c4 (show Kd.M k43 _ _ _ (⟨1, 1, 2, 2⟩ : S43) [.int .i64 1, .int .i64 1, .int .i64 2, .int .i64 2] from (k43_mkM _ _ _ (⟨1, 1, 2, 2⟩ : S43) )) (Reps.none _ _)))); intro v252 w35 ho36 hb hg_ hnew_; clear hg_ hnew_; (first | rw [← Ny251.out] at ho36 | (simp only [Int.reduceToNat] at ho36; rw [← Ny251.out] at ho36)); have n0_ := Aside0.mk (Kd.R_lower ho36 (below_size (by repeat (first | (with_reducible first | exact HB.out | apply below_alloc | apply pw_below_drewN | apply below_drew1) | exact HB.out)))); have n1_ := Aside0.mk (below_step (by repeat (first | (with_reducible first | exact HB.out | apply below_alloc | apply pw_below_drewN | apply below_drew1) | exact HB.out)) hb); clear HB; have HO253 := n0_; have HB := n1_; clear n0_ n1_; clear hb ho36; obtain ⟨Ao37, co37, eo37⟩ := Kd.R_slice HO253.out; subst eo37) | ((with_reducible refine gate_callee (f := 20) rfl ?_); refine goesL_ (some 8) rfl rfl Try.func20 (by kernel_rfl) rfl #[.slice Ao37 y251.length co37] rfl (by (try simp only [List.map_toArray, List.map_cons, List.map_nil]); first | done | rfl | (simp only [List.length_drop, List.length_take]; rfl)) ?_; (with_reducible refine (video_Region.calls _ _ y251 t254 t255 _ ?side1 ?side2 A1.out).mono ?_); (case side1 => repeat (first | exact (Kd.R_reads' HO253.out).2.2 | (with_reducible refine Kd.C_alloc ?_ _) | (with_reducible refine Kd.C_drewN ?_ _) | (with_reducible refine Kd.C_drew ?_))); (case side2 => exact (Kd.R_reads' HO253.out).2.1); rintro e w38 ⟨v256, rfl, ho0, hb⟩; refine ⟨_, rfl, ?_⟩; have n0_ := Aside0.mk (Kd.R_below (by (with_reducible repeat (first | apply Kd.R_alloc | apply Kd.R_drewN | apply Kd.R_drew)); exact HO253.out) hb); have n1_ := Aside0.mk (Kd.R_lower ho0 (below_size (by repeat (first | (with_reducible first | exact HB.out | apply below_alloc | apply pw_below_drewN | apply below_drew1) | exact HB.out)))); have n2_ := Aside0.mk (below_step (by repeat (first | (with_reducible first | exact HB.out | apply below_alloc | apply pw_below_drewN | apply below_drew1) | exact HB.out)) hb); clear HO253; clear HB; have HO253 := n0_; have HO257 := n1_; have HB := n2_; clear n0_ n1_ n2_; (try clear hb); (try clear hb2); (try clear hk); (try clear hi); (try clear ho0); obtain ⟨Ao39, co39, eo39⟩ := Kd.R_slice HO257.out; subst eo39; have p258 : 0 ≤ (1 : Int) := (by omega); have q258 : 1 < (t254.length : Int) := of_decide_eq_true (by first | (with_reducible assumption) | assumption); obtain ⟨ad258, e258, hx258_0, hx258_1, hx258_2, hx258_3⟩ := at_T43 (Kd.R_reads' HO257.out).2.2 1 p258 q258; cases e258; (try simp only [show (1 : Int).toNat = 1 from rfl, Nat.reduceMul, Nat.reduceEqDiff, Go.Addr.add, ↓reduceIte] at hx258_0); (try simp only [show (1 : Int).toNat = 1 from rfl, Nat.reduceMul, Nat.reduceEqDiff, Go.Addr.add, ↓reduceIte] at hx258_1); (try simp only [show (1 : Int).toNat = 1 from rfl, Nat.reduceMul, Nat.reduceEqDiff, Go.Addr.add, ↓reduceIte] at hx258_2); (try simp only [show (1 : Int).toNat = 1 from rfl, Nat.reduceMul, Nat.reduceEqDiff, Go.Addr.add, ↓reduceIte] at hx258_3); have qi258 : (1 < t254.length) = True := eq_true (by omega); (try rw [show ((1 : Int)).toNat = 1 from rfl] at hx258_0); (try rw [show 1 * 4 = 4 from rfl] at hx258_0); (try rw [show ((1 : Int)).toNat = 1 from rfl] at hx258_1); (try rw [show 1 * 4 = 4 from rfl] at hx258_1); (try rw [show ((1 : Int)).toNat = 1 from rfl] at hx258_2); (try rw [show 1 * 4 = 4 from rfl] at hx258_2); (try rw [show ((1 : Int)).toNat = 1 from rfl] at hx258_3); (try rw [show 1 * 4 = 4 from rfl] at hx258_3); replace p258 := eq_true p258; replace q258 := eq_true q258) | ((with_reducible refine gate_callee (f := 42) rfl ?_); refine goesL_ (some 27) rfl rfl Try.func42 (by kernel_rfl) rfl #[.agg #[.int .i64 1, .int .i64 0, .int .i64 2, .int .i64 2, .string (⟨#[97, 98, 99, 100]⟩ : ByteArray)], .int .i64 1] rfl (by (try simp only [List.map_toArray, List.map_cons, List.map_nil]); first | done | rfl | (simp only [List.length_drop, List.length_take]; rfl)) ?_; (with_reducible refine (video_Convert.calls 1 0 2 2 (⟨#[97, 98, 99, 100]⟩ : ByteArray) 1 t259 t260 t261 t262 t263 t264 _ A11.out).mono ?_); rintro e w40 ⟨rfl, hb⟩; refine ⟨_, rfl, ?_⟩; have n0_ := Aside0.mk (Kd.R_below (by (with_reducible repeat (first | apply Kd.R_alloc | apply Kd.R_drewN | apply Kd.R_drew)); exact HO253.out) hb); have n1_ := Aside0.mk (Kd.R_below (by (with_reducible repeat (first | apply Kd.R_alloc | apply Kd.R_drewN | apply Kd.R_drew)); exact HO257.out) hb); have n2_ := Aside0.mk (below_step (by repeat (first | (with_reducible first | exact HB.out | apply below_alloc | apply pw_below_drewN | apply below_drew1) | exact HB.out)) hb); clear HO253; clear HO257; clear HB; have HO253 := n0_; have HO257 := n1_; have HB := n2_; clear n0_ n1_ n2_; (try clear hb); (try clear hb2); (try clear hk); (try clear hi)) | ((with_reducible refine gate_dst (N := 3) rfl ?_); (try (refine gate_guard (by rfl) ?_; dsimp only)); refine box_event ?hg (N := 3) ?hd (cs := #[.int .i64 0, .int .i64 0, .int .i64 0, .int .i64 0, .string (⟨#[]⟩ : ByteArray)]) (t := 49) ?hr ?_; (case hd => rfl); (case hg => rfl); (case hr => first | (go_simp; done) | (go_simp; rfl)); intro gb265 hg w41 hbox hb; have n0_ := Aside0.mk (Kd.R_below (by (with_reducible repeat (first | apply Kd.R_alloc | apply Kd.R_drewN | apply Kd.R_drew)); exact HO253.out) hb); have n1_ := Aside0.mk (Kd.R_below (by (with_reducible repeat (first | apply Kd.R_alloc | apply Kd.R_drewN | apply Kd.R_drew)); exact HO257.out) hb); have n2_ := Aside0.mk (below_step (by repeat (first | (with_reducible first | exact HB.out | apply below_alloc | apply pw_below_drewN | apply below_drew1) | exact HB.out)) hb); have n3_ := Aside0.mk (hbox); have n4_ := Aside0.mk ((by rw [hg]; exact (below_size (by repeat (first | (with_reducible first | exact HB.out | apply below_alloc | apply pw_below_drewN | apply below_drew1) | exact HB.out))) : w.heap.size ≤ gb265)); have n5_ := Aside0.mk ((by rw [hg]; exact (below_size (by repeat (first | (with_reducible first | exact HB.out | apply below_alloc | apply pw_below_drewN | apply below_drew1) | exact HB.out))) : w.heap.size ≤ gb265)); clear HO253; clear HO257; clear HB; have HO253 := n0_; have HO257 := n1_; have HB := n2_; have BK265 := n3_; have GW265 := n4_; have GE265 := n5_; clear n0_ n1_ n2_ n3_ n4_ n5_; clear hb hbox hg; have hcz42_0 : w41.cell? ⟨gb265, 0, none⟩ = some (.int .i64 0) := (blk_cell BK265.out 0).trans rfl; have hcz42_1 : w41.cell? ⟨gb265, 1, none⟩ = some (.int .i64 0) := (blk_cell BK265.out 1).trans rfl; have hcz42_2 : w41.cell? ⟨gb265, 2, none⟩ = some (.int .i64 0) := (blk_cell BK265.out 2).trans rfl; have hcz42_3 : w41.cell? ⟨gb265, 3, none⟩ = some (.int .i64 0) := (blk_cell BK265.out 3).trans rfl; have hcz42_4 : w41.cell? ⟨gb265, 4, none⟩ = some (.string (⟨#[]⟩ : ByteArray)) := (blk_cell BK265.out 4).trans rfl; have hfz42_0 := blk_frozen BK265.out 0; have hfz42_1 := blk_frozen BK265.out 1; have hfz42_2 := blk_frozen BK265.out 2; have hfz42_3 := blk_frozen BK265.out 3; have hfz42_4 := blk_frozen BK265.out 4))
             go_ret
             exact ⟨by first | rfl | (simp [errW_none, errW_some] <;> rfl) | (simp [*, errW_none, errW_some] <;> rfl), by repeat (first | (with_reducible first | exact HB.out | apply below_alloc | apply pw_below_drewN | apply below_drew1 | refine below_set ?_ GE265.out) | exact HB.out)⟩
         · rw [if_neg c12] at H
           have c12b0 : (t264 == 0) = false := beq_eq_false_iff_ne.mpr c12
           have c12b1 : (t264 != 0) = true := bne_iff_ne.mpr c12
           obtain rfl := Option.some.inj H
           go_enter Try.func10, Try.ntmps10
           go_wp2_with (first | ((with_reducible refine gate_dst (N := 7) rfl ?_); (try (refine gate_guard (by rfl) ?_; dsimp only)); refine Kd.R_lit k43 _ 43 ?hg (N := 7) ?hd (xs := ([(⟨0, 0, 2, 2⟩ : S43), (⟨1, 1, 2, 2⟩ : S43)] : List (S43))) (inner := [.int .i64 0, .int .i64 0, .int .i64 2, .int .i64 2, .int .i64 1, .int .i64 1, .int .i64 2, .int .i64 2]) (ok := fun _ => True) (okp := fun _ => True) ?hr ?hp (fun _ hk => hk) trivial (Below.refl _ _) (Nat.le_refl _) (by simp) ?_; (case hd => rfl); (case hg => rfl); (case hr => first | (go_simp; done) | (go_simp; rfl)); (case hp => exact (Reps.c4 (show Kd.M k43 _ _ _ (⟨0, 0, 2, 2⟩ : S43) [.int .i64 0, .int .i64 0, .int .i64 2, .int .i64 2] from (k43_mkM _ _ _ (⟨0, 0, 2, 2⟩ : S43) )) (Reps.c4 (show Kd.M k43 _ _ _ (⟨1, 1, 2, 2⟩ : S43) [.int .i64 1, .int .i64 1, .int .i64 2, .int .i64 2] from (k43_mkM _ _ _ (⟨1, 1, 2, 2⟩ : S43) )) (Reps.none _ _)))); intro v252 w43 ho44 hb hg_ hnew_; clear hg_ hnew_; (first | rw [← Ny251.out] at ho44 | (simp only [Int.reduceToNat] at ho44; rw [← Ny251.out] at ho44)); have n0_ := Aside0.mk (Kd.R_lower ho44 (below_size (by repeat (first | (with_reducible first | exact HB.out | apply below_alloc | apply pw_below_drewN | apply below_drew1) | exact HB.out)))); have n1_ := Aside0.mk (below_step (by repeat (first | (with_reducible first | exact HB.out | apply below_alloc | apply pw_below_drewN | apply below_drew1) | exact HB.out)) hb); clear HB; have HO253 := n0_; have HB := n1_; clear n0_ n1_; clear hb ho44; obtain ⟨Ao45, co45, eo45⟩ := Kd.R_slice HO253.out; subst eo45) | ((with_reducible refine gate_callee (f := 20) rfl ?_); refine goesL_ (some 8) rfl rfl Try.func20 (by kernel_rfl) rfl #[.slice Ao45 y251.length co45] rfl (by (try simp only [List.map_toArray, List.map_cons, List.map_nil]); first | done | rfl | (simp only [List.length_drop, List.length_take]; rfl)) ?_; (with_reducible refine (video_Region.calls _ _ y251 t254 t255 _ ?side1 ?side2 A1.out).mono ?_); (case side1 => repeat (first | exact (Kd.R_reads' HO253.out).2.2 | (with_reducible refine Kd.C_alloc ?_ _) | (with_reducible refine Kd.C_drewN ?_ _) | (with_reducible refine Kd.C_drew ?_))); (case side2 => exact (Kd.R_reads' HO253.out).2.1); rintro e w46 ⟨v256, rfl, ho0, hb⟩; refine ⟨_, rfl, ?_⟩; have n0_ := Aside0.mk (Kd.R_below (by (with_reducible repeat (first | apply Kd.R_alloc | apply Kd.R_drewN | apply Kd.R_drew)); exact HO253.out) hb); have n1_ := Aside0.mk (Kd.R_lower ho0 (below_size (by repeat (first | (with_reducible first | exact HB.out | apply below_alloc | apply pw_below_drewN | apply below_drew1) | exact HB.out)))); have n2_ := Aside0.mk (below_step (by repeat (first | (with_reducible first | exact HB.out | apply below_alloc | apply pw_below_drewN | apply below_drew1) | exact HB.out)) hb); clear HO253; clear HB; have HO253 := n0_; have HO257 := n1_; have HB := n2_; clear n0_ n1_ n2_; (try clear hb); (try clear hb2); (try clear hk); (try clear hi); (try clear ho0); obtain ⟨Ao47, co47, eo47⟩ := Kd.R_slice HO257.out; subst eo47; have p258 : 0 ≤ (1 : Int) := (by omega); have q258 : 1 < (t254.length : Int) := of_decide_eq_true (by first | (with_reducible assumption) | assumption); obtain ⟨ad258, e258, hx258_0, hx258_1, hx258_2, hx258_3⟩ := at_T43 (Kd.R_reads' HO257.out).2.2 1 p258 q258; cases e258; (try simp only [show (1 : Int).toNat = 1 from rfl, Nat.reduceMul, Nat.reduceEqDiff, Go.Addr.add, ↓reduceIte] at hx258_0); (try simp only [show (1 : Int).toNat = 1 from rfl, Nat.reduceMul, Nat.reduceEqDiff, Go.Addr.add, ↓reduceIte] at hx258_1); (try simp only [show (1 : Int).toNat = 1 from rfl, Nat.reduceMul, Nat.reduceEqDiff, Go.Addr.add, ↓reduceIte] at hx258_2); (try simp only [show (1 : Int).toNat = 1 from rfl, Nat.reduceMul, Nat.reduceEqDiff, Go.Addr.add, ↓reduceIte] at hx258_3); have qi258 : (1 < t254.length) = True := eq_true (by omega); (try rw [show ((1 : Int)).toNat = 1 from rfl] at hx258_0); (try rw [show 1 * 4 = 4 from rfl] at hx258_0); (try rw [show ((1 : Int)).toNat = 1 from rfl] at hx258_1); (try rw [show 1 * 4 = 4 from rfl] at hx258_1); (try rw [show ((1 : Int)).toNat = 1 from rfl] at hx258_2); (try rw [show 1 * 4 = 4 from rfl] at hx258_2); (try rw [show ((1 : Int)).toNat = 1 from rfl] at hx258_3); (try rw [show 1 * 4 = 4 from rfl] at hx258_3); replace p258 := eq_true p258; replace q258 := eq_true q258) | ((with_reducible refine gate_callee (f := 42) rfl ?_); refine goesL_ (some 27) rfl rfl Try.func42 (by kernel_rfl) rfl #[.agg #[.int .i64 1, .int .i64 0, .int .i64 2, .int .i64 2, .string (⟨#[97, 98, 99, 100]⟩ : ByteArray)], .int .i64 1] rfl (by (try simp only [List.map_toArray, List.map_cons, List.map_nil]); first | done | rfl | (simp only [List.length_drop, List.length_take]; rfl)) ?_; (with_reducible refine (video_Convert.calls 1 0 2 2 (⟨#[97, 98, 99, 100]⟩ : ByteArray) 1 t259 t260 t261 t262 t263 t264 _ A11.out).mono ?_); rintro e w48 ⟨rfl, hb⟩; refine ⟨_, rfl, ?_⟩; have n0_ := Aside0.mk (Kd.R_below (by (with_reducible repeat (first | apply Kd.R_alloc | apply Kd.R_drewN | apply Kd.R_drew)); exact HO253.out) hb); have n1_ := Aside0.mk (Kd.R_below (by (with_reducible repeat (first | apply Kd.R_alloc | apply Kd.R_drewN | apply Kd.R_drew)); exact HO257.out) hb); have n2_ := Aside0.mk (below_step (by repeat (first | (with_reducible first | exact HB.out | apply below_alloc | apply pw_below_drewN | apply below_drew1) | exact HB.out)) hb); clear HO253; clear HO257; clear HB; have HO253 := n0_; have HO257 := n1_; have HB := n2_; clear n0_ n1_ n2_; (try clear hb); (try clear hb2); (try clear hk); (try clear hi)) | ((with_reducible refine gate_dst (N := 3) rfl ?_); (try (refine gate_guard (by rfl) ?_; dsimp only)); refine box_event ?hg (N := 3) ?hd (cs := #[.int .i64 0, .int .i64 0, .int .i64 0, .int .i64 0, .string (⟨#[]⟩ : ByteArray)]) (t := 49) ?hr ?_; (case hd => rfl); (case hg => rfl); (case hr => first | (go_simp; done) | (go_simp; rfl)); intro gb265 hg w49 hbox hb; have n0_ := Aside0.mk (Kd.R_below (by (with_reducible repeat (first | apply Kd.R_alloc | apply Kd.R_drewN | apply Kd.R_drew)); exact HO253.out) hb); have n1_ := Aside0.mk (Kd.R_below (by (with_reducible repeat (first | apply Kd.R_alloc | apply Kd.R_drewN | apply Kd.R_drew)); exact HO257.out) hb); have n2_ := Aside0.mk (below_step (by repeat (first | (with_reducible first | exact HB.out | apply below_alloc | apply pw_below_drewN | apply below_drew1) | exact HB.out)) hb); have n3_ := Aside0.mk (hbox); have n4_ := Aside0.mk ((by rw [hg]; exact (below_size (by repeat (first | (with_reducible first | exact HB.out | apply below_alloc | apply pw_below_drewN | apply below_drew1) | exact HB.out))) : w.heap.size ≤ gb265)); have n5_ := Aside0.mk ((by rw [hg]; exact (below_size (by repeat (first | (with_reducible first | exact HB.out | apply below_alloc | apply pw_below_drewN | apply below_drew1) | exact HB.out))) : w.heap.size ≤ gb265)); clear HO253; clear HO257; clear HB; have HO253 := n0_; have HO257 := n1_; have HB := n2_; have BK265 := n3_; have GW265 := n4_; have GE265 := n5_; clear n0_ n1_ n2_ n3_ n4_ n5_; clear hb hbox hg; have hcz50_0 : w49.cell? ⟨gb265, 0, none⟩ = some (.int .i64 0) := (blk_cell BK265.out 0).trans rfl; have hcz50_1 : w49.cell? ⟨gb265, 1, none⟩ = some (.int .i64 0) := (blk_cell BK265.out 1).trans rfl; have hcz50_2 : w49.cell? ⟨gb265, 2, none⟩ = some (.int .i64 0) := (blk_cell BK265.out 2).trans rfl; have hcz50_3 : w49.cell? ⟨gb265, 3, none⟩ = some (.int .i64 0) := (blk_cell BK265.out 3).trans rfl; have hcz50_4 : w49.cell? ⟨gb265, 4, none⟩ = some (.string (⟨#[]⟩ : ByteArray)) := (blk_cell BK265.out 4).trans rfl; have hfz50_0 := blk_frozen BK265.out 0; have hfz50_1 := blk_frozen BK265.out 1; have hfz50_2 := blk_frozen BK265.out 2; have hfz50_3 := blk_frozen BK265.out 3; have hfz50_4 := blk_frozen BK265.out 4))
           go_ret
           exact ⟨by first | rfl | (simp [errW_none, errW_some] <;> rfl) | (simp [*, errW_none, errW_some] <;> rfl), by repeat (first | (with_reducible first | exact HB.out | apply below_alloc | apply pw_below_drewN | apply below_drew1 | refine below_set ?_ GE265.out) | exact HB.out)⟩
     · rw [if_neg c4] at H
       exact absurd H (by simp)
   · rw [if_neg c3] at H
     have c3b0 : ((t254.length : Int) == 3) = false := beq_eq_false_iff_ne.mpr c3
     have c3b1 : ((t254.length : Int) != 3) = true := bne_iff_ne.mpr c3
     obtain rfl := Option.some.inj H
     go_enter Try.func10, Try.ntmps10
     go_wp2_with (first | ((with_reducible refine gate_dst (N := 7) rfl ?_); (try (refine gate_guard (by rfl) ?_; dsimp only)); refine Kd.R_lit k43 _ 43 ?hg (N := 7) ?hd (xs := ([(⟨0, 0, 2, 2⟩ : S43), (⟨1, 1, 2, 2⟩ : S43)] : List (S43))) (inner := [.int .i64 0, .int .i64 0, .int .i64 2, .int .i64 2, .int .i64 1, .int .i64 1, .int .i64 2, .int .i64 2]) (ok := fun _ => True) (okp := fun _ => True) ?hr ?hp (fun _ hk => hk) trivial (Below.refl _ _) (Nat.le_refl _) (by simp) ?_; (case hd => rfl); (case hg => rfl); (case hr => first | (go_simp; done) | (go_simp; rfl)); (case hp => exact (Reps.c4 (show Kd.M k43 _ _ _ (⟨0, 0, 2, 2⟩ : S43) [.int .i64 0, .int .i64 0, .int .i64 2, .int .i64 2] from (k43_mkM _ _ _ (⟨0, 0, 2, 2⟩ : S43) )) (Reps.c4 (show Kd.M k43 _ _ _ (⟨1, 1, 2, 2⟩ : S43) [.int .i64 1, .int .i64 1, .int .i64 2, .int .i64 2] from (k43_mkM _ _ _ (⟨1, 1, 2, 2⟩ : S43) )) (Reps.none _ _)))); intro v252 w51 ho52 hb hg_ hnew_; clear hg_ hnew_; (first | rw [← Ny251.out] at ho52 | (simp only [Int.reduceToNat] at ho52; rw [← Ny251.out] at ho52)); have n0_ := Aside0.mk (Kd.R_lower ho52 (below_size (by repeat (first | (with_reducible first | exact HB.out | apply below_alloc | apply pw_below_drewN | apply below_drew1) | exact HB.out)))); have n1_ := Aside0.mk (below_step (by repeat (first | (with_reducible first | exact HB.out | apply below_alloc | apply pw_below_drewN | apply below_drew1) | exact HB.out)) hb); clear HB; have HO253 := n0_; have HB := n1_; clear n0_ n1_; clear hb ho52; obtain ⟨Ao53, co53, eo53⟩ := Kd.R_slice HO253.out; subst eo53) | ((with_reducible refine gate_callee (f := 20) rfl ?_); refine goesL_ (some 8) rfl rfl Try.func20 (by kernel_rfl) rfl #[.slice Ao53 y251.length co53] rfl (by (try simp only [List.map_toArray, List.map_cons, List.map_nil]); first | done | rfl | (simp only [List.length_drop, List.length_take]; rfl)) ?_; (with_reducible refine (video_Region.calls _ _ y251 t254 t255 _ ?side1 ?side2 A1.out).mono ?_); (case side1 => repeat (first | exact (Kd.R_reads' HO253.out).2.2 | (with_reducible refine Kd.C_alloc ?_ _) | (with_reducible refine Kd.C_drewN ?_ _) | (with_reducible refine Kd.C_drew ?_))); (case side2 => exact (Kd.R_reads' HO253.out).2.1); rintro e w54 ⟨v256, rfl, ho0, hb⟩; refine ⟨_, rfl, ?_⟩; have n0_ := Aside0.mk (Kd.R_below (by (with_reducible repeat (first | apply Kd.R_alloc | apply Kd.R_drewN | apply Kd.R_drew)); exact HO253.out) hb); have n1_ := Aside0.mk (Kd.R_lower ho0 (below_size (by repeat (first | (with_reducible first | exact HB.out | apply below_alloc | apply pw_below_drewN | apply below_drew1) | exact HB.out)))); have n2_ := Aside0.mk (below_step (by repeat (first | (with_reducible first | exact HB.out | apply below_alloc | apply pw_below_drewN | apply below_drew1) | exact HB.out)) hb); clear HO253; clear HB; have HO253 := n0_; have HO257 := n1_; have HB := n2_; clear n0_ n1_ n2_; (try clear hb); (try clear hb2); (try clear hk); (try clear hi); (try clear ho0); obtain ⟨Ao55, co55, eo55⟩ := Kd.R_slice HO257.out; subst eo55))
     go_ret
     exact ⟨by first | rfl | (simp [errW_none, errW_some] <;> rfl) | (simp [*, errW_none, errW_some] <;> rfl), by repeat (first | (with_reducible first | exact HB.out | apply below_alloc | apply pw_below_drewN | apply below_drew1) | exact HB.out)⟩
 · rw [if_neg c2] at H
   have c2b0 : (t255 == 0) = false := beq_eq_false_iff_ne.mpr c2
   have c2b1 : (t255 != 0) = true := bne_iff_ne.mpr c2
   obtain rfl := Option.some.inj H
   go_enter Try.func10, Try.ntmps10
   go_wp2_with (first | ((with_reducible refine gate_dst (N := 7) rfl ?_); (try (refine gate_guard (by rfl) ?_; dsimp only)); refine Kd.R_lit k43 _ 43 ?hg (N := 7) ?hd (xs := ([(⟨0, 0, 2, 2⟩ : S43), (⟨1, 1, 2, 2⟩ : S43)] : List (S43))) (inner := [.int .i64 0, .int .i64 0, .int .i64 2, .int .i64 2, .int .i64 1, .int .i64 1, .int .i64 2, .int .i64 2]) (ok := fun _ => True) (okp := fun _ => True) ?hr ?hp (fun _ hk => hk) trivial (Below.refl _ _) (Nat.le_refl _) (by simp) ?_; (case hd => rfl); (case hg => rfl); (case hr => first | (go_simp; done) | (go_simp; rfl)); (case hp => exact (Reps.c4 (show Kd.M k43 _ _ _ (⟨0, 0, 2, 2⟩ : S43) [.int .i64 0, .int .i64 0, .int .i64 2, .int .i64 2] from (k43_mkM _ _ _ (⟨0, 0, 2, 2⟩ : S43) )) (Reps.c4 (show Kd.M k43 _ _ _ (⟨1, 1, 2, 2⟩ : S43) [.int .i64 1, .int .i64 1, .int .i64 2, .int .i64 2] from (k43_mkM _ _ _ (⟨1, 1, 2, 2⟩ : S43) )) (Reps.none _ _)))); intro v252 w56 ho57 hb hg_ hnew_; clear hg_ hnew_; (first | rw [← Ny251.out] at ho57 | (simp only [Int.reduceToNat] at ho57; rw [← Ny251.out] at ho57)); have n0_ := Aside0.mk (Kd.R_lower ho57 (below_size (by repeat (first | (with_reducible first | exact HB.out | apply below_alloc | apply pw_below_drewN | apply below_drew1) | exact HB.out)))); have n1_ := Aside0.mk (below_step (by repeat (first | (with_reducible first | exact HB.out | apply below_alloc | apply pw_below_drewN | apply below_drew1) | exact HB.out)) hb); clear HB; have HO253 := n0_; have HB := n1_; clear n0_ n1_; clear hb ho57; obtain ⟨Ao58, co58, eo58⟩ := Kd.R_slice HO253.out; subst eo58) | ((with_reducible refine gate_callee (f := 20) rfl ?_); refine goesL_ (some 8) rfl rfl Try.func20 (by kernel_rfl) rfl #[.slice Ao58 y251.length co58] rfl (by (try simp only [List.map_toArray, List.map_cons, List.map_nil]); first | done | rfl | (simp only [List.length_drop, List.length_take]; rfl)) ?_; (with_reducible refine (video_Region.calls _ _ y251 t254 t255 _ ?side1 ?side2 A1.out).mono ?_); (case side1 => repeat (first | exact (Kd.R_reads' HO253.out).2.2 | (with_reducible refine Kd.C_alloc ?_ _) | (with_reducible refine Kd.C_drewN ?_ _) | (with_reducible refine Kd.C_drew ?_))); (case side2 => exact (Kd.R_reads' HO253.out).2.1); rintro e w59 ⟨v256, rfl, ho0, hb⟩; refine ⟨_, rfl, ?_⟩; have n0_ := Aside0.mk (Kd.R_below (by (with_reducible repeat (first | apply Kd.R_alloc | apply Kd.R_drewN | apply Kd.R_drew)); exact HO253.out) hb); have n1_ := Aside0.mk (Kd.R_lower ho0 (below_size (by repeat (first | (with_reducible first | exact HB.out | apply below_alloc | apply pw_below_drewN | apply below_drew1) | exact HB.out)))); have n2_ := Aside0.mk (below_step (by repeat (first | (with_reducible first | exact HB.out | apply below_alloc | apply pw_below_drewN | apply below_drew1) | exact HB.out)) hb); clear HO253; clear HB; have HO253 := n0_; have HO257 := n1_; have HB := n2_; clear n0_ n1_ n2_; (try clear hb); (try clear hb2); (try clear hk); (try clear hi); (try clear ho0)))
   go_ret
   exact ⟨by first | rfl | (simp [errW_none, errW_some] <;> rfl) | (simp [*, errW_none, errW_some] <;> rfl), by repeat (first | (with_reducible first | exact HB.out | apply below_alloc | apply pw_below_drewN | apply below_drew1) | exact HB.out)⟩
end Go.Proofs.Ythbajahklnpkcaa.PA



namespace Go.Proofs.Ythbajahklnpkcaa.PA
open Go.RowKit Go.Shelf
theorem ex_sort : sortI [0, 2, 1, 3] = [0, 1, 2, 3] := by
 simp [sortI, List.mergeSort, List.MergeSort.Internal.splitInTwo]
theorem ex_x : edgX ([(⟨0, 0, 2, 2⟩ : S43), (⟨1, 1, 2, 2⟩ : S43)] ++ []) = [0, 1, 2, 3] := by
 unfold edgX edgesL
 rw [show endsOf (fun r => r.f0) (fun r => wrap64 (r.f0 + r.f2)) ([(⟨0, 0, 2, 2⟩ : S43), (⟨1, 1, 2, 2⟩ : S43)] ++ []) = [0, 2, 1, 3] from by kernel_rfl, ex_sort]
 kernel_rfl
theorem ex_y : edgY ([(⟨0, 0, 2, 2⟩ : S43), (⟨1, 1, 2, 2⟩ : S43)] ++ []) = [0, 1, 2, 3] := by
 unfold edgY edgesL
 rw [show endsOf (fun r => r.f1) (fun r => wrap64 (r.f1 + r.f3)) ([(⟨0, 0, 2, 2⟩ : S43), (⟨1, 1, 2, 2⟩ : S43)] ++ []) = [0, 2, 1, 3] from by kernel_rfl, ex_sort]
 kernel_rfl
theorem ex_out : outOf orB [(⟨0, 0, 2, 2⟩ : S43), (⟨1, 1, 2, 2⟩ : S43)] [] = [⟨0, 0, 2, 1⟩, ⟨0, 1, 3, 1⟩, ⟨1, 2, 2, 1⟩] := by
 unfold outOf
 rw [ex_x, ex_y]
 kernel_rfl
theorem ex_region : video_Region.f [(⟨0, 0, 2, 2⟩ : S43), (⟨1, 1, 2, 2⟩ : S43)] = some ([⟨0, 0, 2, 1⟩, ⟨0, 1, 3, 1⟩, ⟨1, 2, 2, 1⟩], 0) := by
 unfold video_Region.f regionL regionE
 rw [ex_out]
 kernel_rfl
theorem ex_convert : video_Convert.f 1 0 2 2 (⟨#[97, 98, 99, 100]⟩ : ByteArray) 1 = some (1, 1, 2, 2, ⟨#[97, 98, 0, 0, 99, 100, 0, 0, 0, 0, 0, 0, 0, 0, 0, 0]⟩, 0) := by kernel_rfl
theorem ex_list1 : (ByteArray.extract ⟨#[97, 98, 0, 0, 99, 100, 0, 0, 0, 0, 0, 0, 0, 0, 0, 0]⟩ 0 2).toList = [97, 98] := by
 rw [show ByteArray.extract ⟨#[97, 98, 0, 0, 99, 100, 0, 0, 0, 0, 0, 0, 0, 0, 0, 0]⟩ 0 2 = ⟨#[97, 98]⟩ from by kernel_rfl]
 simp [ByteArray.toList, ByteArray.toList.loop, ByteArray.size, ByteArray.get!]
theorem ex_list2 : (ByteArray.extract ⟨#[97, 98, 0, 0, 99, 100, 0, 0, 0, 0, 0, 0, 0, 0, 0, 0]⟩ 4 6).toList = [99, 100] := by
 rw [show ByteArray.extract ⟨#[97, 98, 0, 0, 99, 100, 0, 0, 0, 0, 0, 0, 0, 0, 0, 0]⟩ 4 6 = ⟨#[99, 100]⟩ from by kernel_rfl]
 simp [ByteArray.toList, ByteArray.toList.loop, ByteArray.size, ByteArray.get!]
theorem awake_f : continuolaw25_awake.f = some true := by
 unfold continuolaw25_awake.f
 rw [ex_region, ex_convert]
 simp only [Option.bind]
 rw [ex_list1, ex_list2]
 kernel_rfl
theorem awake_ok (w : World) : Calls Try.prog 10 #[] w fun e w' => e = .returned (.bool true) ∧ Below w.heap.size w w' := continuolaw25_awake.calls true w awake_f
end Go.Proofs.Ythbajahklnpkcaa.PA

namespace Go.Proofs.Ythbajahklnpkcaa.PA
open Go.RowKit Go.Shelf Go.Proofs.YthbajahklnpkcaaW.PrintWords Go.Proofs.YthbajahklnpkcaaW.PrintLast Go.Proofs.YthbajahklnpkcaaW.PrintMore
set_option linter.unusedVariables false
set_option linter.unusedSimpArgs false
theorem inner_len {w : World} {A : Option Addr} {l : List S34} (h : Kd.C k34 w A l.length l) : ∀ p ∈ l, p.f1.length ≤ 9223372036854775807 := by
 intro p hp
 obtain ⟨i, hi, rfl⟩ := List.getElem_of_mem hp
 obtain ⟨ad, A1, c1, _, _, _, _, hc⟩ := at_T34 h (i : Int) (by omega) (by omega)
 have h1 := Kd.C_max hc
 have e := rd_getElem34 l i hi
 rw [List.getElem?_eq_getElem hi] at e
 rw [Option.some.inj e]
 exact h1
theorem agree_list (a b : List S34) : (agree a b).2.1 = [] ∨ ∃ m, (agree a b).2.1 = [m] := by
 unfold agree
 split
 · exact .inl rfl
 · split
   · exact .inl rfl
   · cases agreeL b a with
     | none => exact .inl rfl
     | some z => exact .inr ⟨z.2, rfl⟩
theorem own_one {w : World} {base : Nat} {ok : Nat → Prop} {v : Value} {m : Int} (h : Kd.R (Kd.int .i64) 3 w base ok v [m]) : ∃ g c, v = .slice (some ⟨g, 0, none⟩) 1 c ∧ w.cell? ⟨g, 0, none⟩ = some (.int .i64 m) := by
 obtain ⟨ad, c, rfl⟩ := Kd.R_slice1 h (by simp)
 obtain ⟨g, rfl⟩ := Kd.R_head h
 obtain ⟨A, c', he, _, hC⟩ := Kd.R_reads h
 injection he with h1 h2 h3
 subst h1
 obtain ⟨ad', e1, hx⟩ := Kd.at_int hC (0 : Int) (by omega) (by simp)
 cases e1
 exact ⟨g, c, rfl, hx⟩
set_option maxRecDepth 100000 in
set_option maxHeartbeats 8000000 in
theorem agrees_walk (A0 A1 : Option Addr) (c0 c1 : Nat) (a b : List S34) (w : World) (hr0 : Kd.C k34 w A0 a.length a) (hr1 : Kd.C k34 w A1 b.length b) (hc0 : a.length ≤ c0) (hc1 : b.length ≤ c1) :
 Calls Try.prog 4 #[.slice A0 a.length c0, .slice A1 b.length c1] w fun e w' => e = .returned (.bool true) ∧ Below w.heap.size w w' := by
 obtain ⟨kf, hkf⟩ := ragree a b (Kd.C_max hr0) (Kd.C_max hr1) (inner_len hr0) (inner_len hr1)
 have H10 := Aside0.mk awake_ok
 have HR0 := Aside0.mk hr0
 have HR1 := Aside0.mk hr1
 have hmax : a.length ≤ 9223372036854775807 := Kd.C_max hr0
 have hmax1 : b.length ≤ 9223372036854775807 := Kd.C_max hr1
 have HP := fun W (h : Below w.heap.size w W) => Aside0.mk (agree_calls A0 A1 c0 c1 a b W (Kd.C_below hr0 h) (Kd.C_below hr1 h))
 have HQ := fun W (h : Below w.heap.size w W) => Aside0.mk (continuoref25_Agree.calls kf A0 c0 a A1 c1 b (agree a b).1 (agree a b).2.1 (agree a b).2.2 W (Kd.C_below hr0 h) hc0 (Kd.C_below hr1 h) hc1 hkf)
 clear hkf hr0 hr1
 by_cases ha30 : (a.length : Int) > 30
 · have q0 : decide ((a.length : Int) > 30) = true := decide_eq_true ha30
   go_enter Try.func4, Try.ntmps4
   go_wp2_with (first | (go_at_call 10; refine (H10.out _).mono ?_; rintro e w1 ⟨rfl, hb1⟩))
   go_ret
   exact ⟨rfl, hb1⟩
 · have q0 : decide ((a.length : Int) > 30) = false := decide_eq_false ha30
   by_cases hb30 : (b.length : Int) > 30
   · have q1 : decide ((b.length : Int) > 30) = true := decide_eq_true hb30
     go_enter Try.func4, Try.ntmps4
     go_wp2_with (first | (go_at_call 10; refine (H10.out _).mono ?_; rintro e w1 ⟨rfl, hb1⟩))
     go_ret
     exact ⟨rfl, hb1⟩
   · have q1 : decide ((b.length : Int) > 30) = false := decide_eq_false hb30
     go_enter Try.func4, Try.ntmps4
     go_wp2_with (first | (go_at_call 10; refine (H10.out _).mono ?_; rintro e w1 ⟨rfl, hb1⟩))
     have HB1 := Aside0.mk hb1
     clear hb1
     go_loopg [5, 6] (a.length + b.length) (fun gg s5 s6 wr => ∃ kk : Nat, kk ≤ a.length + b.length ∧ a.length + b.length - kk ≤ gg ∧ s5 = .int .i64 kk ∧ Aside0 (Below w.heap.size w wr))
     case atStart => exact ⟨0, Nat.zero_le _, by omega, rfl, HB1⟩
     case round =>
      obtain ⟨kk, hkk, hg, rfl, BW⟩ := hrel
      have hsum : wrap64 ((a.length : Int) + (b.length : Int)) = (a.length : Int) + (b.length : Int) := w64 (by omega) (by omega)
      have hsum2 : IntKind.i64.wrap ((a.length : Int) + (b.length : Int)) = (a.length : Int) + (b.length : Int) := by rw [i64_w]; exact hsum
      by_cases hlt : kk < a.length + b.length
      · have hltz : (kk : Int) < (a.length : Int) + (b.length : Int) := by omega
        by_cases hla : kk < a.length
        · have hlaz : (kk : Int) < (a.length : Int) := by omega
          obtain ⟨wa, hwa⟩ : ∃ wa, wr.alloc (.cells #[.int .i64 0, .slice none 0 0] 34) = wa := ⟨_, rfl⟩
          have hba : Below wr.heap.size wr wa := by rw [← hwa]; exact (Below.refl _ _).alloc (Nat.le_refl _) _
          have hN := Blk.new wr #[.int .i64 0, .slice none 0 0] 34
          rw [hwa] at hN
          obtain ⟨pb, hpb⟩ : ∃ pb, wr.heap.size = pb := ⟨_, rfl⟩
          rw [hpb] at hN
          have hpl : w.heap.size ≤ pb := by rw [← hpb]; exact BW.out.size
          have d0 := hN.cell 0 (v := .int .i64 0) rfl
          have d1 := hN.cell 1 (v := .slice none 0 0) rfl
          have f0 := hN.frozen 0
          have f1 := hN.frozen 1
          have hbb := below_two (x' := .int .i64 0) (y' := .slice none 0 0) (BW.out.trans (hba.mono BW.out.size)) hpl
          have hN2 := (hN.set 0 (.int .i64 0)).set 1 (.slice none 0 0)
          have e0 := hN2.cell 0 (v := .int .i64 0) rfl
          have e1 := hN2.cell 1 (v := .slice none 0 0) rfl
          have g0 := hN2.frozen 0
          have g1 := hN2.frozen 1
          obtain ⟨ad, A2, c2, eA, hx0, hx1, hl1, hi1⟩ := at_T34 (Kd.C_below HR0.out hbb) (kk : Int) (by omega) (by omega)
          cases eA
          simp only [Int.toNat_natCast] at hx0 hx1
          generalize rd_T34 a (kk : Int) = y at hx0 hx1 hl1 hi1
          clear hl1 hi1
          obtain ⟨t0, t1, t2⟩ := two_stores (x' := .int .i64 y.f0) (y' := .slice A2 y.f1.length c2) hN2
          have HE := Aside0.mk (below_two (x' := .int .i64 y.f0) (y' := .slice A2 y.f1.length c2) hbb hpl)
          clear hN hN2 hba hbb
          by_cases h30 : (y.f1.length : Int) > 30
          · have h30b : decide ((y.f1.length : Int) > 30) = true := decide_eq_true h30
            go_wp2
            go_ret
            exact ⟨rfl, HE.out⟩
          · have h30b : decide ((y.f1.length : Int) > 30) = false := decide_eq_false h30
            go_wp2
            go_roundg (a.length + b.length - (kk + 1))
            case measure => omega
            case rel => exact ⟨kk + 1, by omega, by omega, by go_num, HE⟩
        · have hlaz : ¬ (kk : Int) < (a.length : Int) := by omega
          obtain ⟨jj, rfl⟩ : ∃ jj, kk = a.length + jj := ⟨kk - a.length, by omega⟩
          have hsub : wrap64 (((a.length + jj : Nat) : Int) - (a.length : Int)) = (jj : Int) := by rw [w64 (by omega) (by omega)]; omega
          have hsub2 : IntKind.i64.wrap (((a.length + jj : Nat) : Int) - (a.length : Int)) = (jj : Int) := by rw [i64_w]; exact hsub
          have hj0 : (0 : Int) ≤ (jj : Int) := by omega
          have hj1 : (jj : Int) < (b.length : Int) := by omega
          obtain ⟨wa, hwa⟩ : ∃ wa, wr.alloc (.cells #[.int .i64 0, .slice none 0 0] 34) = wa := ⟨_, rfl⟩
          have hba : Below wr.heap.size wr wa := by rw [← hwa]; exact (Below.refl _ _).alloc (Nat.le_refl _) _
          have hN := Blk.new wr #[.int .i64 0, .slice none 0 0] 34
          rw [hwa] at hN
          obtain ⟨pb, hpb⟩ : ∃ pb, wr.heap.size = pb := ⟨_, rfl⟩
          rw [hpb] at hN
          have hpl : w.heap.size ≤ pb := by rw [← hpb]; exact BW.out.size
          have d0 := hN.cell 0 (v := .int .i64 0) rfl
          have d1 := hN.cell 1 (v := .slice none 0 0) rfl
          have f0 := hN.frozen 0
          have f1 := hN.frozen 1
          have hbb := below_two (x' := .int .i64 0) (y' := .slice none 0 0) (BW.out.trans (hba.mono BW.out.size)) hpl
          have hN2 := (hN.set 0 (.int .i64 0)).set 1 (.slice none 0 0)
          have e0 := hN2.cell 0 (v := .int .i64 0) rfl
          have e1 := hN2.cell 1 (v := .slice none 0 0) rfl
          have g0 := hN2.frozen 0
          have g1 := hN2.frozen 1
          obtain ⟨ad, A2, c2, eA, hx0, hx1, hl1, hi1⟩ := at_T34 (Kd.C_below HR1.out hbb) (jj : Int) (by omega) (by omega)
          cases eA
          simp only [Int.toNat_natCast] at hx0 hx1
          generalize rd_T34 b (jj : Int) = y at hx0 hx1 hl1 hi1
          clear hl1 hi1
          obtain ⟨t0, t1, t2⟩ := two_stores (x' := .int .i64 y.f0) (y' := .slice A2 y.f1.length c2) hN2
          have HE := Aside0.mk (below_two (x' := .int .i64 y.f0) (y' := .slice A2 y.f1.length c2) hbb hpl)
          clear hN hN2 hba hbb
          by_cases h30 : (y.f1.length : Int) > 30
          · have h30b : decide ((y.f1.length : Int) > 30) = true := decide_eq_true h30
            go_wp2
            go_ret
            exact ⟨rfl, HE.out⟩
          · have h30b : decide ((y.f1.length : Int) > 30) = false := decide_eq_false h30
            go_wp2
            go_roundg (a.length + b.length - (a.length + jj + 1))
            case measure => omega
            case rel => exact ⟨a.length + jj + 1, by omega, by omega, by go_num, HE⟩
      · have hltz : ¬ (kk : Int) < (a.length : Int) + (b.length : Int) := by omega
        have HP1 := HP wr BW.out
        clear HP
        rcases agree_list a b with hl | ⟨m, hl⟩
        · have H1 : Aside0 (Calls Try.prog 18 #[.slice A0 a.length c0, .slice A1 b.length c1] wr fun e w' => e = .returned (.tuple #[.agg #[.int .i64 (agree a b).1, .slice none 0 0], .int .i64 (agree a b).2.2]) ∧ Below wr.heap.size wr w') :=
           ⟨HP1.out.mono (by
            rintro e w' ⟨v, rfl, ho, hb⟩
            rw [hl] at ho
            rcases ho with ⟨_, rfl⟩ | ⟨m, bk, h, _⟩
            · exact ⟨rfl, hb⟩
            · cases h)⟩
          have H2 : ∀ W, Below w.heap.size w W → Aside0 (Calls Try.prog 19 #[.slice A0 a.length c0, .slice A1 b.length c1] W fun e w' => ∃ A c, e = .returned (.tuple #[.agg #[.int .i64 (agree a b).1, .slice A 0 c], .int .i64 (agree a b).2.2]) ∧ Below W.heap.size W w') := fun W hW =>
           ⟨(HQ W hW).out.mono (by
            rintro e w' ⟨v, rfl, ho, hb⟩
            rw [hl] at ho
            obtain ⟨A, c, rfl⟩ := Kd.R_slice ho
            exact ⟨A, c, rfl, hb⟩)⟩
          clear HP1 HQ hl
          generalize (agree a b).1 = fo at H1 H2
          generalize (agree a b).2.2 = er at H1 H2
          go_wp2_with (first | (go_at_call 18; refine H1.out.mono ?_; rintro e w2 ⟨rfl, hb2⟩; have hb2' := BW.out.trans (hb2.mono BW.out.size); have hn2 := Blk.new w2 #[.int .i64 fo, .slice none 0 0] 34; have hb3 := hb2'.alloc hb2'.size (.cells #[.int .i64 fo, .slice none 0 0] 34)) | (go_at_call 19; refine (H2 _ hb3).out.mono ?_; rintro e w4 ⟨A4, c4, rfl, hb4⟩; have hx7 := (hn2.below_ hb4).alloc (.cells #[.int .i64 fo, .slice A4 0 c4] 34); have hx9 := Blk.new w4 #[.int .i64 fo, .slice A4 0 c4] 34; have a0 := hx7.cell 0 (v := .int .i64 fo) rfl; have a1 := hx7.cell 1 (v := .slice none 0 0) rfl; have b0 := hx9.cell 0 (v := .int .i64 fo) rfl; have b1 := hx9.cell 1 (v := .slice A4 0 c4) rfl; have hb5 := (hb3.trans (hb4.mono hb3.size)).alloc (hb3.trans (hb4.mono hb3.size)).size (.cells #[.int .i64 fo, .slice A4 0 c4] 34)))
          clear hb2 hb2' hn2 hb3 hb4 hx7 hx9 H1 H2
          have HB5 := Aside0.mk hb5
          clear hb5
          go_wp2
          go_quiet (fail)
          go_wp2
          go_ret
          exact ⟨by first | rfl | simp, pw_below_drewN HB5.out _⟩
        · have H1 : Aside0 (Calls Try.prog 18 #[.slice A0 a.length c0, .slice A1 b.length c1] wr fun e w' => ∃ g, e = .returned (.tuple #[.agg #[.int .i64 (agree a b).1, .slice (some ⟨g, 0, none⟩) 1 1], .int .i64 (agree a b).2.2]) ∧ w'.cell? ⟨g, 0, none⟩ = some (.int .i64 m) ∧ Below wr.heap.size wr w') :=
           ⟨HP1.out.mono (by
            rintro e w' ⟨v, rfl, ho, hb⟩
            rw [hl] at ho
            rcases ho with ⟨h, _⟩ | ⟨m', bk, h, rfl, hx⟩
            · cases h
            · cases h
              exact ⟨bk, rfl, hx, hb⟩)⟩
          have H2 : ∀ W, Below w.heap.size w W → Aside0 (Calls Try.prog 19 #[.slice A0 a.length c0, .slice A1 b.length c1] W fun e w' => ∃ g c, e = .returned (.tuple #[.agg #[.int .i64 (agree a b).1, .slice (some ⟨g, 0, none⟩) 1 c], .int .i64 (agree a b).2.2]) ∧ w'.cell? ⟨g, 0, none⟩ = some (.int .i64 m) ∧ Below W.heap.size W w') := fun W hW =>
           ⟨(HQ W hW).out.mono (by
            rintro e w' ⟨v, rfl, ho, hb⟩
            rw [hl] at ho
            obtain ⟨g, c, rfl, hx⟩ := own_one ho
            exact ⟨g, c, rfl, hx, hb⟩)⟩
          clear HP1 HQ hl
          generalize (agree a b).1 = fo at H1 H2
          generalize (agree a b).2.2 = er at H1 H2
          go_wp2_with (first | (go_at_call 18; refine H1.out.mono ?_; rintro e w2 ⟨g2, rfl, hm2, hb2⟩; have hb2' := BW.out.trans (hb2.mono BW.out.size); have hn2 := Blk.new w2 #[.int .i64 fo, .slice (some ⟨g2, 0, none⟩) 1 1] 34; have hb3 := hb2'.alloc hb2'.size (.cells #[.int .i64 fo, .slice (some ⟨g2, 0, none⟩) 1 1] 34)) | (go_at_call 19; refine (H2 _ hb3).out.mono ?_; rintro e w4 ⟨g4, c4, rfl, hm4, hb4⟩; have hx7 := (hn2.below_ hb4).alloc (.cells #[.int .i64 fo, .slice (some ⟨g4, 0, none⟩) 1 c4] 34); have hx9 := Blk.new w4 #[.int .i64 fo, .slice (some ⟨g4, 0, none⟩) 1 c4] 34; have a0 := hx7.cell 0 (v := .int .i64 fo) rfl; have a1 := hx7.cell 1 (v := .slice (some ⟨g2, 0, none⟩) 1 1) rfl; have b0 := hx9.cell 0 (v := .int .i64 fo) rfl; have b1 := hx9.cell 1 (v := .slice (some ⟨g4, 0, none⟩) 1 c4) rfl; have hb5 := (hb3.trans (hb4.mono hb3.size)).alloc (hb3.trans (hb4.mono hb3.size)).size (.cells #[.int .i64 fo, .slice (some ⟨g4, 0, none⟩) 1 c4] 34); have lg4 := World.block_lt_of_cell? _ _ hm4; have lg2 := World.block_lt_of_cell? _ _ hm2; have mm4 := (World.cell?_alloc_lt _ (.cells #[.int .i64 fo, .slice (some ⟨g4, 0, none⟩) 1 c4] 34) _ lg4).trans hm4; have mq := (hb4.cell (p := ⟨g2, 0, none⟩) (by rw [World.size_alloc]; exact Nat.lt_succ_of_lt lg2)).trans ((World.cell?_alloc_lt _ (.cells #[.int .i64 fo, .slice (some ⟨g2, 0, none⟩) 1 1] 34) _ lg2).trans hm2); have mm2 := (World.cell?_alloc_lt _ (.cells #[.int .i64 fo, .slice (some ⟨g4, 0, none⟩) 1 c4] 34) _ (World.block_lt_of_cell? _ _ mq)).trans mq))
          clear hm2 hm4 mq lg2 lg4 hb2 hb2' hn2 hb3 hb4 hx7 hx9 H1 H2
          have HB5 := Aside0.mk hb5
          clear hb5
          go_wp2
          go_quiet (fail)
          go_wp2
          go_ret
          exact ⟨by first | rfl | simp, pw_below_drewN HB5.out _⟩
end Go.Proofs.Ythbajahklnpkcaa.PA

namespace Go.Proofs.Ythbajahklnpkcaa.videoAgrees
open Go.ChangeShapes Go.WideShapes Go.ChangeAt Go.RowKit Go.Joins
set_option linter.unusedVariables false
theorem own : ownKnob Try.prog.godebug = none := by kernel_rfl
theorem laidOut : laidOutB Try.prog = true := by kernel_rfl
set_option maxRecDepth 100000 in
theorem lifted (os : Os) (started : os.Started) (H : Type) (enc : TypeId × Value → H) :
 ReturnsInHanded {} Try.checked os 4 .any (Rows.videoAgreesSpec.pre6 enc Try.prog Try.f4 Rows.videoAgreesRow.domain false) (Rows.videoAgreesSpec.post enc Try.prog Try.f4 false true false false) := by
 refine returnsInHanded_of_change_sized (C := Try.checked) own started (by kernel_rfl) Try.func4
  (ChangeSpec.witness6 (enc := enc) (C := Try.checked) false ⟨#[], #[.slice none 0 0, .slice none 0 0], []⟩ 8 (by kernel_rfl) (by kernel_rfl) (by kernel_rfl) (by kernel_rfl)) ?_
 intro W base args ds gs before hval0 hW hcnd hsz0 _
 have hval : ∀ (j : Nat) t v, Try.f4.params[j]? = some t → args[j]? = some v → Value.okWide Try.prog W .any base t v := hval0
 have hW' := hW
 obtain ⟨p, q, hA0, hV, rfl, hfz, hnd⟩ := hW
 have hA : DataW.TrodAll enc Try.prog W 0 (fun _ => true) true Try.f4.params.toList args.toList ds p := hA0
 rw [Try.params4] at hA hval
 obtain ⟨v0, vs0, d0, ds0, p0, q0, hargs, rfl, rfl, h0, r0⟩ := trodAll_cons hA
 obtain ⟨v1, vs1, d1, ds1, p1, q1, rfl, rfl, rfl, h1, r1⟩ := trodAll_cons r0
 obtain ⟨rfl, rfl, rfl⟩ := trodAll_nil r1
 obtain rfl : args = #[v0, v1] := by cases args; simp_all
 obtain ⟨rfl, rfl⟩ := trodVars_none hV
 obtain ⟨a0, len0, cap0, rfl⟩ := okWide_slice Try.underlying31 (hval 0 31 v0 rfl rfl)
 have k0 := h0
 have lt0 : ∀ x ∈ p0, x.block < W.heap.size := by obtain ⟨m, hm⟩ := k0; exact DataW.trod_lt m _ _ _ hm
 obtain ⟨zs0, hl0, hc0, kd0⟩ : ∃ zs : List PA.S34, zs.length = len0 ∧ len0 ≤ cap0 ∧ Go.Proofs.YthbajahklnpkcaaW.PrintWords.Kd.C PA.k34 W a0 zs.length zs := by
  obtain ⟨fuel, hf⟩ := h0
  exact open_pix Try.underlying31 Try.underlying34 (by kernel_rfl) (by kernel_rfl) Try.underlying3 Try.underlying32 Try.underlying3 (by kernel_rfl) (by simpa [Value.cells] using hf)
 subst hl0
 obtain ⟨a1, len1, cap1, rfl⟩ := okWide_slice Try.underlying31 (hval 1 31 v1 rfl rfl)
 have k1 := h1
 have lt1 : ∀ x ∈ p1, x.block < W.heap.size := by obtain ⟨m, hm⟩ := k1; exact DataW.trod_lt m _ _ _ hm
 obtain ⟨zs1, hl1, hc1, kd1⟩ : ∃ zs : List PA.S34, zs.length = len1 ∧ len1 ≤ cap1 ∧ Go.Proofs.YthbajahklnpkcaaW.PrintWords.Kd.C PA.k34 W a1 zs.length zs := by
  obtain ⟨fuel, hf⟩ := h1
  exact open_pix Try.underlying31 Try.underlying34 (by kernel_rfl) (by kernel_rfl) Try.underlying3 Try.underlying32 Try.underlying3 (by kernel_rfl) (by simpa [Value.cells] using hf)
 subst hl1
 clear hA0 hval0 hsz0
 have HC := PA.agrees_walk a0 a1 cap0 cap1 zs0 zs1 W kd0 kd1 hc0 hc1
 refine HC.mono fun e W' ⟨he, bel⟩ => ?_
 subst he
 exact ⟨_, rfl, _, _, _, [], _, [], hW', trodAll_mk1 (shut_bool Try.underlying4 _), (trodAll_cons_mk (Below.trod laidOut (by kernel_rfl) (of_decide_eq_true (by kernel_rfl)) k0 bel lt0) (trodAll_cons_mk (Below.trod laidOut (by kernel_rfl) (of_decide_eq_true (by kernel_rfl)) k1 bel lt1) trodAll_mk0)), rfl, bel.frame _, fun h => by cases h⟩
theorem over : Rows.videoAgreesRow.holds Try.pinned (OpenSpec.ofChange Rows.videoAgreesSpec) :=
 OpenClaim.holds_of_wide 4 Try.f4 rfl rfl rfl rfl rfl rfl rfl ⟨rfl, rfl, rfl, rfl, rfl⟩ rfl rfl rfl rfl rfl (by kernel_rfl) Try.func4 (by kernel_rfl)
  (of_decide_eq_true (by kernel_rfl)) (by unfold Func.isWrapper; first | (rw [if_pos (by decide +kernel)]; kernel_rfl) | (rw [if_neg (by decide +kernel)]; exact ⟨rfl, rfl⟩))
  (fun os started H enc _ => lifted os started H enc)
theorem proved : Rows.VideoAgreesSaid := over
#print axioms proved
end Go.Proofs.Ythbajahklnpkcaa.videoAgrees
namespace Go.Proofs.Ythbajahklnpkcaa
theorem videoAgrees_holds : Rows.VideoAgreesSaid := videoAgrees.proved
end Go.Proofs.Ythbajahklnpkcaa
