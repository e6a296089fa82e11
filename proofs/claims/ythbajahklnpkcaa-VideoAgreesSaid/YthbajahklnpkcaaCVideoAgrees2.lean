/- VideoAgrees, part 2: what the row is built on. -/
import Derived.Test.YthbajahklnpkcaaCVideoAgrees1
import Derived.Shelf.SortM.SortNone
import Derived.Sort.OwnSortedInts
import Derived.Lib.RowBridge
import Derived.Shelf.Spec.SlicesGrow
namespace Go.Proofs.Ythbajahklnpkcaa.PA
open Go.RowKit Go.Proofs.YthbajahklnpkcaaW.PrintWords Go.Proofs.YthbajahklnpkcaaW.PrintLast Go.Proofs.YthbajahklnpkcaaW.PrintMore
attribute [local go_sem] max2_int min2_int max_two min_two max_three min_three max_four min_four
set_option linter.unusedVariables false
set_option linter.unusedSimpArgs false
mutual
def continuoref25_Agree.j0 : Nat → List (S34) → List (S34) → Bool → Option (Int × List Int × Int)
 | 0, _, _, _ => none
 | k + 1, x0, x1, x17 => if x17 = true then (some (0, ([] : List Int), 7)) else ((continuoref25_Many.f k x0).bind fun t358 => (if t358 = true then (continuoref25_Agree.j1 k x0 x1 true) else ((continuoref25_Many.f k x1).bind fun t359 => (continuoref25_Agree.j1 k x0 x1 t359))))
def continuoref25_Agree.j1 : Nat → List (S34) → List (S34) → Bool → Option (Int × List Int × Int)
 | 0, _, _, _ => none
 | k + 1, x0, x1, x24 => if x24 = true then (some (0, ([] : List Int), 4)) else (continuoref25_Agree.l0 k x0 x1 0)
def continuoref25_Agree.l0 : Nat → List (S34) → List (S34) → Int → Option (Int × List Int × Int)
 | 0, _, _, _ => none
 | k + 1, x0, x1, x6 => if x6 < (x0.length : Int) then (continuoref25_Agree.l1 k x0 x1 x6 0) else (some (0, ([] : List Int), 13))
def continuoref25_Agree.l1 : Nat → List (S34) → List (S34) → Int → Int → Option (Int × List Int × Int)
 | 0, _, _, _, _ => none
 | k + 1, x0, x1, x6, x7 => if 0 ≤ x6 then (if x6 < (x0.length : Int) then (if x7 < (((rd_T34 x0 x6).f1).length : Int) then (continuoref25_Agree.l2 k x0 x1 x6 x7 0) else (continuoref25_Agree.l0 k x0 x1 (wrap64 (x6 + 1)))) else (none)) else (none)
def continuoref25_Agree.l2 : Nat → List (S34) → List (S34) → Int → Int → Int → Option (Int × List Int × Int)
 | 0, _, _, _, _, _ => none
 | k + 1, x0, x1, x6, x7, x8 => if x8 < (x1.length : Int) then (continuoref25_Agree.l3 k x0 x1 x6 x7 x8 0) else (continuoref25_Agree.l1 k x0 x1 x6 (wrap64 (x7 + 1)))
def continuoref25_Agree.l3 : Nat → List (S34) → List (S34) → Int → Int → Int → Int → Option (Int × List Int × Int)
 | 0, _, _, _, _, _, _ => none
 | k + 1, x0, x1, x6, x7, x8, x9 => if 0 ≤ x8 then (if x8 < (x1.length : Int) then (if x9 < (((rd_T34 x1 x8).f1).length : Int) then (if 0 ≤ x6 then (if x6 < (x0.length : Int) then (if ((rd_T34 x1 x8).f0) = ((rd_T34 x0 x6).f0) then (if 0 ≤ x9 then (if 0 ≤ x7 then (if x7 < (((rd_T34 x0 x6).f1).length : Int) then (if (rd ((rd_T34 x1 x8).f1) x9) = (rd ((rd_T34 x0 x6).f1) x7) then (some ((rd_T34 x0 x6).f0, (([rd ((rd_T34 x0 x6).f1) x7] : List Int)), 0)) else (continuoref25_Agree.l3 k x0 x1 x6 x7 x8 (wrap64 (x9 + 1)))) else (none)) else (none)) else (none)) else (continuoref25_Agree.l3 k x0 x1 x6 x7 x8 (wrap64 (x9 + 1)))) else (none)) else (none)) else (continuoref25_Agree.l2 k x0 x1 x6 x7 (wrap64 (x8 + 1)))) else (none)) else (none)
end
def continuoref25_Agree.f (k : Nat) (l0 : List (S34)) (l1 : List (S34)) : Option (Int × List Int × Int) := (continuoref25_pixels.f k l0).bind fun t356 => (if t356 = 0 then ((continuoref25_pixels.f k l1).bind fun t357 => (continuoref25_Agree.j0 k l0 l1 (t357 != 0))) else (continuoref25_Agree.j0 k l0 l1 true))
theorem continuoref25_Agree.mono_l : ∀ k, (∀ y0 y1 y2, LeO (continuoref25_Agree.j0 k y0 y1 y2) (continuoref25_Agree.j0 (k + 1) y0 y1 y2)) ∧ (∀ y0 y1 y2, LeO (continuoref25_Agree.j1 k y0 y1 y2) (continuoref25_Agree.j1 (k + 1) y0 y1 y2)) ∧ (∀ y0 y1 y2, LeO (continuoref25_Agree.l0 k y0 y1 y2) (continuoref25_Agree.l0 (k + 1) y0 y1 y2)) ∧ (∀ y0 y1 y2 y3, LeO (continuoref25_Agree.l1 k y0 y1 y2 y3) (continuoref25_Agree.l1 (k + 1) y0 y1 y2 y3)) ∧ (∀ y0 y1 y2 y3 y4, LeO (continuoref25_Agree.l2 k y0 y1 y2 y3 y4) (continuoref25_Agree.l2 (k + 1) y0 y1 y2 y3 y4)) ∧ (∀ y0 y1 y2 y3 y4 y5, LeO (continuoref25_Agree.l3 k y0 y1 y2 y3 y4 y5) (continuoref25_Agree.l3 (k + 1) y0 y1 y2 y3 y4 y5))
 | 0 => ⟨fun _ _ _ r h => by simp [continuoref25_Agree.j0] at h, fun _ _ _ r h => by simp [continuoref25_Agree.j1] at h, fun _ _ _ r h => by simp [continuoref25_Agree.l0] at h, fun _ _ _ _ r h => by simp [continuoref25_Agree.l1] at h, fun _ _ _ _ _ r h => by simp [continuoref25_Agree.l2] at h, fun _ _ _ _ _ _ r h => by simp [continuoref25_Agree.l3] at h⟩
 | k + 1 => by
  obtain ⟨ih0, ih1, ih2, ih3, ih4, ih5⟩ := continuoref25_Agree.mono_l k
  refine ⟨?_, ?_, ?_, ?_, ?_, ?_⟩
  · intro y0 y1 y2
    unfold continuoref25_Agree.j0
    repeat' first
    | (with_reducible exact ih0 _ _ _)
    | (with_reducible exact ih1 _ _ _)
    | (with_reducible exact ih2 _ _ _)
    | (with_reducible exact ih3 _ _ _ _)
    | (with_reducible exact ih4 _ _ _ _ _)
    | (with_reducible exact ih5 _ _ _ _ _ _)
    | (with_reducible exact continuoref25_Many.mono _ _)
    | (with_reducible exact continuoref25_pixels.mono _ _)
    | (with_reducible exact LeO.refl _)
    | (with_reducible exact LeO.none _)
    | (with_reducible refine LeO.ite ?_ ?_)
    | (with_reducible refine LeO.bind ?_ (fun _ => ?_))
    | exact ih0 _ _ _
    | exact ih1 _ _ _
    | exact ih2 _ _ _
    | exact ih3 _ _ _ _
    | exact ih4 _ _ _ _ _
    | exact ih5 _ _ _ _ _ _
    | exact continuoref25_Many.mono _ _
    | exact continuoref25_pixels.mono _ _
    | exact LeO.none _
    | refine LeO.ite ?_ ?_
    | refine LeO.bind ?_ (fun _ => ?_)
  · intro y0 y1 y2
    unfold continuoref25_Agree.j1
    repeat' first
    | (with_reducible exact ih0 _ _ _)
    | (with_reducible exact ih1 _ _ _)
    | (with_reducible exact ih2 _ _ _)
    | (with_reducible exact ih3 _ _ _ _)
    | (with_reducible exact ih4 _ _ _ _ _)
    | (with_reducible exact ih5 _ _ _ _ _ _)
    | (with_reducible exact continuoref25_Many.mono _ _)
    | (with_reducible exact continuoref25_pixels.mono _ _)
    | (with_reducible exact LeO.refl _)
    | (with_reducible exact LeO.none _)
    | (with_reducible refine LeO.ite ?_ ?_)
    | (with_reducible refine LeO.bind ?_ (fun _ => ?_))
    | exact ih0 _ _ _
    | exact ih1 _ _ _
    | exact ih2 _ _ _
    | exact ih3 _ _ _ _
    | exact ih4 _ _ _ _ _
    | exact ih5 _ _ _ _ _ _
    | exact continuoref25_Many.mono _ _
    | exact continuoref25_pixels.mono _ _
    | exact LeO.none _
    | refine LeO.ite ?_ ?_
    | refine LeO.bind ?_ (fun _ => ?_)
  · intro y0 y1 y2
    unfold continuoref25_Agree.l0
    repeat' first
    | (with_reducible exact ih0 _ _ _)
    | (with_reducible exact ih1 _ _ _)
    | (with_reducible exact ih2 _ _ _)
    | (with_reducible exact ih3 _ _ _ _)
    | (with_reducible exact ih4 _ _ _ _ _)
    | (with_reducible exact ih5 _ _ _ _ _ _)
    | (with_reducible exact continuoref25_Many.mono _ _)
    | (with_reducible exact continuoref25_pixels.mono _ _)
    | (with_reducible exact LeO.refl _)
    | (with_reducible exact LeO.none _)
    | (with_reducible refine LeO.ite ?_ ?_)
    | (with_reducible refine LeO.bind ?_ (fun _ => ?_))
    | exact ih0 _ _ _
    | exact ih1 _ _ _
    | exact ih2 _ _ _
    | exact ih3 _ _ _ _
    | exact ih4 _ _ _ _ _
    | exact ih5 _ _ _ _ _ _
    | exact continuoref25_Many.mono _ _
    | exact continuoref25_pixels.mono _ _
    | exact LeO.none _
    | refine LeO.ite ?_ ?_
    | refine LeO.bind ?_ (fun _ => ?_)
  · intro y0 y1 y2 y3
    unfold continuoref25_Agree.l1
    repeat' first
    | (with_reducible exact ih0 _ _ _)
    | (with_reducible exact ih1 _ _ _)
    | (with_reducible exact ih2 _ _ _)
    | (with_reducible exact ih3 _ _ _ _)
    | (with_reducible exact ih4 _ _ _ _ _)
    | (with_reducible exact ih5 _ _ _ _ _ _)
    | (with_reducible exact continuoref25_Many.mono _ _)
    | (with_reducible exact continuoref25_pixels.mono _ _)
    | (with_reducible exact LeO.refl _)
    | (with_reducible exact LeO.none _)
    | (with_reducible refine LeO.ite ?_ ?_)
    | (with_reducible refine LeO.bind ?_ (fun _ => ?_))
    | exact ih0 _ _ _
    | exact ih1 _ _ _
    | exact ih2 _ _ _
    | exact ih3 _ _ _ _
    | exact ih4 _ _ _ _ _
    | exact ih5 _ _ _ _ _ _
    | exact continuoref25_Many.mono _ _
    | exact continuoref25_pixels.mono _ _
    | exact LeO.none _
    | refine LeO.ite ?_ ?_
    | refine LeO.bind ?_ (fun _ => ?_)
  · intro y0 y1 y2 y3 y4
    unfold continuoref25_Agree.l2
    repeat' first
    | (with_reducible exact ih0 _ _ _)
    | (with_reducible exact ih1 _ _ _)
    | (with_reducible exact ih2 _ _ _)
    | (with_reducible exact ih3 _ _ _ _)
    | (with_reducible exact ih4 _ _ _ _ _)
    | (with_reducible exact ih5 _ _ _ _ _ _)
    | (with_reducible exact continuoref25_Many.mono _ _)
    | (with_reducible exact continuoref25_pixels.mono _ _)
    | (with_reducible exact LeO.refl _)
    | (with_reducible exact LeO.none _)
    | (with_reducible refine LeO.ite ?_ ?_)
    | (with_reducible refine LeO.bind ?_ (fun _ => ?_))
    | exact ih0 _ _ _
    | exact ih1 _ _ _
    | exact ih2 _ _ _
    | exact ih3 _ _ _ _
    | exact ih4 _ _ _ _ _
    | exact ih5 _ _ _ _ _ _
    | exact continuoref25_Many.mono _ _
    | exact continuoref25_pixels.mono _ _
    | exact LeO.none _
    | refine LeO.ite ?_ ?_
    | refine LeO.bind ?_ (fun _ => ?_)
  · intro y0 y1 y2 y3 y4 y5
    unfold continuoref25_Agree.l3
    repeat' first
    | (with_reducible exact ih0 _ _ _)
    | (with_reducible exact ih1 _ _ _)
    | (with_reducible exact ih2 _ _ _)
    | (with_reducible exact ih3 _ _ _ _)
    | (with_reducible exact ih4 _ _ _ _ _)
    | (with_reducible exact ih5 _ _ _ _ _ _)
    | (with_reducible exact continuoref25_Many.mono _ _)
    | (with_reducible exact continuoref25_pixels.mono _ _)
    | (with_reducible exact LeO.refl _)
    | (with_reducible exact LeO.none _)
    | (with_reducible refine LeO.ite ?_ ?_)
    | (with_reducible refine LeO.bind ?_ (fun _ => ?_))
    | exact ih0 _ _ _
    | exact ih1 _ _ _
    | exact ih2 _ _ _
    | exact ih3 _ _ _ _
    | exact ih4 _ _ _ _ _
    | exact ih5 _ _ _ _ _ _
    | exact continuoref25_Many.mono _ _
    | exact continuoref25_pixels.mono _ _
    | exact LeO.none _
    | refine LeO.ite ?_ ?_
    | refine LeO.bind ?_ (fun _ => ?_)
theorem continuoref25_Agree.mono : ∀ a0 a1 k, LeO (continuoref25_Agree.f k a0 a1) (continuoref25_Agree.f (k + 1) a0 a1) := by
 intro a0 a1 k
 obtain ⟨ih0, ih1, ih2, ih3, ih4, ih5⟩ := continuoref25_Agree.mono_l k
 unfold continuoref25_Agree.f
 repeat' first
  | (with_reducible exact ih0 _ _ _)
  | (with_reducible exact ih1 _ _ _)
  | (with_reducible exact ih2 _ _ _)
  | (with_reducible exact ih3 _ _ _ _)
  | (with_reducible exact ih4 _ _ _ _ _)
  | (with_reducible exact ih5 _ _ _ _ _ _)
  | (with_reducible exact continuoref25_Many.mono _ _)
  | (with_reducible exact continuoref25_pixels.mono _ _)
  | (with_reducible exact LeO.refl _)
  | (with_reducible exact LeO.none _)
  | (with_reducible refine LeO.ite ?_ ?_)
  | (with_reducible refine LeO.bind ?_ (fun _ => ?_))
  | exact ih0 _ _ _
  | exact ih1 _ _ _
  | exact ih2 _ _ _
  | exact ih3 _ _ _ _
  | exact ih4 _ _ _ _ _
  | exact ih5 _ _ _ _ _ _
  | exact continuoref25_Many.mono _ _
  | exact continuoref25_pixels.mono _ _
  | exact LeO.none _
  | refine LeO.ite ?_ ?_
  | refine LeO.bind ?_ (fun _ => ?_)
def continuoref25_Agree.T17 : Bool × List (List Nat × List Nat) := (true, [([], []), ([], []), ([0, 1], [0, 1]), ([2], [2]), ([3], [3]), ([], []), ([], []), ([5, 6], [5, 6]), ([7], [7]), ([8], [8]), ([4, 9], [4, 9]), ([10], [10]), ([11], [11]), ([11], [11]), ([12, 13, 11], [11, 12, 13]), ([14, 11], [11, 14]), ([15, 11], [11, 15]), ([11], [11]), ([16, 17, 11], [11, 16, 17]), ([18, 11], [11, 18]), ([11], [11]), ([11], [11]), ([20, 21, 11], [11, 20, 21]), ([22, 11], [11, 22]), ([23, 11], [11, 23]), ([11], [11]), ([24, 25, 11], [11, 24, 25]), ([26, 11], [11, 26]), ([19, 27, 11], [11, 19, 27]), ([11, 28], [11, 28])])
def continuoref25_Agree.B17 : List Nat := [0, 0, 3, 7, 15, 0, 0, 96, 224, 480, 1023, 2047, 4095, 4095, 16383, 32767, 65535, 4095, 262143, 524287, 4095, 4095, 3149823, 7344127, 15732735, 4095, 66064383, 133173247, 268435455, 536870911]
theorem continuoref25_Agree.tab17 : rtab .any (opsOf Try.f19 17) = continuoref25_Agree.T17 := by kernel_rfl
theorem continuoref25_Agree.bits17 : waitsOk continuoref25_Agree.T17.2 continuoref25_Agree.B17 = true := by kernel_rfl
def continuoref25_Agree.T18 : Bool × List (List Nat × List Nat) := (true, [([], []), ([], []), ([0, 1], [0, 1]), ([2], [2]), ([3], [3]), ([], []), ([], []), ([5, 6], [5, 6]), ([7], [7]), ([8], [8]), ([], []), ([9, 10], [9, 10]), ([11], [11]), ([12], [12]), ([4, 13], [4, 13]), ([14, 0, 1, 2, 3, 4, 5, 6, 7, 8, 9, 10, 11, 12, 13, 14], [14]), ([15, 0, 1, 2, 3, 4, 5, 6, 7, 8, 9, 10, 11, 12, 13, 14, 15], [])])
def continuoref25_Agree.B18 : List Nat := [0, 0, 3, 7, 15, 0, 0, 96, 224, 480, 0, 2016, 4064, 8160, 16383, 32767, 65535]
theorem continuoref25_Agree.tab18 : rtab .any (opsOf Try.f19 18) = continuoref25_Agree.T18 := by kernel_rfl
theorem continuoref25_Agree.bits18 : waitsOk continuoref25_Agree.T18.2 continuoref25_Agree.B18 = true := by kernel_rfl
set_option maxHeartbeats 8000000 in
set_option maxRecDepth 100000 in
theorem continuoref25_Agree.calls (k : Nat) (A0 : Option Addr) (c0 : Nat) (l0 : List (S34)) (A1 : Option Addr) (c1 : Nat) (l1 : List (S34)) (r1 : Int) (r2 : List Int) (r3 : Int) (w : World) (hr0 : Kd.C k34 w A0 l0.length l0) (hc0 : l0.length ≤ c0) (hr1 : Kd.C k34 w A1 l1.length l1) (hc1 : l1.length ≤ c1) (h : continuoref25_Agree.f k l0 l1 = some (r1, r2, r3)) :
 Calls Try.prog 19 #[.slice A0 l0.length c0, .slice A1 l1.length c1] w fun e w' => ∃ v1_ : Value, e = .returned (.tuple #[.agg #[.int .i64 r1, v1_], .int .i64 r3]) ∧ Kd.R (Kd.int .i64) 3 w' w.heap.size (fun _ => True) v1_ r2 ∧ Below w.heap.size w w' := by
 have hu34 := Try.underlying34
 have HR0 := Aside0.mk hr0
 have HC0 := Aside0.mk hc0
 clear hr0 hc0
 have HR1 := Aside0.mk hr1
 have HC1 := Aside0.mk hc1
 clear hr1 hc1
 have HB := Aside0.mk (Below.refl w.heap.size w)
 have H : ((continuoref25_pixels.f k l0).bind fun t356 => (if t356 = 0 then ((continuoref25_pixels.f k l1).bind fun t357 => (continuoref25_Agree.j0 k l0 l1 (t357 != 0))) else (continuoref25_Agree.j0 k l0 l1 true))) = some (r1, r2, r3) := h
 clear h
 have HC3 := Aside0.mk H
 clear H
 go_enter Try.func19, Try.ntmps19
 go_upto_region 1 with (first | ((with_reducible refine gate_dst (N := 4) rfl ?_); refine box_event ?hg (N := 4) ?hd (cs := #[.int .i64 0, .slice none 0 0]) (t := 34) ?hr ?_; (case hd => rfl); (case hg => rfl); (case hr => first | (go_simp; done) | (go_simp; rfl)); intro gb355 hg w4 hbox hb; have n0_ := Aside0.mk (below_step (by repeat (first | (with_reducible first | exact HB.out | apply below_alloc | apply pw_below_drewN | apply below_drew1) | exact HB.out)) hb); have n1_ := Aside0.mk (hbox); have n2_ := Aside0.mk ((by rw [hg]; exact (below_size (by repeat (first | (with_reducible first | exact HB.out | apply below_alloc | apply pw_below_drewN | apply below_drew1) | exact HB.out))) : w.heap.size ≤ gb355)); have n3_ := Aside0.mk ((by rw [hg]; exact (below_size (by repeat (first | (with_reducible first | exact HB.out | apply below_alloc | apply pw_below_drewN | apply below_drew1) | exact HB.out))) : w.heap.size ≤ gb355)); clear HB; have HB := n0_; have BK355 := n1_; have GW355 := n2_; have GE355 := n3_; clear n0_ n1_ n2_ n3_; clear hb hbox hg))
 (try simp only [Act.put, List.setIfInBounds_toArray, List.set_cons_zero, List.set_cons_succ])
 go_cut [17] (fun v17 wc => ∃ (kq : Nat) (x17_2 : Bool), v17 = .bool x17_2 ∧ Aside0 (continuoref25_Agree.j0 kq l0 l1 x17_2 = some (r1, r2, r3)) ∧ Aside0 (kq ≤ k) ∧ Aside0 (wc.heap[gb355]? = some (.cells #[.int .i64 0, (.slice none 0 0)] 34 (0, 0))) ∧ Aside0 (Below w.heap.size w wc))
 case first =>
  have H := HC3.out
  clear HC3
  replace H := Option.bind_eq_some_iff.mp H
  obtain ⟨t356, A50, H⟩ := H
  replace H : (if t356 = 0 then ((continuoref25_pixels.f k l1).bind fun t357 => (continuoref25_Agree.j0 k l0 l1 (t357 != 0))) else (continuoref25_Agree.j0 k l0 l1 true)) = some (r1, r2, r3) := H
  have A5 := Aside0.mk A50
  clear A50
  by_cases c6 : t356 = 0
  · rw [if_pos c6] at H
    have c6b0 : (t356 == 0) = true := beq_iff_eq.mpr c6
    have c6b1 : (t356 != 0) = false := bne_eq_false_iff_eq.mpr c6
    clear c6
    (first | rw [c6b0] | (simp only [i64_w, i32_w]; rw [c6b0]) | skip)
    replace H := Option.bind_eq_some_iff.mp H
    obtain ⟨t357, A70, H⟩ := H
    replace H : (continuoref25_Agree.j0 k l0 l1 (t357 != 0)) = some (r1, r2, r3) := H
    have A7 := Aside0.mk A70
    clear A70
    have H' := Aside0.mk H
    clear H
    go_wp2_with (first | ((with_reducible refine gate_callee (f := 68) rfl ?_); refine goesL_ (some 11) rfl rfl Try.func68 (by kernel_rfl) rfl #[.slice A0 l0.length c0] rfl (by (try simp only [List.map_toArray, List.map_cons, List.map_nil]); first | done | rfl | (simp only [List.length_drop, List.length_take]; rfl)) ?_; (with_reducible refine (continuoref25_pixels.calls k _ _ l0 t356 _ ?side1 ?side2 A5.out).mono ?_); (case side1 => repeat (first | exact (Kd.C_below HR0.out HB.out) | (with_reducible refine Kd.C_alloc ?_ _) | (with_reducible refine Kd.C_drewN ?_ _) | (with_reducible refine Kd.C_drew ?_))); (case side2 => exact HC0.out); rintro e w' ⟨rfl, ⟨nd, rfl⟩⟩; refine ⟨_, rfl, ?_⟩) | (go_at_call 68; (with_reducible refine (continuoref25_pixels.calls k _ _ l1 t357 _ ?side1 ?side2 A7.out).mono ?_); (case side1 => repeat (first | exact (Kd.C_below HR1.out (by repeat (first | (with_reducible first | exact HB.out | apply below_alloc | apply pw_below_drewN | apply below_drew1 | refine below_set ?_ GE355.out) | exact HB.out))) | (with_reducible refine Kd.C_alloc ?_ _) | (with_reducible refine Kd.C_drewN ?_ _) | (with_reducible refine Kd.C_drew ?_))); (case side2 => exact HC1.out); rintro e w' ⟨rfl, ⟨nd, rfl⟩⟩))
    go_meet
    case rel => exact ⟨_, ((t357 != 0)), (by first | rfl | (simp; done) | (simp [*]; done)), H', ⟨by first | omega | exact Nat.le_refl _⟩, ⟨by (with_reducible repeat (first | refine blk_drewN ?_ _ | refine blk_drew ?_ | refine blk_alloc ?_ _)); exact BK355.out⟩, ⟨by repeat (first | (with_reducible first | exact HB.out | apply below_alloc | apply pw_below_drewN | apply below_drew1 | refine below_set ?_ GE355.out) | exact HB.out)⟩⟩
  · rw [if_neg c6] at H
    have c6b0 : (t356 == 0) = false := beq_eq_false_iff_ne.mpr c6
    have c6b1 : (t356 != 0) = true := bne_iff_ne.mpr c6
    (first | rw [c6b0] | (simp only [i64_w, i32_w]; rw [c6b0]) | skip)
    have H' := Aside0.mk H
    clear H
    go_wp2_with (first | ((with_reducible refine gate_callee (f := 68) rfl ?_); refine goesL_ (some 11) rfl rfl Try.func68 (by kernel_rfl) rfl #[.slice A0 l0.length c0] rfl (by (try simp only [List.map_toArray, List.map_cons, List.map_nil]); first | done | rfl | (simp only [List.length_drop, List.length_take]; rfl)) ?_; (with_reducible refine (continuoref25_pixels.calls k _ _ l0 t356 _ ?side1 ?side2 A5.out).mono ?_); (case side1 => repeat (first | exact (Kd.C_below HR0.out HB.out) | (with_reducible refine Kd.C_alloc ?_ _) | (with_reducible refine Kd.C_drewN ?_ _) | (with_reducible refine Kd.C_drew ?_))); (case side2 => exact HC0.out); rintro e w' ⟨rfl, ⟨nd, rfl⟩⟩; refine ⟨_, rfl, ?_⟩))
    go_meet
    case rel => exact ⟨_, (true), (by first | rfl | (simp; done) | (simp [*]; done)), H', ⟨by first | omega | exact Nat.le_refl _⟩, ⟨by (with_reducible repeat (first | refine blk_drewN ?_ _ | refine blk_drew ?_ | refine blk_alloc ?_ _)); exact BK355.out⟩, ⟨by repeat (first | (with_reducible first | exact HB.out | apply below_alloc | apply pw_below_drewN | apply below_drew1 | refine below_set ?_ GE355.out) | exact HB.out)⟩⟩
 case rest =>
  clear HC3
  try clear c1
  try clear p2
  try clear c6
  try clear c6b0
  try clear c6b1
  obtain ⟨kq, x17_2, rfl, HA, HJ2, BK355, HB⟩ := hcut
  cases kq with
  | zero => exact absurd HA.out (by simp [continuoref25_Agree.j0])
  | succ kj2 =>
   have H := HA.out
   clear HA
   simp only [continuoref25_Agree.j0] at H
   by_cases c8 : x17_2 = true
   · subst c8
     have H1 : (some (0, ([] : List Int), 7)) = some (r1, r2, r3) := by rw [if_pos rfl] at H; exact H
     clear H
     have H := H1
     clear H1
     simp only [Option.some.injEq, Prod.mk.injEq] at H
     obtain ⟨rfl, rfl, rfl⟩ := H
     have hcz9_0 : wc.cell? ⟨gb355, 0, none⟩ = some (.int .i64 0) := (blk_cell BK355.out 0).trans rfl
     have hcz9_1 : wc.cell? ⟨gb355, 1, none⟩ = some (.slice none 0 0) := (blk_cell BK355.out 1).trans rfl
     have hfz9_0 := blk_frozen BK355.out 0
     have hfz9_1 := blk_frozen BK355.out 1
     go_wp2
     refine bodyPost_ret (results_ct rfl _ _ gb355 34 #[.int .i64 0, .slice none 0 0] (0, 0) _ rfl (by (with_reducible repeat (first | refine blk_drewN ?_ _ | refine blk_drew ?_ | refine blk_alloc ?_ _)); refine blk_put (cs := #[.int .i64 0, .slice none 0 0]) ?_ 1 _ rfl; (with_reducible repeat (first | refine blk_drewN ?_ _ | refine blk_drew ?_ | refine blk_alloc ?_ _)); refine blk_put (cs := #[.int .i64 0, .slice none 0 0]) ?_ 0 _ rfl; (with_reducible repeat (first | refine blk_drewN ?_ _ | refine blk_drew ?_ | refine blk_alloc ?_ _)); exact BK355.out) Try.underlying34 rfl (by kernel_rfl)) rfl ?_
     exact ⟨_, by first | rfl | (simp [errW_none, errW_some] <;> rfl) | (simp [*, errW_none, errW_some] <;> rfl), by first | exact Kd.R_nil _ _ _ _ _ | exact Kd.N_nil _ _ _ _ _ | exact Kd.V_nil _ _ _ _ _ | exact Kd.Q_nil _ _ _ _ _ | exact Kd.S_nil _ _ _ _ _, by repeat (first | (with_reducible first | exact HB.out | apply below_alloc | apply pw_below_drewN | apply below_drew1 | refine below_set ?_ GE355.out) | exact HB.out)⟩
   · replace c8 := Bool.eq_false_iff.mpr c8
     subst c8
     have H1 : ((continuoref25_Many.f kj2 l0).bind fun t358 => (if t358 = true then (continuoref25_Agree.j1 kj2 l0 l1 true) else ((continuoref25_Many.f kj2 l1).bind fun t359 => (continuoref25_Agree.j1 kj2 l0 l1 t359)))) = some (r1, r2, r3) := by rw [if_neg (show ¬ (false = true) by decide)] at H; exact H
     clear H
     have H := H1
     clear H1
     have HC10 := Aside0.mk H
     clear H
     go_upto_region 3 with (fail)
     go_cut [24] (fun v24 wc => ∃ (kq : Nat) (x24_9 : Bool), v24 = .bool x24_9 ∧ Aside0 (continuoref25_Agree.j1 kq l0 l1 x24_9 = some (r1, r2, r3)) ∧ Aside0 (kq ≤ kj2) ∧ Aside0 (wc.heap[gb355]? = some (.cells #[.int .i64 0, (.slice none 0 0)] 34 (0, 0))) ∧ Aside0 (Below w.heap.size w wc))
     case first =>
      have H := HC10.out
      clear HC10
      replace H := Option.bind_eq_some_iff.mp H
      obtain ⟨t358, A110, H⟩ := H
      replace H : (if t358 = true then (continuoref25_Agree.j1 kj2 l0 l1 true) else ((continuoref25_Many.f kj2 l1).bind fun t359 => (continuoref25_Agree.j1 kj2 l0 l1 t359))) = some (r1, r2, r3) := H
      have A11 := Aside0.mk A110
      clear A110
      by_cases c12 : t358 = true
      · subst c12
        have H1 : (continuoref25_Agree.j1 kj2 l0 l1 true) = some (r1, r2, r3) := by rw [if_pos rfl] at H; exact H
        clear H
        have H := H1
        clear H1
        have H' := Aside0.mk H
        clear H
        go_wp2_with (first | ((with_reducible refine gate_callee (f := 69) rfl ?_); refine goesL_ (some 20) rfl rfl Try.func69 (by kernel_rfl) rfl #[.slice A0 l0.length c0] rfl (by (try simp only [List.map_toArray, List.map_cons, List.map_nil]); first | done | rfl | (simp only [List.length_drop, List.length_take]; rfl)) ?_; (with_reducible refine (continuoref25_Many.calls kj2 _ _ l0 true _ ?side1 ?side2 A11.out).mono ?_); (case side1 => repeat (first | exact (Kd.C_below HR0.out HB.out) | (with_reducible refine Kd.C_alloc ?_ _) | (with_reducible refine Kd.C_drewN ?_ _) | (with_reducible refine Kd.C_drew ?_))); (case side2 => exact HC0.out); rintro e w' ⟨rfl, ⟨nd, rfl⟩⟩; refine ⟨_, rfl, ?_⟩))
        go_meet
        case rel => exact ⟨_, (true), (by first | rfl | (simp; done) | (simp [*]; done)), H', ⟨by have := HJ2.out; first | omega | exact Nat.le_refl _⟩, ⟨by (with_reducible repeat (first | refine blk_drewN ?_ _ | refine blk_drew ?_ | refine blk_alloc ?_ _)); exact BK355.out⟩, ⟨by repeat (first | (with_reducible first | exact HB.out | apply below_alloc | apply pw_below_drewN | apply below_drew1 | refine below_set ?_ GE355.out) | exact HB.out)⟩⟩
      · replace c12 := Bool.eq_false_iff.mpr c12
        subst c12
        have H1 : ((continuoref25_Many.f kj2 l1).bind fun t359 => (continuoref25_Agree.j1 kj2 l0 l1 t359)) = some (r1, r2, r3) := by rw [if_neg (show ¬ (false = true) by decide)] at H; exact H
        clear H
        have H := H1
        clear H1
        replace H := Option.bind_eq_some_iff.mp H
        obtain ⟨t359, A130, H⟩ := H
        replace H : (continuoref25_Agree.j1 kj2 l0 l1 t359) = some (r1, r2, r3) := H
        have A13 := Aside0.mk A130
        clear A130
        have H' := Aside0.mk H
        clear H
        go_wp2_with (first | ((with_reducible refine gate_callee (f := 69) rfl ?_); refine goesL_ (some 20) rfl rfl Try.func69 (by kernel_rfl) rfl #[.slice A0 l0.length c0] rfl (by (try simp only [List.map_toArray, List.map_cons, List.map_nil]); first | done | rfl | (simp only [List.length_drop, List.length_take]; rfl)) ?_; (with_reducible refine (continuoref25_Many.calls kj2 _ _ l0 false _ ?side1 ?side2 A11.out).mono ?_); (case side1 => repeat (first | exact (Kd.C_below HR0.out HB.out) | (with_reducible refine Kd.C_alloc ?_ _) | (with_reducible refine Kd.C_drewN ?_ _) | (with_reducible refine Kd.C_drew ?_))); (case side2 => exact HC0.out); rintro e w' ⟨rfl, ⟨nd, rfl⟩⟩; refine ⟨_, rfl, ?_⟩) | (go_at_call 69; (with_reducible refine (continuoref25_Many.calls kj2 _ _ l1 t359 _ ?side1 ?side2 A13.out).mono ?_); (case side1 => repeat (first | exact (Kd.C_below HR1.out (by repeat (first | (with_reducible first | exact HB.out | apply below_alloc | apply pw_below_drewN | apply below_drew1 | refine below_set ?_ GE355.out) | exact HB.out))) | (with_reducible refine Kd.C_alloc ?_ _) | (with_reducible refine Kd.C_drewN ?_ _) | (with_reducible refine Kd.C_drew ?_))); (case side2 => exact HC1.out); rintro e w' ⟨rfl, ⟨nd, rfl⟩⟩))
        go_meet
        case rel => exact ⟨_, (t359), (by first | rfl | (simp; done) | (simp [*]; done)), H', ⟨by have := HJ2.out; first | omega | exact Nat.le_refl _⟩, ⟨by (with_reducible repeat (first | refine blk_drewN ?_ _ | refine blk_drew ?_ | refine blk_alloc ?_ _)); exact BK355.out⟩, ⟨by repeat (first | (with_reducible first | exact HB.out | apply below_alloc | apply pw_below_drewN | apply below_drew1 | refine below_set ?_ GE355.out) | exact HB.out)⟩⟩
     case rest =>
      clear HC10
      try clear c1
      try clear p2
      try clear c6
      try clear c6b0
      try clear c6b1
      try clear c8
      try clear c12
      try clear hcz9_0
      try clear hcz9_1
      try clear hfz9_0
      try clear hfz9_1
      try clear p2
      obtain ⟨kq, x24_9, rfl, HA, HJ9, BK355, HB⟩ := hcut
      cases kq with
      | zero => exact absurd HA.out (by simp [continuoref25_Agree.j1])
      | succ kj9 =>
       have H := HA.out
       clear HA
       simp only [continuoref25_Agree.j1] at H
       by_cases c14 : x24_9 = true
       · subst c14
         have H1 : (some (0, ([] : List Int), 4)) = some (r1, r2, r3) := by rw [if_pos rfl] at H; exact H
         clear H
         have H := H1
         clear H1
         simp only [Option.some.injEq, Prod.mk.injEq] at H
         obtain ⟨rfl, rfl, rfl⟩ := H
         have hcz15_0 : wc.cell? ⟨gb355, 0, none⟩ = some (.int .i64 0) := (blk_cell BK355.out 0).trans rfl
         have hcz15_1 : wc.cell? ⟨gb355, 1, none⟩ = some (.slice none 0 0) := (blk_cell BK355.out 1).trans rfl
         have hfz15_0 := blk_frozen BK355.out 0
         have hfz15_1 := blk_frozen BK355.out 1
         go_wp2
         refine bodyPost_ret (results_ct rfl _ _ gb355 34 #[.int .i64 0, .slice none 0 0] (0, 0) _ rfl (by (with_reducible repeat (first | refine blk_drewN ?_ _ | refine blk_drew ?_ | refine blk_alloc ?_ _)); refine blk_put (cs := #[.int .i64 0, .slice none 0 0]) ?_ 1 _ rfl; (with_reducible repeat (first | refine blk_drewN ?_ _ | refine blk_drew ?_ | refine blk_alloc ?_ _)); refine blk_put (cs := #[.int .i64 0, .slice none 0 0]) ?_ 0 _ rfl; (with_reducible repeat (first | refine blk_drewN ?_ _ | refine blk_drew ?_ | refine blk_alloc ?_ _)); exact BK355.out) Try.underlying34 rfl (by kernel_rfl)) rfl ?_
         exact ⟨_, by first | rfl | (simp [errW_none, errW_some] <;> rfl) | (simp [*, errW_none, errW_some] <;> rfl), by first | exact Kd.R_nil _ _ _ _ _ | exact Kd.N_nil _ _ _ _ _ | exact Kd.V_nil _ _ _ _ _ | exact Kd.Q_nil _ _ _ _ _ | exact Kd.S_nil _ _ _ _ _, by repeat (first | (with_reducible first | exact HB.out | apply below_alloc | apply pw_below_drewN | apply below_drew1 | refine below_set ?_ GE355.out) | exact HB.out)⟩
       · replace c14 := Bool.eq_false_iff.mpr c14
         subst c14
         have H1 : (continuoref25_Agree.l0 kj9 l0 l1 0) = some (r1, r2, r3) := by rw [if_neg (show ¬ (false = true) by decide)] at H; exact H
         clear H
         have H := H1
         clear H1
         have H' := Aside0.mk H
         clear H
         go_wp2
         go_loopg [6] kj9 (fun kq v6 w' => ∃ (x6_3 : Int) (x356000_3 : Int), v6 = .int .i64 x6_3 ∧ Aside0 (continuoref25_Agree.l0 kq l0 l1 x6_3 = some (r1, r2, r3)) ∧ Aside0 (kq ≤ kj9) ∧ Aside0 (w'.heap[gb355]? = some (.cells #[.int .i64 x356000_3, (.slice none 0 0)] 34 (0, 0))) ∧ Aside0 (Below w.heap.size w w'))
         case atStart => exact ⟨(0), (0), (by first | rfl | (simp; done) | (simp [*]; done)), H', ⟨Nat.le_refl _⟩, ⟨by (with_reducible repeat (first | refine blk_drewN ?_ _ | refine blk_drew ?_ | refine blk_alloc ?_ _)); exact BK355.out⟩, ⟨by repeat (first | (with_reducible first | exact HB.out | apply below_alloc | apply pw_below_drewN | apply below_drew1 | refine below_set ?_ GE355.out) | exact HB.out)⟩⟩
         case round =>
          clear H'
          try clear c1
          try clear p2
          try clear c6
          try clear c6b0
          try clear c6b1
          try clear c8
          try clear c12
          try clear c14
          try clear hcz15_0
          try clear hcz15_1
          try clear hcz9_0
          try clear hcz9_1
          try clear hfz15_0
          try clear hfz15_1
          try clear hfz9_0
          try clear hfz9_1
          try clear p2
          obtain ⟨x6_3, x356000_3, rfl, HA, HK3, BK355, HB⟩ := hrel
          cases gk with
          | zero => exact absurd HA.out (by simp [continuoref25_Agree.l0])
          | succ k3 =>
           have H := HA.out
           clear HA
           simp only [continuoref25_Agree.l0] at H
           by_cases c16 : x6_3 < (l0.length : Int)
           · rw [if_pos c16] at H
             have c16b0 : decide (x6_3 < (l0.length : Int)) = true := decide_eq_true c16
             clear c16
             have H' := Aside0.mk H
             clear H
             go_wp2
             go_loopg [7] k3 (fun kq v7 w' => ∃ (x7_4 : Int) (x356000_4 : Int), v7 = .int .i64 x7_4 ∧ Aside0 (continuoref25_Agree.l1 kq l0 l1 x6_3 x7_4 = some (r1, r2, r3)) ∧ Aside0 (kq ≤ k3) ∧ Aside0 (w'.heap[gb355]? = some (.cells #[.int .i64 x356000_4, (.slice none 0 0)] 34 (0, 0))) ∧ Aside0 (Below w.heap.size w w'))
             case atStart => exact ⟨(0), (x356000_3), (by first | rfl | (simp; done) | (simp [*]; done)), H', ⟨Nat.le_refl _⟩, ⟨by (with_reducible repeat (first | refine blk_drewN ?_ _ | refine blk_drew ?_ | refine blk_alloc ?_ _)); exact BK355.out⟩, ⟨by repeat (first | (with_reducible first | exact HB.out | apply below_alloc | apply pw_below_drewN | apply below_drew1 | refine below_set ?_ GE355.out) | exact HB.out)⟩⟩
             case round =>
              clear H'
              try clear c1
              try clear p2
              try clear c6
              try clear c6b0
              try clear c6b1
              try clear c8
              try clear c12
              try clear c14
              try clear c16
              try clear c16b0
              try clear hcz15_0
              try clear hcz15_1
              try clear hcz9_0
              try clear hcz9_1
              try clear hfz15_0
              try clear hfz15_1
              try clear hfz9_0
              try clear hfz9_1
              try clear p2
              obtain ⟨x7_4, x356000_4, rfl, HA, HK4, BK355, HB⟩ := hrel
              cases gk with
              | zero => exact absurd HA.out (by simp [continuoref25_Agree.l1])
              | succ k4 =>
               have H := HA.out
               clear HA
               simp only [continuoref25_Agree.l1] at H
               by_cases c17 : 0 ≤ x6_3
               · rw [if_pos c17] at H
                 have c17b0 : decide (0 ≤ x6_3) = true := decide_eq_true c17
                 clear c17
                 by_cases c18 : x6_3 < (l0.length : Int)
                 · rw [if_pos c18] at H
                   have c18b0 : decide (x6_3 < (l0.length : Int)) = true := decide_eq_true c18
                   clear c18
                   by_cases c19 : x7_4 < (((rd_T34 l0 x6_3).f1).length : Int)
                   · rw [if_pos c19] at H
                     have c19b0 : decide (x7_4 < (((rd_T34 l0 x6_3).f1).length : Int)) = true := decide_eq_true c19
                     clear c19
                     have H' := Aside0.mk H
                     clear H
                     have p360 : 0 ≤ (x6_3 : Int) := of_decide_eq_true (by first | (with_reducible assumption) | assumption)
                     have q360 : x6_3 < (l0.length : Int) := of_decide_eq_true (by first | (with_reducible assumption) | assumption)
                     obtain ⟨ad360, A360_1, c360_1, e360, hx360_0, hx360_1, hl360_1, hi360_1⟩ := at_T34 HR0.out x6_3 p360 q360
                     cases e360
                     replace hx360_0 := (HB.out.cell (World.block_lt_of_cell? w _ hx360_0)).trans hx360_0
                     replace hx360_1 := (HB.out.cell (World.block_lt_of_cell? w _ hx360_1)).trans hx360_1
                     have HR360_1 := Aside0.mk hi360_1
                     have HC360_1 := Aside0.mk hl360_1
                     clear hi360_1 hl360_1
                     replace p360 := eq_true p360
                     replace q360 := eq_true q360
                     go_wp2
                     go_loopg [8] k4 (fun kq v8 w' => ∃ (x8_5 : Int) (x356000_5 : Int), v8 = .int .i64 x8_5 ∧ Aside0 (continuoref25_Agree.l2 kq l0 l1 x6_3 x7_4 x8_5 = some (r1, r2, r3)) ∧ Aside0 (kq ≤ k4) ∧ Aside0 (w'.heap[gb355]? = some (.cells #[.int .i64 x356000_5, (.slice none 0 0)] 34 (0, 0))) ∧ Aside0 (Below w.heap.size w w'))
                     case atStart => exact ⟨(0), (x356000_4), (by first | rfl | (simp; done) | (simp [*]; done)), H', ⟨Nat.le_refl _⟩, ⟨by (with_reducible repeat (first | refine blk_drewN ?_ _ | refine blk_drew ?_ | refine blk_alloc ?_ _)); exact BK355.out⟩, ⟨by repeat (first | (with_reducible first | exact HB.out | apply below_alloc | apply pw_below_drewN | apply below_drew1 | refine below_set ?_ GE355.out) | exact HB.out)⟩⟩
                     case round =>
                      clear H'
                      try clear c1
                      try clear p2
                      try clear c3
                      try clear p3
                      try clear q3
                      try clear hx3
                      try clear c6
                      try clear c6b0
                      try clear c6b1
                      try clear c8
                      try clear c12
                      try clear c14
                      try clear c16
                      try clear c16b0
                      try clear c17
                      try clear c17b0
                      try clear c18
                      try clear c18b0
                      try clear c19
                      try clear c19b0
                      try clear hcz15_0
                      try clear hcz15_1
                      try clear hcz9_0
                      try clear hcz9_1
                      try clear hfz15_0
                      try clear hfz15_1
                      try clear hfz9_0
                      try clear hfz9_1
                      try clear hx360_0
                      try clear hx360_1
                      try clear p2
                      try clear p360
                      try clear q360
                      obtain ⟨x8_5, x356000_5, rfl, HA, HK5, BK355, HB⟩ := hrel
                      cases gk with
                      | zero => exact absurd HA.out (by simp [continuoref25_Agree.l2])
                      | succ k5 =>
                       have H := HA.out
                       clear HA
                       simp only [continuoref25_Agree.l2] at H
                       by_cases c20 : x8_5 < (l1.length : Int)
                       · rw [if_pos c20] at H
                         have c20b0 : decide (x8_5 < (l1.length : Int)) = true := decide_eq_true c20
                         clear c20
                         have H' := Aside0.mk H
                         clear H
                         go_wp2
                         go_loopg [9] k5 (fun kq v9 w' => ∃ (x9_6 : Int) (x356000_6 : Int), v9 = .int .i64 x9_6 ∧ Aside0 (continuoref25_Agree.l3 kq l0 l1 x6_3 x7_4 x8_5 x9_6 = some (r1, r2, r3)) ∧ Aside0 (kq ≤ k5) ∧ Aside0 (w'.heap[gb355]? = some (.cells #[.int .i64 x356000_6, (.slice none 0 0)] 34 (0, 0))) ∧ Aside0 (Below w.heap.size w w'))
                         case atStart => exact ⟨(0), (x356000_5), (by first | rfl | (simp; done) | (simp [*]; done)), H', ⟨Nat.le_refl _⟩, ⟨by (with_reducible repeat (first | refine blk_drewN ?_ _ | refine blk_drew ?_ | refine blk_alloc ?_ _)); exact BK355.out⟩, ⟨by repeat (first | (with_reducible first | exact HB.out | apply below_alloc | apply pw_below_drewN | apply below_drew1 | refine below_set ?_ GE355.out) | exact HB.out)⟩⟩
                         case round =>
                          clear H'
                          try clear c1
                          try clear c2
                          try clear p2
                          try clear c3
                          try clear p3
                          try clear q3
                          try clear hx3
                          try clear c6
                          try clear c6b0
                          try clear c6b1
                          try clear c8
                          try clear c12
                          try clear c14
                          try clear c16
                          try clear c16b0
                          try clear c17
                          try clear c17b0
                          try clear c18
                          try clear c18b0
                          try clear c19
                          try clear c19b0
                          try clear c20
                          try clear c20b0
                          try clear hcz15_0
                          try clear hcz15_1
                          try clear hcz9_0
                          try clear hcz9_1
                          try clear hfz15_0
                          try clear hfz15_1
                          try clear hfz9_0
                          try clear hfz9_1
                          try clear hx360_0
                          try clear hx360_1
                          try clear p2
                          try clear p3
                          try clear p360
                          try clear q3
                          try clear q360
                          obtain ⟨x9_6, x356000_6, rfl, HA, HK6, BK355, HB⟩ := hrel
                          cases gk with
                          | zero => exact absurd HA.out (by simp [continuoref25_Agree.l3])
                          | succ k6 =>
                           have H := HA.out
                           clear HA
                           simp only [continuoref25_Agree.l3] at H
                           by_cases c21 : 0 ≤ x8_5
                           · rw [if_pos c21] at H
                             have c21b0 : decide (0 ≤ x8_5) = true := decide_eq_true c21
                             clear c21
                             by_cases c22 : x8_5 < (l1.length : Int)
                             · rw [if_pos c22] at H
                               have c22b0 : decide (x8_5 < (l1.length : Int)) = true := decide_eq_true c22
                               clear c22
                               by_cases c23 : x9_6 < (((rd_T34 l1 x8_5).f1).length : Int)
                               · rw [if_pos c23] at H
                                 have c23b0 : decide (x9_6 < (((rd_T34 l1 x8_5).f1).length : Int)) = true := decide_eq_true c23
                                 clear c23
                                 by_cases c24 : 0 ≤ x6_3
                                 · rw [if_pos c24] at H
                                   have c24b0 : decide (0 ≤ x6_3) = true := decide_eq_true c24
                                   clear c24
                                   by_cases c25 : x6_3 < (l0.length : Int)
                                   · rw [if_pos c25] at H
                                     have c25b0 : decide (x6_3 < (l0.length : Int)) = true := decide_eq_true c25
                                     clear c25
                                     by_cases c26 : ((rd_T34 l1 x8_5).f0) = ((rd_T34 l0 x6_3).f0)
                                     · rw [if_pos c26] at H
                                       have c26b0 : (((rd_T34 l1 x8_5).f0) == ((rd_T34 l0 x6_3).f0)) = true := beq_iff_eq.mpr c26
                                       have c26b1 : (((rd_T34 l1 x8_5).f0) != ((rd_T34 l0 x6_3).f0)) = false := bne_eq_false_iff_eq.mpr c26
                                       clear c26
                                       by_cases c27 : 0 ≤ x9_6
                                       · rw [if_pos c27] at H
                                         have c27b0 : decide (0 ≤ x9_6) = true := decide_eq_true c27
                                         clear c27
                                         by_cases c28 : 0 ≤ x7_4
                                         · rw [if_pos c28] at H
                                           have c28b0 : decide (0 ≤ x7_4) = true := decide_eq_true c28
                                           clear c28
                                           by_cases c29 : x7_4 < (((rd_T34 l0 x6_3).f1).length : Int)
                                           · rw [if_pos c29] at H
                                             have c29b0 : decide (x7_4 < (((rd_T34 l0 x6_3).f1).length : Int)) = true := decide_eq_true c29
                                             clear c29
                                             by_cases c30 : (rd ((rd_T34 l1 x8_5).f1) x9_6) = (rd ((rd_T34 l0 x6_3).f1) x7_4)
                                             · rw [if_pos c30] at H
                                               have c30b0 : ((rd ((rd_T34 l1 x8_5).f1) x9_6) == (rd ((rd_T34 l0 x6_3).f1) x7_4)) = true := beq_iff_eq.mpr c30
                                               have c30b1 : ((rd ((rd_T34 l1 x8_5).f1) x9_6) != (rd ((rd_T34 l0 x6_3).f1) x7_4)) = false := bne_eq_false_iff_eq.mpr c30
                                               clear c30
                                               obtain ⟨y371, hy371⟩ : ∃ y_ : List Int, y_ = (([rd ((rd_T34 l0 x6_3).f1) x7_4] : List Int)) := ⟨_, rfl⟩
                                               replace H : (some ((rd_T34 l0 x6_3).f0, y371, 0)) = some (r1, r2, r3) := by first | (rw [hy371]; with_reducible exact H) | (have H2_ := (Option.bind_some _ _).symm.trans H; rw [hy371]; with_reducible exact H2_) | (have H2_ := (Option.bind_some _ _).symm.trans H; with_reducible exact H2_) | with_reducible exact H | (rw [hy371]; exact H) | exact H
                                               have Ny371 := Aside0.mk hy371
                                               clear hy371
                                               simp only [Option.some.injEq, Prod.mk.injEq] at H
                                               obtain ⟨rfl, rfl, rfl⟩ := H
                                               have p361 : 0 ≤ (x8_5 : Int) := of_decide_eq_true (by first | (with_reducible assumption) | assumption)
                                               have q361 : x8_5 < (l1.length : Int) := of_decide_eq_true (by first | (with_reducible assumption) | assumption)
                                               obtain ⟨ad361, A361_1, c361_1, e361, hx361_0, hx361_1, hl361_1, hi361_1⟩ := at_T34 HR1.out x8_5 p361 q361
                                               cases e361
                                               replace hx361_0 := (HB.out.cell (World.block_lt_of_cell? w _ hx361_0)).trans hx361_0
                                               replace hx361_1 := (HB.out.cell (World.block_lt_of_cell? w _ hx361_1)).trans hx361_1
                                               have HR361_1 := Aside0.mk hi361_1
                                               have HC361_1 := Aside0.mk hl361_1
                                               clear hi361_1 hl361_1
                                               replace p361 := eq_true p361
                                               replace q361 := eq_true q361
                                               try go_wp2
                                               have n0_ := Aside0.mk (blk_drew BK355.out)
                                               have n1_ := Aside0.mk (below_drew1 HB.out)
                                               clear BK355
                                               clear HB
                                               have BK355 := n0_
                                               have HB := n1_
                                               clear n0_ n1_
                                               have p362 : 0 ≤ (x8_5 : Int) := of_decide_eq_true (by first | (with_reducible assumption) | assumption)
                                               have q362 : x8_5 < (l1.length : Int) := of_decide_eq_true (by first | (with_reducible assumption) | assumption)
                                               obtain ⟨ad362, A362_1, c362_1, e362, hx362_0, hx362_1, hl362_1, hi362_1⟩ := at_T34 HR1.out x8_5 p362 q362
                                               have hw362_1 := hx362_1
                                               have hw362_0 := hx362_0
                                               obtain rfl : ad361 = ad362 := (by injection e362)
                                               replace hx362_0 := (HB.out.cell (World.block_lt_of_cell? w _ hx362_0)).trans hx362_0
                                               replace hx362_1 := (HB.out.cell (World.block_lt_of_cell? w _ hx362_1)).trans hx362_1
                                               have HR362_1 := Aside0.mk hi362_1
                                               have HC362_1 := Aside0.mk hl362_1
                                               clear hi362_1 hl362_1
                                               replace p362 := eq_true p362
                                               replace q362 := eq_true q362
                                               have p363 : 0 ≤ (x6_3 : Int) := of_decide_eq_true (by first | (with_reducible assumption) | assumption)
                                               have q363 : x6_3 < (l0.length : Int) := of_decide_eq_true (by first | (with_reducible assumption) | assumption)
                                               obtain ⟨ad363, A363_1, c363_1, e363, hx363_0, hx363_1, hl363_1, hi363_1⟩ := at_T34 HR0.out x6_3 p363 q363
                                               have hw363_1 := hx363_1
                                               have hw363_0 := hx363_0
                                               obtain rfl : ad360 = ad363 := (by injection e363)
                                               replace hx363_0 := (HB.out.cell (World.block_lt_of_cell? w _ hx363_0)).trans hx363_0
                                               replace hx363_1 := (HB.out.cell (World.block_lt_of_cell? w _ hx363_1)).trans hx363_1
                                               have HR363_1 := Aside0.mk hi363_1
                                               have HC363_1 := Aside0.mk hl363_1
                                               clear hi363_1 hl363_1
                                               replace p363 := eq_true p363
                                               replace q363 := eq_true q363
                                               have p364 : 0 ≤ (x8_5 : Int) := of_decide_eq_true (by first | (with_reducible assumption) | assumption)
                                               have q364 : x8_5 < (l1.length : Int) := of_decide_eq_true (by first | (with_reducible assumption) | assumption)
                                               obtain ⟨ad364, A364_1, c364_1, e364, hx364_0, hx364_1, hl364_1, hi364_1⟩ := at_T34 HR1.out x8_5 p364 q364
                                               have hw364_1 := hx364_1
                                               have hw364_0 := hx364_0
                                               obtain rfl : ad361 = ad364 := (by injection e364)
                                               replace hx364_0 := (HB.out.cell (World.block_lt_of_cell? w _ hx364_0)).trans hx364_0
                                               replace hx364_1 := (HB.out.cell (World.block_lt_of_cell? w _ hx364_1)).trans hx364_1
                                               have HR364_1 := Aside0.mk hi364_1
                                               have HC364_1 := Aside0.mk hl364_1
                                               clear hi364_1 hl364_1
                                               replace p364 := eq_true p364
                                               replace q364 := eq_true q364
                                               have ea_ := Option.some.inj (hx362_1.symm.trans hx364_1)
                                               injection ea_ with ea_ en_ ec_
                                               subst ea_
                                               subst ec_
                                               clear en_
                                               have p365 : 0 ≤ (x9_6 : Int) := of_decide_eq_true (by first | (with_reducible assumption) | assumption)
                                               have q365 : x9_6 < (((rd_T34 l1 x8_5).f1).length : Int) := of_decide_eq_true (by first | (with_reducible assumption) | assumption)
                                               obtain ⟨ad365, e365, hx365_0⟩ := Kd.at_int HR364_1.out x9_6 p365 q365
                                               have hw365_0 := hx365_0
                                               cases e365
                                               replace hx365_0 := (HB.out.cell (World.block_lt_of_cell? w _ hx365_0)).trans hx365_0
                                               replace p365 := eq_true p365
                                               replace q365 := eq_true q365
                                               have p366 : 0 ≤ (x6_3 : Int) := of_decide_eq_true (by first | (with_reducible assumption) | assumption)
                                               have q366 : x6_3 < (l0.length : Int) := of_decide_eq_true (by first | (with_reducible assumption) | assumption)
                                               obtain ⟨ad366, A366_1, c366_1, e366, hx366_0, hx366_1, hl366_1, hi366_1⟩ := at_T34 HR0.out x6_3 p366 q366
                                               have hw366_1 := hx366_1
                                               have hw366_0 := hx366_0
                                               obtain rfl : ad360 = ad366 := (by injection e366)
                                               replace hx366_0 := (HB.out.cell (World.block_lt_of_cell? w _ hx366_0)).trans hx366_0
                                               replace hx366_1 := (HB.out.cell (World.block_lt_of_cell? w _ hx366_1)).trans hx366_1
                                               have HR366_1 := Aside0.mk hi366_1
                                               have HC366_1 := Aside0.mk hl366_1
                                               clear hi366_1 hl366_1
                                               replace p366 := eq_true p366
                                               replace q366 := eq_true q366
                                               have ea_ := Option.some.inj (hx363_1.symm.trans hx366_1)
                                               injection ea_ with ea_ en_ ec_
                                               subst ea_
                                               subst ec_
                                               clear en_
                                               have p367 : 0 ≤ (x7_4 : Int) := of_decide_eq_true (by first | (with_reducible assumption) | assumption)
                                               have q367 : x7_4 < (((rd_T34 l0 x6_3).f1).length : Int) := of_decide_eq_true (by first | (with_reducible assumption) | assumption)
                                               obtain ⟨ad367, e367, hx367_0⟩ := Kd.at_int HR366_1.out x7_4 p367 q367
                                               have hw367_0 := hx367_0
                                               cases e367
                                               replace hx367_0 := (HB.out.cell (World.block_lt_of_cell? w _ hx367_0)).trans hx367_0
                                               replace p367 := eq_true p367
                                               replace q367 := eq_true q367
                                               refine start_ (n := 30) (S := fun w' => w'.cell? (ad361.add ((x8_5).toNat * 2)) = some (.int .i64 ((rd_T34 l1 x8_5).f0)) ∧ w'.cell? ⟨(ad361.add ((x8_5).toNat * 2)).block, (ad361.add ((x8_5).toNat * 2)).off + 1, none⟩ = some (.slice (some ad365) ((rd_T34 l1 x8_5).f1).length c362_1) ∧ w'.cell? (ad360.add ((x6_3).toNat * 2)) = some (.int .i64 ((rd_T34 l0 x6_3).f0)) ∧ w'.cell? ⟨(ad360.add ((x6_3).toNat * 2)).block, (ad360.add ((x6_3).toNat * 2)).off + 1, none⟩ = some (.slice (some ad367) ((rd_T34 l0 x6_3).f1).length c363_1) ∧ w'.cell? (ad361.add ((x8_5).toNat * 2)) = some (.int .i64 ((rd_T34 l1 x8_5).f0)) ∧ w'.cell? ⟨(ad361.add ((x8_5).toNat * 2)).block, (ad361.add ((x8_5).toNat * 2)).off + 1, none⟩ = some (.slice (some ad365) ((rd_T34 l1 x8_5).f1).length c362_1) ∧ w'.cell? (ad365.add (x9_6).toNat) = some (.int .i64 (rd ((rd_T34 l1 x8_5).f1) x9_6)) ∧ w'.cell? (ad360.add ((x6_3).toNat * 2)) = some (.int .i64 ((rd_T34 l0 x6_3).f0)) ∧ w'.cell? ⟨(ad360.add ((x6_3).toNat * 2)).block, (ad360.add ((x6_3).toNat * 2)).off + 1, none⟩ = some (.slice (some ad367) ((rd_T34 l0 x6_3).f1).length c363_1) ∧ w'.cell? (ad367.add (x7_4).toNat) = some (.int .i64 (rd ((rd_T34 l0 x6_3).f1) x7_4))) (ds := []) #[false, false, false, false, false, false, false, false, false, false, false, false, false, false, false, false, false, false, false, false, false, false, false, false, false, false, false, false, false, false] (by kernel_rfl) rfl rfl ⟨((HB.out.cell (World.block_lt_of_cell? w _ hw362_0)).trans hw362_0), ((HB.out.cell (World.block_lt_of_cell? w _ hw362_1)).trans hw362_1), ((HB.out.cell (World.block_lt_of_cell? w _ hw363_0)).trans hw363_0), ((HB.out.cell (World.block_lt_of_cell? w _ hw363_1)).trans hw363_1), ((HB.out.cell (World.block_lt_of_cell? w _ hw364_0)).trans hw364_0), ((HB.out.cell (World.block_lt_of_cell? w _ hw364_1)).trans hw364_1), ((HB.out.cell (World.block_lt_of_cell? w _ hw365_0)).trans hw365_0), ((HB.out.cell (World.block_lt_of_cell? w _ hw366_0)).trans hw366_0), ((HB.out.cell (World.block_lt_of_cell? w _ hw366_1)).trans hw366_1), ((HB.out.cell (World.block_lt_of_cell? w _ hw367_0)).trans hw367_0)⟩ (fun hHeld => ?_); refine with_tabW continuoref25_Agree.tab17 continuoref25_Agree.bits17 (fun HT_ HW_ => ?_)
                                               generalize wr.drew = w31 at BK355 HB HR362_1 HR363_1 HR364_1 HR366_1 hx362_0 hx362_1 hx363_0 hx363_1 hx364_0 hx364_1 hx365_0 hx366_0 hx366_1 hx367_0 hHeld ⊢
                                               refine pure_ (i := 0) (N := some 58) (v := ?_) (a' := ?_) #[true, false, false, false, false, false, false, false, false, false, false, false, false, false, false, false, false, false, false, false, false, false, false, false, false, false, false, false, false, false] rfl rfl (any_of HT_.out (by kernel_rfl)) (fun _ _ _ h => h) (Or.inl ⟨by rfl, ?_⟩) ?_ ?_
                                               rotate_left
                                               · intro w'
                                                 go_simp
                                                 with_reducible rfl
                                               rotate_left
                                               · simp only [Act.put, List.setIfInBounds_toArray, List.set_cons_zero, List.set_cons_succ, i64_w, i32_w]
                                                 rfl
                                               refine pure_ (i := 1) (N := some 59) (v := ?_) (a' := ?_) #[true, true, false, false, false, false, false, false, false, false, false, false, false, false, false, false, false, false, false, false, false, false, false, false, false, false, false, false, false, false] rfl rfl (any_of HT_.out (by kernel_rfl)) (fun _ _ _ h => h) (Or.inl ⟨by rfl, ?_⟩) ?_ ?_
                                               rotate_left
                                               · intro w'
                                                 go_simp
                                                 with_reducible rfl
                                               rotate_left
                                               · simp only [Act.put, List.setIfInBounds_toArray, List.set_cons_zero, List.set_cons_succ, i64_w, i32_w]
                                                 rfl
                                               refine pure_ (i := 2) (N := some 60) (v := ?_) (a' := ?_) #[true, true, true, false, false, false, false, false, false, false, false, false, false, false, false, false, false, false, false, false, false, false, false, false, false, false, false, false, false, false] rfl rfl (any_of HT_.out (by kernel_rfl)) (fun _ _ _ h => h) (Or.inl ⟨by rfl, ?_⟩) ?_ ?_
                                               rotate_left
                                               · intro w'
                                                 go_simp
                                                 with_reducible rfl
                                               rotate_left
                                               · simp only [Act.put, List.setIfInBounds_toArray, List.set_cons_zero, List.set_cons_succ, i64_w, i32_w]
                                                 rfl
                                               refine pure_ (i := 3) (N := some 61) (v := ?_) (a' := ?_) #[true, true, true, true, false, false, false, false, false, false, false, false, false, false, false, false, false, false, false, false, false, false, false, false, false, false, false, false, false, false] rfl rfl (any_of HT_.out (by kernel_rfl)) (fun _ _ _ h => h) (Or.inl ⟨by rfl, ?_⟩) ?_ ?_
                                               rotate_left
                                               · intro w'
                                                 go_simp
                                                 with_reducible rfl
                                               rotate_left
                                               · simp only [Act.put, List.setIfInBounds_toArray, List.set_cons_zero, List.set_cons_succ, i64_w, i32_w]
                                                 rfl
                                               refine pure_ (i := 5) (N := some 63) (v := ?_) (a' := ?_) #[true, true, true, true, false, true, false, false, false, false, false, false, false, false, false, false, false, false, false, false, false, false, false, false, false, false, false, false, false, false] rfl rfl (any_of HT_.out (by kernel_rfl)) (fun _ _ _ h => h) (Or.inl ⟨by rfl, ?_⟩) ?_ ?_
                                               rotate_left
                                               · intro w'
                                                 go_simp
                                                 with_reducible rfl
                                               rotate_left
                                               · simp only [Act.put, List.setIfInBounds_toArray, List.set_cons_zero, List.set_cons_succ, i64_w, i32_w]
                                                 rfl
                                               refine pure_ (i := 6) (N := some 64) (v := ?_) (a' := ?_) #[true, true, true, true, false, true, true, false, false, false, false, false, false, false, false, false, false, false, false, false, false, false, false, false, false, false, false, false, false, false] rfl rfl (any_of HT_.out (by kernel_rfl)) (fun _ _ _ h => h) (Or.inl ⟨by rfl, ?_⟩) ?_ ?_
                                               rotate_left
                                               · intro w'
                                                 go_simp
                                                 with_reducible rfl
                                               rotate_left
                                               · simp only [Act.put, List.setIfInBounds_toArray, List.set_cons_zero, List.set_cons_succ, i64_w, i32_w]
                                                 rfl
                                               refine pure_ (i := 7) (N := some 65) (v := ?_) (a' := ?_) #[true, true, true, true, false, true, true, true, false, false, false, false, false, false, false, false, false, false, false, false, false, false, false, false, false, false, false, false, false, false] rfl rfl (any_of HT_.out (by kernel_rfl)) (fun _ _ _ h => h) (Or.inl ⟨by rfl, ?_⟩) ?_ ?_
                                               rotate_left
                                               · intro w'
                                                 go_simp
                                                 with_reducible rfl
                                               rotate_left
                                               · simp only [Act.put, List.setIfInBounds_toArray, List.set_cons_zero, List.set_cons_succ, i64_w, i32_w]
                                                 rfl
                                               refine pure_ (i := 8) (N := some 66) (v := ?_) (a' := ?_) #[true, true, true, true, false, true, true, true, true, false, false, false, false, false, false, false, false, false, false, false, false, false, false, false, false, false, false, false, false, false] rfl rfl (any_of HT_.out (by kernel_rfl)) (fun _ _ _ h => h) (Or.inl ⟨by rfl, ?_⟩) ?_ ?_
                                               rotate_left
                                               · intro w'
                                                 go_simp
                                                 with_reducible rfl
                                               rotate_left
                                               · simp only [Act.put, List.setIfInBounds_toArray, List.set_cons_zero, List.set_cons_succ, i64_w, i32_w]
                                                 rfl
                                               refine take_ (i := 4) (N := some 62) (v := ?_) (a' := ?_) #[true, true, true, true, true, true, true, true, true, false, false, false, false, false, false, false, false, false, false, false, false, false, false, false, false, false, false, false, false, false] rfl rfl (take_ofW HT_.out HW_.out (by kernel_rfl)) (fun _ _ _ h => h) (Or.inl ⟨by rfl, ?_⟩) hHeld ?_ ?_
                                               rotate_left
                                               · rintro w' ⟨s0, s1, s2, s3, s4, s5, s6, s7, s8, s9⟩
                                                 go_simp
                                                 with_reducible rfl
                                               rotate_left
                                               · simp only [Act.put, List.setIfInBounds_toArray, List.set_cons_zero, List.set_cons_succ, i64_w, i32_w]
                                                 rfl
                                               refine take_ (i := 9) (N := some 67) (v := ?_) (a' := ?_) #[true, true, true, true, true, true, true, true, true, true, false, false, false, false, false, false, false, false, false, false, false, false, false, false, false, false, false, false, false, false] rfl rfl (take_ofW HT_.out HW_.out (by kernel_rfl)) (fun _ _ _ h => h) (Or.inl ⟨by rfl, ?_⟩) hHeld ?_ ?_
                                               rotate_left
                                               · rintro w' ⟨s0, s1, s2, s3, s4, s5, s6, s7, s8, s9⟩
                                                 go_simp
                                                 with_reducible rfl
                                               rotate_left
                                               · simp only [Act.put, List.setIfInBounds_toArray, List.set_cons_zero, List.set_cons_succ, i64_w, i32_w]
                                                 rfl
                                               refine pure_ (i := 10) (N := some 68) (v := ?_) (a' := ?_) #[true, true, true, true, true, true, true, true, true, true, true, false, false, false, false, false, false, false, false, false, false, false, false, false, false, false, false, false, false, false] rfl rfl (any_of HT_.out (by kernel_rfl)) (fun _ _ _ h => h) (Or.inl ⟨by rfl, ?_⟩) ?_ ?_
                                               rotate_left
                                               · intro w'
                                                 go_simp
                                                 with_reducible rfl
                                               rotate_left
                                               · simp only [Act.put, List.setIfInBounds_toArray, List.set_cons_zero, List.set_cons_succ, i64_w, i32_w]
                                                 rfl
                                               refine pure_ (i := 11) (N := some 69) (v := ?_) (a' := ?_) #[true, true, true, true, true, true, true, true, true, true, true, true, false, false, false, false, false, false, false, false, false, false, false, false, false, false, false, false, false, false] rfl rfl (any_of HT_.out (by kernel_rfl)) (fun _ _ _ h => h) (Or.inl ⟨by rfl, ?_⟩) ?_ ?_
                                               rotate_left
                                               · intro w'
                                                 go_simp
                                                 with_reducible rfl
                                               rotate_left
                                               · simp only [Act.put, List.setIfInBounds_toArray, List.set_cons_zero, List.set_cons_succ, i64_w, i32_w]
                                                 rfl
                                               refine pure_ (i := 12) (N := some 70) (v := ?_) (a' := ?_) #[true, true, true, true, true, true, true, true, true, true, true, true, true, false, false, false, false, false, false, false, false, false, false, false, false, false, false, false, false, false] rfl rfl (any_of HT_.out (by kernel_rfl)) (fun _ _ _ h => h) (Or.inl ⟨by rfl, ?_⟩) ?_ ?_
                                               rotate_left
                                               · intro w'
                                                 go_simp
                                                 with_reducible rfl
                                               rotate_left
                                               · simp only [Act.put, List.setIfInBounds_toArray, List.set_cons_zero, List.set_cons_succ, i64_w, i32_w]
                                                 rfl
                                               refine pure_ (i := 13) (N := some 71) (v := ?_) (a' := ?_) #[true, true, true, true, true, true, true, true, true, true, true, true, true, true, false, false, false, false, false, false, false, false, false, false, false, false, false, false, false, false] rfl rfl (any_of HT_.out (by kernel_rfl)) (fun _ _ _ h => h) (Or.inl ⟨by rfl, ?_⟩) ?_ ?_
                                               rotate_left
                                               · intro w'
                                                 go_simp
                                                 with_reducible rfl
                                               rotate_left
                                               · simp only [Act.put, List.setIfInBounds_toArray, List.set_cons_zero, List.set_cons_succ, i64_w, i32_w]
                                                 rfl
                                               refine pure_ (i := 14) (N := some 72) (v := ?_) (a' := ?_) #[true, true, true, true, true, true, true, true, true, true, true, true, true, true, true, false, false, false, false, false, false, false, false, false, false, false, false, false, false, false] rfl rfl (any_of HT_.out (by kernel_rfl)) (fun _ _ _ h => h) (Or.inl ⟨by rfl, ?_⟩) ?_ ?_
                                               rotate_left
                                               · intro w'
                                                 go_simp
                                                 with_reducible rfl
                                               rotate_left
                                               · simp only [Act.put, List.setIfInBounds_toArray, List.set_cons_zero, List.set_cons_succ, i64_w, i32_w]
                                                 rfl
                                               refine pure_ (i := 15) (N := some 73) (v := ?_) (a' := ?_) #[true, true, true, true, true, true, true, true, true, true, true, true, true, true, true, true, false, false, false, false, false, false, false, false, false, false, false, false, false, false] rfl rfl (any_of HT_.out (by kernel_rfl)) (fun _ _ _ h => h) (Or.inl ⟨by rfl, ?_⟩) ?_ ?_
                                               rotate_left
                                               · intro w'
                                                 go_simp
                                                 with_reducible rfl
                                               rotate_left
                                               · simp only [Act.put, List.setIfInBounds_toArray, List.set_cons_zero, List.set_cons_succ, i64_w, i32_w]
                                                 rfl
                                               refine pure_ (i := 17) (N := some 75) (v := ?_) (a' := ?_) #[true, true, true, true, true, true, true, true, true, true, true, true, true, true, true, true, false, true, false, false, false, false, false, false, false, false, false, false, false, false] rfl rfl (any_of HT_.out (by kernel_rfl)) (fun _ _ _ h => h) (Or.inl ⟨by rfl, ?_⟩) ?_ ?_
                                               rotate_left
                                               · intro w'
                                                 go_simp
                                                 with_reducible rfl
                                               rotate_left
                                               · simp only [Act.put, List.setIfInBounds_toArray, List.set_cons_zero, List.set_cons_succ, i64_w, i32_w]
                                                 rfl
                                               refine pure_ (i := 20) (N := some 78) (v := ?_) (a' := ?_) #[true, true, true, true, true, true, true, true, true, true, true, true, true, true, true, true, false, true, false, false, true, false, false, false, false, false, false, false, false, false] rfl rfl (any_of HT_.out (by kernel_rfl)) (fun _ _ _ h => h) (Or.inl ⟨by rfl, ?_⟩) ?_ ?_
                                               rotate_left
                                               · intro w'
                                                 go_simp
                                                 with_reducible rfl
                                               rotate_left
                                               · simp only [Act.put, List.setIfInBounds_toArray, List.set_cons_zero, List.set_cons_succ, i64_w, i32_w]
                                                 rfl
                                               refine pure_ (i := 21) (N := some 79) (v := ?_) (a' := ?_) #[true, true, true, true, true, true, true, true, true, true, true, true, true, true, true, true, false, true, false, false, true, true, false, false, false, false, false, false, false, false] rfl rfl (any_of HT_.out (by kernel_rfl)) (fun _ _ _ h => h) (Or.inl ⟨by rfl, ?_⟩) ?_ ?_
                                               rotate_left
                                               · intro w'
                                                 go_simp
                                                 with_reducible rfl
                                               rotate_left
                                               · simp only [Act.put, List.setIfInBounds_toArray, List.set_cons_zero, List.set_cons_succ, i64_w, i32_w]
                                                 rfl
                                               refine pure_ (i := 22) (N := some 80) (v := ?_) (a' := ?_) #[true, true, true, true, true, true, true, true, true, true, true, true, true, true, true, true, false, true, false, false, true, true, true, false, false, false, false, false, false, false] rfl rfl (any_of HT_.out (by kernel_rfl)) (fun _ _ _ h => h) (Or.inl ⟨by rfl, ?_⟩) ?_ ?_
                                               rotate_left
                                               · intro w'
                                                 go_simp
                                                 with_reducible rfl
                                               rotate_left
                                               · simp only [Act.put, List.setIfInBounds_toArray, List.set_cons_zero, List.set_cons_succ, i64_w, i32_w]
                                                 rfl
                                               refine pure_ (i := 23) (N := some 81) (v := ?_) (a' := ?_) #[true, true, true, true, true, true, true, true, true, true, true, true, true, true, true, true, false, true, false, false, true, true, true, true, false, false, false, false, false, false] rfl rfl (any_of HT_.out (by kernel_rfl)) (fun _ _ _ h => h) (Or.inl ⟨by rfl, ?_⟩) ?_ ?_
                                               rotate_left
                                               · intro w'
                                                 go_simp
                                                 with_reducible rfl
                                               rotate_left
                                               · simp only [Act.put, List.setIfInBounds_toArray, List.set_cons_zero, List.set_cons_succ, i64_w, i32_w]
                                                 rfl
                                               refine pure_ (i := 25) (N := some 83) (v := ?_) (a' := ?_) #[true, true, true, true, true, true, true, true, true, true, true, true, true, true, true, true, false, true, false, false, true, true, true, true, false, true, false, false, false, false] rfl rfl (any_of HT_.out (by kernel_rfl)) (fun _ _ _ h => h) (Or.inl ⟨by rfl, ?_⟩) ?_ ?_
                                               rotate_left
                                               · intro w'
                                                 go_simp
                                                 with_reducible rfl
                                               rotate_left
                                               · simp only [Act.put, List.setIfInBounds_toArray, List.set_cons_zero, List.set_cons_succ, i64_w, i32_w]
                                                 rfl
                                               refine take_ (i := 16) (N := some 74) (v := ?_) (a' := ?_) #[true, true, true, true, true, true, true, true, true, true, true, true, true, true, true, true, true, true, false, false, true, true, true, true, false, true, false, false, false, false] rfl rfl (take_ofW HT_.out HW_.out (by kernel_rfl)) (fun _ _ _ h => h) (Or.inl ⟨by rfl, ?_⟩) hHeld ?_ ?_
                                               rotate_left
                                               · rintro w' ⟨s0, s1, s2, s3, s4, s5, s6, s7, s8, s9⟩
                                                 go_simp
                                                 with_reducible rfl
                                               rotate_left
                                               · simp only [Act.put, List.setIfInBounds_toArray, List.set_cons_zero, List.set_cons_succ, i64_w, i32_w]
                                                 rfl
                                               refine pure_ (i := 18) (N := some 76) (v := ?_) (a' := ?_) #[true, true, true, true, true, true, true, true, true, true, true, true, true, true, true, true, true, true, true, false, true, true, true, true, false, true, false, false, false, false] rfl rfl (any_of HT_.out (by kernel_rfl)) (fun _ _ _ h => h) (Or.inl ⟨by rfl, ?_⟩) ?_ ?_
                                               rotate_left
                                               · intro w'
                                                 go_simp
                                                 with_reducible rfl
                                               rotate_left
                                               · simp only [Act.put, List.setIfInBounds_toArray, List.set_cons_zero, List.set_cons_succ, i64_w, i32_w]
                                                 rfl
                                               refine take_ (i := 19) (N := some 77) (v := ?_) (a' := ?_) #[true, true, true, true, true, true, true, true, true, true, true, true, true, true, true, true, true, true, true, true, true, true, true, true, false, true, false, false, false, false] rfl rfl (take_ofW HT_.out HW_.out (by kernel_rfl)) (fun _ _ _ h => h) (Or.inl ⟨by rfl, ?_⟩) hHeld ?_ ?_
                                               rotate_left
                                               · rintro w' ⟨s0, s1, s2, s3, s4, s5, s6, s7, s8, s9⟩
                                                 go_simp
                                                 with_reducible rfl
                                               rotate_left
                                               · simp only [Act.put, List.setIfInBounds_toArray, List.set_cons_zero, List.set_cons_succ, i64_w, i32_w]
                                                 rfl
                                               refine take_ (i := 24) (N := some 82) (v := ?_) (a' := ?_) #[true, true, true, true, true, true, true, true, true, true, true, true, true, true, true, true, true, true, true, true, true, true, true, true, true, true, false, false, false, false] rfl rfl (take_ofW HT_.out HW_.out (by kernel_rfl)) (fun _ _ _ h => h) (Or.inl ⟨by rfl, ?_⟩) hHeld ?_ ?_
                                               rotate_left
                                               · rintro w' ⟨s0, s1, s2, s3, s4, s5, s6, s7, s8, s9⟩
                                                 go_simp
                                                 with_reducible rfl
                                               rotate_left
                                               · simp only [Act.put, List.setIfInBounds_toArray, List.set_cons_zero, List.set_cons_succ, i64_w, i32_w]
                                                 rfl
                                               refine pure_ (i := 26) (N := some 84) (v := ?_) (a' := ?_) #[true, true, true, true, true, true, true, true, true, true, true, true, true, true, true, true, true, true, true, true, true, true, true, true, true, true, true, false, false, false] rfl rfl (any_of HT_.out (by kernel_rfl)) (fun _ _ _ h => h) (Or.inl ⟨by rfl, ?_⟩) ?_ ?_
                                               rotate_left
                                               · intro w'
                                                 go_simp
                                                 with_reducible rfl
                                               rotate_left
                                               · simp only [Act.put, List.setIfInBounds_toArray, List.set_cons_zero, List.set_cons_succ, i64_w, i32_w]
                                                 rfl
                                               refine take_ (i := 27) (N := some 85) (v := ?_) (a' := ?_) #[true, true, true, true, true, true, true, true, true, true, true, true, true, true, true, true, true, true, true, true, true, true, true, true, true, true, true, true, false, false] rfl rfl (take_ofW HT_.out HW_.out (by kernel_rfl)) (fun _ _ _ h => h) (Or.inl ⟨by rfl, ?_⟩) hHeld ?_ ?_
                                               rotate_left
                                               · rintro w' ⟨s0, s1, s2, s3, s4, s5, s6, s7, s8, s9⟩
                                                 go_simp
                                                 with_reducible rfl
                                               rotate_left
                                               · simp only [Act.put, List.setIfInBounds_toArray, List.set_cons_zero, List.set_cons_succ, i64_w, i32_w]
                                                 rfl
                                               refine pure_ (i := 28) (N := some 86) (v := ?_) (a' := ?_) #[true, true, true, true, true, true, true, true, true, true, true, true, true, true, true, true, true, true, true, true, true, true, true, true, true, true, true, true, true, false] rfl rfl (any_of HT_.out (by kernel_rfl)) (fun _ _ _ h => h) (Or.inl ⟨by rfl, ?_⟩) ?_ ?_
                                               rotate_left
                                               · intro w'
                                                 go_simp
                                                 with_reducible rfl
                                               rotate_left
                                               · simp only [Act.put, List.setIfInBounds_toArray, List.set_cons_zero, List.set_cons_succ, i64_w, i32_w]
                                                 rfl
                                               refine pure_ (i := 29) (N := some 87) (v := ?_) (a' := ?_) #[true, true, true, true, true, true, true, true, true, true, true, true, true, true, true, true, true, true, true, true, true, true, true, true, true, true, true, true, true, true] rfl rfl (any_of HT_.out (by kernel_rfl)) (fun _ _ _ h => h) (Or.inl ⟨by rfl, ?_⟩) ?_ ?_
                                               rotate_left
                                               · intro w'
                                                 go_simp
                                                 with_reducible rfl
                                               rotate_left
                                               · simp only [Act.put, List.setIfInBounds_toArray, List.set_cons_zero, List.set_cons_succ, i64_w, i32_w]
                                                 rfl
                                               refine done_ (done_of HT_.out (by kernel_rfl)) ?_
                                               try go_wp2
                                               have n0_ := Aside0.mk (blk_drew BK355.out)
                                               have n1_ := Aside0.mk (below_drew1 HB.out)
                                               clear BK355
                                               clear HB
                                               have BK355 := n0_
                                               have HB := n1_
                                               clear n0_ n1_
                                               have p368 : 0 ≤ (x6_3 : Int) := of_decide_eq_true (by first | (with_reducible assumption) | assumption)
                                               have q368 : x6_3 < (l0.length : Int) := of_decide_eq_true (by first | (with_reducible assumption) | assumption)
                                               obtain ⟨ad368, A368_1, c368_1, e368, hx368_0, hx368_1, hl368_1, hi368_1⟩ := at_T34 HR0.out x6_3 p368 q368
                                               have hw368_1 := hx368_1
                                               have hw368_0 := hx368_0
                                               obtain rfl : ad360 = ad368 := (by injection e368)
                                               replace hx368_0 := (HB.out.cell (World.block_lt_of_cell? w _ hx368_0)).trans hx368_0
                                               replace hx368_1 := (HB.out.cell (World.block_lt_of_cell? w _ hx368_1)).trans hx368_1
                                               have HR368_1 := Aside0.mk hi368_1
                                               have HC368_1 := Aside0.mk hl368_1
                                               clear hi368_1 hl368_1
                                               replace p368 := eq_true p368
                                               replace q368 := eq_true q368
                                               have p369 : 0 ≤ (x6_3 : Int) := of_decide_eq_true (by first | (with_reducible assumption) | assumption)
                                               have q369 : x6_3 < (l0.length : Int) := of_decide_eq_true (by first | (with_reducible assumption) | assumption)
                                               obtain ⟨ad369, A369_1, c369_1, e369, hx369_0, hx369_1, hl369_1, hi369_1⟩ := at_T34 HR0.out x6_3 p369 q369
                                               have hw369_1 := hx369_1
                                               have hw369_0 := hx369_0
                                               obtain rfl : ad360 = ad369 := (by injection e369)
                                               replace hx369_0 := (HB.out.cell (World.block_lt_of_cell? w _ hx369_0)).trans hx369_0
                                               replace hx369_1 := (HB.out.cell (World.block_lt_of_cell? w _ hx369_1)).trans hx369_1
                                               have HR369_1 := Aside0.mk hi369_1
                                               have HC369_1 := Aside0.mk hl369_1
                                               clear hi369_1 hl369_1
                                               replace p369 := eq_true p369
                                               replace q369 := eq_true q369
                                               have ea_ := Option.some.inj (hx368_1.symm.trans hx369_1)
                                               injection ea_ with ea_ en_ ec_
                                               subst ea_
                                               subst ec_
                                               clear en_
                                               have p370 : 0 ≤ (x7_4 : Int) := of_decide_eq_true (by first | (with_reducible assumption) | assumption)
                                               have q370 : x7_4 < (((rd_T34 l0 x6_3).f1).length : Int) := of_decide_eq_true (by first | (with_reducible assumption) | assumption)
                                               obtain ⟨ad370, e370, hx370_0⟩ := Kd.at_int HR369_1.out x7_4 p370 q370
                                               have hw370_0 := hx370_0
                                               cases e370
                                               replace hx370_0 := (HB.out.cell (World.block_lt_of_cell? w _ hx370_0)).trans hx370_0
                                               replace p370 := eq_true p370
                                               replace q370 := eq_true q370
                                               refine start_ (n := 17) (S := fun w' => w'.cell? (ad360.add ((x6_3).toNat * 2)) = some (.int .i64 ((rd_T34 l0 x6_3).f0)) ∧ w'.cell? ⟨(ad360.add ((x6_3).toNat * 2)).block, (ad360.add ((x6_3).toNat * 2)).off + 1, none⟩ = some (.slice (some ad370) ((rd_T34 l0 x6_3).f1).length c368_1) ∧ w'.cell? (ad360.add ((x6_3).toNat * 2)) = some (.int .i64 ((rd_T34 l0 x6_3).f0)) ∧ w'.cell? ⟨(ad360.add ((x6_3).toNat * 2)).block, (ad360.add ((x6_3).toNat * 2)).off + 1, none⟩ = some (.slice (some ad370) ((rd_T34 l0 x6_3).f1).length c368_1) ∧ w'.cell? (ad370.add (x7_4).toNat) = some (.int .i64 (rd ((rd_T34 l0 x6_3).f1) x7_4))) (ds := []) #[false, false, false, false, false, false, false, false, false, false, false, false, false, false, false, false, false] (by kernel_rfl) rfl rfl ⟨((HB.out.cell (World.block_lt_of_cell? w _ hw368_0)).trans hw368_0), ((HB.out.cell (World.block_lt_of_cell? w _ hw368_1)).trans hw368_1), ((HB.out.cell (World.block_lt_of_cell? w _ hw369_0)).trans hw369_0), ((HB.out.cell (World.block_lt_of_cell? w _ hw369_1)).trans hw369_1), ((HB.out.cell (World.block_lt_of_cell? w _ hw370_0)).trans hw370_0)⟩ (fun hHeld => ?_); refine with_tabW continuoref25_Agree.tab18 continuoref25_Agree.bits18 (fun HT_ HW_ => ?_)
                                               generalize w31.drew = w32 at BK355 HB HR368_1 HR369_1 hx368_0 hx368_1 hx369_0 hx369_1 hx370_0 hHeld ⊢
                                               refine pure_ (i := 0) (N := some 88) (v := ?_) (a' := ?_) #[true, false, false, false, false, false, false, false, false, false, false, false, false, false, false, false, false] rfl rfl (any_of HT_.out (by kernel_rfl)) (fun _ _ _ h => h) (Or.inl ⟨by rfl, ?_⟩) ?_ ?_
                                               rotate_left
                                               · intro w'
                                                 go_simp
                                                 with_reducible rfl
                                               rotate_left
                                               · simp only [Act.put, List.setIfInBounds_toArray, List.set_cons_zero, List.set_cons_succ, i64_w, i32_w]
                                                 rfl
                                               refine pure_ (i := 1) (N := some 89) (v := ?_) (a' := ?_) #[true, true, false, false, false, false, false, false, false, false, false, false, false, false, false, false, false] rfl rfl (any_of HT_.out (by kernel_rfl)) (fun _ _ _ h => h) (Or.inl ⟨by rfl, ?_⟩) ?_ ?_
                                               rotate_left
                                               · intro w'
                                                 go_simp
                                                 with_reducible rfl
                                               rotate_left
                                               · simp only [Act.put, List.setIfInBounds_toArray, List.set_cons_zero, List.set_cons_succ, i64_w, i32_w]
                                                 rfl
                                               refine pure_ (i := 2) (N := some 90) (v := ?_) (a' := ?_) #[true, true, true, false, false, false, false, false, false, false, false, false, false, false, false, false, false] rfl rfl (any_of HT_.out (by kernel_rfl)) (fun _ _ _ h => h) (Or.inl ⟨by rfl, ?_⟩) ?_ ?_
                                               rotate_left
                                               · intro w'
                                                 go_simp
                                                 with_reducible rfl
                                               rotate_left
                                               · simp only [Act.put, List.setIfInBounds_toArray, List.set_cons_zero, List.set_cons_succ, i64_w, i32_w]
                                                 rfl
                                               refine pure_ (i := 3) (N := some 91) (v := ?_) (a' := ?_) #[true, true, true, true, false, false, false, false, false, false, false, false, false, false, false, false, false] rfl rfl (any_of HT_.out (by kernel_rfl)) (fun _ _ _ h => h) (Or.inl ⟨by rfl, ?_⟩) ?_ ?_
                                               rotate_left
                                               · intro w'
                                                 go_simp
                                                 with_reducible rfl
                                               rotate_left
                                               · simp only [Act.put, List.setIfInBounds_toArray, List.set_cons_zero, List.set_cons_succ, i64_w, i32_w]
                                                 rfl
                                               refine pure_ (i := 5) (N := some 93) (v := ?_) (a' := ?_) #[true, true, true, true, false, true, false, false, false, false, false, false, false, false, false, false, false] rfl rfl (any_of HT_.out (by kernel_rfl)) (fun _ _ _ h => h) (Or.inl ⟨by rfl, ?_⟩) ?_ ?_
                                               rotate_left
                                               · intro w'
                                                 go_simp
                                                 with_reducible rfl
                                               rotate_left
                                               · simp only [Act.put, List.setIfInBounds_toArray, List.set_cons_zero, List.set_cons_succ, i64_w, i32_w]
                                                 rfl
                                               refine pure_ (i := 6) (N := some 94) (v := ?_) (a' := ?_) #[true, true, true, true, false, true, true, false, false, false, false, false, false, false, false, false, false] rfl rfl (any_of HT_.out (by kernel_rfl)) (fun _ _ _ h => h) (Or.inl ⟨by rfl, ?_⟩) ?_ ?_
                                               rotate_left
                                               · intro w'
                                                 go_simp
                                                 with_reducible rfl
                                               rotate_left
                                               · simp only [Act.put, List.setIfInBounds_toArray, List.set_cons_zero, List.set_cons_succ, i64_w, i32_w]
                                                 rfl
                                               refine pure_ (i := 7) (N := some 95) (v := ?_) (a' := ?_) #[true, true, true, true, false, true, true, true, false, false, false, false, false, false, false, false, false] rfl rfl (any_of HT_.out (by kernel_rfl)) (fun _ _ _ h => h) (Or.inl ⟨by rfl, ?_⟩) ?_ ?_
                                               rotate_left
                                               · intro w'
                                                 go_simp
                                                 with_reducible rfl
                                               rotate_left
                                               · simp only [Act.put, List.setIfInBounds_toArray, List.set_cons_zero, List.set_cons_succ, i64_w, i32_w]
                                                 rfl
                                               refine pure_ (i := 8) (N := some 96) (v := ?_) (a' := ?_) #[true, true, true, true, false, true, true, true, true, false, false, false, false, false, false, false, false] rfl rfl (any_of HT_.out (by kernel_rfl)) (fun _ _ _ h => h) (Or.inl ⟨by rfl, ?_⟩) ?_ ?_
                                               rotate_left
                                               · intro w'
                                                 go_simp
                                                 with_reducible rfl
                                               rotate_left
                                               · simp only [Act.put, List.setIfInBounds_toArray, List.set_cons_zero, List.set_cons_succ, i64_w, i32_w]
                                                 rfl
                                               refine pure_ (i := 10) (N := some 98) (v := ?_) (a' := ?_) #[true, true, true, true, false, true, true, true, true, false, true, false, false, false, false, false, false] rfl rfl (any_of HT_.out (by kernel_rfl)) (fun _ _ _ h => h) (Or.inl ⟨by rfl, ?_⟩) ?_ ?_
                                               rotate_left
                                               · intro w'
                                                 go_simp
                                                 with_reducible rfl
                                               rotate_left
                                               · simp only [Act.put, List.setIfInBounds_toArray, List.set_cons_zero, List.set_cons_succ, i64_w, i32_w]
                                                 rfl
                                               refine take_ (i := 4) (N := some 92) (v := ?_) (a' := ?_) #[true, true, true, true, true, true, true, true, true, false, true, false, false, false, false, false, false] rfl rfl (take_ofW HT_.out HW_.out (by kernel_rfl)) (fun _ _ _ h => h) (Or.inl ⟨by rfl, ?_⟩) hHeld ?_ ?_
                                               rotate_left
                                               · rintro w' ⟨s0, s1, s2, s3, s4⟩
                                                 go_simp
                                                 with_reducible rfl
                                               rotate_left
                                               · simp only [Act.put, List.setIfInBounds_toArray, List.set_cons_zero, List.set_cons_succ, i64_w, i32_w]
                                                 rfl
                                               refine take_ (i := 9) (N := some 97) (v := ?_) (a' := ?_) #[true, true, true, true, true, true, true, true, true, true, true, false, false, false, false, false, false] rfl rfl (take_ofW HT_.out HW_.out (by kernel_rfl)) (fun _ _ _ h => h) (Or.inl ⟨by rfl, ?_⟩) hHeld ?_ ?_
                                               rotate_left
                                               · rintro w' ⟨s0, s1, s2, s3, s4⟩
                                                 go_simp
                                                 with_reducible rfl
                                               rotate_left
                                               · simp only [Act.put, List.setIfInBounds_toArray, List.set_cons_zero, List.set_cons_succ, i64_w, i32_w]
                                                 rfl
                                               refine pure_ (i := 11) (N := some 99) (v := ?_) (a' := ?_) #[true, true, true, true, true, true, true, true, true, true, true, true, false, false, false, false, false] rfl rfl (any_of HT_.out (by kernel_rfl)) (fun _ _ _ h => h) (Or.inl ⟨by rfl, ?_⟩) ?_ ?_
                                               rotate_left
                                               · intro w'
                                                 go_simp
                                                 with_reducible rfl
                                               rotate_left
                                               · simp only [Act.put, List.setIfInBounds_toArray, List.set_cons_zero, List.set_cons_succ, i64_w, i32_w]
                                                 rfl
                                               refine take_ (i := 12) (N := some 100) (v := ?_) (a' := ?_) #[true, true, true, true, true, true, true, true, true, true, true, true, true, false, false, false, false] rfl rfl (take_ofW HT_.out HW_.out (by kernel_rfl)) (fun _ _ _ h => h) (Or.inl ⟨by rfl, ?_⟩) hHeld ?_ ?_
                                               rotate_left
                                               · rintro w' ⟨s0, s1, s2, s3, s4⟩
                                                 go_simp
                                                 with_reducible rfl
                                               rotate_left
                                               · simp only [Act.put, List.setIfInBounds_toArray, List.set_cons_zero, List.set_cons_succ, i64_w, i32_w]
                                                 rfl
                                               refine one_ (i := 13) (N := some 101) #[true, true, true, true, true, true, true, true, true, true, true, true, true, true, false, false, false] rfl rfl (one_of HT_.out (by kernel_rfl)) (by decide) (fun K hK => ?_)
                                               refine Kd.R_lit_step (Kd.int .i64) _ 3 ?hg (N := 101) ?hd (xs := ([rd ((rd_T34 l0 x6_3).f1) x7_4] : List Int)) (inner := [.int .i64 (rd ((rd_T34 l0 x6_3).f1) x7_4)]) (ok := fun _ => True) (okp := fun _ => True) ?hr ?hp (fun _ hk => hk) trivial (Below.refl _ _) (Nat.le_refl _) (by simp) ?_; (case hd => rfl); (case hg => rfl); (case hr => first | (go_simp; done) | (go_simp; rfl)); (case hp => exact (Reps.one (show Kd.M (Kd.int .i64) _ _ _ (rd ((rd_T34 l0 x6_3).f1) x7_4) [.int .i64 (rd ((rd_T34 l0 x6_3).f1) x7_4)] from rfl) (Reps.none _ _)))
                                               intro v372 w33 ho34 hb hg_ hnew_
                                               clear hg_ hnew_
                                               (first | rw [← Ny371.out] at ho34 | (simp only [Int.reduceToNat] at ho34; rw [← Ny371.out] at ho34))
                                               have n0_ := Aside0.mk (Kd.R_lower ho34 (below_size (by repeat (first | (with_reducible first | exact HB.out | apply below_alloc | apply pw_below_drewN | apply below_drew1 | refine below_set ?_ GE355.out) | exact HB.out))))
                                               have n1_ := Aside0.mk (blk_below (g := gb355) (o := .cells #[.int .i64 x356000_6, .slice none 0 0] 34 (0, 0)) (by (with_reducible repeat (first | refine blk_drewN ?_ _ | refine blk_drew ?_ | refine blk_alloc ?_ _)); exact BK355.out) hb)
                                               have n2_ := Aside0.mk (below_step (by repeat (first | (with_reducible first | exact HB.out | apply below_alloc | apply pw_below_drewN | apply below_drew1 | refine below_set ?_ GE355.out) | exact HB.out)) hb)
                                               clear BK355
                                               clear HB
                                               have HO373 := n0_
                                               have BK355 := n1_
                                               have HB := n2_
                                               clear n0_ n1_ n2_
                                               clear hb ho34
                                               obtain ⟨Ao35, co35, eo35⟩ := Kd.R_slice HO373.out
                                               (first | subst eo35 | (injection eo35 with f1_ f2_ f3_; have f4_ := f1_.symm; have f5_ := f3_.symm; clear f1_ f2_ f3_; subst f4_; subst f5_))
                                               refine hK.out _ _ ⟨((HB.out.cell (World.block_lt_of_cell? w _ hw368_0)).trans hw368_0), ((HB.out.cell (World.block_lt_of_cell? w _ hw368_1)).trans hw368_1), ((HB.out.cell (World.block_lt_of_cell? w _ hw369_0)).trans hw369_0), ((HB.out.cell (World.block_lt_of_cell? w _ hw369_1)).trans hw369_1), ((HB.out.cell (World.block_lt_of_cell? w _ hw370_0)).trans hw370_0)⟩ (fun hHeld => ?_)
                                               clear hK K
                                               refine norm_ (a' := ?_) ?_ ?_
                                               rotate_left
                                               · show Act.put _ (some 101) _ = _
                                                 simp only [Act.put, List.setIfInBounds_toArray, List.set_cons_zero, List.set_cons_succ, i64_w, i32_w]
                                                 rfl
                                               refine pure_ (i := 14) (N := some 102) (v := ?_) (a' := ?_) #[true, true, true, true, true, true, true, true, true, true, true, true, true, true, true, false, false] rfl rfl (any_of HT_.out (by kernel_rfl)) (fun _ _ _ h => h) (Or.inl ⟨by rfl, ?_⟩) ?_ ?_
                                               rotate_left
                                               · intro w'
                                                 go_simp
                                                 with_reducible rfl
                                               rotate_left
                                               · simp only [Act.put, List.setIfInBounds_toArray, List.set_cons_zero, List.set_cons_succ, i64_w, i32_w]
                                                 rfl
                                               refine one_ (i := 15) (N := none) #[true, true, true, true, true, true, true, true, true, true, true, true, true, true, true, true, false] rfl rfl (one_of HT_.out (by kernel_rfl)) (by decide) (fun K hK => ?_)
                                               have hs36 : w33.cell? ⟨gb355, 0, none⟩ = some (.int .i64 x356000_6) := (blk_cell BK355.out 0).trans rfl
                                               have hfs36 := blk_frozen BK355.out 0
                                               have hs37 : w33.cell? ⟨gb355, 1, none⟩ = some (.slice none 0 0) := (blk_cell BK355.out 1).trans rfl
                                               have hfs37 := blk_frozen BK355.out 1
                                               refine skip_ (w1 := ?_) (by rfl) rfl ?_ ?_
                                               rotate_left
                                               · go_simp
                                                 rfl
                                               refine hK.out _ _ ⟨((cell_far (p := ⟨gb355, _, none⟩) (by first | exact Nat.ne_of_lt (Nat.lt_of_lt_of_le (by have := World.block_lt_of_cell? _ _ hw368_0; first | rwa [add_block] at this | exact this) GW355.out) | (rw [add_block]; exact Nat.ne_of_lt (Nat.lt_of_lt_of_le (by have := World.block_lt_of_cell? _ _ hw368_0; first | rwa [add_block] at this | exact this) GW355.out)) | (show (Addr.add _ _).block ≠ _; rw [add_block]; exact Nat.ne_of_lt (Nat.lt_of_lt_of_le (by have := World.block_lt_of_cell? _ _ hw368_0; first | rwa [add_block] at this | exact this) GW355.out)) | (dsimp only; exact Nat.ne_of_lt (Nat.lt_of_lt_of_le (by have := World.block_lt_of_cell? _ _ hw368_0; first | rwa [add_block] at this | exact this) GW355.out))) _).trans (((cell_far (p := ⟨gb355, _, none⟩) (by first | exact Nat.ne_of_lt (Nat.lt_of_lt_of_le (by have := World.block_lt_of_cell? _ _ hw368_0; first | rwa [add_block] at this | exact this) GW355.out) | (rw [add_block]; exact Nat.ne_of_lt (Nat.lt_of_lt_of_le (by have := World.block_lt_of_cell? _ _ hw368_0; first | rwa [add_block] at this | exact this) GW355.out)) | (show (Addr.add _ _).block ≠ _; rw [add_block]; exact Nat.ne_of_lt (Nat.lt_of_lt_of_le (by have := World.block_lt_of_cell? _ _ hw368_0; first | rwa [add_block] at this | exact this) GW355.out)) | (dsimp only; exact Nat.ne_of_lt (Nat.lt_of_lt_of_le (by have := World.block_lt_of_cell? _ _ hw368_0; first | rwa [add_block] at this | exact this) GW355.out))) _).trans (hHeld.1)))), ((cell_far (p := ⟨gb355, _, none⟩) (by first | exact Nat.ne_of_lt (Nat.lt_of_lt_of_le (by have := World.block_lt_of_cell? _ _ hw368_1; first | rwa [add_block] at this | exact this) GW355.out) | (rw [add_block]; exact Nat.ne_of_lt (Nat.lt_of_lt_of_le (by have := World.block_lt_of_cell? _ _ hw368_1; first | rwa [add_block] at this | exact this) GW355.out)) | (show (Addr.add _ _).block ≠ _; rw [add_block]; exact Nat.ne_of_lt (Nat.lt_of_lt_of_le (by have := World.block_lt_of_cell? _ _ hw368_1; first | rwa [add_block] at this | exact this) GW355.out)) | (dsimp only; exact Nat.ne_of_lt (Nat.lt_of_lt_of_le (by have := World.block_lt_of_cell? _ _ hw368_1; first | rwa [add_block] at this | exact this) GW355.out))) _).trans (((cell_far (p := ⟨gb355, _, none⟩) (by first | exact Nat.ne_of_lt (Nat.lt_of_lt_of_le (by have := World.block_lt_of_cell? _ _ hw368_1; first | rwa [add_block] at this | exact this) GW355.out) | (rw [add_block]; exact Nat.ne_of_lt (Nat.lt_of_lt_of_le (by have := World.block_lt_of_cell? _ _ hw368_1; first | rwa [add_block] at this | exact this) GW355.out)) | (show (Addr.add _ _).block ≠ _; rw [add_block]; exact Nat.ne_of_lt (Nat.lt_of_lt_of_le (by have := World.block_lt_of_cell? _ _ hw368_1; first | rwa [add_block] at this | exact this) GW355.out)) | (dsimp only; exact Nat.ne_of_lt (Nat.lt_of_lt_of_le (by have := World.block_lt_of_cell? _ _ hw368_1; first | rwa [add_block] at this | exact this) GW355.out))) _).trans (hHeld.2.1)))), ((cell_far (p := ⟨gb355, _, none⟩) (by first | exact Nat.ne_of_lt (Nat.lt_of_lt_of_le (by have := World.block_lt_of_cell? _ _ hw369_0; first | rwa [add_block] at this | exact this) GW355.out) | (rw [add_block]; exact Nat.ne_of_lt (Nat.lt_of_lt_of_le (by have := World.block_lt_of_cell? _ _ hw369_0; first | rwa [add_block] at this | exact this) GW355.out)) | (show (Addr.add _ _).block ≠ _; rw [add_block]; exact Nat.ne_of_lt (Nat.lt_of_lt_of_le (by have := World.block_lt_of_cell? _ _ hw369_0; first | rwa [add_block] at this | exact this) GW355.out)) | (dsimp only; exact Nat.ne_of_lt (Nat.lt_of_lt_of_le (by have := World.block_lt_of_cell? _ _ hw369_0; first | rwa [add_block] at this | exact this) GW355.out))) _).trans (((cell_far (p := ⟨gb355, _, none⟩) (by first | exact Nat.ne_of_lt (Nat.lt_of_lt_of_le (by have := World.block_lt_of_cell? _ _ hw369_0; first | rwa [add_block] at this | exact this) GW355.out) | (rw [add_block]; exact Nat.ne_of_lt (Nat.lt_of_lt_of_le (by have := World.block_lt_of_cell? _ _ hw369_0; first | rwa [add_block] at this | exact this) GW355.out)) | (show (Addr.add _ _).block ≠ _; rw [add_block]; exact Nat.ne_of_lt (Nat.lt_of_lt_of_le (by have := World.block_lt_of_cell? _ _ hw369_0; first | rwa [add_block] at this | exact this) GW355.out)) | (dsimp only; exact Nat.ne_of_lt (Nat.lt_of_lt_of_le (by have := World.block_lt_of_cell? _ _ hw369_0; first | rwa [add_block] at this | exact this) GW355.out))) _).trans (hHeld.2.2.1)))), ((cell_far (p := ⟨gb355, _, none⟩) (by first | exact Nat.ne_of_lt (Nat.lt_of_lt_of_le (by have := World.block_lt_of_cell? _ _ hw369_1; first | rwa [add_block] at this | exact this) GW355.out) | (rw [add_block]; exact Nat.ne_of_lt (Nat.lt_of_lt_of_le (by have := World.block_lt_of_cell? _ _ hw369_1; first | rwa [add_block] at this | exact this) GW355.out)) | (show (Addr.add _ _).block ≠ _; rw [add_block]; exact Nat.ne_of_lt (Nat.lt_of_lt_of_le (by have := World.block_lt_of_cell? _ _ hw369_1; first | rwa [add_block] at this | exact this) GW355.out)) | (dsimp only; exact Nat.ne_of_lt (Nat.lt_of_lt_of_le (by have := World.block_lt_of_cell? _ _ hw369_1; first | rwa [add_block] at this | exact this) GW355.out))) _).trans (((cell_far (p := ⟨gb355, _, none⟩) (by first | exact Nat.ne_of_lt (Nat.lt_of_lt_of_le (by have := World.block_lt_of_cell? _ _ hw369_1; first | rwa [add_block] at this | exact this) GW355.out) | (rw [add_block]; exact Nat.ne_of_lt (Nat.lt_of_lt_of_le (by have := World.block_lt_of_cell? _ _ hw369_1; first | rwa [add_block] at this | exact this) GW355.out)) | (show (Addr.add _ _).block ≠ _; rw [add_block]; exact Nat.ne_of_lt (Nat.lt_of_lt_of_le (by have := World.block_lt_of_cell? _ _ hw369_1; first | rwa [add_block] at this | exact this) GW355.out)) | (dsimp only; exact Nat.ne_of_lt (Nat.lt_of_lt_of_le (by have := World.block_lt_of_cell? _ _ hw369_1; first | rwa [add_block] at this | exact this) GW355.out))) _).trans (hHeld.2.2.2.1)))), ((cell_far (p := ⟨gb355, _, none⟩) (by first | exact Nat.ne_of_lt (Nat.lt_of_lt_of_le (by have := World.block_lt_of_cell? _ _ hw370_0; first | rwa [add_block] at this | exact this) GW355.out) | (rw [add_block]; exact Nat.ne_of_lt (Nat.lt_of_lt_of_le (by have := World.block_lt_of_cell? _ _ hw370_0; first | rwa [add_block] at this | exact this) GW355.out)) | (show (Addr.add _ _).block ≠ _; rw [add_block]; exact Nat.ne_of_lt (Nat.lt_of_lt_of_le (by have := World.block_lt_of_cell? _ _ hw370_0; first | rwa [add_block] at this | exact this) GW355.out)) | (dsimp only; exact Nat.ne_of_lt (Nat.lt_of_lt_of_le (by have := World.block_lt_of_cell? _ _ hw370_0; first | rwa [add_block] at this | exact this) GW355.out))) _).trans (((cell_far (p := ⟨gb355, _, none⟩) (by first | exact Nat.ne_of_lt (Nat.lt_of_lt_of_le (by have := World.block_lt_of_cell? _ _ hw370_0; first | rwa [add_block] at this | exact this) GW355.out) | (rw [add_block]; exact Nat.ne_of_lt (Nat.lt_of_lt_of_le (by have := World.block_lt_of_cell? _ _ hw370_0; first | rwa [add_block] at this | exact this) GW355.out)) | (show (Addr.add _ _).block ≠ _; rw [add_block]; exact Nat.ne_of_lt (Nat.lt_of_lt_of_le (by have := World.block_lt_of_cell? _ _ hw370_0; first | rwa [add_block] at this | exact this) GW355.out)) | (dsimp only; exact Nat.ne_of_lt (Nat.lt_of_lt_of_le (by have := World.block_lt_of_cell? _ _ hw370_0; first | rwa [add_block] at this | exact this) GW355.out))) _).trans (hHeld.2.2.2.2))))⟩ (fun hHeld => ?_)
                                               clear hK K
                                               refine pure_ (i := 16) (N := some 5) (v := ?_) (a' := ?_) #[true, true, true, true, true, true, true, true, true, true, true, true, true, true, true, true, true] rfl rfl (any_of HT_.out (by kernel_rfl)) (fun _ _ _ h => h) (Or.inl ⟨by rfl, ?_⟩) ?_ ?_
                                               rotate_left
                                               · intro w'
                                                 go_simp
                                                 with_reducible rfl
                                               rotate_left
                                               · simp only [Act.put, List.setIfInBounds_toArray, List.set_cons_zero, List.set_cons_succ, i64_w, i32_w]
                                                 rfl
                                               refine done_ (done_of HT_.out (by kernel_rfl)) ?_
                                               try go_wp2
                                               refine bodyPost_ret (results_ct rfl _ _ gb355 34 #[.int .i64 ((rd_T34 l0 x6_3).f0), .slice Ao35 y371.length co35] (0, 0) _ rfl (by (with_reducible repeat (first | refine blk_drewN ?_ _ | refine blk_drew ?_ | refine blk_alloc ?_ _)); refine blk_put (cs := #[.int .i64 ((rd_T34 l0 x6_3).f0), .slice none 0 0]) ?_ 1 _ rfl; (with_reducible repeat (first | refine blk_drewN ?_ _ | refine blk_drew ?_ | refine blk_alloc ?_ _)); refine blk_put (cs := #[.int .i64 x356000_6, .slice none 0 0]) ?_ 0 _ rfl; (with_reducible repeat (first | refine blk_drewN ?_ _ | refine blk_drew ?_ | refine blk_alloc ?_ _)); exact BK355.out) Try.underlying34 rfl (by kernel_rfl)) rfl ?_
                                               exact ⟨_, by first | rfl | (simp [errW_none, errW_some] <;> rfl) | (simp [*, errW_none, errW_some] <;> rfl), by (with_reducible repeat (first | apply Kd.R_alloc | apply Kd.R_drewN | apply Kd.R_drew)); exact Kd.R_mono (Kd.R_far (p := ⟨gb355, 1, none⟩) (Kd.R_far (p := ⟨gb355, 0, none⟩) (Kd.R_types HO373.out BK355.out (by decide)) (fun _ hk => hk.2) (.int .i64 ((rd_T34 l0 x6_3).f0))) (fun _ hk => hk.2) (.slice Ao35 y371.length co35)) (fun _ hk => trivial), by repeat (first | (with_reducible first | exact HB.out | apply below_alloc | apply pw_below_drewN | apply below_drew1 | refine below_set ?_ GE355.out) | exact HB.out)⟩
                                             · rw [if_neg c30] at H
                                               have c30b0 : ((rd ((rd_T34 l1 x8_5).f1) x9_6) == (rd ((rd_T34 l0 x6_3).f1) x7_4)) = false := beq_eq_false_iff_ne.mpr c30
                                               have c30b1 : ((rd ((rd_T34 l1 x8_5).f1) x9_6) != (rd ((rd_T34 l0 x6_3).f1) x7_4)) = true := bne_iff_ne.mpr c30
                                               have H' := Aside0.mk H
                                               clear H
                                               have p361 : 0 ≤ (x8_5 : Int) := of_decide_eq_true (by first | (with_reducible assumption) | assumption)
                                               have q361 : x8_5 < (l1.length : Int) := of_decide_eq_true (by first | (with_reducible assumption) | assumption)
                                               obtain ⟨ad361, A361_1, c361_1, e361, hx361_0, hx361_1, hl361_1, hi361_1⟩ := at_T34 HR1.out x8_5 p361 q361
                                               cases e361
                                               replace hx361_0 := (HB.out.cell (World.block_lt_of_cell? w _ hx361_0)).trans hx361_0
                                               replace hx361_1 := (HB.out.cell (World.block_lt_of_cell? w _ hx361_1)).trans hx361_1
                                               have HR361_1 := Aside0.mk hi361_1
                                               have HC361_1 := Aside0.mk hl361_1
                                               clear hi361_1 hl361_1
                                               replace p361 := eq_true p361
                                               replace q361 := eq_true q361
                                               try go_wp2
                                               have n0_ := Aside0.mk (blk_drew BK355.out)
                                               have n1_ := Aside0.mk (below_drew1 HB.out)
                                               clear BK355
                                               clear HB
                                               have BK355 := n0_
                                               have HB := n1_
                                               clear n0_ n1_
                                               have p362 : 0 ≤ (x8_5 : Int) := of_decide_eq_true (by first | (with_reducible assumption) | assumption)
                                               have q362 : x8_5 < (l1.length : Int) := of_decide_eq_true (by first | (with_reducible assumption) | assumption)
                                               obtain ⟨ad362, A362_1, c362_1, e362, hx362_0, hx362_1, hl362_1, hi362_1⟩ := at_T34 HR1.out x8_5 p362 q362
                                               have hw362_1 := hx362_1
                                               have hw362_0 := hx362_0
                                               obtain rfl : ad361 = ad362 := (by injection e362)
                                               replace hx362_0 := (HB.out.cell (World.block_lt_of_cell? w _ hx362_0)).trans hx362_0
                                               replace hx362_1 := (HB.out.cell (World.block_lt_of_cell? w _ hx362_1)).trans hx362_1
                                               have HR362_1 := Aside0.mk hi362_1
                                               have HC362_1 := Aside0.mk hl362_1
                                               clear hi362_1 hl362_1
                                               replace p362 := eq_true p362
                                               replace q362 := eq_true q362
                                               have p363 : 0 ≤ (x6_3 : Int) := of_decide_eq_true (by first | (with_reducible assumption) | assumption)
                                               have q363 : x6_3 < (l0.length : Int) := of_decide_eq_true (by first | (with_reducible assumption) | assumption)
                                               obtain ⟨ad363, A363_1, c363_1, e363, hx363_0, hx363_1, hl363_1, hi363_1⟩ := at_T34 HR0.out x6_3 p363 q363
                                               have hw363_1 := hx363_1
                                               have hw363_0 := hx363_0
                                               obtain rfl : ad360 = ad363 := (by injection e363)
                                               replace hx363_0 := (HB.out.cell (World.block_lt_of_cell? w _ hx363_0)).trans hx363_0
                                               replace hx363_1 := (HB.out.cell (World.block_lt_of_cell? w _ hx363_1)).trans hx363_1
                                               have HR363_1 := Aside0.mk hi363_1
                                               have HC363_1 := Aside0.mk hl363_1
                                               clear hi363_1 hl363_1
                                               replace p363 := eq_true p363
                                               replace q363 := eq_true q363
                                               have p364 : 0 ≤ (x8_5 : Int) := of_decide_eq_true (by first | (with_reducible assumption) | assumption)
                                               have q364 : x8_5 < (l1.length : Int) := of_decide_eq_true (by first | (with_reducible assumption) | assumption)
                                               obtain ⟨ad364, A364_1, c364_1, e364, hx364_0, hx364_1, hl364_1, hi364_1⟩ := at_T34 HR1.out x8_5 p364 q364
                                               have hw364_1 := hx364_1
                                               have hw364_0 := hx364_0
                                               obtain rfl : ad361 = ad364 := (by injection e364)
                                               replace hx364_0 := (HB.out.cell (World.block_lt_of_cell? w _ hx364_0)).trans hx364_0
                                               replace hx364_1 := (HB.out.cell (World.block_lt_of_cell? w _ hx364_1)).trans hx364_1
                                               have HR364_1 := Aside0.mk hi364_1
                                               have HC364_1 := Aside0.mk hl364_1
                                               clear hi364_1 hl364_1
                                               replace p364 := eq_true p364
                                               replace q364 := eq_true q364
                                               have ea_ := Option.some.inj (hx362_1.symm.trans hx364_1)
                                               injection ea_ with ea_ en_ ec_
                                               subst ea_
                                               subst ec_
                                               clear en_
                                               have p365 : 0 ≤ (x9_6 : Int) := of_decide_eq_true (by first | (with_reducible assumption) | assumption)
                                               have q365 : x9_6 < (((rd_T34 l1 x8_5).f1).length : Int) := of_decide_eq_true (by first | (with_reducible assumption) | assumption)
                                               obtain ⟨ad365, e365, hx365_0⟩ := Kd.at_int HR364_1.out x9_6 p365 q365
                                               have hw365_0 := hx365_0
                                               cases e365
                                               replace hx365_0 := (HB.out.cell (World.block_lt_of_cell? w _ hx365_0)).trans hx365_0
                                               replace p365 := eq_true p365
                                               replace q365 := eq_true q365
                                               have p366 : 0 ≤ (x6_3 : Int) := of_decide_eq_true (by first | (with_reducible assumption) | assumption)
                                               have q366 : x6_3 < (l0.length : Int) := of_decide_eq_true (by first | (with_reducible assumption) | assumption)
                                               obtain ⟨ad366, A366_1, c366_1, e366, hx366_0, hx366_1, hl366_1, hi366_1⟩ := at_T34 HR0.out x6_3 p366 q366
                                               have hw366_1 := hx366_1
                                               have hw366_0 := hx366_0
                                               obtain rfl : ad360 = ad366 := (by injection e366)
                                               replace hx366_0 := (HB.out.cell (World.block_lt_of_cell? w _ hx366_0)).trans hx366_0
                                               replace hx366_1 := (HB.out.cell (World.block_lt_of_cell? w _ hx366_1)).trans hx366_1
                                               have HR366_1 := Aside0.mk hi366_1
                                               have HC366_1 := Aside0.mk hl366_1
                                               clear hi366_1 hl366_1
                                               replace p366 := eq_true p366
                                               replace q366 := eq_true q366
                                               have ea_ := Option.some.inj (hx363_1.symm.trans hx366_1)
                                               injection ea_ with ea_ en_ ec_
                                               subst ea_
                                               subst ec_
                                               clear en_
                                               have p367 : 0 ≤ (x7_4 : Int) := of_decide_eq_true (by first | (with_reducible assumption) | assumption)
                                               have q367 : x7_4 < (((rd_T34 l0 x6_3).f1).length : Int) := of_decide_eq_true (by first | (with_reducible assumption) | assumption)
                                               obtain ⟨ad367, e367, hx367_0⟩ := Kd.at_int HR366_1.out x7_4 p367 q367
                                               have hw367_0 := hx367_0
                                               cases e367
                                               replace hx367_0 := (HB.out.cell (World.block_lt_of_cell? w _ hx367_0)).trans hx367_0
                                               replace p367 := eq_true p367
                                               replace q367 := eq_true q367
                                               refine start_ (n := 30) (S := fun w' => w'.cell? (ad361.add ((x8_5).toNat * 2)) = some (.int .i64 ((rd_T34 l1 x8_5).f0)) ∧ w'.cell? ⟨(ad361.add ((x8_5).toNat * 2)).block, (ad361.add ((x8_5).toNat * 2)).off + 1, none⟩ = some (.slice (some ad365) ((rd_T34 l1 x8_5).f1).length c362_1) ∧ w'.cell? (ad360.add ((x6_3).toNat * 2)) = some (.int .i64 ((rd_T34 l0 x6_3).f0)) ∧ w'.cell? ⟨(ad360.add ((x6_3).toNat * 2)).block, (ad360.add ((x6_3).toNat * 2)).off + 1, none⟩ = some (.slice (some ad367) ((rd_T34 l0 x6_3).f1).length c363_1) ∧ w'.cell? (ad361.add ((x8_5).toNat * 2)) = some (.int .i64 ((rd_T34 l1 x8_5).f0)) ∧ w'.cell? ⟨(ad361.add ((x8_5).toNat * 2)).block, (ad361.add ((x8_5).toNat * 2)).off + 1, none⟩ = some (.slice (some ad365) ((rd_T34 l1 x8_5).f1).length c362_1) ∧ w'.cell? (ad365.add (x9_6).toNat) = some (.int .i64 (rd ((rd_T34 l1 x8_5).f1) x9_6)) ∧ w'.cell? (ad360.add ((x6_3).toNat * 2)) = some (.int .i64 ((rd_T34 l0 x6_3).f0)) ∧ w'.cell? ⟨(ad360.add ((x6_3).toNat * 2)).block, (ad360.add ((x6_3).toNat * 2)).off + 1, none⟩ = some (.slice (some ad367) ((rd_T34 l0 x6_3).f1).length c363_1) ∧ w'.cell? (ad367.add (x7_4).toNat) = some (.int .i64 (rd ((rd_T34 l0 x6_3).f1) x7_4))) (ds := []) #[false, false, false, false, false, false, false, false, false, false, false, false, false, false, false, false, false, false, false, false, false, false, false, false, false, false, false, false, false, false] (by kernel_rfl) rfl rfl ⟨((HB.out.cell (World.block_lt_of_cell? w _ hw362_0)).trans hw362_0), ((HB.out.cell (World.block_lt_of_cell? w _ hw362_1)).trans hw362_1), ((HB.out.cell (World.block_lt_of_cell? w _ hw363_0)).trans hw363_0), ((HB.out.cell (World.block_lt_of_cell? w _ hw363_1)).trans hw363_1), ((HB.out.cell (World.block_lt_of_cell? w _ hw364_0)).trans hw364_0), ((HB.out.cell (World.block_lt_of_cell? w _ hw364_1)).trans hw364_1), ((HB.out.cell (World.block_lt_of_cell? w _ hw365_0)).trans hw365_0), ((HB.out.cell (World.block_lt_of_cell? w _ hw366_0)).trans hw366_0), ((HB.out.cell (World.block_lt_of_cell? w _ hw366_1)).trans hw366_1), ((HB.out.cell (World.block_lt_of_cell? w _ hw367_0)).trans hw367_0)⟩ (fun hHeld => ?_); refine with_tabW continuoref25_Agree.tab17 continuoref25_Agree.bits17 (fun HT_ HW_ => ?_)
                                               generalize wr.drew = w38 at BK355 HB HR362_1 HR363_1 HR364_1 HR366_1 hx362_0 hx362_1 hx363_0 hx363_1 hx364_0 hx364_1 hx365_0 hx366_0 hx366_1 hx367_0 hHeld ⊢
                                               refine pure_ (i := 0) (N := some 58) (v := ?_) (a' := ?_) #[true, false, false, false, false, false, false, false, false, false, false, false, false, false, false, false, false, false, false, false, false, false, false, false, false, false, false, false, false, false] rfl rfl (any_of HT_.out (by kernel_rfl)) (fun _ _ _ h => h) (Or.inl ⟨by rfl, ?_⟩) ?_ ?_
                                               rotate_left
                                               · intro w'
                                                 go_simp
                                                 with_reducible rfl
                                               rotate_left
                                               · simp only [Act.put, List.setIfInBounds_toArray, List.set_cons_zero, List.set_cons_succ, i64_w, i32_w]
                                                 rfl
                                               refine pure_ (i := 1) (N := some 59) (v := ?_) (a' := ?_) #[true, true, false, false, false, false, false, false, false, false, false, false, false, false, false, false, false, false, false, false, false, false, false, false, false, false, false, false, false, false] rfl rfl (any_of HT_.out (by kernel_rfl)) (fun _ _ _ h => h) (Or.inl ⟨by rfl, ?_⟩) ?_ ?_
                                               rotate_left
                                               · intro w'
                                                 go_simp
                                                 with_reducible rfl
                                               rotate_left
                                               · simp only [Act.put, List.setIfInBounds_toArray, List.set_cons_zero, List.set_cons_succ, i64_w, i32_w]
                                                 rfl
                                               refine pure_ (i := 2) (N := some 60) (v := ?_) (a' := ?_) #[true, true, true, false, false, false, false, false, false, false, false, false, false, false, false, false, false, false, false, false, false, false, false, false, false, false, false, false, false, false] rfl rfl (any_of HT_.out (by kernel_rfl)) (fun _ _ _ h => h) (Or.inl ⟨by rfl, ?_⟩) ?_ ?_
                                               rotate_left
                                               · intro w'
                                                 go_simp
                                                 with_reducible rfl
                                               rotate_left
                                               · simp only [Act.put, List.setIfInBounds_toArray, List.set_cons_zero, List.set_cons_succ, i64_w, i32_w]
                                                 rfl
                                               refine pure_ (i := 3) (N := some 61) (v := ?_) (a' := ?_) #[true, true, true, true, false, false, false, false, false, false, false, false, false, false, false, false, false, false, false, false, false, false, false, false, false, false, false, false, false, false] rfl rfl (any_of HT_.out (by kernel_rfl)) (fun _ _ _ h => h) (Or.inl ⟨by rfl, ?_⟩) ?_ ?_
                                               rotate_left
                                               · intro w'
                                                 go_simp
                                                 with_reducible rfl
                                               rotate_left
                                               · simp only [Act.put, List.setIfInBounds_toArray, List.set_cons_zero, List.set_cons_succ, i64_w, i32_w]
                                                 rfl
                                               refine pure_ (i := 5) (N := some 63) (v := ?_) (a' := ?_) #[true, true, true, true, false, true, false, false, false, false, false, false, false, false, false, false, false, false, false, false, false, false, false, false, false, false, false, false, false, false] rfl rfl (any_of HT_.out (by kernel_rfl)) (fun _ _ _ h => h) (Or.inl ⟨by rfl, ?_⟩) ?_ ?_
                                               rotate_left
                                               · intro w'
                                                 go_simp
                                                 with_reducible rfl
                                               rotate_left
                                               · simp only [Act.put, List.setIfInBounds_toArray, List.set_cons_zero, List.set_cons_succ, i64_w, i32_w]
                                                 rfl
                                               refine pure_ (i := 6) (N := some 64) (v := ?_) (a' := ?_) #[true, true, true, true, false, true, true, false, false, false, false, false, false, false, false, false, false, false, false, false, false, false, false, false, false, false, false, false, false, false] rfl rfl (any_of HT_.out (by kernel_rfl)) (fun _ _ _ h => h) (Or.inl ⟨by rfl, ?_⟩) ?_ ?_
                                               rotate_left
                                               · intro w'
                                                 go_simp
                                                 with_reducible rfl
                                               rotate_left
                                               · simp only [Act.put, List.setIfInBounds_toArray, List.set_cons_zero, List.set_cons_succ, i64_w, i32_w]
                                                 rfl
                                               refine pure_ (i := 7) (N := some 65) (v := ?_) (a' := ?_) #[true, true, true, true, false, true, true, true, false, false, false, false, false, false, false, false, false, false, false, false, false, false, false, false, false, false, false, false, false, false] rfl rfl (any_of HT_.out (by kernel_rfl)) (fun _ _ _ h => h) (Or.inl ⟨by rfl, ?_⟩) ?_ ?_
                                               rotate_left
                                               · intro w'
                                                 go_simp
                                                 with_reducible rfl
                                               rotate_left
                                               · simp only [Act.put, List.setIfInBounds_toArray, List.set_cons_zero, List.set_cons_succ, i64_w, i32_w]
                                                 rfl
                                               refine pure_ (i := 8) (N := some 66) (v := ?_) (a' := ?_) #[true, true, true, true, false, true, true, true, true, false, false, false, false, false, false, false, false, false, false, false, false, false, false, false, false, false, false, false, false, false] rfl rfl (any_of HT_.out (by kernel_rfl)) (fun _ _ _ h => h) (Or.inl ⟨by rfl, ?_⟩) ?_ ?_
                                               rotate_left
                                               · intro w'
                                                 go_simp
                                                 with_reducible rfl
                                               rotate_left
                                               · simp only [Act.put, List.setIfInBounds_toArray, List.set_cons_zero, List.set_cons_succ, i64_w, i32_w]
                                                 rfl
                                               refine take_ (i := 4) (N := some 62) (v := ?_) (a' := ?_) #[true, true, true, true, true, true, true, true, true, false, false, false, false, false, false, false, false, false, false, false, false, false, false, false, false, false, false, false, false, false] rfl rfl (take_ofW HT_.out HW_.out (by kernel_rfl)) (fun _ _ _ h => h) (Or.inl ⟨by rfl, ?_⟩) hHeld ?_ ?_
                                               rotate_left
                                               · rintro w' ⟨s0, s1, s2, s3, s4, s5, s6, s7, s8, s9⟩
                                                 go_simp
                                                 with_reducible rfl
                                               rotate_left
                                               · simp only [Act.put, List.setIfInBounds_toArray, List.set_cons_zero, List.set_cons_succ, i64_w, i32_w]
                                                 rfl
                                               refine take_ (i := 9) (N := some 67) (v := ?_) (a' := ?_) #[true, true, true, true, true, true, true, true, true, true, false, false, false, false, false, false, false, false, false, false, false, false, false, false, false, false, false, false, false, false] rfl rfl (take_ofW HT_.out HW_.out (by kernel_rfl)) (fun _ _ _ h => h) (Or.inl ⟨by rfl, ?_⟩) hHeld ?_ ?_
                                               rotate_left
                                               · rintro w' ⟨s0, s1, s2, s3, s4, s5, s6, s7, s8, s9⟩
                                                 go_simp
                                                 with_reducible rfl
                                               rotate_left
                                               · simp only [Act.put, List.setIfInBounds_toArray, List.set_cons_zero, List.set_cons_succ, i64_w, i32_w]
                                                 rfl
                                               refine pure_ (i := 10) (N := some 68) (v := ?_) (a' := ?_) #[true, true, true, true, true, true, true, true, true, true, true, false, false, false, false, false, false, false, false, false, false, false, false, false, false, false, false, false, false, false] rfl rfl (any_of HT_.out (by kernel_rfl)) (fun _ _ _ h => h) (Or.inl ⟨by rfl, ?_⟩) ?_ ?_
                                               rotate_left
                                               · intro w'
                                                 go_simp
                                                 with_reducible rfl
                                               rotate_left
                                               · simp only [Act.put, List.setIfInBounds_toArray, List.set_cons_zero, List.set_cons_succ, i64_w, i32_w]
                                                 rfl
                                               refine pure_ (i := 11) (N := some 69) (v := ?_) (a' := ?_) #[true, true, true, true, true, true, true, true, true, true, true, true, false, false, false, false, false, false, false, false, false, false, false, false, false, false, false, false, false, false] rfl rfl (any_of HT_.out (by kernel_rfl)) (fun _ _ _ h => h) (Or.inl ⟨by rfl, ?_⟩) ?_ ?_
                                               rotate_left
                                               · intro w'
                                                 go_simp
                                                 with_reducible rfl
                                               rotate_left
                                               · simp only [Act.put, List.setIfInBounds_toArray, List.set_cons_zero, List.set_cons_succ, i64_w, i32_w]
                                                 rfl
                                               refine pure_ (i := 12) (N := some 70) (v := ?_) (a' := ?_) #[true, true, true, true, true, true, true, true, true, true, true, true, true, false, false, false, false, false, false, false, false, false, false, false, false, false, false, false, false, false] rfl rfl (any_of HT_.out (by kernel_rfl)) (fun _ _ _ h => h) (Or.inl ⟨by rfl, ?_⟩) ?_ ?_
                                               rotate_left
                                               · intro w'
                                                 go_simp
                                                 with_reducible rfl
                                               rotate_left
                                               · simp only [Act.put, List.setIfInBounds_toArray, List.set_cons_zero, List.set_cons_succ, i64_w, i32_w]
                                                 rfl
                                               refine pure_ (i := 13) (N := some 71) (v := ?_) (a' := ?_) #[true, true, true, true, true, true, true, true, true, true, true, true, true, true, false, false, false, false, false, false, false, false, false, false, false, false, false, false, false, false] rfl rfl (any_of HT_.out (by kernel_rfl)) (fun _ _ _ h => h) (Or.inl ⟨by rfl, ?_⟩) ?_ ?_
                                               rotate_left
                                               · intro w'
                                                 go_simp
                                                 with_reducible rfl
                                               rotate_left
                                               · simp only [Act.put, List.setIfInBounds_toArray, List.set_cons_zero, List.set_cons_succ, i64_w, i32_w]
                                                 rfl
                                               refine pure_ (i := 14) (N := some 72) (v := ?_) (a' := ?_) #[true, true, true, true, true, true, true, true, true, true, true, true, true, true, true, false, false, false, false, false, false, false, false, false, false, false, false, false, false, false] rfl rfl (any_of HT_.out (by kernel_rfl)) (fun _ _ _ h => h) (Or.inl ⟨by rfl, ?_⟩) ?_ ?_
                                               rotate_left
                                               · intro w'
                                                 go_simp
                                                 with_reducible rfl
                                               rotate_left
                                               · simp only [Act.put, List.setIfInBounds_toArray, List.set_cons_zero, List.set_cons_succ, i64_w, i32_w]
                                                 rfl
                                               refine pure_ (i := 15) (N := some 73) (v := ?_) (a' := ?_) #[true, true, true, true, true, true, true, true, true, true, true, true, true, true, true, true, false, false, false, false, false, false, false, false, false, false, false, false, false, false] rfl rfl (any_of HT_.out (by kernel_rfl)) (fun _ _ _ h => h) (Or.inl ⟨by rfl, ?_⟩) ?_ ?_
                                               rotate_left
                                               · intro w'
                                                 go_simp
                                                 with_reducible rfl
                                               rotate_left
                                               · simp only [Act.put, List.setIfInBounds_toArray, List.set_cons_zero, List.set_cons_succ, i64_w, i32_w]
                                                 rfl
                                               refine pure_ (i := 17) (N := some 75) (v := ?_) (a' := ?_) #[true, true, true, true, true, true, true, true, true, true, true, true, true, true, true, true, false, true, false, false, false, false, false, false, false, false, false, false, false, false] rfl rfl (any_of HT_.out (by kernel_rfl)) (fun _ _ _ h => h) (Or.inl ⟨by rfl, ?_⟩) ?_ ?_
                                               rotate_left
                                               · intro w'
                                                 go_simp
                                                 with_reducible rfl
                                               rotate_left
                                               · simp only [Act.put, List.setIfInBounds_toArray, List.set_cons_zero, List.set_cons_succ, i64_w, i32_w]
                                                 rfl
                                               refine pure_ (i := 20) (N := some 78) (v := ?_) (a' := ?_) #[true, true, true, true, true, true, true, true, true, true, true, true, true, true, true, true, false, true, false, false, true, false, false, false, false, false, false, false, false, false] rfl rfl (any_of HT_.out (by kernel_rfl)) (fun _ _ _ h => h) (Or.inl ⟨by rfl, ?_⟩) ?_ ?_
                                               rotate_left
                                               · intro w'
                                                 go_simp
                                                 with_reducible rfl
                                               rotate_left
                                               · simp only [Act.put, List.setIfInBounds_toArray, List.set_cons_zero, List.set_cons_succ, i64_w, i32_w]
                                                 rfl
                                               refine pure_ (i := 21) (N := some 79) (v := ?_) (a' := ?_) #[true, true, true, true, true, true, true, true, true, true, true, true, true, true, true, true, false, true, false, false, true, true, false, false, false, false, false, false, false, false] rfl rfl (any_of HT_.out (by kernel_rfl)) (fun _ _ _ h => h) (Or.inl ⟨by rfl, ?_⟩) ?_ ?_
                                               rotate_left
                                               · intro w'
                                                 go_simp
                                                 with_reducible rfl
                                               rotate_left
                                               · simp only [Act.put, List.setIfInBounds_toArray, List.set_cons_zero, List.set_cons_succ, i64_w, i32_w]
                                                 rfl
                                               refine pure_ (i := 22) (N := some 80) (v := ?_) (a' := ?_) #[true, true, true, true, true, true, true, true, true, true, true, true, true, true, true, true, false, true, false, false, true, true, true, false, false, false, false, false, false, false] rfl rfl (any_of HT_.out (by kernel_rfl)) (fun _ _ _ h => h) (Or.inl ⟨by rfl, ?_⟩) ?_ ?_
                                               rotate_left
                                               · intro w'
                                                 go_simp
                                                 with_reducible rfl
                                               rotate_left
                                               · simp only [Act.put, List.setIfInBounds_toArray, List.set_cons_zero, List.set_cons_succ, i64_w, i32_w]
                                                 rfl
                                               refine pure_ (i := 23) (N := some 81) (v := ?_) (a' := ?_) #[true, true, true, true, true, true, true, true, true, true, true, true, true, true, true, true, false, true, false, false, true, true, true, true, false, false, false, false, false, false] rfl rfl (any_of HT_.out (by kernel_rfl)) (fun _ _ _ h => h) (Or.inl ⟨by rfl, ?_⟩) ?_ ?_
                                               rotate_left
                                               · intro w'
                                                 go_simp
                                                 with_reducible rfl
                                               rotate_left
                                               · simp only [Act.put, List.setIfInBounds_toArray, List.set_cons_zero, List.set_cons_succ, i64_w, i32_w]
                                                 rfl
                                               refine pure_ (i := 25) (N := some 83) (v := ?_) (a' := ?_) #[true, true, true, true, true, true, true, true, true, true, true, true, true, true, true, true, false, true, false, false, true, true, true, true, false, true, false, false, false, false] rfl rfl (any_of HT_.out (by kernel_rfl)) (fun _ _ _ h => h) (Or.inl ⟨by rfl, ?_⟩) ?_ ?_
                                               rotate_left
                                               · intro w'
                                                 go_simp
                                                 with_reducible rfl
                                               rotate_left
                                               · simp only [Act.put, List.setIfInBounds_toArray, List.set_cons_zero, List.set_cons_succ, i64_w, i32_w]
                                                 rfl
                                               refine take_ (i := 16) (N := some 74) (v := ?_) (a' := ?_) #[true, true, true, true, true, true, true, true, true, true, true, true, true, true, true, true, true, true, false, false, true, true, true, true, false, true, false, false, false, false] rfl rfl (take_ofW HT_.out HW_.out (by kernel_rfl)) (fun _ _ _ h => h) (Or.inl ⟨by rfl, ?_⟩) hHeld ?_ ?_
                                               rotate_left
                                               · rintro w' ⟨s0, s1, s2, s3, s4, s5, s6, s7, s8, s9⟩
                                                 go_simp
                                                 with_reducible rfl
                                               rotate_left
                                               · simp only [Act.put, List.setIfInBounds_toArray, List.set_cons_zero, List.set_cons_succ, i64_w, i32_w]
                                                 rfl
                                               refine pure_ (i := 18) (N := some 76) (v := ?_) (a' := ?_) #[true, true, true, true, true, true, true, true, true, true, true, true, true, true, true, true, true, true, true, false, true, true, true, true, false, true, false, false, false, false] rfl rfl (any_of HT_.out (by kernel_rfl)) (fun _ _ _ h => h) (Or.inl ⟨by rfl, ?_⟩) ?_ ?_
                                               rotate_left
                                               · intro w'
                                                 go_simp
                                                 with_reducible rfl
                                               rotate_left
                                               · simp only [Act.put, List.setIfInBounds_toArray, List.set_cons_zero, List.set_cons_succ, i64_w, i32_w]
                                                 rfl
                                               refine take_ (i := 19) (N := some 77) (v := ?_) (a' := ?_) #[true, true, true, true, true, true, true, true, true, true, true, true, true, true, true, true, true, true, true, true, true, true, true, true, false, true, false, false, false, false] rfl rfl (take_ofW HT_.out HW_.out (by kernel_rfl)) (fun _ _ _ h => h) (Or.inl ⟨by rfl, ?_⟩) hHeld ?_ ?_
                                               rotate_left
                                               · rintro w' ⟨s0, s1, s2, s3, s4, s5, s6, s7, s8, s9⟩
                                                 go_simp
                                                 with_reducible rfl
                                               rotate_left
                                               · simp only [Act.put, List.setIfInBounds_toArray, List.set_cons_zero, List.set_cons_succ, i64_w, i32_w]
                                                 rfl
                                               refine take_ (i := 24) (N := some 82) (v := ?_) (a' := ?_) #[true, true, true, true, true, true, true, true, true, true, true, true, true, true, true, true, true, true, true, true, true, true, true, true, true, true, false, false, false, false] rfl rfl (take_ofW HT_.out HW_.out (by kernel_rfl)) (fun _ _ _ h => h) (Or.inl ⟨by rfl, ?_⟩) hHeld ?_ ?_
                                               rotate_left
                                               · rintro w' ⟨s0, s1, s2, s3, s4, s5, s6, s7, s8, s9⟩
                                                 go_simp
                                                 with_reducible rfl
                                               rotate_left
                                               · simp only [Act.put, List.setIfInBounds_toArray, List.set_cons_zero, List.set_cons_succ, i64_w, i32_w]
                                                 rfl
                                               refine pure_ (i := 26) (N := some 84) (v := ?_) (a' := ?_) #[true, true, true, true, true, true, true, true, true, true, true, true, true, true, true, true, true, true, true, true, true, true, true, true, true, true, true, false, false, false] rfl rfl (any_of HT_.out (by kernel_rfl)) (fun _ _ _ h => h) (Or.inl ⟨by rfl, ?_⟩) ?_ ?_
                                               rotate_left
                                               · intro w'
                                                 go_simp
                                                 with_reducible rfl
                                               rotate_left
                                               · simp only [Act.put, List.setIfInBounds_toArray, List.set_cons_zero, List.set_cons_succ, i64_w, i32_w]
                                                 rfl
                                               refine take_ (i := 27) (N := some 85) (v := ?_) (a' := ?_) #[true, true, true, true, true, true, true, true, true, true, true, true, true, true, true, true, true, true, true, true, true, true, true, true, true, true, true, true, false, false] rfl rfl (take_ofW HT_.out HW_.out (by kernel_rfl)) (fun _ _ _ h => h) (Or.inl ⟨by rfl, ?_⟩) hHeld ?_ ?_
                                               rotate_left
                                               · rintro w' ⟨s0, s1, s2, s3, s4, s5, s6, s7, s8, s9⟩
                                                 go_simp
                                                 with_reducible rfl
                                               rotate_left
                                               · simp only [Act.put, List.setIfInBounds_toArray, List.set_cons_zero, List.set_cons_succ, i64_w, i32_w]
                                                 rfl
                                               refine pure_ (i := 28) (N := some 86) (v := ?_) (a' := ?_) #[true, true, true, true, true, true, true, true, true, true, true, true, true, true, true, true, true, true, true, true, true, true, true, true, true, true, true, true, true, false] rfl rfl (any_of HT_.out (by kernel_rfl)) (fun _ _ _ h => h) (Or.inl ⟨by rfl, ?_⟩) ?_ ?_
                                               rotate_left
                                               · intro w'
                                                 go_simp
                                                 with_reducible rfl
                                               rotate_left
                                               · simp only [Act.put, List.setIfInBounds_toArray, List.set_cons_zero, List.set_cons_succ, i64_w, i32_w]
                                                 rfl
                                               refine pure_ (i := 29) (N := some 87) (v := ?_) (a' := ?_) #[true, true, true, true, true, true, true, true, true, true, true, true, true, true, true, true, true, true, true, true, true, true, true, true, true, true, true, true, true, true] rfl rfl (any_of HT_.out (by kernel_rfl)) (fun _ _ _ h => h) (Or.inl ⟨by rfl, ?_⟩) ?_ ?_
                                               rotate_left
                                               · intro w'
                                                 go_simp
                                                 with_reducible rfl
                                               rotate_left
                                               · simp only [Act.put, List.setIfInBounds_toArray, List.set_cons_zero, List.set_cons_succ, i64_w, i32_w]
                                                 rfl
                                               refine done_ (done_of HT_.out (by kernel_rfl)) ?_
                                               try go_wp2
                                               go_roundg k6
                                               case measure => have := HJ2.out; have := HJ9.out; have := HK3.out; have := HK4.out; have := HK5.out; have := HK6.out; omega
                                               case rel => exact ⟨(wrap64 (x9_6 + 1)), (x356000_6), (by first | rfl | (simp; done) | (simp [*]; done)), H', ⟨by have := HJ2.out; have := HJ9.out; have := HK3.out; have := HK4.out; have := HK5.out; have := HK6.out; omega⟩, ⟨by (with_reducible repeat (first | refine blk_drewN ?_ _ | refine blk_drew ?_ | refine blk_alloc ?_ _)); exact BK355.out⟩, ⟨by repeat (first | (with_reducible first | exact HB.out | apply below_alloc | apply pw_below_drewN | apply below_drew1 | refine below_set ?_ GE355.out) | exact HB.out)⟩⟩
                                           · rw [if_neg c29] at H
                                             exact absurd H (by simp)
                                         · rw [if_neg c28] at H
                                           exact absurd H (by simp)
                                       · rw [if_neg c27] at H
                                         exact absurd H (by simp)
                                     · rw [if_neg c26] at H
                                       have c26b0 : (((rd_T34 l1 x8_5).f0) == ((rd_T34 l0 x6_3).f0)) = false := beq_eq_false_iff_ne.mpr c26
                                       have c26b1 : (((rd_T34 l1 x8_5).f0) != ((rd_T34 l0 x6_3).f0)) = true := bne_iff_ne.mpr c26
                                       have H' := Aside0.mk H
                                       clear H
                                       have p361 : 0 ≤ (x8_5 : Int) := of_decide_eq_true (by first | (with_reducible assumption) | assumption)
                                       have q361 : x8_5 < (l1.length : Int) := of_decide_eq_true (by first | (with_reducible assumption) | assumption)
                                       obtain ⟨ad361, A361_1, c361_1, e361, hx361_0, hx361_1, hl361_1, hi361_1⟩ := at_T34 HR1.out x8_5 p361 q361
                                       cases e361
                                       replace hx361_0 := (HB.out.cell (World.block_lt_of_cell? w _ hx361_0)).trans hx361_0
                                       replace hx361_1 := (HB.out.cell (World.block_lt_of_cell? w _ hx361_1)).trans hx361_1
                                       have HR361_1 := Aside0.mk hi361_1
                                       have HC361_1 := Aside0.mk hl361_1
                                       clear hi361_1 hl361_1
                                       replace p361 := eq_true p361
                                       replace q361 := eq_true q361
                                       try go_wp2
                                       have n0_ := Aside0.mk (blk_drew BK355.out)
                                       have n1_ := Aside0.mk (below_drew1 HB.out)
                                       clear BK355
                                       clear HB
                                       have BK355 := n0_
                                       have HB := n1_
                                       clear n0_ n1_
                                       have p362 : 0 ≤ (x8_5 : Int) := of_decide_eq_true (by first | (with_reducible assumption) | assumption)
                                       have q362 : x8_5 < (l1.length : Int) := of_decide_eq_true (by first | (with_reducible assumption) | assumption)
                                       obtain ⟨ad362, A362_1, c362_1, e362, hx362_0, hx362_1, hl362_1, hi362_1⟩ := at_T34 HR1.out x8_5 p362 q362
                                       have hw362_1 := hx362_1
                                       have hw362_0 := hx362_0
                                       obtain rfl : ad361 = ad362 := (by injection e362)
                                       replace hx362_0 := (HB.out.cell (World.block_lt_of_cell? w _ hx362_0)).trans hx362_0
                                       replace hx362_1 := (HB.out.cell (World.block_lt_of_cell? w _ hx362_1)).trans hx362_1
                                       have HR362_1 := Aside0.mk hi362_1
                                       have HC362_1 := Aside0.mk hl362_1
                                       clear hi362_1 hl362_1
                                       replace p362 := eq_true p362
                                       replace q362 := eq_true q362
                                       have p363 : 0 ≤ (x6_3 : Int) := of_decide_eq_true (by first | (with_reducible assumption) | assumption)
                                       have q363 : x6_3 < (l0.length : Int) := of_decide_eq_true (by first | (with_reducible assumption) | assumption)
                                       obtain ⟨ad363, A363_1, c363_1, e363, hx363_0, hx363_1, hl363_1, hi363_1⟩ := at_T34 HR0.out x6_3 p363 q363
                                       have hw363_1 := hx363_1
                                       have hw363_0 := hx363_0
                                       obtain rfl : ad360 = ad363 := (by injection e363)
                                       replace hx363_0 := (HB.out.cell (World.block_lt_of_cell? w _ hx363_0)).trans hx363_0
                                       replace hx363_1 := (HB.out.cell (World.block_lt_of_cell? w _ hx363_1)).trans hx363_1
                                       have HR363_1 := Aside0.mk hi363_1
                                       have HC363_1 := Aside0.mk hl363_1
                                       clear hi363_1 hl363_1
                                       replace p363 := eq_true p363
                                       replace q363 := eq_true q363
                                       refine start_ (n := 30) (S := fun w' => w'.cell? (ad361.add ((x8_5).toNat * 2)) = some (.int .i64 ((rd_T34 l1 x8_5).f0)) ∧ w'.cell? ⟨(ad361.add ((x8_5).toNat * 2)).block, (ad361.add ((x8_5).toNat * 2)).off + 1, none⟩ = some (.slice A362_1 ((rd_T34 l1 x8_5).f1).length c362_1) ∧ w'.cell? (ad360.add ((x6_3).toNat * 2)) = some (.int .i64 ((rd_T34 l0 x6_3).f0)) ∧ w'.cell? ⟨(ad360.add ((x6_3).toNat * 2)).block, (ad360.add ((x6_3).toNat * 2)).off + 1, none⟩ = some (.slice A363_1 ((rd_T34 l0 x6_3).f1).length c363_1)) (ds := []) #[false, false, false, false, false, false, false, false, false, false, false, false, false, false, false, false, false, false, false, false, false, false, false, false, false, false, false, false, false, false] (by kernel_rfl) rfl rfl ⟨((HB.out.cell (World.block_lt_of_cell? w _ hw362_0)).trans hw362_0), ((HB.out.cell (World.block_lt_of_cell? w _ hw362_1)).trans hw362_1), ((HB.out.cell (World.block_lt_of_cell? w _ hw363_0)).trans hw363_0), ((HB.out.cell (World.block_lt_of_cell? w _ hw363_1)).trans hw363_1)⟩ (fun hHeld => ?_); refine with_tabW continuoref25_Agree.tab17 continuoref25_Agree.bits17 (fun HT_ HW_ => ?_)
                                       generalize wr.drew = w39 at BK355 HB HR362_1 HR363_1 hx362_0 hx362_1 hx363_0 hx363_1 hHeld ⊢
                                       refine pure_ (i := 0) (N := some 58) (v := ?_) (a' := ?_) #[true, false, false, false, false, false, false, false, false, false, false, false, false, false, false, false, false, false, false, false, false, false, false, false, false, false, false, false, false, false] rfl rfl (any_of HT_.out (by kernel_rfl)) (fun _ _ _ h => h) (Or.inl ⟨by rfl, ?_⟩) ?_ ?_
                                       rotate_left
                                       · intro w'
                                         go_simp
                                         with_reducible rfl
                                       rotate_left
                                       · simp only [Act.put, List.setIfInBounds_toArray, List.set_cons_zero, List.set_cons_succ, i64_w, i32_w]
                                         rfl
                                       refine pure_ (i := 1) (N := some 59) (v := ?_) (a' := ?_) #[true, true, false, false, false, false, false, false, false, false, false, false, false, false, false, false, false, false, false, false, false, false, false, false, false, false, false, false, false, false] rfl rfl (any_of HT_.out (by kernel_rfl)) (fun _ _ _ h => h) (Or.inl ⟨by rfl, ?_⟩) ?_ ?_
                                       rotate_left
                                       · intro w'
                                         go_simp
                                         with_reducible rfl
                                       rotate_left
                                       · simp only [Act.put, List.setIfInBounds_toArray, List.set_cons_zero, List.set_cons_succ, i64_w, i32_w]
                                         rfl
                                       refine pure_ (i := 2) (N := some 60) (v := ?_) (a' := ?_) #[true, true, true, false, false, false, false, false, false, false, false, false, false, false, false, false, false, false, false, false, false, false, false, false, false, false, false, false, false, false] rfl rfl (any_of HT_.out (by kernel_rfl)) (fun _ _ _ h => h) (Or.inl ⟨by rfl, ?_⟩) ?_ ?_
                                       rotate_left
                                       · intro w'
                                         go_simp
                                         with_reducible rfl
                                       rotate_left
                                       · simp only [Act.put, List.setIfInBounds_toArray, List.set_cons_zero, List.set_cons_succ, i64_w, i32_w]
                                         rfl
                                       refine pure_ (i := 3) (N := some 61) (v := ?_) (a' := ?_) #[true, true, true, true, false, false, false, false, false, false, false, false, false, false, false, false, false, false, false, false, false, false, false, false, false, false, false, false, false, false] rfl rfl (any_of HT_.out (by kernel_rfl)) (fun _ _ _ h => h) (Or.inl ⟨by rfl, ?_⟩) ?_ ?_
                                       rotate_left
                                       · intro w'
                                         go_simp
                                         with_reducible rfl
                                       rotate_left
                                       · simp only [Act.put, List.setIfInBounds_toArray, List.set_cons_zero, List.set_cons_succ, i64_w, i32_w]
                                         rfl
                                       refine pure_ (i := 5) (N := some 63) (v := ?_) (a' := ?_) #[true, true, true, true, false, true, false, false, false, false, false, false, false, false, false, false, false, false, false, false, false, false, false, false, false, false, false, false, false, false] rfl rfl (any_of HT_.out (by kernel_rfl)) (fun _ _ _ h => h) (Or.inl ⟨by rfl, ?_⟩) ?_ ?_
                                       rotate_left
                                       · intro w'
                                         go_simp
                                         with_reducible rfl
                                       rotate_left
                                       · simp only [Act.put, List.setIfInBounds_toArray, List.set_cons_zero, List.set_cons_succ, i64_w, i32_w]
                                         rfl
                                       refine pure_ (i := 6) (N := some 64) (v := ?_) (a' := ?_) #[true, true, true, true, false, true, true, false, false, false, false, false, false, false, false, false, false, false, false, false, false, false, false, false, false, false, false, false, false, false] rfl rfl (any_of HT_.out (by kernel_rfl)) (fun _ _ _ h => h) (Or.inl ⟨by rfl, ?_⟩) ?_ ?_
                                       rotate_left
                                       · intro w'
                                         go_simp
                                         with_reducible rfl
                                       rotate_left
                                       · simp only [Act.put, List.setIfInBounds_toArray, List.set_cons_zero, List.set_cons_succ, i64_w, i32_w]
                                         rfl
                                       refine pure_ (i := 7) (N := some 65) (v := ?_) (a' := ?_) #[true, true, true, true, false, true, true, true, false, false, false, false, false, false, false, false, false, false, false, false, false, false, false, false, false, false, false, false, false, false] rfl rfl (any_of HT_.out (by kernel_rfl)) (fun _ _ _ h => h) (Or.inl ⟨by rfl, ?_⟩) ?_ ?_
                                       rotate_left
                                       · intro w'
                                         go_simp
                                         with_reducible rfl
                                       rotate_left
                                       · simp only [Act.put, List.setIfInBounds_toArray, List.set_cons_zero, List.set_cons_succ, i64_w, i32_w]
                                         rfl
                                       refine pure_ (i := 8) (N := some 66) (v := ?_) (a' := ?_) #[true, true, true, true, false, true, true, true, true, false, false, false, false, false, false, false, false, false, false, false, false, false, false, false, false, false, false, false, false, false] rfl rfl (any_of HT_.out (by kernel_rfl)) (fun _ _ _ h => h) (Or.inl ⟨by rfl, ?_⟩) ?_ ?_
                                       rotate_left
                                       · intro w'
                                         go_simp
                                         with_reducible rfl
                                       rotate_left
                                       · simp only [Act.put, List.setIfInBounds_toArray, List.set_cons_zero, List.set_cons_succ, i64_w, i32_w]
                                         rfl
                                       refine take_ (i := 4) (N := some 62) (v := ?_) (a' := ?_) #[true, true, true, true, true, true, true, true, true, false, false, false, false, false, false, false, false, false, false, false, false, false, false, false, false, false, false, false, false, false] rfl rfl (take_ofW HT_.out HW_.out (by kernel_rfl)) (fun _ _ _ h => h) (Or.inl ⟨by rfl, ?_⟩) hHeld ?_ ?_
                                       rotate_left
                                       · rintro w' ⟨s0, s1, s2, s3⟩
                                         go_simp
                                         with_reducible rfl
                                       rotate_left
                                       · simp only [Act.put, List.setIfInBounds_toArray, List.set_cons_zero, List.set_cons_succ, i64_w, i32_w]
                                         rfl
                                       refine take_ (i := 9) (N := some 67) (v := ?_) (a' := ?_) #[true, true, true, true, true, true, true, true, true, true, false, false, false, false, false, false, false, false, false, false, false, false, false, false, false, false, false, false, false, false] rfl rfl (take_ofW HT_.out HW_.out (by kernel_rfl)) (fun _ _ _ h => h) (Or.inl ⟨by rfl, ?_⟩) hHeld ?_ ?_
                                       rotate_left
                                       · rintro w' ⟨s0, s1, s2, s3⟩
                                         go_simp
                                         with_reducible rfl
                                       rotate_left
                                       · simp only [Act.put, List.setIfInBounds_toArray, List.set_cons_zero, List.set_cons_succ, i64_w, i32_w]
                                         rfl
                                       refine pure_ (i := 10) (N := some 68) (v := ?_) (a' := ?_) #[true, true, true, true, true, true, true, true, true, true, true, false, false, false, false, false, false, false, false, false, false, false, false, false, false, false, false, false, false, false] rfl rfl (any_of HT_.out (by kernel_rfl)) (fun _ _ _ h => h) (Or.inl ⟨by rfl, ?_⟩) ?_ ?_
                                       rotate_left
                                       · intro w'
                                         go_simp
                                         with_reducible rfl
                                       rotate_left
                                       · simp only [Act.put, List.setIfInBounds_toArray, List.set_cons_zero, List.set_cons_succ, i64_w, i32_w]
                                         rfl
                                       refine pure_ (i := 11) (N := some 69) (v := ?_) (a' := ?_) #[true, true, true, true, true, true, true, true, true, true, true, true, false, false, false, false, false, false, false, false, false, false, false, false, false, false, false, false, false, false] rfl rfl (any_of HT_.out (by kernel_rfl)) (fun _ _ _ h => h) (Or.inl ⟨by rfl, ?_⟩) ?_ ?_
                                       rotate_left
                                       · intro w'
                                         go_simp
                                         with_reducible rfl
                                       rotate_left
                                       · simp only [Act.put, List.setIfInBounds_toArray, List.set_cons_zero, List.set_cons_succ, i64_w, i32_w]
                                         rfl
                                       refine pure_ (i := 12) (N := some 70) (v := undef) (a' := ?_) #[true, true, true, true, true, true, true, true, true, true, true, true, true, false, false, false, false, false, false, false, false, false, false, false, false, false, false, false, false, false] rfl rfl (any_of HT_.out (by kernel_rfl)) (fun _ _ _ h => h) (Or.inr ⟨by rfl, rfl⟩) ?_ ?_
                                       rotate_left
                                       · simp only [Act.put, List.setIfInBounds_toArray, List.set_cons_zero, List.set_cons_succ, i64_w, i32_w]
                                         rfl
                                       refine pure_ (i := 13) (N := some 71) (v := undef) (a' := ?_) #[true, true, true, true, true, true, true, true, true, true, true, true, true, true, false, false, false, false, false, false, false, false, false, false, false, false, false, false, false, false] rfl rfl (any_of HT_.out (by kernel_rfl)) (fun _ _ _ h => h) (Or.inr ⟨by rfl, rfl⟩) ?_ ?_
                                       rotate_left
                                       · simp only [Act.put, List.setIfInBounds_toArray, List.set_cons_zero, List.set_cons_succ, i64_w, i32_w]
                                         rfl
                                       refine pure_ (i := 14) (N := some 72) (v := undef) (a' := ?_) #[true, true, true, true, true, true, true, true, true, true, true, true, true, true, true, false, false, false, false, false, false, false, false, false, false, false, false, false, false, false] rfl rfl (any_of HT_.out (by kernel_rfl)) (fun _ _ _ h => h) (Or.inr ⟨by rfl, rfl⟩) ?_ ?_
                                       rotate_left
                                       · simp only [Act.put, List.setIfInBounds_toArray, List.set_cons_zero, List.set_cons_succ, i64_w, i32_w]
                                         rfl
                                       refine pure_ (i := 15) (N := some 73) (v := undef) (a' := ?_) #[true, true, true, true, true, true, true, true, true, true, true, true, true, true, true, true, false, false, false, false, false, false, false, false, false, false, false, false, false, false] rfl rfl (any_of HT_.out (by kernel_rfl)) (fun _ _ _ h => h) (Or.inr ⟨by rfl, rfl⟩) ?_ ?_
                                       rotate_left
                                       · simp only [Act.put, List.setIfInBounds_toArray, List.set_cons_zero, List.set_cons_succ, i64_w, i32_w]
                                         rfl
                                       refine pure_ (i := 16) (N := some 74) (v := undef) (a' := ?_) #[true, true, true, true, true, true, true, true, true, true, true, true, true, true, true, true, true, false, false, false, false, false, false, false, false, false, false, false, false, false] rfl rfl (any_of HT_.out (by kernel_rfl)) (fun _ _ _ h => h) (Or.inr ⟨by rfl, rfl⟩) ?_ ?_
                                       rotate_left
                                       · simp only [Act.put, List.setIfInBounds_toArray, List.set_cons_zero, List.set_cons_succ, i64_w, i32_w]
                                         rfl
                                       refine pure_ (i := 17) (N := some 75) (v := undef) (a' := ?_) #[true, true, true, true, true, true, true, true, true, true, true, true, true, true, true, true, true, true, false, false, false, false, false, false, false, false, false, false, false, false] rfl rfl (any_of HT_.out (by kernel_rfl)) (fun _ _ _ h => h) (Or.inr ⟨by rfl, rfl⟩) ?_ ?_
                                       rotate_left
                                       · simp only [Act.put, List.setIfInBounds_toArray, List.set_cons_zero, List.set_cons_succ, i64_w, i32_w]
                                         rfl
                                       refine pure_ (i := 18) (N := some 76) (v := undef) (a' := ?_) #[true, true, true, true, true, true, true, true, true, true, true, true, true, true, true, true, true, true, true, false, false, false, false, false, false, false, false, false, false, false] rfl rfl (any_of HT_.out (by kernel_rfl)) (fun _ _ _ h => h) (Or.inr ⟨by rfl, rfl⟩) ?_ ?_
                                       rotate_left
                                       · simp only [Act.put, List.setIfInBounds_toArray, List.set_cons_zero, List.set_cons_succ, i64_w, i32_w]
                                         rfl
                                       refine pure_ (i := 19) (N := some 77) (v := undef) (a' := ?_) #[true, true, true, true, true, true, true, true, true, true, true, true, true, true, true, true, true, true, true, true, false, false, false, false, false, false, false, false, false, false] rfl rfl (any_of HT_.out (by kernel_rfl)) (fun _ _ _ h => h) (Or.inr ⟨by rfl, rfl⟩) ?_ ?_
                                       rotate_left
                                       · simp only [Act.put, List.setIfInBounds_toArray, List.set_cons_zero, List.set_cons_succ, i64_w, i32_w]
                                         rfl
                                       refine pure_ (i := 20) (N := some 78) (v := undef) (a' := ?_) #[true, true, true, true, true, true, true, true, true, true, true, true, true, true, true, true, true, true, true, true, true, false, false, false, false, false, false, false, false, false] rfl rfl (any_of HT_.out (by kernel_rfl)) (fun _ _ _ h => h) (Or.inr ⟨by rfl, rfl⟩) ?_ ?_
                                       rotate_left
                                       · simp only [Act.put, List.setIfInBounds_toArray, List.set_cons_zero, List.set_cons_succ, i64_w, i32_w]
                                         rfl
                                       refine pure_ (i := 21) (N := some 79) (v := undef) (a' := ?_) #[true, true, true, true, true, true, true, true, true, true, true, true, true, true, true, true, true, true, true, true, true, true, false, false, false, false, false, false, false, false] rfl rfl (any_of HT_.out (by kernel_rfl)) (fun _ _ _ h => h) (Or.inr ⟨by rfl, rfl⟩) ?_ ?_
                                       rotate_left
                                       · simp only [Act.put, List.setIfInBounds_toArray, List.set_cons_zero, List.set_cons_succ, i64_w, i32_w]
                                         rfl
                                       refine pure_ (i := 22) (N := some 80) (v := undef) (a' := ?_) #[true, true, true, true, true, true, true, true, true, true, true, true, true, true, true, true, true, true, true, true, true, true, true, false, false, false, false, false, false, false] rfl rfl (any_of HT_.out (by kernel_rfl)) (fun _ _ _ h => h) (Or.inr ⟨by rfl, rfl⟩) ?_ ?_
                                       rotate_left
                                       · simp only [Act.put, List.setIfInBounds_toArray, List.set_cons_zero, List.set_cons_succ, i64_w, i32_w]
                                         rfl
                                       refine pure_ (i := 23) (N := some 81) (v := undef) (a' := ?_) #[true, true, true, true, true, true, true, true, true, true, true, true, true, true, true, true, true, true, true, true, true, true, true, true, false, false, false, false, false, false] rfl rfl (any_of HT_.out (by kernel_rfl)) (fun _ _ _ h => h) (Or.inr ⟨by rfl, rfl⟩) ?_ ?_
                                       rotate_left
                                       · simp only [Act.put, List.setIfInBounds_toArray, List.set_cons_zero, List.set_cons_succ, i64_w, i32_w]
                                         rfl
                                       refine pure_ (i := 24) (N := some 82) (v := undef) (a' := ?_) #[true, true, true, true, true, true, true, true, true, true, true, true, true, true, true, true, true, true, true, true, true, true, true, true, true, false, false, false, false, false] rfl rfl (any_of HT_.out (by kernel_rfl)) (fun _ _ _ h => h) (Or.inr ⟨by rfl, rfl⟩) ?_ ?_
                                       rotate_left
                                       · simp only [Act.put, List.setIfInBounds_toArray, List.set_cons_zero, List.set_cons_succ, i64_w, i32_w]
                                         rfl
                                       refine pure_ (i := 25) (N := some 83) (v := undef) (a' := ?_) #[true, true, true, true, true, true, true, true, true, true, true, true, true, true, true, true, true, true, true, true, true, true, true, true, true, true, false, false, false, false] rfl rfl (any_of HT_.out (by kernel_rfl)) (fun _ _ _ h => h) (Or.inr ⟨by rfl, rfl⟩) ?_ ?_
                                       rotate_left
                                       · simp only [Act.put, List.setIfInBounds_toArray, List.set_cons_zero, List.set_cons_succ, i64_w, i32_w]
                                         rfl
                                       refine pure_ (i := 26) (N := some 84) (v := undef) (a' := ?_) #[true, true, true, true, true, true, true, true, true, true, true, true, true, true, true, true, true, true, true, true, true, true, true, true, true, true, true, false, false, false] rfl rfl (any_of HT_.out (by kernel_rfl)) (fun _ _ _ h => h) (Or.inr ⟨by rfl, rfl⟩) ?_ ?_
                                       rotate_left
                                       · simp only [Act.put, List.setIfInBounds_toArray, List.set_cons_zero, List.set_cons_succ, i64_w, i32_w]
                                         rfl
                                       refine pure_ (i := 27) (N := some 85) (v := undef) (a' := ?_) #[true, true, true, true, true, true, true, true, true, true, true, true, true, true, true, true, true, true, true, true, true, true, true, true, true, true, true, true, false, false] rfl rfl (any_of HT_.out (by kernel_rfl)) (fun _ _ _ h => h) (Or.inr ⟨by rfl, rfl⟩) ?_ ?_
                                       rotate_left
                                       · simp only [Act.put, List.setIfInBounds_toArray, List.set_cons_zero, List.set_cons_succ, i64_w, i32_w]
                                         rfl
                                       refine pure_ (i := 28) (N := some 86) (v := undef) (a' := ?_) #[true, true, true, true, true, true, true, true, true, true, true, true, true, true, true, true, true, true, true, true, true, true, true, true, true, true, true, true, true, false] rfl rfl (any_of HT_.out (by kernel_rfl)) (fun _ _ _ h => h) (Or.inr ⟨by rfl, rfl⟩) ?_ ?_
                                       rotate_left
                                       · simp only [Act.put, List.setIfInBounds_toArray, List.set_cons_zero, List.set_cons_succ, i64_w, i32_w]
                                         rfl
                                       refine pure_ (i := 29) (N := some 87) (v := ?_) (a' := ?_) #[true, true, true, true, true, true, true, true, true, true, true, true, true, true, true, true, true, true, true, true, true, true, true, true, true, true, true, true, true, true] rfl rfl (any_of HT_.out (by kernel_rfl)) (fun _ _ _ h => h) (Or.inl ⟨by rfl, ?_⟩) ?_ ?_
                                       rotate_left
                                       · intro w'
                                         go_simp
                                         with_reducible rfl
                                       rotate_left
                                       · simp only [Act.put, List.setIfInBounds_toArray, List.set_cons_zero, List.set_cons_succ, i64_w, i32_w]
                                         rfl
                                       refine done_ (done_of HT_.out (by kernel_rfl)) ?_
                                       try go_wp2
                                       go_roundg k6
                                       case measure => have := HJ2.out; have := HJ9.out; have := HK3.out; have := HK4.out; have := HK5.out; have := HK6.out; omega
                                       case rel => exact ⟨(wrap64 (x9_6 + 1)), (x356000_6), (by first | rfl | (simp; done) | (simp [*]; done)), H', ⟨by have := HJ2.out; have := HJ9.out; have := HK3.out; have := HK4.out; have := HK5.out; have := HK6.out; omega⟩, ⟨by (with_reducible repeat (first | refine blk_drewN ?_ _ | refine blk_drew ?_ | refine blk_alloc ?_ _)); exact BK355.out⟩, ⟨by repeat (first | (with_reducible first | exact HB.out | apply below_alloc | apply pw_below_drewN | apply below_drew1 | refine below_set ?_ GE355.out) | exact HB.out)⟩⟩
                                   · rw [if_neg c25] at H
                                     exact absurd H (by simp)
                                 · rw [if_neg c24] at H
                                   exact absurd H (by simp)
                               · rw [if_neg c23] at H
                                 have c23b0 : decide (x9_6 < (((rd_T34 l1 x8_5).f1).length : Int)) = false := decide_eq_false c23
                                 clear c23
                                 have H' := Aside0.mk H
                                 clear H
                                 have p361 : 0 ≤ (x8_5 : Int) := of_decide_eq_true (by first | (with_reducible assumption) | assumption)
                                 have q361 : x8_5 < (l1.length : Int) := of_decide_eq_true (by first | (with_reducible assumption) | assumption)
                                 obtain ⟨ad361, A361_1, c361_1, e361, hx361_0, hx361_1, hl361_1, hi361_1⟩ := at_T34 HR1.out x8_5 p361 q361
                                 cases e361
                                 replace hx361_0 := (HB.out.cell (World.block_lt_of_cell? w _ hx361_0)).trans hx361_0
                                 replace hx361_1 := (HB.out.cell (World.block_lt_of_cell? w _ hx361_1)).trans hx361_1
                                 have HR361_1 := Aside0.mk hi361_1
                                 have HC361_1 := Aside0.mk hl361_1
                                 clear hi361_1 hl361_1
                                 replace p361 := eq_true p361
                                 replace q361 := eq_true q361
                                 go_wp2
                                 go_roundg k6
                                 case measure => have := HJ2.out; have := HJ9.out; have := HK3.out; have := HK4.out; have := HK5.out; have := HK6.out; omega
                                 case rel => exact ⟨(wrap64 (x8_5 + 1)), (x356000_6), (by first | rfl | (simp; done) | (simp [*]; done)), H', ⟨by have := HJ2.out; have := HJ9.out; have := HK3.out; have := HK4.out; have := HK5.out; have := HK6.out; omega⟩, ⟨by (with_reducible repeat (first | refine blk_drewN ?_ _ | refine blk_drew ?_ | refine blk_alloc ?_ _)); exact BK355.out⟩, ⟨by repeat (first | (with_reducible first | exact HB.out | apply below_alloc | apply pw_below_drewN | apply below_drew1 | refine below_set ?_ GE355.out) | exact HB.out)⟩⟩
                             · rw [if_neg c22] at H
                               exact absurd H (by simp)
                           · rw [if_neg c21] at H
                             exact absurd H (by simp)
                       · rw [if_neg c20] at H
                         have c20b0 : decide (x8_5 < (l1.length : Int)) = false := decide_eq_false c20
                         clear c20
                         have H' := Aside0.mk H
                         clear H
                         go_wp2
                         go_roundg k5
                         case measure => have := HJ2.out; have := HJ9.out; have := HK3.out; have := HK4.out; have := HK5.out; omega
                         case rel => exact ⟨(wrap64 (x7_4 + 1)), (x356000_5), (by first | rfl | (simp; done) | (simp [*]; done)), H', ⟨by have := HJ2.out; have := HJ9.out; have := HK3.out; have := HK4.out; have := HK5.out; omega⟩, ⟨by (with_reducible repeat (first | refine blk_drewN ?_ _ | refine blk_drew ?_ | refine blk_alloc ?_ _)); exact BK355.out⟩, ⟨by repeat (first | (with_reducible first | exact HB.out | apply below_alloc | apply pw_below_drewN | apply below_drew1 | refine below_set ?_ GE355.out) | exact HB.out)⟩⟩
                   · rw [if_neg c19] at H
                     have c19b0 : decide (x7_4 < (((rd_T34 l0 x6_3).f1).length : Int)) = false := decide_eq_false c19
                     clear c19
                     have H' := Aside0.mk H
                     clear H
                     have p360 : 0 ≤ (x6_3 : Int) := of_decide_eq_true (by first | (with_reducible assumption) | assumption)
                     have q360 : x6_3 < (l0.length : Int) := of_decide_eq_true (by first | (with_reducible assumption) | assumption)
                     obtain ⟨ad360, A360_1, c360_1, e360, hx360_0, hx360_1, hl360_1, hi360_1⟩ := at_T34 HR0.out x6_3 p360 q360
                     cases e360
                     replace hx360_0 := (HB.out.cell (World.block_lt_of_cell? w _ hx360_0)).trans hx360_0
                     replace hx360_1 := (HB.out.cell (World.block_lt_of_cell? w _ hx360_1)).trans hx360_1
                     have HR360_1 := Aside0.mk hi360_1
                     have HC360_1 := Aside0.mk hl360_1
                     clear hi360_1 hl360_1
                     replace p360 := eq_true p360
                     replace q360 := eq_true q360
                     go_wp2
                     go_roundg k4
                     case measure => have := HJ2.out; have := HJ9.out; have := HK3.out; have := HK4.out; omega
                     case rel => exact ⟨(wrap64 (x6_3 + 1)), (x356000_4), (by first | rfl | (simp; done) | (simp [*]; done)), H', ⟨by have := HJ2.out; have := HJ9.out; have := HK3.out; have := HK4.out; omega⟩, ⟨by (with_reducible repeat (first | refine blk_drewN ?_ _ | refine blk_drew ?_ | refine blk_alloc ?_ _)); exact BK355.out⟩, ⟨by repeat (first | (with_reducible first | exact HB.out | apply below_alloc | apply pw_below_drewN | apply below_drew1 | refine below_set ?_ GE355.out) | exact HB.out)⟩⟩
                 · rw [if_neg c18] at H
                   exact absurd H (by simp)
               · rw [if_neg c17] at H
                 exact absurd H (by simp)
           · rw [if_neg c16] at H
             have c16b0 : decide (x6_3 < (l0.length : Int)) = false := decide_eq_false c16
             clear c16
             simp only [Option.some.injEq, Prod.mk.injEq] at H
             obtain ⟨rfl, rfl, rfl⟩ := H
             have hcz40_0 : wr.cell? ⟨gb355, 0, none⟩ = some (.int .i64 x356000_3) := (blk_cell BK355.out 0).trans rfl
             have hcz40_1 : wr.cell? ⟨gb355, 1, none⟩ = some (.slice none 0 0) := (blk_cell BK355.out 1).trans rfl
             have hfz40_0 := blk_frozen BK355.out 0
             have hfz40_1 := blk_frozen BK355.out 1
             go_wp2
             refine bodyPost_ret (results_ct rfl _ _ gb355 34 #[.int .i64 0, .slice none 0 0] (0, 0) _ rfl (by (with_reducible repeat (first | refine blk_drewN ?_ _ | refine blk_drew ?_ | refine blk_alloc ?_ _)); refine blk_put (cs := #[.int .i64 0, .slice none 0 0]) ?_ 1 _ rfl; (with_reducible repeat (first | refine blk_drewN ?_ _ | refine blk_drew ?_ | refine blk_alloc ?_ _)); refine blk_put (cs := #[.int .i64 x356000_3, .slice none 0 0]) ?_ 0 _ rfl; (with_reducible repeat (first | refine blk_drewN ?_ _ | refine blk_drew ?_ | refine blk_alloc ?_ _)); exact BK355.out) Try.underlying34 rfl (by kernel_rfl)) rfl ?_
             exact ⟨_, by first | rfl | (simp [errW_none, errW_some] <;> rfl) | (simp [*, errW_none, errW_some] <;> rfl), by first | exact Kd.R_nil _ _ _ _ _ | exact Kd.N_nil _ _ _ _ _ | exact Kd.V_nil _ _ _ _ _ | exact Kd.Q_nil _ _ _ _ _ | exact Kd.S_nil _ _ _ _ _, by repeat (first | (with_reducible first | exact HB.out | apply below_alloc | apply pw_below_drewN | apply below_drew1 | refine below_set ?_ GE355.out) | exact HB.out)⟩
end Go.Proofs.Ythbajahklnpkcaa.PA

namespace Go.Proofs.Ythbajahklnpkcaa.PA
open Go.RowKit Go.Proofs.YthbajahklnpkcaaW.PrintWords Go.Proofs.YthbajahklnpkcaaW.PrintLast Go.Proofs.YthbajahklnpkcaaW.PrintMore
set_option linter.unusedVariables false
set_option linter.unusedSimpArgs false
theorem any_drop {α : Type} (p : α → Bool) (l : List α) (k : Nat) (x : α) (hx : l[k]? = some x) : (l.drop k).any p = (p x || (l.drop (k + 1)).any p) := by
 obtain ⟨hlt, rfl⟩ := List.getElem?_eq_some_iff.1 hx
 rw [List.drop_eq_getElem_cons hlt, List.any_cons]
theorem modB_iff (m : Int) : (!modB m) = (decide (m < 0) || decide (m > 1)) := by
 unfold modB
 by_cases h0 : m < 0
 · simp [h0]; omega
 · by_cases h1 : m > 1
   · simp [h1]; omega
   · have : m = 0 ∨ m = 1 := by omega
     rcases this with rfl | rfl <;> rfl
theorem rpix_l1 (l : List S34) (kk : Nat) (hk : kk < l.length) (y : S34) (hy : rd_T34 l kk = y) (hm : y.f1.length ≤ 9223372036854775807) :
 ∀ (n jj : Nat) (e : Int), y.f1.length - jj = n → jj ≤ y.f1.length → ∀ r, Ev (fun k => continuoref25_pixels.l0 k l (if (y.f1.drop jj).any (fun m => !modB m) = true then 7 else e) (wrap64 (kk + 1))) r → Ev (fun k => continuoref25_pixels.l1 k l e kk jj) r := by
 intro n
 induction n with
 | zero =>
  intro jj e hn hj r H
  have hjj : jj = y.f1.length := by omega
  rw [List.drop_eq_nil_of_le (by omega)] at H
  refine Ev.step (fun k => ?_) H
  simp only [continuoref25_pixels.l1, hy]
  rw [if_pos (by omega), if_pos (by omega), if_neg (by omega)]
  simp
 | succ n ih =>
  intro jj e hn hj r H
  have hlt : jj < y.f1.length := by omega
  have hx := rd_getElem y.f1 jj hlt
  rw [any_drop _ _ _ _ hx] at H
  have hw : wrap64 ((jj : Int) + 1) = ((jj + 1 : Nat) : Int) := wrap_succ (by omega)
  by_cases h0 : rd y.f1 (jj : Int) < 0
  · refine Ev.step (h := fun k => continuoref25_pixels.l1 k l 7 kk ((jj + 1 : Nat) : Int)) (fun k => ?_) (ih (jj + 1) 7 (by omega) (by omega) r ?_)
    · simp only [continuoref25_pixels.l1, hy]
      rw [if_pos (by omega), if_pos (by omega), if_pos (by omega), if_pos (by omega), if_pos h0, hw]
    · rw [if_pos (by rw [modB_iff]; simp [h0])] at H
      rw [show (if (y.f1.drop (jj + 1)).any (fun m => !modB m) = true then (7 : Int) else 7) = 7 from ite_self _]
      exact H
  · by_cases h1 : rd y.f1 (jj : Int) > 1
    · refine Ev.step (h := fun k => continuoref25_pixels.l1 k l 7 kk ((jj + 1 : Nat) : Int)) (fun k => ?_) (ih (jj + 1) 7 (by omega) (by omega) r ?_)
      · simp only [continuoref25_pixels.l1, hy]
        rw [if_pos (by omega), if_pos (by omega), if_pos (by omega), if_pos (by omega), if_neg h0, if_pos h1, hw]
      · rw [if_pos (by rw [modB_iff]; simp [h1])] at H
        rw [show (if (y.f1.drop (jj + 1)).any (fun m => !modB m) = true then (7 : Int) else 7) = 7 from ite_self _]
        exact H
    · refine Ev.step (h := fun k => continuoref25_pixels.l1 k l e kk ((jj + 1 : Nat) : Int)) (fun k => ?_) (ih (jj + 1) e (by omega) (by omega) r ?_)
      · simp only [continuoref25_pixels.l1, hy]
        rw [if_pos (by omega), if_pos (by omega), if_pos (by omega), if_pos (by omega), if_neg h0, if_neg h1, hw]
      · rw [modB_iff, decide_eq_false h0, decide_eq_false h1] at H
        simpa using H
def badE (e : Int) (l : List S34) : Int := if l.any badPix = true then 7 else e
theorem rpix_l0 (l : List S34) (hl : l.length ≤ 9223372036854775807) (hi : ∀ p ∈ l, p.f1.length ≤ 9223372036854775807) :
 ∀ (n kk : Nat) (e : Int), l.length - kk = n → kk ≤ l.length → Ev (fun k => continuoref25_pixels.l0 k l e kk) (badE e (l.drop kk)) := by
 intro n
 induction n with
 | zero =>
  intro kk e hn hk
  rw [List.drop_eq_nil_of_le (by omega)]
  refine Ev.pure (fun k => ?_)
  simp only [continuoref25_pixels.l0]
  rw [if_neg (by omega)]
  rfl
 | succ n ih =>
  intro kk e hn hk
  have hlt : kk < l.length := by omega
  have hx := rd_getElem34 l kk hlt
  obtain ⟨y, hy⟩ : ∃ y, rd_T34 l (kk : Int) = y := ⟨_, rfl⟩
  rw [hy] at hx
  have hmem : y ∈ l := List.mem_of_getElem? hx
  have hw : wrap64 ((kk : Int) + 1) = ((kk + 1 : Nat) : Int) := wrap_succ (by omega)
  have fin : ∀ e', (e' = if fmtB y.f0 = true then e else 7) → Ev (fun k => continuoref25_pixels.l1 k l e' kk 0) (badE e (l.drop kk)) := by
   intro e' he'
   refine rpix_l1 l kk hlt y hy (hi y hmem) _ 0 e' rfl (Nat.zero_le _) _ ?_
   rw [hw, List.drop_zero]
   have h := ih (kk + 1) (if y.f1.any (fun m => !modB m) = true then 7 else e') (by omega) (by omega)
   have he : badE (if y.f1.any (fun m => !modB m) = true then 7 else e') (l.drop (kk + 1)) = badE e (l.drop kk) := by
    unfold badE
    rw [any_drop _ _ _ _ hx, he', badPix]
    cases fmtB y.f0 <;> cases y.f1.any (fun m => !modB m) <;> cases (l.drop (kk + 1)).any badPix <;> rfl
   rw [he] at h
   exact h
  by_cases h0 : y.f0 < 1
  · have hf : fmtB y.f0 = false := by unfold fmtB; rw [decide_eq_false (by omega)]; rfl
    refine Ev.step (h := fun k => continuoref25_pixels.j1 k l e kk true) (fun k => ?_) (Ev.step (h := fun k => continuoref25_pixels.j2 k l 7 kk) (fun k => ?_) (Ev.step (fun k => ?_) (fin 7 (by rw [hf]; rfl))))
    · simp only [continuoref25_pixels.l0, hy]
      rw [if_pos (by omega), if_pos (by omega), if_pos h0]
    · simp only [continuoref25_pixels.j1, if_true]
    · simp only [continuoref25_pixels.j2]
  · by_cases h4 : y.f0 > 4
    · have hf : fmtB y.f0 = false := by unfold fmtB; rw [decide_eq_false (show ¬ y.f0 ≤ 4 by omega)]; simp
      refine Ev.step (h := fun k => continuoref25_pixels.j1 k l e kk true) (fun k => ?_) (Ev.step (h := fun k => continuoref25_pixels.j2 k l 7 kk) (fun k => ?_) (Ev.step (fun k => ?_) (fin 7 (by rw [hf]; rfl))))
      · simp only [continuoref25_pixels.l0, hy]
        rw [if_pos (by omega), if_pos (by omega), if_neg h0, decide_eq_true h4]
      · simp only [continuoref25_pixels.j1, if_true]
      · simp only [continuoref25_pixels.j2]
    · have hf : fmtB y.f0 = true := by unfold fmtB; rw [decide_eq_true (show 1 ≤ y.f0 by omega), decide_eq_true (show y.f0 ≤ 4 by omega)]; rfl
      refine Ev.step (h := fun k => continuoref25_pixels.j1 k l e kk false) (fun k => ?_) (Ev.step (h := fun k => continuoref25_pixels.j2 k l e kk) (fun k => ?_) (Ev.step (fun k => ?_) (fin e (by rw [hf]; rfl))))
      · simp only [continuoref25_pixels.l0, hy]
        rw [if_pos (by omega), if_pos (by omega), if_neg h0, decide_eq_false h4]
      · simp [continuoref25_pixels.j1]
      · simp only [continuoref25_pixels.j2]
theorem rpix (l : List S34) (hl : l.length ≤ 9223372036854775807) (hi : ∀ p ∈ l, p.f1.length ≤ 9223372036854775807) : Ev (fun k => continuoref25_pixels.f k l) (badE 0 l) := by
 have h := rpix_l0 l hl hi _ 0 0 rfl (Nat.zero_le _)
 rw [List.drop_zero] at h
 exact Ev.congr (fun k => rfl) h
def manyB (l : List S34) : Bool := decide (10 < l.length) || l.any (fun p => decide (10 < p.f1.length))
theorem rmany_l0 (l : List S34) (hl : l.length ≤ 9223372036854775807) :
 ∀ (n kk : Nat), l.length - kk = n → kk ≤ l.length → Ev (fun k => continuoref25_Many.l0 k l kk) ((l.drop kk).any (fun p => decide (10 < p.f1.length))) := by
 intro n
 induction n with
 | zero =>
  intro kk hn hk
  rw [List.drop_eq_nil_of_le (by omega)]
  refine Ev.pure (fun k => ?_)
  simp only [continuoref25_Many.l0]
  rw [if_neg (by omega)]
  rfl
 | succ n ih =>
  intro kk hn hk
  have hlt : kk < l.length := by omega
  have hx := rd_getElem34 l kk hlt
  rw [any_drop _ _ _ _ hx]
  have hw : wrap64 ((kk : Int) + 1) = ((kk + 1 : Nat) : Int) := wrap_succ (by omega)
  by_cases h : ((rd_T34 l (kk : Int)).f1.length : Int) > 10
  · refine Ev.pure (fun k => ?_)
    simp only [continuoref25_Many.l0]
    rw [if_pos (by omega), if_pos (by omega), if_pos h, decide_eq_true (by omega), Bool.true_or]
  · refine Ev.step (fun k => ?_) (by rw [decide_eq_false (show ¬ 10 < (rd_T34 l (kk : Int)).f1.length by omega), Bool.false_or]; exact ih (kk + 1) (by omega) (by omega))
    simp only [continuoref25_Many.l0]
    rw [if_pos (by omega), if_pos (by omega), if_neg h, hw]
theorem rmany (l : List S34) (hl : l.length ≤ 9223372036854775807) : Ev (fun k => continuoref25_Many.f k l) (manyB l) := by
 unfold continuoref25_Many.f manyB
 by_cases h : (l.length : Int) > 10
 · exact Ev.val (fun k => by rw [if_pos h, decide_eq_true (by omega), Bool.true_or])
 · have h0 := rmany_l0 l hl _ 0 rfl (Nat.zero_le _)
   rw [List.drop_zero] at h0
   rw [decide_eq_false (show ¬ 10 < l.length by omega), Bool.false_or]
   exact Ev.congr (fun k => by rw [if_neg h]; rfl) h0
theorem pixE_of (l : List S34) : pixE l = if l.any badPix = true then 7 else if manyB l = true then 4 else 0 := by
 unfold pixE manyB
 cases l.any badPix <;> cases decide (10 < l.length) <;> cases l.any (fun p => decide (10 < p.f1.length)) <;> rfl
theorem l3_eq (a b : List S34) (kk jj ii : Nat) (hk : kk < a.length) (hi : ii < b.length) (y q : S34) (hy : rd_T34 a kk = y) (hq : rd_T34 b ii = q) (hj : jj < y.f1.length) (nn : Nat) (hn : nn < q.f1.length) (k : Nat) :
 continuoref25_Agree.l3 (k + 1) a b kk jj ii nn = if q.f0 = y.f0 then (if rd q.f1 nn = rd y.f1 jj then some (y.f0, [rd y.f1 jj], 0) else continuoref25_Agree.l3 k a b kk jj ii (wrap64 ((nn : Int) + 1))) else continuoref25_Agree.l3 k a b kk jj ii (wrap64 ((nn : Int) + 1)) := by
 have i1 : (0 : Int) ≤ (ii : Int) := by omega
 have i2 : (ii : Int) < (b.length : Int) := by omega
 have i3 : (nn : Int) < (q.f1.length : Int) := by omega
 have i4 : (0 : Int) ≤ (kk : Int) := by omega
 have i5 : (kk : Int) < (a.length : Int) := by omega
 have i6 : (0 : Int) ≤ (nn : Int) := by omega
 have i7 : (0 : Int) ≤ (jj : Int) := by omega
 have i8 : (jj : Int) < (y.f1.length : Int) := by omega
 rw [continuoref25_Agree.l3, hq, hy, if_pos i1, if_pos i2, if_pos i3, if_pos i4, if_pos i5, if_pos i6, if_pos i7, if_pos i8]
theorem ragree_l3 (a b : List S34) (hib : ∀ p ∈ b, p.f1.length ≤ 9223372036854775807) (kk jj ii : Nat) (hk : kk < a.length) (hi : ii < b.length) (y q : S34) (hy : rd_T34 a kk = y) (hq : rd_T34 b ii = q) (hj : jj < y.f1.length) (hqm : q ∈ b) :
 ∀ (n nn : Nat), q.f1.length - nn = n → nn ≤ q.f1.length → ∀ r, (if (q.f0 == y.f0 && (q.f1.drop nn).any (fun z => rd y.f1 jj == z)) = true then r = (y.f0, [rd y.f1 jj], 0) else Ev (fun k => continuoref25_Agree.l2 k a b kk jj (wrap64 (ii + 1))) r) → Ev (fun k => continuoref25_Agree.l3 k a b kk jj ii nn) r := by
 intro n
 induction n with
 | zero =>
  intro nn hn hnn
  have hle : q.f1.length ≤ nn := by omega
  have z1 : (0 : Int) ≤ (ii : Int) := by omega
  have z2 : (ii : Int) < (b.length : Int) := by omega
  have z3 : ¬ (nn : Int) < (q.f1.length : Int) := by omega
  intro r H
  rw [List.drop_eq_nil_of_le hle] at H
  simp only [List.any_nil, Bool.and_false, Bool.false_eq_true, if_false] at H
  refine Ev.step (fun k => ?_) H
  simp only [continuoref25_Agree.l3, hq]
  rw [if_pos z1, if_pos z2, if_neg z3]
 | succ n ih =>
  intro nn hn hnn
  have hlt : nn < q.f1.length := by omega
  have hn1 : q.f1.length - (nn + 1) = n := by omega
  have hx := rd_getElem q.f1 nn hlt
  have hw : wrap64 ((nn : Int) + 1) = ((nn + 1 : Nat) : Int) := wrap_succ (Nat.lt_of_lt_of_le hlt (hib q hqm))
  intro r H
  rw [any_drop _ _ _ _ hx] at H
  by_cases hf : q.f0 = y.f0
  · by_cases hm : rd q.f1 (nn : Int) = rd y.f1 (jj : Int)
    · rw [if_pos (by simp [hf, hm])] at H
      rw [H]
      refine Ev.pure (fun k => ?_)
      rw [l3_eq a b kk jj ii hk hi y q hy hq hj nn hlt k, if_pos hf, if_pos hm]
    · refine Ev.step (h := fun k => continuoref25_Agree.l3 k a b kk jj ii ((nn + 1 : Nat) : Int)) (fun k => ?_) (ih (nn + 1) hn1 hlt r ?_)
      · rw [l3_eq a b kk jj ii hk hi y q hy hq hj nn hlt k, if_pos hf, if_neg hm, hw]
      · rw [show (rd y.f1 (jj : Int) == rd q.f1 (nn : Int)) = false from beq_eq_false_iff_ne.mpr (fun h => hm h.symm), Bool.false_or] at H
        exact H
  · refine Ev.step (h := fun k => continuoref25_Agree.l3 k a b kk jj ii ((nn + 1 : Nat) : Int)) (fun k => ?_) (ih (nn + 1) hn1 hlt r ?_)
    · rw [l3_eq a b kk jj ii hk hi y q hy hq hj nn hlt k, if_neg hf, hw]
    · rw [show (q.f0 == y.f0) = false from beq_eq_false_iff_ne.mpr hf] at H ⊢
      simpa using H
theorem ragree_l2 (a b : List S34) (hb : b.length ≤ 9223372036854775807) (hib : ∀ p ∈ b, p.f1.length ≤ 9223372036854775807) (kk jj : Nat) (hk : kk < a.length) (y : S34) (hy : rd_T34 a kk = y) (hj : jj < y.f1.length) :
 ∀ (n ii : Nat), b.length - ii = n → ii ≤ b.length → ∀ r, (if (b.drop ii).any (fun q => q.f0 == y.f0 && q.f1.any (fun z => rd y.f1 jj == z)) = true then r = (y.f0, [rd y.f1 jj], 0) else Ev (fun k => continuoref25_Agree.l1 k a b kk (wrap64 (jj + 1))) r) → Ev (fun k => continuoref25_Agree.l2 k a b kk jj ii) r := by
 intro n
 induction n with
 | zero =>
  intro ii hn hii
  have hle : b.length ≤ ii := by omega
  have z3 : ¬ (ii : Int) < (b.length : Int) := by omega
  intro r H
  rw [List.drop_eq_nil_of_le hle] at H
  simp only [List.any_nil, Bool.false_eq_true, if_false] at H
  refine Ev.step (fun k => ?_) H
  simp only [continuoref25_Agree.l2]
  rw [if_neg z3]
 | succ n ih =>
  intro ii hn hii
  have hlt : ii < b.length := by omega
  have hn1 : b.length - (ii + 1) = n := by omega
  have hlz : (ii : Int) < (b.length : Int) := by omega
  have hx := rd_getElem34 b ii hlt
  obtain ⟨q, hq⟩ : ∃ q, rd_T34 b (ii : Int) = q := ⟨_, rfl⟩
  rw [hq] at hx
  have hqm : q ∈ b := List.mem_of_getElem? hx
  have hw : wrap64 ((ii : Int) + 1) = ((ii + 1 : Nat) : Int) := wrap_succ (Nat.lt_of_lt_of_le hlt hb)
  intro r H
  rw [any_drop _ _ _ _ hx] at H
  refine Ev.step (h := fun k => continuoref25_Agree.l3 k a b kk jj ii ((0 : Nat) : Int)) (fun k => ?_) (ragree_l3 a b hib kk jj ii hk hlt y q hy hq hj hqm _ 0 rfl (Nat.zero_le _) r ?_)
  · simp only [continuoref25_Agree.l2]
    rw [if_pos hlz]
    rfl
  · rw [List.drop_zero]
    cases hc : (q.f0 == y.f0 && q.f1.any (fun z => rd y.f1 (jj : Int) == z)) with
    | true =>
     rw [hc, Bool.true_or, if_pos rfl] at H
     rw [if_pos rfl]
     exact H
    | false =>
     rw [hc, Bool.false_or] at H
     rw [if_neg (by simp), hw]
     exact ih (ii + 1) hn1 hlt r H
theorem ragree_l1 (a b : List S34) (hb : b.length ≤ 9223372036854775807) (hia : ∀ p ∈ a, p.f1.length ≤ 9223372036854775807) (hib : ∀ p ∈ b, p.f1.length ≤ 9223372036854775807) (kk : Nat) (hk : kk < a.length) (y : S34) (hy : rd_T34 a kk = y) (hya : y ∈ a) :
 ∀ (n jj : Nat), y.f1.length - jj = n → jj ≤ y.f1.length → ∀ r, (match agreeM b y.f0 (y.f1.drop jj) with | some z => r = (z.1, [z.2], 0) | none => Ev (fun k => continuoref25_Agree.l0 k a b (wrap64 (kk + 1))) r) → Ev (fun k => continuoref25_Agree.l1 k a b kk jj) r := by
 intro n
 induction n with
 | zero =>
  intro jj hn hjj
  have hle : y.f1.length ≤ jj := by omega
  have z1 : (0 : Int) ≤ (kk : Int) := by omega
  have z2 : (kk : Int) < (a.length : Int) := by omega
  have z3 : ¬ (jj : Int) < (y.f1.length : Int) := by omega
  intro r H
  rw [List.drop_eq_nil_of_le hle] at H
  refine Ev.step (fun k => ?_) H
  simp only [continuoref25_Agree.l1, hy]
  rw [if_pos z1, if_pos z2, if_neg z3]
 | succ n ih =>
  intro jj hn hjj
  have hlt : jj < y.f1.length := by omega
  have hn1 : y.f1.length - (jj + 1) = n := by omega
  have k0 : (0 : Int) ≤ (kk : Int) := by omega
  have k1 : (kk : Int) < (a.length : Int) := by omega
  have k2 : (jj : Int) < (y.f1.length : Int) := by omega
  have hx := rd_getElem y.f1 jj hlt
  have hw : wrap64 ((jj : Int) + 1) = ((jj + 1 : Nat) : Int) := wrap_succ (Nat.lt_of_lt_of_le hlt (hia y hya))
  intro r H
  refine Ev.step (h := fun k => continuoref25_Agree.l2 k a b kk jj ((0 : Nat) : Int)) (fun k => ?_) (ragree_l2 a b hb hib kk jj hk y hy hlt _ 0 rfl (Nat.zero_le _) r ?_)
  · simp only [continuoref25_Agree.l1, hy]
    rw [if_pos k0, if_pos k1, if_pos k2]
    rfl
  · rw [List.drop_zero]
    cases hc : hit b y.f0 (rd y.f1 (jj : Int)) with
    | true =>
     rw [agreeM_hit hx hc] at H
     unfold hit at hc
     rw [if_pos hc]
     exact H
    | false =>
     rw [agreeM_miss hx hc] at H
     unfold hit at hc
     rw [if_neg (by rw [hc]; decide), hw]
     exact ih (jj + 1) hn1 hlt r H
theorem ragree_l0 (a b : List S34) (ha : a.length ≤ 9223372036854775807) (hb : b.length ≤ 9223372036854775807) (hia : ∀ p ∈ a, p.f1.length ≤ 9223372036854775807) (hib : ∀ p ∈ b, p.f1.length ≤ 9223372036854775807) : ∀ (n kk : Nat), a.length - kk = n → kk ≤ a.length → Ev (fun k => continuoref25_Agree.l0 k a b kk) (agreeO (agreeL b (a.drop kk))) := by
 intro n
 induction n with
 | zero =>
  intro kk hn hk
  rw [List.drop_eq_nil_of_le (by omega)]
  refine Ev.pure (fun k => ?_)
  simp only [continuoref25_Agree.l0]
  rw [if_neg (by omega)]
  rfl
 | succ n ih =>
  intro kk hn hk
  have hlt : kk < a.length := by omega
  have hx := rd_getElem34 a kk hlt
  obtain ⟨y, hy⟩ : ∃ y, rd_T34 a (kk : Int) = y := ⟨_, rfl⟩
  rw [hy] at hx
  have hya : y ∈ a := List.mem_of_getElem? hx
  have hw : wrap64 ((kk : Int) + 1) = ((kk + 1 : Nat) : Int) := wrap_succ (by omega)
  refine Ev.step (h := fun k => continuoref25_Agree.l1 k a b kk ((0 : Nat) : Int)) (fun k => ?_) (ragree_l1 a b hb hia hib kk hlt y hy hya _ 0 rfl (Nat.zero_le _) _ ?_)
  · simp only [continuoref25_Agree.l0]
    rw [if_pos (by omega)]
    rfl
  · rw [List.drop_zero]
    cases hc : agreeM b y.f0 y.f1 with
    | some z => rw [agreeL_hit hx hc]; rfl
    | none =>
     rw [agreeL_miss hx hc, hw]
     exact ih (kk + 1) (by omega) (by omega)
theorem ragree (a b : List S34) (ha : a.length ≤ 9223372036854775807) (hb : b.length ≤ 9223372036854775807) (hia : ∀ p ∈ a, p.f1.length ≤ 9223372036854775807) (hib : ∀ p ∈ b, p.f1.length ≤ 9223372036854775807) : ∃ k, continuoref25_Agree.f k a b = some (agree a b) := by
 refine Ev.some ?_
 unfold continuoref25_Agree.f
 have e4 : ∀ l, (pixE l = 7) ↔ (l.any badPix = true) := by
  intro l
  rw [pixE_of]
  cases l.any badPix <;> cases manyB l <;> simp
 have e7 : ∀ l, l.any badPix = false → ((pixE l = 4) ↔ (manyB l = true)) := by
  intro l h
  rw [pixE_of, h]
  cases manyB l <;> simp
 have HM : a.any badPix = false → b.any badPix = false → Ev (fun k => continuoref25_Agree.j0 k a b false) (agree a b) := by
  intro h1 h2
  have hag : agree a b = if manyB a = true ∨ manyB b = true then (0, [], 4) else agreeO (agreeL b a) := by
   have x1 : ¬ (pixE a = 7 ∨ pixE b = 7) := by rw [e4, e4, h1, h2]; decide
   unfold agree
   rw [if_neg x1]
   simp only [e7 a h1, e7 b h2]
  rw [hag]
  have h0 := ragree_l0 a b ha hb hia hib _ 0 rfl (Nat.zero_le _)
  rw [List.drop_zero] at h0
  have hj1 : ∀ q, Ev (fun k => continuoref25_Agree.j1 k a b q) (if q = true then (0, [], 4) else agreeO (agreeL b a)) := by
   intro q
   cases q with
   | true => exact Ev.pure (fun k => by simp only [continuoref25_Agree.j1, if_true])
   | false => exact Ev.step (fun k => by simp only [continuoref25_Agree.j1]; rw [if_neg (by decide)]) (by rw [if_neg (by decide)]; exact h0)
  refine Ev.step (h := fun k => (continuoref25_Many.f k a).bind fun t => if t = true then continuoref25_Agree.j1 k a b true else (continuoref25_Many.f k b).bind fun t' => continuoref25_Agree.j1 k a b t') (fun k => by simp only [continuoref25_Agree.j0]; rw [if_neg (by decide)]) ?_
  refine Ev.bind (rmany a ha) ?_
  cases hma : manyB a with
  | true => simpa using hj1 true
  | false =>
   simp only [Bool.false_eq_true, if_false, false_or]
   exact Ev.bind (rmany b hb) (hj1 (manyB b))
 have HT : agree a b = (0, [], 7) → Ev (fun k => continuoref25_Agree.j0 k a b true) (agree a b) := by
  intro h
  rw [h]
  exact Ev.pure (fun k => by simp only [continuoref25_Agree.j0, if_true])
 refine Ev.bind (rpix a ha hia) ?_
 unfold badE
 cases h1 : a.any badPix with
 | true =>
  refine Ev.congr (h := fun k => continuoref25_Agree.j0 k a b true) (fun k => ?_) (HT ?_)
  · rw [if_pos rfl, if_neg (by decide)]
  unfold agree
  exact if_pos (Or.inl ((e4 a).mpr h1))
 | false =>
  simp only [Bool.false_eq_true, if_false, if_true]
  refine Ev.bind (rpix b hb hib) ?_
  unfold badE
  cases h2 : b.any badPix with
  | true =>
   simp only [if_true]
   exact HT (by unfold agree; exact if_pos (Or.inr ((e4 b).mpr h2)))
  | false =>
   simp only [Bool.false_eq_true, if_false]
   exact HM h1 h2
end Go.Proofs.Ythbajahklnpkcaa.PA

namespace Go.Proofs.Ythbajahklnpkcaa.PA
open Go.RowKit Go.Proofs.YthbajahklnpkcaaW.PrintWords Go.Proofs.YthbajahklnpkcaaW.PrintLast Go.Proofs.YthbajahklnpkcaaW.PrintMore
attribute [local go_sem] max2_int min2_int max_two min_two max_three min_three max_four min_four
set_option linter.unusedVariables false
set_option linter.unusedSimpArgs false
theorem eqA43 (d : Nat) (w : World) (x0 y0 : Int) (x1 y1 : Int) (x2 y2 : Int) (x3 y3 : Int) :
 (Op.equalIn (d + 2) 43 (.agg #[.int .i64 x0, .int .i64 x1, .int .i64 x2, .int .i64 x3]) (.agg #[.int .i64 y0, .int .i64 y1, .int .i64 y2, .int .i64 y3])).run Try.prog w = .ok (x0 == y0 && (x1 == y1 && (x2 == y2 && (x3 == y3)))) w := by
 refine eqA_of Try.underlying43 (by kernel_rfl) ?_
 refine eqf_cons (by rfl) (by go_simp; rfl) (by go_simp; rfl) (by go_simp) ?_
 refine eqf_cons (by rfl) (by go_simp; rfl) (by go_simp; rfl) (by go_simp) ?_
 refine eqf_cons (by rfl) (by go_simp; rfl) (by go_simp; rfl) (by go_simp) ?_
 exact eqf_last (by rfl) (by go_simp; rfl) (by go_simp; rfl) (by go_simp)
end Go.Proofs.Ythbajahklnpkcaa.PA

namespace Go.Proofs.Ythbajahklnpkcaa.PA
open Go.RowKit Go.Shelf Go.Proofs.YthbajahklnpkcaaW.PrintWords Go.Proofs.YthbajahklnpkcaaW.PrintLast Go.Proofs.YthbajahklnpkcaaW.PrintMore
set_option linter.unusedVariables false
set_option linter.unusedSimpArgs false
set_option maxRecDepth 100000 in
theorem wide_calls (n : Int) (w : World) : Calls Try.prog 123 #[.int .i64 n] w fun e w' => e = .returned (.bool (okW n)) ∧ w' = w := by
 by_cases h1 : n ≥ 0
 · have h1b : decide (n ≥ 0) = true := decide_eq_true h1
   by_cases h2 : n ≤ 20000
   · have h2b : decide (n ≤ 20000) = true := decide_eq_true h2
     go_enter Try.func123, Try.ntmps123
     go_wp2
     go_ret
     exact ⟨by simp [okW]; omega, rfl⟩
   · have h2b : decide (n ≤ 20000) = false := decide_eq_false h2
     go_enter Try.func123, Try.ntmps123
     go_wp2
     go_ret
     exact ⟨by simp [okW]; omega, rfl⟩
 · have h1b : decide (n ≥ 0) = false := decide_eq_false h1
   go_enter Try.func123, Try.ntmps123
   go_wp2
   go_ret
   exact ⟨by simp [okW]; omega, rfl⟩
set_option maxRecDepth 100000 in
set_option maxHeartbeats 2000000 in
theorem valid_calls (x : S43) (w : World) : Calls Try.prog 72 #[.agg (c43 x)] w fun e w' => e = .returned (.bool (okR x)) ∧ Below w.heap.size w w' := by
 obtain ⟨a, b, c, d⟩ := x
 have HB := Blk.new w #[.int .i64 a, .int .i64 b, .int .i64 c, .int .i64 d] 43
 have g0 := HB.cell 0 (v := .int .i64 a) rfl
 have g1 := HB.cell 1 (v := .int .i64 b) rfl
 have g2 := HB.cell 2 (v := .int .i64 c) rfl
 have g3 := HB.cell 3 (v := .int .i64 d) rfl
 have hB : Below w.heap.size w (w.alloc (.cells #[.int .i64 a, .int .i64 b, .int .i64 c, .int .i64 d] 43)) := (Below.refl _ w).alloc (Nat.le_refl _) _
 clear HB
 have A0 := fun w' => Lib.hid (place_calls a w')
 have A1 := fun w' => Lib.hid (place_calls b w')
 have A2 := fun w' => Lib.hid (wide_calls c w')
 have A3 := fun w' => Lib.hid (wide_calls d w')
 have hok : okR ⟨a, b, c, d⟩ = (okP a && okP b && okW c && okW d) := rfl
 rw [hok]
 unfold c43
 generalize okP a = q0 at A0 ⊢
 generalize okP b = q1 at A1 ⊢
 generalize okW c = q2 at A2 ⊢
 generalize okW d = q3 at A3 ⊢
 clear hok
 cases q0
 · go_enter Try.func72, Try.ntmps72
   go_wp2_with (first | (with_reducible refine (A0 _).out.mono ?_; rintro e w' ⟨rfl, rfl⟩))
   go_ret
   exact ⟨rfl, hB⟩
 · cases q1
   · go_enter Try.func72, Try.ntmps72
     go_wp2_with (first | (first | (with_reducible refine (A0 _).out.mono ?_; rintro e w' ⟨rfl, rfl⟩) | (with_reducible refine (A1 _).out.mono ?_; rintro e w' ⟨rfl, rfl⟩)))
     go_ret
     exact ⟨rfl, hB⟩
   · cases q2
     · go_enter Try.func72, Try.ntmps72
       go_wp2_with (first | (first | (with_reducible refine (A0 _).out.mono ?_; rintro e w' ⟨rfl, rfl⟩) | (with_reducible refine (A1 _).out.mono ?_; rintro e w' ⟨rfl, rfl⟩)) | (first | (with_reducible refine (A2 _).out.mono ?_; rintro e w' ⟨rfl, rfl⟩)))
       go_ret
       exact ⟨rfl, hB⟩
     · cases q3
       · go_enter Try.func72, Try.ntmps72
         go_wp2_with (first | (first | (with_reducible refine (A0 _).out.mono ?_; rintro e w' ⟨rfl, rfl⟩) | (with_reducible refine (A1 _).out.mono ?_; rintro e w' ⟨rfl, rfl⟩)) | (first | (with_reducible refine (A2 _).out.mono ?_; rintro e w' ⟨rfl, rfl⟩) | (with_reducible refine (A3 _).out.mono ?_; rintro e w' ⟨rfl, rfl⟩)))
         go_ret
         exact ⟨rfl, hB⟩
       · go_enter Try.func72, Try.ntmps72
         go_wp2_with (first | (first | (with_reducible refine (A0 _).out.mono ?_; rintro e w' ⟨rfl, rfl⟩) | (with_reducible refine (A1 _).out.mono ?_; rintro e w' ⟨rfl, rfl⟩)) | (first | (with_reducible refine (A2 _).out.mono ?_; rintro e w' ⟨rfl, rfl⟩) | (with_reducible refine (A3 _).out.mono ?_; rintro e w' ⟨rfl, rfl⟩)))
         go_ret
         exact ⟨rfl, hB⟩
theorem enters71 : ∀ args w, (callFunc 71 args).run Try.prog w = .ok (.enter 71 args) w := Go.Proofs.enters_of Try.func71 (by kernel_rfl) rfl
theorem enters126 : ∀ args w, (callFunc 126 args).run Try.prog w = .ok (.enter 126 args) w := Go.Proofs.enters_of Try.func126 (by kernel_rfl) rfl
set_option maxRecDepth 100000 in
theorem not71_calls (x : S43) (w : World) : Calls Try.prog 71 #[.agg (c43 x)] w fun e w' => e = .returned (.bool (!okR x)) ∧ Below w.heap.size w w' := by
 have HB := Blk.new w #[.int .i64 x.f0, .int .i64 x.f1, .int .i64 x.f2, .int .i64 x.f3] 43
 have g0 := HB.cell 0 (v := .int .i64 x.f0) rfl
 have g1 := HB.cell 1 (v := .int .i64 x.f1) rfl
 have g2 := HB.cell 2 (v := .int .i64 x.f2) rfl
 have g3 := HB.cell 3 (v := .int .i64 x.f3) rfl
 have hB : Below w.heap.size w (w.alloc (.cells #[.int .i64 x.f0, .int .i64 x.f1, .int .i64 x.f2, .int .i64 x.f3] 43)) := (Below.refl _ w).alloc (Nat.le_refl _) _
 clear HB
 have HV := fun w' => Lib.hid (valid_calls x w')
 unfold c43 at HV ⊢
 go_enter Try.func71, Try.ntmps71
 go_wp2_with (first | (go_at_call 72; refine (HV _).out.mono ?_; rintro e w' ⟨rfl, hb⟩))
 go_ret
 exact ⟨rfl, hB.trans (hb.mono (by simp))⟩
set_option maxRecDepth 100000 in
theorem not126_calls (x : S43) (w : World) : Calls Try.prog 126 #[.agg (c43 x)] w fun e w' => e = .returned (.bool (!okR x)) ∧ Below w.heap.size w w' := by
 have HB := Blk.new w #[.int .i64 x.f0, .int .i64 x.f1, .int .i64 x.f2, .int .i64 x.f3] 43
 have g0 := HB.cell 0 (v := .int .i64 x.f0) rfl
 have g1 := HB.cell 1 (v := .int .i64 x.f1) rfl
 have g2 := HB.cell 2 (v := .int .i64 x.f2) rfl
 have g3 := HB.cell 3 (v := .int .i64 x.f3) rfl
 have hB : Below w.heap.size w (w.alloc (.cells #[.int .i64 x.f0, .int .i64 x.f1, .int .i64 x.f2, .int .i64 x.f3] 43)) := (Below.refl _ w).alloc (Nat.le_refl _) _
 clear HB
 have HV := fun w' => Lib.hid (valid_calls x w')
 unfold c43 at HV ⊢
 go_enter Try.func126, Try.ntmps126
 go_wp2_with (first | (go_at_call 72; refine (HV _).out.mono ?_; rintro e w' ⟨rfl, hb⟩))
 go_ret
 exact ⟨rfl, hB.trans (hb.mono (by simp))⟩
def badL (l : List S43) : Bool := l.any fun r => !okR r
theorem bad71_calls (A : Option Addr) (c : Nat) (l : List S43) (w : World) (hr : Kd.C k43 w A l.length l) :
 Calls Try.prog 70 #[.slice A l.length c, .func (.func 71) #[] #[]] w fun e w' => e = .returned (.bool (badL l)) ∧ Below w.heap.size w w' :=
 Contains_rects (fun r => !okR r) 71 #[] enters71 A c l w (fun W x _ => not71_calls x W) hr
theorem bad126_calls (A : Option Addr) (c : Nat) (l : List S43) (w : World) (hr : Kd.C k43 w A l.length l) :
 Calls Try.prog 70 #[.slice A l.length c, .func (.func 126) #[] #[]] w fun e w' => e = .returned (.bool (badL l)) ∧ Below w.heap.size w w' :=
 Contains_rects (fun r => !okR r) 126 #[] enters126 A c l w (fun W x _ => not126_calls x W) hr
theorem enters127 : ∀ args w, (callFunc 127 args).run Try.prog w = .ok (.enter 127 args) w := Go.Proofs.enters_of Try.func127 (by kernel_rfl) rfl
def inR (x y : Int) (r : S43) : Bool := decide (r.f0 ≤ x) && decide (x < wrap64 (r.f0 + r.f2)) && decide (r.f1 ≤ y) && decide (y < wrap64 (r.f1 + r.f3))
set_option maxRecDepth 100000 in
set_option maxHeartbeats 2000000 in
theorem covers1_calls (r : S43) (bx by_ : Nat) (x y : Int) (w : World) (hx : w.cell? ⟨bx, 0, none⟩ = some (.int .i64 x)) (hy : w.cell? ⟨by_, 0, none⟩ = some (.int .i64 y)) :
 Calls Try.prog 127 #[.agg (c43 r), .pointer (some ⟨bx, 0, none⟩), .pointer (some ⟨by_, 0, none⟩)] w fun e w' => e = .returned (.bool (inR x y r)) ∧ Below w.heap.size w w' := by
 obtain ⟨a, b, c, d⟩ := r
 have HB := Blk.new w #[.int .i64 a, .int .i64 b, .int .i64 c, .int .i64 d] 43
 have g0 := HB.cell 0 (v := .int .i64 a) rfl
 have g1 := HB.cell 1 (v := .int .i64 b) rfl
 have g2 := HB.cell 2 (v := .int .i64 c) rfl
 have g3 := HB.cell 3 (v := .int .i64 d) rfl
 have hB : Below w.heap.size w (w.alloc (.cells #[.int .i64 a, .int .i64 b, .int .i64 c, .int .i64 d] 43)) := (Below.refl _ w).alloc (Nat.le_refl _) _
 have lx : bx < w.heap.size := World.block_lt_of_cell? _ _ hx
 have ly : by_ < w.heap.size := World.block_lt_of_cell? _ _ hy
 clear HB
 have hx' : (w.alloc (.cells #[.int .i64 a, .int .i64 b, .int .i64 c, .int .i64 d] 43)).cell? ⟨bx, 0, none⟩ = some (.int .i64 x) := (World.cell?_alloc_lt _ _ _ lx).trans hx
 have hy' : (w.alloc (.cells #[.int .i64 a, .int .i64 b, .int .i64 c, .int .i64 d] 43)).cell? ⟨by_, 0, none⟩ = some (.int .i64 y) := (World.cell?_alloc_lt _ _ _ ly).trans hy
 clear hx hy
 have hin : inR x y ⟨a, b, c, d⟩ = (decide (x ≥ a) && decide (x < wrap64 (a + c)) && decide (y ≥ b) && decide (y < wrap64 (b + d))) := by simp [inR]
 rw [hin]
 unfold c43
 have hq0 : ∀ q, decide (x ≥ a) = q → decide (x ≥ a) = q := fun _ h => h
 cases h0 : decide (x ≥ a)
 · go_enter Try.func127, Try.ntmps127
   go_wp2
   go_ret
   exact ⟨by simp, hB⟩
 · cases h1 : decide (x < wrap64 (a + c))
   · go_enter Try.func127, Try.ntmps127
     go_wp2
     go_ret
     exact ⟨by simp, hB⟩
   · cases h2 : decide (y ≥ b)
     · go_enter Try.func127, Try.ntmps127
       go_wp2
       go_ret
       exact ⟨by simp, hB⟩
     · go_enter Try.func127, Try.ntmps127
       go_wp2
       go_ret
       exact ⟨by simp, hB⟩
def covL (l : List S43) (x y : Int) : Bool := l.any (inR x y)
set_option maxRecDepth 100000 in
theorem covers_calls (A : Option Addr) (c : Nat) (l : List S43) (x y : Int) (w : World) (hr : Kd.C k43 w A l.length l) :
 Calls Try.prog 77 #[.slice A l.length c, .int .i64 x, .int .i64 y] w fun e w' => e = .returned (.bool (covL l x y)) ∧ Below w.heap.size w w' := by
 obtain ⟨w1, hw1⟩ : ∃ w1, (w.alloc (.cells #[.int .i64 x] 3)).alloc (.cells #[.int .i64 y] 3) = w1 := ⟨_, rfl⟩
 have B1 := ((Blk.new w #[.int .i64 x] 3).alloc (.cells #[.int .i64 y] 3))
 have B2 := (Blk.new (w.alloc (.cells #[.int .i64 x] 3)) #[.int .i64 y] 3)
 have hB : Below w.heap.size w w1 := by rw [← hw1]; exact ((Below.refl _ w).alloc (Nat.le_refl _) _).alloc (by simp) _
 rw [hw1] at B1 B2
 rw [World.size_alloc] at B2
 have HC := Aside0.mk (Contains_rects (inR x y) 127 #[.pointer (some ⟨w.heap.size, 0, none⟩), .pointer (some ⟨w.heap.size + 1, 0, none⟩)] enters127 A c l w1
  (fun W r hW => covers1_calls r w.heap.size (w.heap.size + 1) x y W ((B1.below_ hW).cell 0 rfl) ((B2.below_ hW).cell 0 rfl)) (Kd.C_below hr hB))
 clear hr B1 B2
 go_enter Try.func77, Try.ntmps77
 go_wp2_with (first | (go_at_call 70; first | rw [hw1] | skip; refine HC.out.mono ?_; rintro e w' ⟨rfl, hb2⟩))
 go_ret
 exact ⟨rfl, hB.trans (hb2.mono hB.size)⟩
end Go.Proofs.Ythbajahklnpkcaa.PA

namespace Go.Proofs.Ythbajahklnpkcaa.PA
open Go.RowKit Go.Shelf Go.Sort Go.Proofs.YthbajahklnpkcaaW.PrintWords Go.Proofs.YthbajahklnpkcaaW.PrintLast Go.Proofs.YthbajahklnpkcaaW.PrintMore
set_option linter.unusedVariables false
set_option linter.unusedSimpArgs false
def sortI (zs : List Int) : List Int := zs.mergeSort fun x y => decide (x ≤ y)
abbrev ints (zs : List Int) : List Value := zs.map (Value.int .i64)
theorem grown_self (W : World) (r : Option Nat) : W.grownBy W r := World.grownBy.refl _ _
theorem grown_below {B : Nat} {X W W' : World} {row : Option Nat} (h : Below B X W) (hB : B ≤ W.heap.size) (hg : W.grownBy W' row) (hr : ∀ k, row = some k → B ≤ k) : Below B X W' := h.grown hg hB hr
theorem row_same {W W' : World} {base : Nat} {e : TypeId} {size : Nat} {v : Value} {n : Nat} {xs : List Value} (h : W.ownsRow base e size v n xs) (hs : ∀ k, v.ownBlock = some k → W'.heap[k]? = W.heap[k]?) : W'.ownsRow base e size v n xs := by
 rcases h.2 with ⟨rfl, h0⟩ | ⟨g, cap, cur, rfl, hb, hgb, hn, hm, hcs, ht⟩
 · exact ⟨h.1, .inl ⟨rfl, h0⟩⟩
 · exact ⟨h.1, .inr ⟨g, cap, cur, rfl, hb, (hs g rfl).trans hgb, hn, hm, hcs, ht⟩⟩
theorem row_bl {W : World} {base : Nat} {e : TypeId} {size : Nat} {v : Value} {n : Nat} {xs : List Value} (h : W.ownsRow base e size v n xs) {k : Nat} (hk : v.ownBlock = some k) : base ≤ k ∧ k < W.heap.size := by
 rcases h.2 with ⟨rfl, h0⟩ | ⟨g, cap, cur, rfl, hb, hgb, hn, hm, hcs, ht⟩
 · cases hk
 · cases hk; exact ⟨hb, (Array.getElem?_eq_some_iff.1 hgb).1⟩
theorem row_bel {W W' : World} {base : Nat} {e : TypeId} {size : Nat} {v : Value} {n : Nat} {xs : List Value} (h : W.ownsRow base e size v n xs) (hb : Below W.heap.size W W') : W'.ownsRow base e size v n xs := row_same h (fun k hk => hb.block k (row_bl h hk).2)
theorem row_base {W : World} {base base' : Nat} {e : TypeId} {size : Nat} {v : Value} {n : Nat} {xs : List Value} (h : W.ownsRow base e size v n xs) (hb : base' ≤ base) : W.ownsRow base' e size v n xs := by
 rcases h.2 with ⟨rfl, h0⟩ | ⟨g, cap, cur, rfl, hb', hgb, hn, hm, hcs, ht⟩
 · exact ⟨h.1, .inl ⟨rfl, h0⟩⟩
 · exact ⟨h.1, .inr ⟨g, cap, cur, rfl, Nat.le_trans hb hb', hgb, hn, hm, hcs, ht⟩⟩
theorem sort_own {W : World} {base : Nat} {A : Option Addr} {cap : Nat} {zs : List Int} (h : W.ownsRow base 3 1 (.slice A zs.length cap) zs.length (ints zs)) (hsz : zs.length < 4611686018427387904) :
 Calls Try.prog 142 #[.slice A zs.length cap] W fun e w' => e = .returned (.tuple #[]) ∧ W.grownBy w' (Value.slice A zs.length cap).ownBlock ∧ w'.ownsRow base 3 1 (.slice A zs.length cap) zs.length (ints (sortI zs)) := by
 rcases h.2 with ⟨e, h0⟩ | ⟨g', cap', cur, e, hb, hgb, hn, hm, hcs, ht⟩
 · have hz : zs = [] := List.length_eq_zero_iff.1 (by simpa using h0)
   subst hz
   cases e
   refine (AnyM.slices_Sort_int_none sortL none 0 W).mono ?_
   rintro e w' ⟨rfl, hw'⟩
   rw [hw']
   have e0 : sortI [] = [] := by simp [sortI]
   rw [e0]
   exact ⟨rfl, grown_self W _, h⟩
 cases e
 rw [Nat.mul_one] at ht
 refine (AnyM.slices_Sort_int sortL g' 0 cap zs W (holds_of_blockI hgb ht) (Array.getElem?_eq_some_iff.1 hgb).1 hsz).mono ?_
 rintro e w' ⟨rfl, n, os, rfl⟩
 exact ⟨rfl, grownBy_sortedI _, ownsRow_sortedI (by simp) hb hgb hn hm hcs⟩
theorem compact_own {W : World} {base : Nat} {A : Option Addr} {cap : Nat} {zs : List Int} (h : W.ownsRow base 3 1 (.slice A zs.length cap) zs.length (ints zs)) (hsz : zs.length < 4611686018427387904) :
 Calls Try.prog 143 #[.slice A zs.length cap] W fun e w' => e = .returned (.slice A (Lib.compact zs).length cap) ∧ W.grownBy w' (Value.slice A zs.length cap).ownBlock ∧ w'.ownsRow base 3 1 (.slice A (Lib.compact zs).length cap) (Lib.compact zs).length (ints (Lib.compact zs)) := by
 rcases h.2 with ⟨e, h0⟩ | ⟨g', cap', cur, e, hb, hgb, hn, hm, hcs, ht⟩
 · have hz : zs = [] := List.length_eq_zero_iff.1 (by simpa using h0)
   subst hz
   cases e
   refine (AnyG.slices_Compact_int_empty compactL none 0 W).mono ?_
   rintro e w' ⟨rfl, hw'⟩
   rw [hw']
   exact ⟨rfl, grown_self W _, h⟩
 cases e
 rw [Nat.mul_one] at ht
 refine (AnyG.slices_Compact_int compactL g' 0 cap zs W (holds_of_blockI hgb ht) (by omega) hn).mono ?_
 rintro e w' ⟨rfl, q, rfl⟩
 have hle : (Lib.compact zs).length ≤ zs.length := Lib.compact_length_le zs
 have e1 : (putRow (Value.int .i64) (Sort.ahead W q) g' 0 (Lib.compact zs ++ List.replicate (zs.length - (Lib.compact zs).length) 0).toArray) = grow (putRow (Value.int .i64) (Sort.ahead W q) g' 0 (Lib.compact zs ++ List.replicate (zs.length - (Lib.compact zs).length) 0).toArray) #[] := (grow_empty _).symm
 rw [e1]
 have h2 := ownsRow_sortedI (n := q) (os := #[]) (ss := zs) (ts := Lib.compact zs ++ List.replicate (zs.length - (Lib.compact zs).length) 0) (by simp; omega) hb hgb hn hm hcs
 refine ⟨rfl, grownBy_sortedI _, ?_⟩
 rcases h2.2 with ⟨e, _⟩ | ⟨g2, cap2, cur', e, hb', hgb', hn', hm', hcs', ht'⟩
 · cases e
 cases e
 refine ⟨by simp, .inr ⟨g', cap, cur', rfl, hb', hgb', by omega, hm', hcs', ?_⟩⟩
 rw [Nat.mul_one] at ht' ⊢
 have := congrArg (List.take (Lib.compact zs).length) ht'
 rw [List.take_take, Nat.min_eq_left hle, List.map_append] at this
 rw [this]
 simp
def PairB (g : Nat) (fa fb : S43 → Int) : Prop :=
 ∀ (W : World) (x : S43), Calls Try.prog g #[.agg (c43 x)] W fun e w' => e = .returned (.tuple #[.int .i64 (fa x), .int .i64 (fb x)]) ∧ Below W.heap.size W w'
theorem box4 (w : World) (x : S43) : ∀ w1, w1 = w.alloc (.cells #[.int .i64 x.f0, .int .i64 x.f1, .int .i64 x.f2, .int .i64 x.f3] 43) →
 w1.cell? ⟨w.heap.size, 0, none⟩ = some (.int .i64 x.f0) ∧ w1.cell? ⟨w.heap.size, 1, none⟩ = some (.int .i64 x.f1) ∧ w1.cell? ⟨w.heap.size, 2, none⟩ = some (.int .i64 x.f2) ∧ w1.cell? ⟨w.heap.size, 3, none⟩ = some (.int .i64 x.f3) ∧ Below w.heap.size w w1 := by
 rintro w1 rfl
 have HB := Blk.new w #[.int .i64 x.f0, .int .i64 x.f1, .int .i64 x.f2, .int .i64 x.f3] 43
 exact ⟨HB.cell 0 rfl, HB.cell 1 rfl, HB.cell 2 rfl, HB.cell 3 rfl, (Below.refl _ w).alloc (Nat.le_refl _) _⟩
set_option maxRecDepth 100000 in
theorem x139 : PairB 139 (fun r => r.f0) (fun r => wrap64 (r.f0 + r.f2)) := by
 intro w x
 obtain ⟨g0, g1, g2, g3, hB⟩ := box4 w x _ rfl
 unfold c43
 go_enter Try.func139, Try.ntmps139
 go_wp2
 repeat (go_quiet (fail); try go_wp2)
 refine bodyPost_ret (v := .tuple #[.int .i64 x.f0, .int .i64 (wrap64 (x.f0 + x.f2))]) (by simp [results, Try.results139, go_sem]) rfl ⟨rfl, ?_⟩
 first | exact pw_below_drewN hB _ | exact hB
set_option maxRecDepth 100000 in
theorem y140 : PairB 140 (fun r => r.f1) (fun r => wrap64 (r.f1 + r.f3)) := by
 intro w x
 obtain ⟨g0, g1, g2, g3, hB⟩ := box4 w x _ rfl
 unfold c43
 go_enter Try.func140, Try.ntmps140
 go_wp2
 repeat (go_quiet (fail); try go_wp2)
 refine bodyPost_ret (v := .tuple #[.int .i64 x.f1, .int .i64 (wrap64 (x.f1 + x.f3))]) (by simp [results, Try.results140, go_sem]) rfl ⟨rfl, ?_⟩
 first | exact pw_below_drewN hB _ | exact hB
def endsOf (fa fb : S43 → Int) (l : List S43) : List Int := l.flatMap fun r => if 0 < r.f2 ∧ 0 < r.f3 then [fa r, fb r] else []
def edgesL (fa fb : S43 → Int) (l : List S43) : List Int := Lib.compact (sortI (endsOf fa fb l))
theorem endsOf_len (fa fb : S43 → Int) : ∀ l : List S43, (endsOf fa fb l).length ≤ 2 * l.length
 | [] => by simp [endsOf]
 | r :: l => by
  have := endsOf_len fa fb l
  have e : endsOf fa fb (r :: l) = (if 0 < r.f2 ∧ 0 < r.f3 then [fa r, fb r] else []) ++ endsOf fa fb l := rfl
  rw [e]
  split <;> simp <;> omega
theorem endsOf_take (fa fb : S43 → Int) (l : List S43) (k : Nat) (x : S43) (hx : l[k]? = some x) : endsOf fa fb (l.take (k + 1)) = endsOf fa fb (l.take k) ++ (if 0 < x.f2 ∧ 0 < x.f3 then [fa x, fb x] else []) := by
 rw [List.take_add_one, hx, endsOf, List.flatMap_append]
 simp [endsOf]
theorem cells2_new (W : World) (a b : Value) (t : TypeId) : ∀ j u, [a, b][j]? = some u → (W.alloc (.cells #[a, b] t)).cell? ((⟨W.heap.size, 0, none⟩ : Addr).add j) = some u := by
 intro j u h
 have HB := Blk.new W #[a, b] t
 match j, h with
 | 0, h => simp at h; subst h; exact HB.cell 0 rfl
 | 1, h => simp at h; subst h; exact HB.cell 1 rfl
 | j + 2, h => simp at h
theorem own_sl {W : World} {base n : Nat} {e : TypeId} {size : Nat} {v : Value} {xs : List Value} (h : W.ownsRow base e size v n xs) : ∃ A c, v = .slice A n c := by
 rcases h.2 with ⟨rfl, h0⟩ | ⟨g, cap, cur, rfl, _⟩
 · exact ⟨none, 0, by rw [h0]⟩
 · exact ⟨_, _, rfl⟩
set_option maxRecDepth 100000 in
set_option maxHeartbeats 4000000 in
theorem edges_calls (g : Nat) (fa fb : S43 → Int) (eg : ∀ args w, (callFunc g args).run Try.prog w = .ok (.enter g args) w) (hg : PairB g fa fb) (A : Option Addr) (c : Nat) (l : List S43) (w : World) (hl : l.length ≤ 100000) (hr : Kd.C k43 w A l.length l) :
 Calls Try.prog 128 #[.slice A l.length c, .func (.func g) #[] #[]] w fun e w' => ∃ v, e = .returned v ∧ w'.ownsRow w.heap.size 3 1 v (edgesL fa fb l).length (ints (edgesL fa fb l)) ∧ Below w.heap.size w w' := by
 have HR := Aside0.mk hr
 have HG := Aside0.mk hg
 clear hr hg
 obtain ⟨i0, hi, hz0, hz1, hz2⟩ := info_parts info3
 go_enter Try.func128, Try.ntmps128
 go_wp2
 go_loopg [5, 7, 8, 9, 12] l.length (fun gg s5 _ _ _ s12 wr => ∃ (kk : Nat) (B : Option Addr) (cB : Nat), kk ≤ l.length ∧ l.length - kk ≤ gg ∧ s12 = .int .i64 kk ∧ s5 = .slice B (endsOf fa fb (l.take kk)).length cB ∧ Aside0 (Below w.heap.size w wr) ∧ Aside0 (wr.ownsRow w.heap.size 3 1 (.slice B (endsOf fa fb (l.take kk)).length cB) (endsOf fa fb (l.take kk)).length (ints (endsOf fa fb (l.take kk)))))
 case atStart => exact ⟨0, none, 0, Nat.zero_le _, by omega, rfl, rfl, ⟨Below.refl _ w⟩, ⟨World.ownsRow_nil _ _ _ _⟩⟩
 case round =>
  obtain ⟨kk, B, cB, hkk, hgg, rfl, rfl, BW, HO⟩ := hrel
  by_cases hlt : kk < l.length
  · have hltz : (kk : Int) < (l.length : Int) := by omega
    obtain ⟨ad, eA, hx0, hx1, hx2, hx3⟩ := at_T43 (Kd.C_below HR.out BW.out) (kk : Int) (by omega) (by omega)
    cases eA
    simp only [Int.toNat_natCast] at hx0 hx1 hx2 hx3
    have hel := rd_getElem43 l kk hlt
    generalize hy : rd_T43 l (kk : Int) = x at hx0 hx1 hx2 hx3
    rw [hy] at hel
    have ht := Aside0.mk (endsOf_take fa fb l kk x hel)
    have hzl := Aside0.mk (endsOf_len fa fb (l.take kk))
    have hz2l : (endsOf fa fb (l.take kk)).length ≤ 200000 := by have := hzl.out; rw [List.length_take] at this; omega
    generalize hzs : endsOf fa fb (l.take kk) = zs at HO ht hz2l ⊢
    clear hzs hzl hel hy
    obtain ⟨g0, g1, g2, g3, hB1⟩ := box4 wr x _ rfl
    have HB1 := Aside0.mk hB1
    clear hB1
    by_cases h2 : 0 < x.f2
    · have h2b : decide (x.f2 > 0) = true := decide_eq_true h2
      by_cases h3 : 0 < x.f3
      · have h3b : decide (x.f3 > 0) = true := decide_eq_true h3
        have ht2 := ht.out
        rw [if_pos ⟨h2, h3⟩] at ht2
        clear ht
        have HT := Aside0.mk ht2
        clear ht2
        have HX := Aside0.mk (HG.out (wr.alloc (.cells #[.int .i64 x.f0, .int .i64 x.f1, .int .i64 x.f2, .int .i64 x.f3] 43)) x)
        generalize fa x = ya at HT HX
        generalize fb x = yb at HT HX
        have hx := HX.out
        unfold c43 at hx
        have HX := Aside0.mk hx
        clear hx
        go_wp2_with (first | (go_at_fn g; refine HX.out.mono ?_; rintro e w5 ⟨rfl, hb5⟩; have HB5 := Aside0.mk (HB1.out.trans (hb5.mono HB1.out.size)); have HO5 := Aside0.mk (row_bel HO.out HB5.out); have hs5 := HB5.out.size; clear hb5) | (at_builtin; refine wpList_append_own _ rfl (.tmp 30) (.tmp 33) 32 rfl w.heap.size 3 i0 (.int .i64 0) 1 8 Try.underlying32 hi hz0 hz1 hz2 rfl (by decide) (.slice B zs.length cB) zs.length (ints zs) rfl (HO5.out.alloc _) ⟨w5.heap.size, 0, none⟩ 2 2 [.int .i64 ya, .int .i64 yb] rfl rfl ?c1 ?c2 ?c3 ?c4 ?c5 ?_; (case c1 => exact cells2_new _ _ _ _); (case c2 => intro u hu; simp only [List.mem_cons, List.not_mem_nil, or_false] at hu; rcases hu with rfl | rfl <;> rfl); (case c3 => unfold maxLen; omega); (case c4 => omega); (case c5 => have := BW.out.size; simp; omega); intro v' w6 hown hgr _; have HO6 := Aside0.mk hown; have HG6 := Aside0.mk hgr; clear hown hgr))
        have hge := fun k hk => (row_bl HO.out (k := k) hk).1
        have hown := HO6.out
        obtain ⟨B6, c6, rfl⟩ := own_sl hown
        have hlen : (endsOf fa fb (l.take (kk + 1))).length = zs.length + 2 := by rw [HT.out]; simp
        have hin : ints zs ++ [Value.int .i64 ya, Value.int .i64 yb] = ints (endsOf fa fb (l.take (kk + 1))) := by rw [HT.out]; simp
        rw [hin, ← hlen] at hown
        have hB5 := BW.out.trans (HB5.out.mono BW.out.size)
        have hB6 : Below w.heap.size w w6 := grown_below (hB5.alloc hB5.size _) (by have := hB5.size; simp; omega) HG6.out hge
        go_roundg (l.length - (kk + 1))
        case measure => omega
        case rel => exact ⟨kk + 1, B6, c6, by omega, by omega, by go_num, by rw [hlen], ⟨hB6⟩, ⟨hown⟩⟩
      · have h3b : decide (x.f3 > 0) = false := decide_eq_false h3
        have ht2 := ht.out
        rw [if_neg (fun h => h3 h.2), List.append_nil] at ht2
        clear ht
        go_wp2
        go_roundg (l.length - (kk + 1))
        case measure => omega
        case rel => exact ⟨kk + 1, B, cB, by omega, by omega, by go_num, by rw [ht2], ⟨BW.out.trans (HB1.out.mono BW.out.size)⟩, ⟨by rw [ht2]; exact row_bel HO.out HB1.out⟩⟩
    · have h2b : decide (x.f2 > 0) = false := decide_eq_false h2
      have ht2 := ht.out
      rw [if_neg (fun h => h2 h.1), List.append_nil] at ht2
      clear ht
      go_wp2
      go_roundg (l.length - (kk + 1))
      case measure => omega
      case rel => exact ⟨kk + 1, B, cB, by omega, by omega, by go_num, by rw [ht2], ⟨BW.out.trans (HB1.out.mono BW.out.size)⟩, ⟨by rw [ht2]; exact row_bel HO.out HB1.out⟩⟩
  · have hltz : ¬ (kk : Int) < (l.length : Int) := by omega
    obtain rfl : kk = l.length := by omega
    rw [List.take_length] at HO ⊢
    have hz2l := endsOf_len fa fb l
    generalize hzs : endsOf fa fb l = zs at HO hz2l ⊢
    have hed : edgesL fa fb l = Lib.compact (sortI zs) := by rw [← hzs]; rfl
    have HED := Aside0.mk hed
    clear hed hzs
    have hN : (sortI zs).length = zs.length := by simp [sortI]
    have HS := Aside0.mk (sort_own HO.out (by omega))
    have hge := fun k hk => (row_bl HO.out (k := k) hk).1
    go_wp2_with (first | (go_at_call 142; refine HS.out.mono ?_; rintro e w5 ⟨rfl, hg5, ho5⟩; have HG5 := Aside0.mk hg5; have ho5' := ho5; rw [← hN] at ho5'; have HC := Aside0.mk (compact_own ho5' (by omega)); rw [hN] at HC; clear hg5 ho5 ho5') | (go_at_call 143; refine HC.out.mono ?_; rintro e w6 ⟨rfl, hg6, ho6⟩))
    go_ret
    rw [HED.out]
    have hB5 : Below w.heap.size w w5 := grown_below BW.out BW.out.size HG5.out hge
    exact ⟨_, rfl, ho6, grown_below hB5 hB5.size hg6 hge⟩
end Go.Proofs.Ythbajahklnpkcaa.PA

namespace Go.Proofs.Ythbajahklnpkcaa.PA
open Go.RowKit Go.Shelf Go.Sort Go.Proofs.YthbajahklnpkcaaW.PrintWords Go.Proofs.YthbajahklnpkcaaW.PrintLast Go.Proofs.YthbajahklnpkcaaW.PrintMore
attribute [local go_sem] max2_int min2_int max_two min_two
set_option linter.unusedVariables false
set_option linter.unusedSimpArgs false
theorem grow_calls (n : Nat) (hn : n ≤ 1000000) (w : World) : Calls Try.prog 137 #[.slice none 0 0, .int .i64 n] w fun e w' => ∃ v, e = .returned v ∧ Kd.R k43 43 w' w.heap.size (fun _ => True) v [] ∧ Below w.heap.size w w' := by
 obtain ⟨i0, hi, hz0, hz1, hz2⟩ := info_parts info43
 by_cases h0 : n = 0
 · subst h0
   refine (Any8.slices_Grow_room growL none 0 0 0 w (by omega) (by omega) (by omega) (by omega)).mono ?_
   rintro e w' ⟨rfl, rfl⟩
   exact ⟨_, rfl, Kd.R_nil _ _ _ _ _, Below.refl _ _⟩
 · refine (Any8.slices_Grow_grow growL i0 _ hi hz0 (by rw [hz1]; decide) none 0 0 n [] w (by omega) (by omega) (by rw [hz2]; omega) (by omega) (by simp) (fun _ => rfl) (by intro a h; cases h)).mono ?_
   rintro e w' ⟨rfl, rfl⟩
   have hge := grownCap_ge w (0 + n) 0 (growL_ren.t 25)
   have hle := grownCap_le_maxLen w (0 + n) 0 (growL_ren.t 25) (by unfold maxLen; omega)
   refine ⟨_, rfl, ⟨fun _ _ => trivial, [], ⟨by simp, .inr ⟨w.heap.size, _, _, rfl, Nat.le_refl _, World.alloc_heap_new w.drew _, Nat.zero_le _, hle, ?_, by simp⟩⟩, Reps.none _ _⟩, ?_⟩
   · show _ = _ * 4
     simp only [Nat.zero_add] at hge ⊢
     simp only [Array.size_append, size_zeroCells, List.size_toArray, Value.cells]
     simp
     omega
   · exact (below_drew1 (Below.refl _ w)).alloc (Nat.le_refl _) _
def fl43 (l : List S43) : List Value := l.flatMap fun x => [.int .i64 x.f0, .int .i64 x.f1, .int .i64 x.f2, .int .i64 x.f3]
def partC (a b : List S43) (k : Nat) : List S43 := if k = 0 then [] else if k = 1 then a else a ++ b
set_option maxRecDepth 100000 in
set_option maxHeartbeats 4000000 in
theorem concat_calls (g : Nat) (A B : Option Addr) (cA cB : Nat) (a b : List S43) (w : World) (h0 : w.cell? ⟨g, 0, none⟩ = some (.slice A a.length cA)) (h1 : w.cell? ⟨g, 1, none⟩ = some (.slice B b.length cB))
 (hr : Kd.C k43 w A a.length a) (hr2 : Kd.C k43 w B b.length b) (hla : a.length ≤ 100000) (hlb : b.length ≤ 100000) :
 Calls Try.prog 111 #[.slice (some ⟨g, 0, none⟩) 2 2] w fun e w' => ∃ v, e = .returned v ∧ Kd.R k43 43 w' w.heap.size (fun _ => True) v (a ++ b) ∧ Below w.heap.size w w' := by
 have lg : g < w.heap.size := World.block_lt_of_cell? _ _ h0
 have HG := fun w' => Aside0.mk (grow_calls (a.length + b.length) (by omega) w')
 have HR := Aside0.mk hr
 have HR2 := Aside0.mk hr2
 clear hr hr2
 go_enter Try.func111, Try.ntmps111
 go_wp2
 go_loopg [3, 5, 11] 2 (fun gg s3 _ s11 wr => ∃ kk : Nat, kk ≤ 2 ∧ 2 - kk ≤ gg ∧ s11 = .int .i64 kk ∧ s3 = .int .i64 (partC a b kk).length ∧ wr = w)
 case atStart => exact ⟨0, by omega, by omega, rfl, rfl, rfl⟩
 case round =>
  obtain ⟨kk, hkk, hgg, rfl, rfl, hww⟩ := hrel
  obtain rfl := hww.symm
  rcases (show kk = 0 ∨ kk = 1 ∨ kk = 2 by omega) with rfl | rfl | rfl
  · have hw : wrap64 (((partC a b 0).length : Int) + (a.length : Int)) = (a.length : Int) := by simp [partC]; exact w64 (by omega) (by omega)
    have hnn : ¬ (a.length : Int) < 0 := by omega
    go_wp2
    go_roundg 1
    case measure => omega
    case rel => exact ⟨1, by omega, by omega, by go_num, by simp [partC], rfl⟩
  · have hw : wrap64 (((partC a b 1).length : Int) + (b.length : Int)) = ((a.length + b.length : Nat) : Int) := by simp [partC]; exact w64 (by omega) (by omega)
    have hnn : ¬ ((a.length + b.length : Nat) : Int) < 0 := by omega
    go_wp2
    go_roundg 0
    case measure => omega
    case rel => exact ⟨2, by omega, by omega, by go_num, by simp [partC], rfl⟩
  · have e2 : ((partC a b 2).length : Int) = ((a.length + b.length : Nat) : Int) := by simp [partC]
    rw [e2]
    clear e2
    go_wp2_with (first | (go_at_call 137; refine (HG _).out.mono ?_; rintro e w5 ⟨v5, rfl, hk5, hb5⟩; have HK5 := Aside0.mk hk5; have HB5 := Aside0.mk hb5; clear hk5 hb5))
    obtain ⟨A5, c5, rfl, hc5, hC5⟩ := Kd.R_reads HK5.out
    clear hc5 hC5
    have lg5 : g < w5.heap.size := Nat.lt_of_lt_of_le lg HB5.out.size
    go_wp2
    go_loopg [6, 8, 27] 2 (fun gg s6 _ s27 w7 => ∃ (kk : Nat) (A7 : Option Addr) (c7 : Nat), kk ≤ 2 ∧ 2 - kk ≤ gg ∧ s27 = .int .i64 kk ∧ s6 = .slice A7 (partC a b kk).length c7 ∧ Aside0 (Kd.R k43 43 w7 w.heap.size (fun _ => True) (.slice A7 (partC a b kk).length c7) (partC a b kk)) ∧ Aside0 (Below w.heap.size w w7))
    case atStart => exact ⟨0, A5, c5, by omega, by omega, rfl, rfl, HK5, HB5⟩
    case round =>
     obtain ⟨kk, A7, c7, hkk, hgg, rfl, rfl, HK7, HB7⟩ := hrel
     have hlp : (partC a b kk).length ≤ 200000 := by
      simp only [partC]
      split
      · simp
      · split
        · omega
        · simp; omega
     rcases (show kk = 0 ∨ kk = 1 ∨ kk = 2 by omega) with rfl | rfl | rfl
     · have h07 := (HB7.out.cell (p := ⟨g, 0, none⟩) lg).trans h0
       generalize hx : partC a b 0 = xs at HK7 hlp ⊢
       have hxs : xs ++ a = partC a b 1 := by rw [← hx]; simp [partC]
       clear hx
       have HX := Aside0.mk hxs
       clear hxs
       go_wp2_with (first | (at_builtin; go_loud (refine Kd.R_append_rows k43 (w0 := w) w.heap.size rfl (.tmp 31) (.tmp 32) 22 43 (.agg #[(.int .i64 0), (.int .i64 0), (.int .i64 0), (.int .i64 0)]) 32 rfl Try.underlying22 info43 rfl (by decide) (by omega) (.slice A7 xs.length c7) xs a A a.length cA (fun _ => True) (fun _ => False) rfl rfl HK7.out (Kd.C_below HR.out HB7.out) (fun _ _ h => h) (fun _ h => h.elim) (fun _ _ => trivial) HB7.out HB7.out.size ?aL ?_; (case aL => omega); intro v8 w8 ho8 hb8 hg8 hat8; have HO8 := Aside0.mk ho8; have HB8 := Aside0.mk hb8; clear ho8 hb8 hg8 hat8)))
       have ho := HO8.out
       rw [HX.out] at ho
       obtain ⟨A8, c8, rfl, -, -⟩ := Kd.R_reads ho
       go_roundg 1
       case measure => omega
       case rel => exact ⟨1, A8, c8, by omega, by omega, by go_num, rfl, ⟨ho⟩, HB8⟩
     · have h17 := (HB7.out.cell (p := ⟨g, 1, none⟩) lg).trans h1
       generalize hx : partC a b 1 = xs at HK7 hlp ⊢
       have hxs : xs ++ b = partC a b 2 := by rw [← hx]; simp [partC]
       clear hx
       have HX := Aside0.mk hxs
       clear hxs
       go_wp2_with (first | (at_builtin; refine Kd.R_append_rows k43 (w0 := w) w.heap.size rfl (.tmp 31) (.tmp 32) 22 43 (.agg #[(.int .i64 0), (.int .i64 0), (.int .i64 0), (.int .i64 0)]) 32 rfl Try.underlying22 info43 rfl (by decide) (by omega) (.slice A7 xs.length c7) xs b B b.length cB (fun _ => True) (fun _ => False) rfl rfl HK7.out (Kd.C_below HR2.out HB7.out) (fun _ _ h => h) (fun _ h => h.elim) (fun _ _ => trivial) HB7.out HB7.out.size ?aL ?_; (case aL => omega); intro v8 w8 ho8 hb8 hg8 hat8; have HO8 := Aside0.mk ho8; have HB8 := Aside0.mk hb8; clear ho8 hb8 hg8 hat8))
       have ho := HO8.out
       rw [HX.out] at ho
       obtain ⟨A8, c8, rfl, -, -⟩ := Kd.R_reads ho
       go_roundg 0
       case measure => omega
       case rel => exact ⟨2, A8, c8, by omega, by omega, by go_num, rfl, ⟨ho⟩, HB8⟩
     · have ho := HK7.out
       have e2 : partC a b 2 = a ++ b := by simp [partC]
       rw [e2] at ho
       have HO := Aside0.mk ho
       clear ho
       go_wp2
       go_ret
       exact ⟨_, rfl, by rw [e2]; exact HO.out, HB7.out⟩
end Go.Proofs.Ythbajahklnpkcaa.PA

namespace Go.Proofs.Ythbajahklnpkcaa.PA
set_option autoImplicit false
set_option linter.unusedVariables false
set_option linter.unusedSimpArgs false
abbrev Sp := Int × Int
abbrev Bd := Int × Int × List Sp
def addR (acc : List Sp) (u v : Int) (t : Bool) : List Sp :=
 if t = true then
  match acc with
  | (a, b) :: r => if b = u then (a, v) :: r else (u, v) :: (a, b) :: r
  | [] => [(u, v)]
 else acc
def unitR (p : Int → Bool) : Nat → Int → List Sp → List Sp
 | 0, _, acc => acc
 | n + 1, u, acc => unitR p n (u + 1) (addR acc u (u + 1) (p u))
def addB (acc : List Bd) (u v : Int) (s : List Sp) : List Bd :=
 match s with
 | [] => acc
 | _ :: _ =>
  match acc with
  | (a, b, t) :: r => if b = u ∧ t = s then (a, v, t) :: r else (u, v, s) :: (a, b, t) :: r
  | [] => [(u, v, s)]
def unitB (f : Int → List Sp) : Nat → Int → List Bd → List Bd
 | 0, _, acc => acc
 | n + 1, u, acc => unitB f n (u + 1) (addB acc u (u + 1) (f u))
def rows (P : Int → Int → Bool) (M : Nat) (y : Int) : List Sp := (unitR (fun x => P x y) (2 * M) (-(M : Int)) []).reverse
def form (P : Int → Int → Bool) (M : Nat) : List Bd := unitB (rows P M) (2 * M) (-(M : Int)) []
def addP (acc : List Bd) (u v : Int) (s : List Sp) : List Bd :=
 match acc with
 | (a, b, t) :: r => if b = u ∧ t = s then (a, v, t) :: r else (u, v, s) :: (a, b, t) :: r
 | [] => [(u, v, s)]
def keep (acc : List Bd) : List Bd := acc.filter fun b => !b.2.2.isEmpty
theorem gap {xs : List Int} (hp : xs.Pairwise (· < ·)) : ∀ {pre : List Int} {u v : Int} {r : List Int}, xs = pre ++ u :: v :: r → ∀ z ∈ xs, z ≤ u ∨ v ≤ z := by
 intro pre u v r e z hz
 subst e
 rw [List.pairwise_append] at hp
 obtain ⟨_, h2, h3⟩ := hp
 rw [List.pairwise_cons] at h2
 rcases List.mem_append.mp hz with hz | hz
 · have := h3 z hz u (by simp); omega
 · rcases List.mem_cons.mp hz with rfl | hz
   · omega
   · rcases List.mem_cons.mp hz with rfl | hz
     · omega
     · have := (List.pairwise_cons.mp h2.2).1 z hz; omega
def stepR (p : Int → Bool) (xs : List Int) (acc : List Sp) (k : Nat) : List Sp := addR acc (xs.getD k 0) (xs.getD (k + 1) 0) (p (xs.getD k 0))
def rowN (p : Int → Bool) (xs : List Int) (n : Nat) : List Sp := (List.range n).foldl (stepR p xs) []
theorem rowN_succ (p : Int → Bool) (xs : List Int) (n : Nat) : rowN p xs (n + 1) = stepR p xs (rowN p xs n) n := by simp [rowN, List.range_succ]
theorem addR_len (acc : List Sp) (u v : Int) (t : Bool) : (addR acc u v t).length ≤ acc.length + 1 := by
 cases t
 · simp [addR]
 · cases acc with
   | nil => simp [addR]
   | cons h r => obtain ⟨a, b⟩ := h; by_cases hb : b = u <;> simp [addR, hb]
theorem rowN_len (p : Int → Bool) (xs : List Int) : ∀ n : Nat, (rowN p xs n).length ≤ n
 | 0 => by simp [rowN]
 | n + 1 => by rw [rowN_succ]; exact Nat.le_trans (addR_len _ _ _ _) (by have := rowN_len p xs n; omega)
def bdN (f : Int → List Sp) (ys : List Int) (n : Nat) : List Bd := (List.range n).map fun i => (ys.getD i 0, ys.getD (i + 1) 0, f (ys.getD i 0))
theorem bdN_succ (f : Int → List Sp) (ys : List Int) (n : Nat) : bdN f ys (n + 1) = bdN f ys n ++ [(ys.getD n 0, ys.getD (n + 1) 0, f (ys.getD n 0))] := by simp [bdN, List.range_succ]
theorem bdN_len (f : Int → List Sp) (ys : List Int) (n : Nat) : (bdN f ys n).length = n := by simp [bdN]
theorem bdN_pre (f : Int → List Sp) (ys : List Int) {i n : Nat} (h : i < n) : ∃ rest, bdN f ys i ++ (ys.getD i 0, ys.getD (i + 1) 0, f (ys.getD i 0)) :: rest = bdN f ys n := by
 refine ⟨(bdN f ys n).drop (i + 1), ?_⟩
 have e : bdN f ys (i + 1) = (bdN f ys n).take (i + 1) := by
  simp only [bdN, ← List.map_take, List.take_range]
  rw [Nat.min_eq_left (by omega)]
 have : bdN f ys i ++ (ys.getD i 0, ys.getD (i + 1) 0, f (ys.getD i 0)) :: (bdN f ys n).drop (i + 1) = bdN f ys (i + 1) ++ (bdN f ys n).drop (i + 1) := by rw [bdN_succ]; simp
 rw [this, e, List.take_append_drop]
def accP (l : List Bd) : List Bd := l.foldl (fun acc x => addP acc x.1 x.2.1 x.2.2) []
theorem accP_snoc (l : List Bd) (x : Bd) : accP (l ++ [x]) = addP (accP l) x.1 x.2.1 x.2.2 := by simp [accP]
theorem addP_len (acc : List Bd) (u v : Int) (s : List Sp) : (addP acc u v s).length ≤ acc.length + 1 := by
 cases acc with
 | nil => simp [addP]
 | cons h r => obtain ⟨a, b, t⟩ := h; by_cases hb : b = u ∧ t = s <;> simp [addP, hb]
theorem accP_len (l : List Bd) : (accP l).length ≤ l.length := by
 have : ∀ (l : List Bd) (acc : List Bd), (l.foldl (fun acc x => addP acc x.1 x.2.1 x.2.2) acc).length ≤ acc.length + l.length := by
  intro l
  induction l with
  | nil => intro acc; simp
  | cons x l ih =>
   intro acc
   have h1 := ih (addP acc x.1 x.2.1 x.2.2)
   have h2 := addP_len acc x.1 x.2.1 x.2.2
   simp only [List.foldl_cons, List.length_cons]
   omega
 have := this l []
 simpa [accP] using this
def spansOf (is : Bool → Bool → Bool) (a b : List S43) (xs : List Int) (y : Int) : List Sp := (rowN (fun x => is (covL a x y) (covL b x y)) xs (xs.length - 1)).reverse
def bandsOf (is : Bool → Bool → Bool) (a b : List S43) (xs ys : List Int) : List Bd := bdN (spansOf is a b xs) ys (ys.length - 1)
end Go.Proofs.Ythbajahklnpkcaa.PA

namespace Go.Proofs.Ythbajahklnpkcaa.PA
open Go.RowKit Go.Shelf Go.Sort Go.Proofs.YthbajahklnpkcaaW.PrintWords Go.Proofs.YthbajahklnpkcaaW.PrintLast Go.Proofs.YthbajahklnpkcaaW.PrintMore
set_option linter.unusedVariables false
set_option linter.unusedSimpArgs false
theorem info145 : (Try.prog.info? 145).map (fun i => (i.zero, i.size, i.bytes)) = some (some (.agg #[(.int .i64 0), (.int .i64 0)]), 2, 16) := by kernel_rfl
theorem info142 : (Try.prog.info? 142).map (fun i => (i.zero, i.size, i.bytes)) = some (some (.agg #[(.int .i64 0), (.int .i64 0), .slice none 0 0]), 3, 40) := by kernel_rfl
theorem news2 (W : World) (g : Nat) (a b : Value) (t : TypeId) (h : W.heap[g]? = some (.cells #[a, b] t (0, 0))) : ∀ j u, [a, b][j]? = some u → W.cell? ((⟨g, 0, none⟩ : Addr).add j) = some u := by
 intro j u hj
 have HB : Blk W g #[a, b] t := h
 match j, hj with
 | 0, h => simp at h; subst h; exact HB.cell 0 rfl
 | 1, h => simp at h; subst h; exact HB.cell 1 rfl
 | j + 2, h => simp at h
theorem own_cell {W : World} {base g cap n size : Nat} {e : TypeId} {xs : List Value} (h : W.ownsRow base e size (.slice (some ⟨g, 0, none⟩) n cap) n xs) {j : Nat} {u : Value} (hu : xs[j]? = some u) : W.cell? ⟨g, j, none⟩ = some u ∧ W.frozen? ⟨g, j, none⟩ = false := by
 rcases h.2 with ⟨e, _⟩ | ⟨g', cap', cur, e, _, hgb, hn, _, hcs, ht⟩
 · cases e
 cases e
 have hj : j < xs.length := (List.getElem?_eq_some_iff.1 hu).1
 have hl := h.1
 have hc : cur[j]? = some u := by
  have h1 : (cur.toList.take (n * size))[j]? = some u := by rw [ht]; exact hu
  rw [List.getElem?_take, if_pos (by omega)] at h1
  simpa using h1
 exact ⟨by simp [World.cell?, hgb, hc], by simp [World.frozen?, hgb]⟩
theorem own_some {W : World} {base n size : Nat} {e : TypeId} {A : Option Addr} {c : Nat} {xs : List Value} (h : W.ownsRow base e size (.slice A n c) n xs) (hn : 0 < n) : ∃ g, A = some ⟨g, 0, none⟩ := by
 rcases h.2 with ⟨e, h0⟩ | ⟨g', cap', cur, e, _⟩
 · omega
 · cases e; exact ⟨g', rfl⟩
theorem own_set {W : World} {base g cap n size : Nat} {e : TypeId} {xs : List Value} (h : W.ownsRow base e size (.slice (some ⟨g, 0, none⟩) n cap) n xs) (i : Nat) (u : Value) : (W.setCell ⟨g, i, none⟩ u).ownsRow base e size (.slice (some ⟨g, 0, none⟩) n cap) n (xs.set i u) := by
 rcases h.2 with ⟨e, _⟩ | ⟨g', cap', cur, e, hb, hgb, hn, hm, hcs, ht⟩
 · cases e
 cases e
 refine ⟨by simpa using h.1, .inr ⟨g, cap, cur.setIfInBounds i u, rfl, hb, ?_, hn, hm, by simpa using hcs, ?_⟩⟩
 · simp [World.setCell, Array.getElem?_modify, hgb]
 · rw [← ht, Array.toList_setIfInBounds, List.take_set]
theorem ints_get {xs : List Int} {i : Nat} (h : i < xs.length) : (ints xs)[i]? = some (.int .i64 (xs.getD i 0)) := by
 simp [ints, List.getElem?_eq_getElem h, h]
def fl145 (l : List Sp) : List Value := l.flatMap fun s => [.int .i64 s.1, .int .i64 s.2]
theorem fl145_len (l : List Sp) : (fl145 l).length = l.length * 2 := by
 induction l with
 | nil => rfl
 | cons s l ih =>
  have e : fl145 (s :: l) = .int .i64 s.1 :: .int .i64 s.2 :: fl145 l := rfl
  rw [e, List.length_cons, List.length_cons, ih, List.length_cons]; omega
theorem fl145_snoc (l : List Sp) (s : Sp) : fl145 (l ++ [s]) = fl145 l ++ [.int .i64 s.1, .int .i64 s.2] := by simp [fl145]
theorem fl145_last (l : List Sp) (s : Sp) : (fl145 (l ++ [s]))[l.length * 2 + 1]? = some (.int .i64 s.2) := by
 rw [fl145_snoc, List.getElem?_append_right (by rw [fl145_len]; omega), fl145_len, show l.length * 2 + 1 - l.length * 2 = 1 by omega]
 rfl
theorem fl145_set (l : List Sp) (s : Sp) (v : Int) : (fl145 (l ++ [s])).set (l.length * 2 + 1) (.int .i64 v) = fl145 (l ++ [(s.1, v)]) := by
 rw [fl145_snoc, fl145_snoc, List.set_append_right _ _ (by rw [fl145_len]; omega), fl145_len, show l.length * 2 + 1 - l.length * 2 = 1 by omega]
 rfl
def IsB (gi : Nat) (is : Bool → Bool → Bool) : Prop := ∀ (W : World) (p q : Bool), Calls Try.prog gi #[.bool p, .bool q] W fun e w' => e = .returned (.bool (is p q)) ∧ Below W.heap.size W w'
structure EnvAt (A B : Option Addr) (cA cB : Nat) (a b : List S43) (gi : Nat) (xs ys : List Int) (X Y : Option Addr) (cX cY : Nat) (pa pb pf px py base : Nat) (W : World) : Prop where
 ba : Boxed W pa 22 (.slice A a.length cA)
 bb : Boxed W pb 22 (.slice B b.length cB)
 bf : Boxed W pf 75 (.func (.func gi) #[] #[])
 bx : Boxed W px 32 (.slice X xs.length cX)
 by_ : Boxed W py 32 (.slice Y ys.length cY)
 rx : W.ownsRow base 3 1 (.slice X xs.length cX) xs.length (ints xs)
 ry : W.ownsRow base 3 1 (.slice Y ys.length cY) ys.length (ints ys)
 ca : Kd.C k43 W A a.length a
 cb : Kd.C k43 W B b.length b
section
variable {A B : Option Addr} {cA cB : Nat} {a b : List S43} {gi : Nat} {xs ys : List Int} {X Y : Option Addr} {cX cY pa pb pf px py base : Nat} {W W' : World}
theorem box_bel {k : Nat} {t : TypeId} {v : Value} (h : Boxed W k t v) (hb : Below W.heap.size W W') : Boxed W' k t v := (hb.block k h.lt).trans h
theorem EnvAt.bel (h : EnvAt A B cA cB a b gi xs ys X Y cX cY pa pb pf px py base W) (hb : Below W.heap.size W W') : EnvAt A B cA cB a b gi xs ys X Y cX cY pa pb pf px py base W' :=
 ⟨box_bel h.ba hb, box_bel h.bb hb, box_bel h.bf hb, box_bel h.bx hb, box_bel h.by_ hb, row_bel h.rx hb, row_bel h.ry hb, Kd.C_below h.ca hb, Kd.C_below h.cb hb⟩
end
def KtN (N bl : Nat) (P Q : World) : Prop := P.heap.size ≤ Q.heap.size ∧ ∀ (k : Nat) (o : Obj), k < N → k ≠ bl → P.heap[k]? = some o → o.isCells = true → Q.heap[k]? = some o
def TiB (P Q : World) : Prop := Below P.heap.size P Q
theorem C43_keep {w W : World} {A : Option Addr} {n : Nat} {l : List S43} (h : Kd.C k43 w A n l) (hk : ∀ (k : Nat) (o : Obj), w.heap[k]? = some o → o.isCells = true → W.heap[k]? = some o) : Kd.C k43 W A n l := by
 obtain ⟨h1, h2, h3⟩ := h
 refine ⟨h1, h2, fun h0 => ?_⟩
 obtain ⟨ad, e, hc⟩ := h3 h0
 refine ⟨ad, e, fun j p hp => ?_⟩
 obtain ⟨c, hl, hK, hcell⟩ := hc j p hp
 refine ⟨c, hl, hK, fun i u hu => ?_⟩
 have h4 := hcell i u hu
 obtain ⟨o, ho, hco⟩ := cells_of_cell h4
 rw [World.cell?_of_block ((hk _ _ ho hco).trans ho.symm)]
 exact h4
theorem EnvAt.keep {A B : Option Addr} {cA cB : Nat} {a b : List S43} {gi : Nat} {xs ys : List Int} {X Y : Option Addr} {cX cY pa pb pf px py N bl : Nat} {w0 w W : World} (h : EnvAt A B cA cB a b gi xs ys X Y cX cY pa pb pf px py (bl + 1) w)
 (hN : N = w.heap.size) (hbl : bl = w0.heap.size) (hb0 : Below w0.heap.size w0 w) (hca : Kd.C k43 w0 A a.length a) (hcb : Kd.C k43 w0 B b.length b)
 (la : bl < pa) (lb : bl < pb) (lf : bl < pf) (lx : bl < px) (ly : bl < py) (hk : KtN N bl w W) : EnvAt A B cA cB a b gi xs ys X Y cX cY pa pb pf px py (bl + 1) W := by
 have hbx : ∀ {k : Nat} {t : TypeId} {v : Value}, Boxed w k t v → bl < k → Boxed W k t v := fun hb hlt => hk.2 _ _ (by rw [hN]; exact hb.lt) (by omega) hb rfl
 have hrow : ∀ {v : Value} {n : Nat} {zs : List Value}, w.ownsRow (bl + 1) 3 1 v n zs → W.ownsRow (bl + 1) 3 1 v n zs := by
  intro v n zs hr
  refine row_same hr (fun k hkk => ?_)
  have h1 := row_bl hr hkk
  obtain ⟨cells, hc⟩ := own_typed hr k hkk
  rw [hc]
  exact hk.2 k _ (by rw [hN]; exact h1.2) (by omega) hc rfl
 have hc0 : ∀ (k : Nat) (o : Obj), w0.heap[k]? = some o → o.isCells = true → W.heap[k]? = some o := by
  intro k o ho hco
  have hlt : k < w0.heap.size := (Array.getElem?_eq_some_iff.1 ho).1
  exact hk.2 k o (by rw [hN]; exact Nat.lt_of_lt_of_le hlt hb0.size) (by omega) ((hb0.block k hlt).trans ho) hco
 exact ⟨hbx h.ba la, hbx h.bb lb, hbx h.bf lf, hbx h.bx lx, hbx h.by_ ly, hrow h.rx, hrow h.ry, C43_keep hca hc0, C43_keep hcb hc0⟩
theorem ktN_trans {N bl : Nat} {P Q R : World} (h : KtN N bl P Q) (h' : KtN N bl Q R) : KtN N bl P R := ⟨Nat.le_trans h.1 h'.1, fun k o h1 h2 h3 h4 => h'.2 k o h1 h2 (h.2 k o h1 h2 h3 h4) h4⟩
theorem ktN_bel {N bl : Nat} {P Q : World} (h : Below P.heap.size P Q) : KtN N bl P Q := ⟨h.size, fun k o _ _ ho _ => (h.block k (Array.getElem?_eq_some_iff.1 ho).1).trans ho⟩
end Go.Proofs.Ythbajahklnpkcaa.PA
