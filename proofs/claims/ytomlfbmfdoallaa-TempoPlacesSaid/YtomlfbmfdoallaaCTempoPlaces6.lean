/- TempoPlaces, part 6: what the row is built on. -/
import Derived.Test.YtomlfbmfdoallaaCTempoPlaces5
namespace Go.Proofs.Ytomlfbmfdoallaa.PA
open Go.RowKit Go.Proofs.YtomlfbmfdoallaaW.PrintWords Go.Proofs.YtomlfbmfdoallaaW.PrintLast Go.Proofs.YtomlfbmfdoallaaW.PrintMore
attribute [local go_sem] max2_int min2_int max_two min_two max_three min_three max_four min_four
set_option linter.unusedVariables false
set_option linter.unusedSimpArgs false
def continuoref30_Place.l0 : Nat → List (S61) → Int → Int → Int → Option (Int × Int × Int × Int)
 | 0, _, _, _, _ => none
 | k + 1, x0, x1, x6, x7 => if x6 < x7 then ((continuoref30_bar.f k x0 (wrap64 (Int.tdiv (wrap64 ((wrap64 (x6 + x7)) + 1)) 2))).bind fun bt212 => (if bt212.1 ≤ x1 then (continuoref30_Place.l0 k x0 x1 (wrap64 (Int.tdiv (wrap64 ((wrap64 (x6 + x7)) + 1)) 2)) x7) else (continuoref30_Place.l0 k x0 x1 x6 (wrap64 ((wrap64 (Int.tdiv (wrap64 ((wrap64 (x6 + x7)) + 1)) 2)) - 1))))) else ((continuoref30_bar.f k x0 x6).bind fun bt217 => (if bt217.2.2.2 = 0 then (none) else (some (x6, wrap64 (Int.tdiv (wrap64 (x1 - bt217.1)) bt217.2.2.2), Int.tmod (wrap64 (x1 - bt217.1)) bt217.2.2.2, 0))))
def continuoref30_Place.f (k : Nat) (l0 : List (S61)) (a1 : Int) : Option (Int × Int × Int × Int) := (continuoref30_ValidMeter.f k l0).bind fun t210 => (if t210 = true then ((continuoref30_time.f a1).bind fun t211 => (if t211 = true then (continuoref30_Place.l0 k l0 a1 0 1000000000) else (some (0, 0, 0, 7)))) else (some (0, 0, 0, 1)))
theorem continuoref30_Place.mono_l : ∀ k, (∀ y0 y1 y2 y3, LeO (continuoref30_Place.l0 k y0 y1 y2 y3) (continuoref30_Place.l0 (k + 1) y0 y1 y2 y3))
 | 0 => fun _ _ _ _ r h => by simp [continuoref30_Place.l0] at h
 | k + 1 => by
  have ih0 := continuoref30_Place.mono_l k
  · intro y0 y1 y2 y3
    unfold continuoref30_Place.l0
    repeat' first
    | (with_reducible exact ih0 _ _ _ _)
    | (with_reducible exact continuoref30_ValidMeter.mono _ _)
    | (with_reducible exact continuoref30_bar.mono _ _ _)
    | (with_reducible exact LeO.refl _)
    | (with_reducible exact LeO.none _)
    | (with_reducible refine LeO.ite ?_ ?_)
    | (with_reducible refine LeO.bind ?_ (fun _ => ?_))
    | exact ih0 _ _ _ _
    | exact continuoref30_ValidMeter.mono _ _
    | exact continuoref30_bar.mono _ _ _
    | exact LeO.none _
    | refine LeO.ite ?_ ?_
    | refine LeO.bind ?_ (fun _ => ?_)
theorem continuoref30_Place.mono : ∀ a0 a1 k, LeO (continuoref30_Place.f k a0 a1) (continuoref30_Place.f (k + 1) a0 a1) := by
 intro a0 a1 k
 have ih0 := continuoref30_Place.mono_l k
 unfold continuoref30_Place.f
 repeat' first
  | (with_reducible exact ih0 _ _ _ _)
  | (with_reducible exact continuoref30_ValidMeter.mono _ _)
  | (with_reducible exact continuoref30_bar.mono _ _ _)
  | (with_reducible exact LeO.refl _)
  | (with_reducible exact LeO.none _)
  | (with_reducible refine LeO.ite ?_ ?_)
  | (with_reducible refine LeO.bind ?_ (fun _ => ?_))
  | exact ih0 _ _ _ _
  | exact continuoref30_ValidMeter.mono _ _
  | exact continuoref30_bar.mono _ _ _
  | exact LeO.none _
  | refine LeO.ite ?_ ?_
  | refine LeO.bind ?_ (fun _ => ?_)
def continuoref30_Place.T13 : Bool × List (List Nat × List Nat) := (true, [([], []), ([], []), ([], []), ([1, 2], [1, 2]), ([], []), ([4], [4]), ([3, 5], [3, 5]), ([], []), ([], []), ([7, 8], [7, 8]), ([], []), ([10], [10]), ([9, 11], [9, 11]), ([0, 6, 12], [0, 6, 12]), ([13, 0, 1, 2, 3, 4, 5, 6, 7, 8, 9, 10, 11, 12, 13], [13]), ([14, 0, 1, 2, 3, 4, 5, 6, 7, 8, 9, 10, 11, 12, 13, 14], [])])
def continuoref30_Place.B13 : List Nat := [0, 0, 0, 6, 0, 16, 62, 0, 0, 384, 0, 1024, 3968, 8191, 16383, 32767]
theorem continuoref30_Place.tab13 : rtab .any (opsOf Try.f17 13) = continuoref30_Place.T13 := by kernel_rfl
theorem continuoref30_Place.bits13 : waitsOk continuoref30_Place.T13.2 continuoref30_Place.B13 = true := by kernel_rfl
set_option maxHeartbeats 8000000 in
set_option maxRecDepth 100000 in
theorem continuoref30_Place.calls (k : Nat) (A0 : Option Addr) (c0 : Nat) (l0 : List (S61)) (a1 : Int) (r1 : Int) (r2 : Int) (r3 : Int) (r4 : Int) (w : World) (hr0 : Kd.C k61 w A0 l0.length l0) (hc0 : l0.length ≤ c0) (h : continuoref30_Place.f k l0 a1 = some (r1, r2, r3, r4)) :
 Calls Try.prog 17 #[.slice A0 l0.length c0, .int .i64 a1] w fun e w' => e = .returned (.tuple #[.agg #[.int .i64 r1, .int .i64 r2, .int .i64 r3], .int .i64 r4]) ∧ Below w.heap.size w w' := by
 have hu37 := Try.underlying37
 have hu61 := Try.underlying61
 have HR0 := Aside0.mk hr0
 have HC0 := Aside0.mk hc0
 clear hr0 hc0
 have HB := Aside0.mk (Below.refl w.heap.size w)
 have H : ((continuoref30_ValidMeter.f k l0).bind fun t210 => (if t210 = true then ((continuoref30_time.f a1).bind fun t211 => (if t211 = true then (continuoref30_Place.l0 k l0 a1 0 1000000000) else (some (0, 0, 0, 7)))) else (some (0, 0, 0, 1)))) = some (r1, r2, r3, r4) := h
 clear h
 replace H := Option.bind_eq_some_iff.mp H
 obtain ⟨t210, A30, H⟩ := H
 replace H : (if t210 = true then ((continuoref30_time.f a1).bind fun t211 => (if t211 = true then (continuoref30_Place.l0 k l0 a1 0 1000000000) else (some (0, 0, 0, 7)))) else (some (0, 0, 0, 1))) = some (r1, r2, r3, r4) := H
 have A3 := Aside0.mk A30
 clear A30
 by_cases c4 : t210 = true
 · subst c4
   have H1 : ((continuoref30_time.f a1).bind fun t211 => (if t211 = true then (continuoref30_Place.l0 k l0 a1 0 1000000000) else (some (0, 0, 0, 7)))) = some (r1, r2, r3, r4) := by rw [if_pos rfl] at H; exact H
   clear H
   have H := H1
   clear H1
   replace H := Option.bind_eq_some_iff.mp H
   obtain ⟨t211, A50, H⟩ := H
   replace H : (if t211 = true then (continuoref30_Place.l0 k l0 a1 0 1000000000) else (some (0, 0, 0, 7))) = some (r1, r2, r3, r4) := H
   have A5 := Aside0.mk A50
   clear A50
   by_cases c6 : t211 = true
   · subst c6
     have H1 : (continuoref30_Place.l0 k l0 a1 0 1000000000) = some (r1, r2, r3, r4) := by rw [if_pos rfl] at H; exact H
     clear H
     have H := H1
     clear H1
     have H' := Aside0.mk H
     clear H
     go_enter Try.func17, Try.ntmps17
     go_wp2_with (first | ((with_reducible refine gate_dst (N := 4) rfl ?_); refine box_event ?hg (N := 4) ?hd (cs := #[.int .i64 0, .int .i64 0, .int .i64 0]) (t := 37) ?hr ?_; (case hd => rfl); (case hg => rfl); (case hr => first | (go_simp; done) | (go_simp; rfl)); intro gb209 hg w7 hbox hb; have n0_ := Aside0.mk (below_step (by repeat (first | (with_reducible first | exact HB.out | apply below_alloc | apply pw_below_drewN | apply below_drew1) | exact HB.out)) hb); have n1_ := Aside0.mk (hbox); have n2_ := Aside0.mk ((by rw [hg]; exact (below_size (by repeat (first | (with_reducible first | exact HB.out | apply below_alloc | apply pw_below_drewN | apply below_drew1) | exact HB.out))) : w.heap.size ≤ gb209)); have n3_ := Aside0.mk ((by rw [hg]; exact (below_size (by repeat (first | (with_reducible first | exact HB.out | apply below_alloc | apply pw_below_drewN | apply below_drew1) | exact HB.out))) : w.heap.size ≤ gb209)); clear HB; have HB := n0_; have BK209 := n1_; have GW209 := n2_; have GE209 := n3_; clear n0_ n1_ n2_ n3_; clear hb hbox hg) | ((with_reducible refine gate_callee (f := 19) rfl ?_); refine goesL_ (some 14) rfl rfl Try.func19 (by kernel_rfl) rfl #[.slice A0 l0.length c0] rfl (by (try simp only [List.map_toArray, List.map_cons, List.map_nil]); first | done | rfl | (simp only [List.length_drop, List.length_take]; rfl)) ?_; (with_reducible refine (continuoref30_ValidMeter.calls k _ _ l0 true _ ?side1 ?side2 A3.out).mono ?_); (case side1 => repeat (first | exact (Kd.C_below HR0.out HB.out) | (with_reducible refine Kd.C_alloc ?_ _) | (with_reducible refine Kd.C_drewN ?_ _) | (with_reducible refine Kd.C_drew ?_))); (case side2 => exact HC0.out); rintro e w' ⟨rfl, ⟨nd, rfl⟩⟩; refine ⟨_, rfl, ?_⟩) | ((with_reducible refine gate_callee (f := 50) rfl ?_); refine goesL_ (some 18) rfl rfl Try.func50 (by kernel_rfl) rfl #[.int .i64 a1] rfl (by (try simp only [List.map_toArray, List.map_cons, List.map_nil]); first | done | rfl | (simp only [List.length_drop, List.length_take]; rfl)) ?_; (with_reducible refine (continuoref30_time.calls a1 true _ A5.out).mono ?_); rintro e w' ⟨rfl, ⟨nd, rfl⟩⟩; refine ⟨_, rfl, ?_⟩))
     go_loopg [6, 7] k (fun kq v6 v7 w' => ∃ (x6_1 : Int) (x7_1 : Int), v6 = .int .i64 x6_1 ∧ v7 = .int .i64 x7_1 ∧ Aside0 (continuoref30_Place.l0 kq l0 a1 x6_1 x7_1 = some (r1, r2, r3, r4)) ∧ Aside0 (kq ≤ k) ∧ Aside0 (w'.heap[gb209]? = some (.cells #[.int .i64 0, .int .i64 0, .int .i64 0] 37 (0, 0))) ∧ Aside0 (Below w.heap.size w w'))
     case atStart => exact ⟨(0), (1000000000), (by first | rfl | (simp; done) | (simp [*]; done)), (by first | rfl | (simp; done) | (simp [*]; done)), H', ⟨Nat.le_refl _⟩, ⟨by (with_reducible repeat (first | refine blk_drewN ?_ _ | refine blk_drew ?_ | refine blk_alloc ?_ _)); exact BK209.out⟩, ⟨by repeat (first | (with_reducible first | exact HB.out | apply below_alloc | apply pw_below_drewN | apply below_drew1 | refine below_set ?_ GE209.out) | exact HB.out)⟩⟩
     case round =>
      clear H'
      try clear c1
      try clear p2
      try clear c4
      try clear c5
      try clear c6
      obtain ⟨x6_1, x7_1, rfl, rfl, HA, HK1, BK209, HB⟩ := hrel
      cases gk with
      | zero => exact absurd HA.out (by simp [continuoref30_Place.l0])
      | succ k1 =>
       have H := HA.out
       clear HA
       simp only [continuoref30_Place.l0] at H
       by_cases c8 : x6_1 < x7_1
       · rw [if_pos c8] at H
         have c8b0 : decide (x6_1 < x7_1) = true := decide_eq_true c8
         clear c8
         replace H := Option.bind_eq_some_iff.mp H
         obtain ⟨⟨t212, t213, t214, t215⟩, A90, H⟩ := H
         replace H : (if t212 ≤ a1 then (continuoref30_Place.l0 k1 l0 a1 (wrap64 (Int.tdiv (wrap64 ((wrap64 (x6_1 + x7_1)) + 1)) 2)) x7_1) else (continuoref30_Place.l0 k1 l0 a1 x6_1 (wrap64 ((wrap64 (Int.tdiv (wrap64 ((wrap64 (x6_1 + x7_1)) + 1)) 2)) - 1)))) = some (r1, r2, r3, r4) := H
         have A9 := Aside0.mk A90
         clear A90
         by_cases c10 : t212 ≤ a1
         · rw [if_pos c10] at H
           have c10b0 : decide (t212 ≤ a1) = true := decide_eq_true c10
           clear c10
           have H' := Aside0.mk H
           clear H
           go_wp2_with (first | ((with_reducible refine gate_callee (f := 51) rfl ?_); refine goesL_ (some 32) rfl rfl Try.func51 (by kernel_rfl) rfl #[.slice A0 l0.length c0, .int .i64 (wrap64 (Int.tdiv (wrap64 ((wrap64 (x6_1 + x7_1)) + 1)) 2))] rfl (by (try simp only [List.map_toArray, List.map_cons, List.map_nil]); first | done | rfl | (simp only [List.length_drop, List.length_take]; rfl)) ?_; (with_reducible refine (continuoref30_bar.calls k1 _ _ l0 (wrap64 (Int.tdiv (wrap64 ((wrap64 (x6_1 + x7_1)) + 1)) 2)) t212 t213 t214 t215 _ ?side1 ?side2 A9.out).mono ?_); (case side1 => repeat (first | exact (Kd.C_below HR0.out HB.out) | (with_reducible refine Kd.C_alloc ?_ _) | (with_reducible refine Kd.C_drewN ?_ _) | (with_reducible refine Kd.C_drew ?_))); (case side2 => exact HC0.out); rintro e w11 ⟨rfl, hb⟩; refine ⟨_, rfl, ?_⟩; have n0_ := Aside0.mk (blk_below (g := gb209) (o := .cells #[.int .i64 0, .int .i64 0, .int .i64 0] 37 (0, 0)) (by (with_reducible repeat (first | refine blk_drewN ?_ _ | refine blk_drew ?_ | refine blk_alloc ?_ _)); exact BK209.out) hb); have n1_ := Aside0.mk (below_step (by repeat (first | (with_reducible first | exact HB.out | apply below_alloc | apply pw_below_drewN | apply below_drew1 | refine below_set ?_ GE209.out) | exact HB.out)) hb); clear BK209; clear HB; have BK209 := n0_; have HB := n1_; clear n0_ n1_; (try clear hb); (try clear hb2); (try clear hk); (try clear hi)) | ((with_reducible refine gate_dst (N := 10) rfl ?_); refine box_event ?hg (N := 10) ?hd (cs := #[.int .i64 0, .int .i64 0, .int .i64 0]) (t := 61) ?hr ?_; (case hd => rfl); (case hg => rfl); (case hr => first | (go_simp; done) | (go_simp; rfl)); intro gb216 hg w12 hbox hb; have n0_ := Aside0.mk (blk_below (g := gb209) (o := .cells #[.int .i64 0, .int .i64 0, .int .i64 0] 37 (0, 0)) (by (with_reducible repeat (first | refine blk_drewN ?_ _ | refine blk_drew ?_ | refine blk_alloc ?_ _)); exact BK209.out) hb); have n1_ := Aside0.mk (below_step (by repeat (first | (with_reducible first | exact HB.out | apply below_alloc | apply pw_below_drewN | apply below_drew1 | refine below_set ?_ GE209.out) | exact HB.out)) hb); have n2_ := Aside0.mk (hbox); have n3_ := Aside0.mk ((by rw [hg]; exact (below_size (by repeat (first | (with_reducible first | exact HB.out | apply below_alloc | apply pw_below_drewN | apply below_drew1 | refine below_set ?_ GE209.out) | exact HB.out))) : w.heap.size ≤ gb216)); have n4_ := Aside0.mk ((by rw [hg]; exact (below_size (by repeat (first | (with_reducible first | exact HB.out | apply below_alloc | apply pw_below_drewN | apply below_drew1 | refine below_set ?_ GE209.out) | exact HB.out))) : w.heap.size ≤ gb216)); have n5_ := Aside0.mk ((by rw [hg]; exact Nat.ne_of_lt (blk_lt (g := gb209) (o := .cells #[.int .i64 0, .int .i64 0, .int .i64 0] 37 (0, 0)) (by (with_reducible repeat (first | refine blk_drewN ?_ _ | refine blk_drew ?_ | refine blk_alloc ?_ _)); exact BK209.out)) : gb209 ≠ gb216)); have n6_ := Aside0.mk ((by rw [hg]; exact Nat.ne_of_gt (blk_lt (g := gb209) (o := .cells #[.int .i64 0, .int .i64 0, .int .i64 0] 37 (0, 0)) (by (with_reducible repeat (first | refine blk_drewN ?_ _ | refine blk_drew ?_ | refine blk_alloc ?_ _)); exact BK209.out)) : gb216 ≠ gb209)); clear BK209; clear HB; have BK209 := n0_; have HB := n1_; have BK216 := n2_; have GW216 := n3_; have GE216 := n4_; have NB209_216 := n5_; have NB216_209 := n6_; clear n0_ n1_ n2_ n3_ n4_ n5_ n6_; clear hb hbox hg; have hnb13 := NB216_209.out; have hnc13 := NB209_216.out; have hcz14_0 : w12.cell? ⟨gb216, 0, none⟩ = some (.int .i64 0) := (blk_cell BK216.out 0).trans rfl; have hcz14_1 : w12.cell? ⟨gb216, 1, none⟩ = some (.int .i64 0) := (blk_cell BK216.out 1).trans rfl; have hcz14_2 : w12.cell? ⟨gb216, 2, none⟩ = some (.int .i64 0) := (blk_cell BK216.out 2).trans rfl; have hfz14_0 := blk_frozen BK216.out 0; have hfz14_1 := blk_frozen BK216.out 1; have hfz14_2 := blk_frozen BK216.out 2))
           go_roundg k1
           case measure => have := HK1.out; omega
           case rel => exact ⟨(wrap64 (Int.tdiv (wrap64 ((wrap64 (x6_1 + x7_1)) + 1)) 2)), (x7_1), (by first | rfl | (simp; done) | (simp [*]; done)), (by first | rfl | (simp; done) | (simp [*]; done)), H', ⟨by have := HK1.out; omega⟩, ⟨by (with_reducible repeat (first | refine blk_drewN ?_ _ | refine blk_drew ?_ | refine blk_alloc ?_ _)); refine blk_far ?_ NB209_216.out _; (with_reducible repeat (first | refine blk_drewN ?_ _ | refine blk_drew ?_ | refine blk_alloc ?_ _)); refine blk_far ?_ NB209_216.out _; (with_reducible repeat (first | refine blk_drewN ?_ _ | refine blk_drew ?_ | refine blk_alloc ?_ _)); refine blk_far ?_ NB209_216.out _; (with_reducible repeat (first | refine blk_drewN ?_ _ | refine blk_drew ?_ | refine blk_alloc ?_ _)); exact BK209.out⟩, ⟨by repeat (first | (with_reducible first | exact HB.out | apply below_alloc | apply pw_below_drewN | apply below_drew1 | refine below_set ?_ GE209.out | refine below_set ?_ GE216.out) | exact HB.out)⟩⟩
         · rw [if_neg c10] at H
           have c10b0 : decide (t212 ≤ a1) = false := decide_eq_false c10
           clear c10
           have H' := Aside0.mk H
           clear H
           go_wp2_with (first | ((with_reducible refine gate_callee (f := 51) rfl ?_); refine goesL_ (some 32) rfl rfl Try.func51 (by kernel_rfl) rfl #[.slice A0 l0.length c0, .int .i64 (wrap64 (Int.tdiv (wrap64 ((wrap64 (x6_1 + x7_1)) + 1)) 2))] rfl (by (try simp only [List.map_toArray, List.map_cons, List.map_nil]); first | done | rfl | (simp only [List.length_drop, List.length_take]; rfl)) ?_; (with_reducible refine (continuoref30_bar.calls k1 _ _ l0 (wrap64 (Int.tdiv (wrap64 ((wrap64 (x6_1 + x7_1)) + 1)) 2)) t212 t213 t214 t215 _ ?side1 ?side2 A9.out).mono ?_); (case side1 => repeat (first | exact (Kd.C_below HR0.out HB.out) | (with_reducible refine Kd.C_alloc ?_ _) | (with_reducible refine Kd.C_drewN ?_ _) | (with_reducible refine Kd.C_drew ?_))); (case side2 => exact HC0.out); rintro e w15 ⟨rfl, hb⟩; refine ⟨_, rfl, ?_⟩; have n0_ := Aside0.mk (blk_below (g := gb209) (o := .cells #[.int .i64 0, .int .i64 0, .int .i64 0] 37 (0, 0)) (by (with_reducible repeat (first | refine blk_drewN ?_ _ | refine blk_drew ?_ | refine blk_alloc ?_ _)); exact BK209.out) hb); have n1_ := Aside0.mk (below_step (by repeat (first | (with_reducible first | exact HB.out | apply below_alloc | apply pw_below_drewN | apply below_drew1 | refine below_set ?_ GE209.out) | exact HB.out)) hb); clear BK209; clear HB; have BK209 := n0_; have HB := n1_; clear n0_ n1_; (try clear hb); (try clear hb2); (try clear hk); (try clear hi)) | ((with_reducible refine gate_dst (N := 10) rfl ?_); refine box_event ?hg (N := 10) ?hd (cs := #[.int .i64 0, .int .i64 0, .int .i64 0]) (t := 61) ?hr ?_; (case hd => rfl); (case hg => rfl); (case hr => first | (go_simp; done) | (go_simp; rfl)); intro gb216 hg w16 hbox hb; have n0_ := Aside0.mk (blk_below (g := gb209) (o := .cells #[.int .i64 0, .int .i64 0, .int .i64 0] 37 (0, 0)) (by (with_reducible repeat (first | refine blk_drewN ?_ _ | refine blk_drew ?_ | refine blk_alloc ?_ _)); exact BK209.out) hb); have n1_ := Aside0.mk (below_step (by repeat (first | (with_reducible first | exact HB.out | apply below_alloc | apply pw_below_drewN | apply below_drew1 | refine below_set ?_ GE209.out) | exact HB.out)) hb); have n2_ := Aside0.mk (hbox); have n3_ := Aside0.mk ((by rw [hg]; exact (below_size (by repeat (first | (with_reducible first | exact HB.out | apply below_alloc | apply pw_below_drewN | apply below_drew1 | refine below_set ?_ GE209.out) | exact HB.out))) : w.heap.size ≤ gb216)); have n4_ := Aside0.mk ((by rw [hg]; exact (below_size (by repeat (first | (with_reducible first | exact HB.out | apply below_alloc | apply pw_below_drewN | apply below_drew1 | refine below_set ?_ GE209.out) | exact HB.out))) : w.heap.size ≤ gb216)); have n5_ := Aside0.mk ((by rw [hg]; exact Nat.ne_of_lt (blk_lt (g := gb209) (o := .cells #[.int .i64 0, .int .i64 0, .int .i64 0] 37 (0, 0)) (by (with_reducible repeat (first | refine blk_drewN ?_ _ | refine blk_drew ?_ | refine blk_alloc ?_ _)); exact BK209.out)) : gb209 ≠ gb216)); have n6_ := Aside0.mk ((by rw [hg]; exact Nat.ne_of_gt (blk_lt (g := gb209) (o := .cells #[.int .i64 0, .int .i64 0, .int .i64 0] 37 (0, 0)) (by (with_reducible repeat (first | refine blk_drewN ?_ _ | refine blk_drew ?_ | refine blk_alloc ?_ _)); exact BK209.out)) : gb216 ≠ gb209)); clear BK209; clear HB; have BK209 := n0_; have HB := n1_; have BK216 := n2_; have GW216 := n3_; have GE216 := n4_; have NB209_216 := n5_; have NB216_209 := n6_; clear n0_ n1_ n2_ n3_ n4_ n5_ n6_; clear hb hbox hg; have hnb17 := NB216_209.out; have hnc17 := NB209_216.out; have hcz18_0 : w16.cell? ⟨gb216, 0, none⟩ = some (.int .i64 0) := (blk_cell BK216.out 0).trans rfl; have hcz18_1 : w16.cell? ⟨gb216, 1, none⟩ = some (.int .i64 0) := (blk_cell BK216.out 1).trans rfl; have hcz18_2 : w16.cell? ⟨gb216, 2, none⟩ = some (.int .i64 0) := (blk_cell BK216.out 2).trans rfl; have hfz18_0 := blk_frozen BK216.out 0; have hfz18_1 := blk_frozen BK216.out 1; have hfz18_2 := blk_frozen BK216.out 2))
           go_roundg k1
           case measure => have := HK1.out; omega
           case rel => exact ⟨(x6_1), (wrap64 ((wrap64 (Int.tdiv (wrap64 ((wrap64 (x6_1 + x7_1)) + 1)) 2)) - 1)), (by first | rfl | (simp; done) | (simp [*]; done)), (by first | rfl | (simp; done) | (simp [*]; done)), H', ⟨by have := HK1.out; omega⟩, ⟨by (with_reducible repeat (first | refine blk_drewN ?_ _ | refine blk_drew ?_ | refine blk_alloc ?_ _)); refine blk_far ?_ NB209_216.out _; (with_reducible repeat (first | refine blk_drewN ?_ _ | refine blk_drew ?_ | refine blk_alloc ?_ _)); refine blk_far ?_ NB209_216.out _; (with_reducible repeat (first | refine blk_drewN ?_ _ | refine blk_drew ?_ | refine blk_alloc ?_ _)); refine blk_far ?_ NB209_216.out _; (with_reducible repeat (first | refine blk_drewN ?_ _ | refine blk_drew ?_ | refine blk_alloc ?_ _)); exact BK209.out⟩, ⟨by repeat (first | (with_reducible first | exact HB.out | apply below_alloc | apply pw_below_drewN | apply below_drew1 | refine below_set ?_ GE209.out | refine below_set ?_ GE216.out) | exact HB.out)⟩⟩
       · rw [if_neg c8] at H
         have c8b0 : decide (x6_1 < x7_1) = false := decide_eq_false c8
         clear c8
         replace H := Option.bind_eq_some_iff.mp H
         obtain ⟨⟨t217, t218, t219, t220⟩, A190, H⟩ := H
         replace H : (if t220 = 0 then (none) else (some (x6_1, wrap64 (Int.tdiv (wrap64 (a1 - t217)) t220), Int.tmod (wrap64 (a1 - t217)) t220, 0))) = some (r1, r2, r3, r4) := H
         have A19 := Aside0.mk A190
         clear A190
         by_cases c20 : t220 = 0
         · rw [if_pos c20] at H
           exact absurd H (by simp)
         · rw [if_neg c20] at H
           have c20b0 : (t220 == 0) = false := beq_eq_false_iff_ne.mpr c20
           have c20b1 : (t220 != 0) = true := bne_iff_ne.mpr c20
           simp only [Option.some.injEq, Prod.mk.injEq] at H
           obtain ⟨rfl, rfl, rfl, rfl⟩ := H
           try go_wp2_with (first | ((with_reducible refine gate_callee (f := 51) rfl ?_); refine goesL_ (some 44) rfl rfl Try.func51 (by kernel_rfl) rfl #[.slice A0 l0.length c0, .int .i64 x6_1] rfl (by (try simp only [List.map_toArray, List.map_cons, List.map_nil]); first | done | rfl | (simp only [List.length_drop, List.length_take]; rfl)) ?_; (with_reducible refine (continuoref30_bar.calls k1 _ _ l0 x6_1 t217 t218 t219 t220 _ ?side1 ?side2 A19.out).mono ?_); (case side1 => repeat (first | exact (Kd.C_below HR0.out HB.out) | (with_reducible refine Kd.C_alloc ?_ _) | (with_reducible refine Kd.C_drewN ?_ _) | (with_reducible refine Kd.C_drew ?_))); (case side2 => exact HC0.out); rintro e w21 ⟨rfl, hb⟩; refine ⟨_, rfl, ?_⟩; have n0_ := Aside0.mk (blk_below (g := gb209) (o := .cells #[.int .i64 0, .int .i64 0, .int .i64 0] 37 (0, 0)) (by (with_reducible repeat (first | refine blk_drewN ?_ _ | refine blk_drew ?_ | refine blk_alloc ?_ _)); exact BK209.out) hb); have n1_ := Aside0.mk (below_step (by repeat (first | (with_reducible first | exact HB.out | apply below_alloc | apply pw_below_drewN | apply below_drew1 | refine below_set ?_ GE209.out) | exact HB.out)) hb); clear BK209; clear HB; have BK209 := n0_; have HB := n1_; clear n0_ n1_; (try clear hb); (try clear hb2); (try clear hk); (try clear hi)) | ((with_reducible refine gate_dst (N := 12) rfl ?_); refine box_event ?hg (N := 12) ?hd (cs := #[.int .i64 0, .int .i64 0, .int .i64 0]) (t := 61) ?hr ?_; (case hd => rfl); (case hg => rfl); (case hr => first | (go_simp; done) | (go_simp; rfl)); intro gb221 hg w22 hbox hb; have n0_ := Aside0.mk (blk_below (g := gb209) (o := .cells #[.int .i64 0, .int .i64 0, .int .i64 0] 37 (0, 0)) (by (with_reducible repeat (first | refine blk_drewN ?_ _ | refine blk_drew ?_ | refine blk_alloc ?_ _)); exact BK209.out) hb); have n1_ := Aside0.mk (below_step (by repeat (first | (with_reducible first | exact HB.out | apply below_alloc | apply pw_below_drewN | apply below_drew1 | refine below_set ?_ GE209.out) | exact HB.out)) hb); have n2_ := Aside0.mk (hbox); have n3_ := Aside0.mk ((by rw [hg]; exact (below_size (by repeat (first | (with_reducible first | exact HB.out | apply below_alloc | apply pw_below_drewN | apply below_drew1 | refine below_set ?_ GE209.out) | exact HB.out))) : w.heap.size ≤ gb221)); have n4_ := Aside0.mk ((by rw [hg]; exact (below_size (by repeat (first | (with_reducible first | exact HB.out | apply below_alloc | apply pw_below_drewN | apply below_drew1 | refine below_set ?_ GE209.out) | exact HB.out))) : w.heap.size ≤ gb221)); have n5_ := Aside0.mk ((by rw [hg]; exact Nat.ne_of_lt (blk_lt (g := gb209) (o := .cells #[.int .i64 0, .int .i64 0, .int .i64 0] 37 (0, 0)) (by (with_reducible repeat (first | refine blk_drewN ?_ _ | refine blk_drew ?_ | refine blk_alloc ?_ _)); exact BK209.out)) : gb209 ≠ gb221)); have n6_ := Aside0.mk ((by rw [hg]; exact Nat.ne_of_gt (blk_lt (g := gb209) (o := .cells #[.int .i64 0, .int .i64 0, .int .i64 0] 37 (0, 0)) (by (with_reducible repeat (first | refine blk_drewN ?_ _ | refine blk_drew ?_ | refine blk_alloc ?_ _)); exact BK209.out)) : gb221 ≠ gb209)); clear BK209; clear HB; have BK209 := n0_; have HB := n1_; have BK221 := n2_; have GW221 := n3_; have GE221 := n4_; have NB209_221 := n5_; have NB221_209 := n6_; clear n0_ n1_ n2_ n3_ n4_ n5_ n6_; clear hb hbox hg; have hnb23 := NB221_209.out; have hnc23 := NB209_221.out; have hcz24_0 : w22.cell? ⟨gb221, 0, none⟩ = some (.int .i64 0) := (blk_cell BK221.out 0).trans rfl; have hcz24_1 : w22.cell? ⟨gb221, 1, none⟩ = some (.int .i64 0) := (blk_cell BK221.out 1).trans rfl; have hcz24_2 : w22.cell? ⟨gb221, 2, none⟩ = some (.int .i64 0) := (blk_cell BK221.out 2).trans rfl; have hfz24_0 := blk_frozen BK221.out 0; have hfz24_1 := blk_frozen BK221.out 1; have hfz24_2 := blk_frozen BK221.out 2))
           have n0_ : Aside0 ((((w22.setCell ⟨gb221, 0, none⟩ (.int .i64 t218)).setCell ⟨gb221, 1, none⟩ (.int .i64 t219)).setCell ⟨gb221, 2, none⟩ (.int .i64 t220)).heap[gb209]? = some (.cells #[.int .i64 0, .int .i64 0, .int .i64 0] 37 (0, 0))) := ⟨by (with_reducible repeat (first | refine blk_drewN ?_ _ | refine blk_drew ?_ | refine blk_alloc ?_ _)); refine blk_far ?_ NB209_221.out _; (with_reducible repeat (first | refine blk_drewN ?_ _ | refine blk_drew ?_ | refine blk_alloc ?_ _)); refine blk_far ?_ NB209_221.out _; (with_reducible repeat (first | refine blk_drewN ?_ _ | refine blk_drew ?_ | refine blk_alloc ?_ _)); refine blk_far ?_ NB209_221.out _; (with_reducible repeat (first | refine blk_drewN ?_ _ | refine blk_drew ?_ | refine blk_alloc ?_ _)); exact BK209.out⟩
           have n1_ : Aside0 ((((w22.setCell ⟨gb221, 0, none⟩ (.int .i64 t218)).setCell ⟨gb221, 1, none⟩ (.int .i64 t219)).setCell ⟨gb221, 2, none⟩ (.int .i64 t220)).heap[gb221]? = some (.cells #[.int .i64 t218, .int .i64 t219, .int .i64 t220] 61 (0, 0))) := ⟨by (with_reducible repeat (first | refine blk_drewN ?_ _ | refine blk_drew ?_ | refine blk_alloc ?_ _)); refine blk_put (cs := #[.int .i64 t218, .int .i64 t219, .int .i64 0]) ?_ 2 _ rfl; (with_reducible repeat (first | refine blk_drewN ?_ _ | refine blk_drew ?_ | refine blk_alloc ?_ _)); refine blk_put (cs := #[.int .i64 t218, .int .i64 0, .int .i64 0]) ?_ 1 _ rfl; (with_reducible repeat (first | refine blk_drewN ?_ _ | refine blk_drew ?_ | refine blk_alloc ?_ _)); refine blk_put (cs := #[.int .i64 0, .int .i64 0, .int .i64 0]) ?_ 0 _ rfl; (with_reducible repeat (first | refine blk_drewN ?_ _ | refine blk_drew ?_ | refine blk_alloc ?_ _)); exact BK221.out⟩
           have n2_ : Aside0 (Below w.heap.size w (((w22.setCell ⟨gb221, 0, none⟩ (.int .i64 t218)).setCell ⟨gb221, 1, none⟩ (.int .i64 t219)).setCell ⟨gb221, 2, none⟩ (.int .i64 t220))) := ⟨by repeat (first | (with_reducible first | exact HB.out | apply below_alloc | apply pw_below_drewN | apply below_drew1 | refine below_set ?_ GE209.out | refine below_set ?_ GE221.out) | exact HB.out)⟩
           (try clear BK209)
           (try clear BK221)
           (try clear HB)
           generalize (((w22.setCell ⟨gb221, 0, none⟩ (.int .i64 t218)).setCell ⟨gb221, 1, none⟩ (.int .i64 t219)).setCell ⟨gb221, 2, none⟩ (.int .i64 t220)) = w25 at n0_ n1_ n2_ ⊢
           have BK209 := n0_
           have BK221 := n1_
           have HB := n2_
           clear n0_ n1_ n2_
           have n0_ := Aside0.mk (blk_drew BK209.out)
           have n1_ := Aside0.mk (blk_drew BK221.out)
           have n2_ := Aside0.mk (below_drew1 HB.out)
           clear BK209
           clear BK221
           clear HB
           have BK209 := n0_
           have BK221 := n1_
           have HB := n2_
           clear n0_ n1_ n2_
           refine start_ (n := 16) (S := fun w' => w'.cell? ⟨gb221, 0, none⟩ = some (.int .i64 t218) ∧ w'.cell? ⟨gb221, 1, none⟩ = some (.int .i64 t219) ∧ w'.cell? ⟨gb221, 2, none⟩ = some (.int .i64 t220)) (ds := []) #[false, false, false, false, false, false, false, false, false, false, false, false, false, false, false, false] (by kernel_rfl) rfl rfl ⟨(blk_cell BK221.out 0).trans rfl, (blk_cell BK221.out 1).trans rfl, (blk_cell BK221.out 2).trans rfl⟩ (fun hHeld => ?_); refine with_tabW continuoref30_Place.tab13 continuoref30_Place.bits13 (fun HT_ HW_ => ?_)
           generalize w25.drew = w26 at BK209 BK221 HB hHeld ⊢
           refine pure_ (i := 0) (N := some 47) (v := ?_) (a' := ?_) #[true, false, false, false, false, false, false, false, false, false, false, false, false, false, false, false] rfl rfl (any_of HT_.out (by kernel_rfl)) (fun _ _ _ h => h) (Or.inl ⟨by rfl, ?_⟩) ?_ ?_
           rotate_left
           · intro w'
             go_simp
             with_reducible rfl
           rotate_left
           · simp only [Act.put, List.setIfInBounds_toArray, List.set_cons_zero, List.set_cons_succ, i64_w, i32_w]
             rfl
           refine pure_ (i := 1) (N := some 48) (v := ?_) (a' := ?_) #[true, true, false, false, false, false, false, false, false, false, false, false, false, false, false, false] rfl rfl (any_of HT_.out (by kernel_rfl)) (fun _ _ _ h => h) (Or.inl ⟨by rfl, ?_⟩) ?_ ?_
           rotate_left
           · intro w'
             go_simp
             with_reducible rfl
           rotate_left
           · simp only [Act.put, List.setIfInBounds_toArray, List.set_cons_zero, List.set_cons_succ, i64_w, i32_w]
             rfl
           refine pure_ (i := 2) (N := some 49) (v := ?_) (a' := ?_) #[true, true, true, false, false, false, false, false, false, false, false, false, false, false, false, false] rfl rfl (any_of HT_.out (by kernel_rfl)) (fun _ _ _ h => h) (Or.inl ⟨by rfl, ?_⟩) ?_ ?_
           rotate_left
           · intro w'
             go_simp
             with_reducible rfl
           rotate_left
           · simp only [Act.put, List.setIfInBounds_toArray, List.set_cons_zero, List.set_cons_succ, i64_w, i32_w]
             rfl
           refine pure_ (i := 3) (N := some 50) (v := ?_) (a' := ?_) #[true, true, true, true, false, false, false, false, false, false, false, false, false, false, false, false] rfl rfl (any_of HT_.out (by kernel_rfl)) (fun _ _ _ h => h) (Or.inl ⟨by rfl, ?_⟩) ?_ ?_
           rotate_left
           · intro w'
             go_simp
             with_reducible rfl
           rotate_left
           · simp only [Act.put, List.setIfInBounds_toArray, List.set_cons_zero, List.set_cons_succ, i64_w, i32_w]
             rfl
           refine pure_ (i := 4) (N := some 51) (v := ?_) (a' := ?_) #[true, true, true, true, true, false, false, false, false, false, false, false, false, false, false, false] rfl rfl (any_of HT_.out (by kernel_rfl)) (fun _ _ _ h => h) (Or.inl ⟨by rfl, ?_⟩) ?_ ?_
           rotate_left
           · intro w'
             go_simp
             with_reducible rfl
           rotate_left
           · simp only [Act.put, List.setIfInBounds_toArray, List.set_cons_zero, List.set_cons_succ, i64_w, i32_w]
             rfl
           refine pure_ (i := 7) (N := some 54) (v := ?_) (a' := ?_) #[true, true, true, true, true, false, false, true, false, false, false, false, false, false, false, false] rfl rfl (any_of HT_.out (by kernel_rfl)) (fun _ _ _ h => h) (Or.inl ⟨by rfl, ?_⟩) ?_ ?_
           rotate_left
           · intro w'
             go_simp
             with_reducible rfl
           rotate_left
           · simp only [Act.put, List.setIfInBounds_toArray, List.set_cons_zero, List.set_cons_succ, i64_w, i32_w]
             rfl
           refine pure_ (i := 8) (N := some 55) (v := ?_) (a' := ?_) #[true, true, true, true, true, false, false, true, true, false, false, false, false, false, false, false] rfl rfl (any_of HT_.out (by kernel_rfl)) (fun _ _ _ h => h) (Or.inl ⟨by rfl, ?_⟩) ?_ ?_
           rotate_left
           · intro w'
             go_simp
             with_reducible rfl
           rotate_left
           · simp only [Act.put, List.setIfInBounds_toArray, List.set_cons_zero, List.set_cons_succ, i64_w, i32_w]
             rfl
           refine pure_ (i := 9) (N := some 56) (v := ?_) (a' := ?_) #[true, true, true, true, true, false, false, true, true, true, false, false, false, false, false, false] rfl rfl (any_of HT_.out (by kernel_rfl)) (fun _ _ _ h => h) (Or.inl ⟨by rfl, ?_⟩) ?_ ?_
           rotate_left
           · intro w'
             go_simp
             with_reducible rfl
           rotate_left
           · simp only [Act.put, List.setIfInBounds_toArray, List.set_cons_zero, List.set_cons_succ, i64_w, i32_w]
             rfl
           refine pure_ (i := 10) (N := some 57) (v := ?_) (a' := ?_) #[true, true, true, true, true, false, false, true, true, true, true, false, false, false, false, false] rfl rfl (any_of HT_.out (by kernel_rfl)) (fun _ _ _ h => h) (Or.inl ⟨by rfl, ?_⟩) ?_ ?_
           rotate_left
           · intro w'
             go_simp
             with_reducible rfl
           rotate_left
           · simp only [Act.put, List.setIfInBounds_toArray, List.set_cons_zero, List.set_cons_succ, i64_w, i32_w]
             rfl
           refine take_ (i := 5) (N := some 52) (v := ?_) (a' := ?_) #[true, true, true, true, true, true, false, true, true, true, true, false, false, false, false, false] rfl rfl (take_ofW HT_.out HW_.out (by kernel_rfl)) (fun _ _ _ h => h) (Or.inl ⟨by rfl, ?_⟩) hHeld ?_ ?_
           rotate_left
           · rintro w' ⟨s0, s1, s2⟩
             go_simp
             with_reducible rfl
           rotate_left
           · simp only [Act.put, List.setIfInBounds_toArray, List.set_cons_zero, List.set_cons_succ, i64_w, i32_w]
             rfl
           refine pure_ (i := 6) (N := some 53) (v := ?_) (a' := ?_) #[true, true, true, true, true, true, true, true, true, true, true, false, false, false, false, false] rfl rfl (any_of HT_.out (by kernel_rfl)) (fun _ _ _ h => h) (Or.inl ⟨by rfl, ?_⟩) ?_ ?_
           rotate_left
           · intro w'
             go_simp
             with_reducible rfl
           rotate_left
           · simp only [Act.put, List.setIfInBounds_toArray, List.set_cons_zero, List.set_cons_succ, i64_w, i32_w]
             rfl
           refine take_ (i := 11) (N := some 58) (v := ?_) (a' := ?_) #[true, true, true, true, true, true, true, true, true, true, true, true, false, false, false, false] rfl rfl (take_ofW HT_.out HW_.out (by kernel_rfl)) (fun _ _ _ h => h) (Or.inl ⟨by rfl, ?_⟩) hHeld ?_ ?_
           rotate_left
           · rintro w' ⟨s0, s1, s2⟩
             go_simp
             with_reducible rfl
           rotate_left
           · simp only [Act.put, List.setIfInBounds_toArray, List.set_cons_zero, List.set_cons_succ, i64_w, i32_w]
             rfl
           refine pure_ (i := 12) (N := some 59) (v := ?_) (a' := ?_) #[true, true, true, true, true, true, true, true, true, true, true, true, true, false, false, false] rfl rfl (any_of HT_.out (by kernel_rfl)) (fun _ _ _ h => h) (Or.inl ⟨by rfl, ?_⟩) ?_ ?_
           rotate_left
           · intro w'
             go_simp
             with_reducible rfl
           rotate_left
           · simp only [Act.put, List.setIfInBounds_toArray, List.set_cons_zero, List.set_cons_succ, i64_w, i32_w]
             rfl
           refine pure_ (i := 13) (N := some 60) (v := ?_) (a' := ?_) #[true, true, true, true, true, true, true, true, true, true, true, true, true, true, false, false] rfl rfl (any_of HT_.out (by kernel_rfl)) (fun _ _ _ h => h) (Or.inl ⟨by rfl, ?_⟩) ?_ ?_
           rotate_left
           · intro w'
             go_simp
             with_reducible rfl
           rotate_left
           · simp only [Act.put, List.setIfInBounds_toArray, List.set_cons_zero, List.set_cons_succ, i64_w, i32_w]
             rfl
           refine one_ (i := 14) (N := none) #[true, true, true, true, true, true, true, true, true, true, true, true, true, true, true, false] rfl rfl (one_of HT_.out (by kernel_rfl)) (by decide) (fun K hK => ?_)
           have hs27 : w26.cell? ⟨gb209, 0, none⟩ = some (.int .i64 0) := (blk_cell BK209.out 0).trans rfl
           have hfs27 := blk_frozen BK209.out 0
           have hns27_1 := NB221_209.out
           have hms27_1 := NB209_221.out
           have hs28 : w26.cell? ⟨gb209, 1, none⟩ = some (.int .i64 0) := (blk_cell BK209.out 1).trans rfl
           have hfs28 := blk_frozen BK209.out 1
           have hns28_1 := NB221_209.out
           have hms28_1 := NB209_221.out
           have hs29 : w26.cell? ⟨gb209, 2, none⟩ = some (.int .i64 0) := (blk_cell BK209.out 2).trans rfl
           have hfs29 := blk_frozen BK209.out 2
           have hns29_1 := NB221_209.out
           have hms29_1 := NB209_221.out
           refine skip_ (w1 := ?_) (by rfl) rfl ?_ ?_
           rotate_left
           · go_simp
             rfl
           refine hK.out _ _ ⟨((cell_far (p := ⟨gb209, _, none⟩) NB221_209.out _).trans (((cell_far (p := ⟨gb209, _, none⟩) NB221_209.out _).trans (((cell_far (p := ⟨gb209, _, none⟩) NB221_209.out _).trans (hHeld.1)))))), ((cell_far (p := ⟨gb209, _, none⟩) NB221_209.out _).trans (((cell_far (p := ⟨gb209, _, none⟩) NB221_209.out _).trans (((cell_far (p := ⟨gb209, _, none⟩) NB221_209.out _).trans (hHeld.2.1)))))), ((cell_far (p := ⟨gb209, _, none⟩) NB221_209.out _).trans (((cell_far (p := ⟨gb209, _, none⟩) NB221_209.out _).trans (((cell_far (p := ⟨gb209, _, none⟩) NB221_209.out _).trans (hHeld.2.2))))))⟩ (fun hHeld => ?_)
           clear hK K
           refine pure_ (i := 15) (N := some 5) (v := ?_) (a' := ?_) #[true, true, true, true, true, true, true, true, true, true, true, true, true, true, true, true] rfl rfl (any_of HT_.out (by kernel_rfl)) (fun _ _ _ h => h) (Or.inl ⟨by rfl, ?_⟩) ?_ ?_
           rotate_left
           · intro w'
             go_simp
             with_reducible rfl
           rotate_left
           · simp only [Act.put, List.setIfInBounds_toArray, List.set_cons_zero, List.set_cons_succ, i64_w, i32_w]
             rfl
           refine done_ (done_of HT_.out (by kernel_rfl)) ?_
           try go_wp2
           refine bodyPost_ret (results_ct rfl _ _ gb209 37 #[.int .i64 x6_1, .int .i64 (wrap64 (Int.tdiv (wrap64 (a1 - t217)) t220)), .int .i64 (Int.tmod (wrap64 (a1 - t217)) t220)] (0, 0) _ rfl (by (with_reducible repeat (first | refine blk_drewN ?_ _ | refine blk_drew ?_ | refine blk_alloc ?_ _)); refine blk_put (cs := #[.int .i64 x6_1, .int .i64 (wrap64 (Int.tdiv (wrap64 (a1 - t217)) t220)), .int .i64 0]) ?_ 2 _ rfl; (with_reducible repeat (first | refine blk_drewN ?_ _ | refine blk_drew ?_ | refine blk_alloc ?_ _)); refine blk_put (cs := #[.int .i64 x6_1, .int .i64 0, .int .i64 0]) ?_ 1 _ rfl; (with_reducible repeat (first | refine blk_drewN ?_ _ | refine blk_drew ?_ | refine blk_alloc ?_ _)); refine blk_put (cs := #[.int .i64 0, .int .i64 0, .int .i64 0]) ?_ 0 _ rfl; (with_reducible repeat (first | refine blk_drewN ?_ _ | refine blk_drew ?_ | refine blk_alloc ?_ _)); exact BK209.out) Try.underlying37 rfl (by kernel_rfl)) rfl ?_
           exact ⟨by first | rfl | (simp [errW_none, errW_some] <;> rfl) | (simp [*, errW_none, errW_some] <;> rfl), by repeat (first | (with_reducible first | exact HB.out | apply below_alloc | apply pw_below_drewN | apply below_drew1 | refine below_set ?_ GE209.out | refine below_set ?_ GE221.out) | exact HB.out)⟩
   · replace c6 := Bool.eq_false_iff.mpr c6
     subst c6
     have H1 : (some (0, 0, 0, 7)) = some (r1, r2, r3, r4) := by rw [if_neg (show ¬ (false = true) by decide)] at H; exact H
     clear H
     have H := H1
     clear H1
     simp only [Option.some.injEq, Prod.mk.injEq] at H
     obtain ⟨rfl, rfl, rfl, rfl⟩ := H
     go_enter Try.func17, Try.ntmps17
     go_wp2_with (first | ((with_reducible refine gate_dst (N := 4) rfl ?_); refine box_event ?hg (N := 4) ?hd (cs := #[.int .i64 0, .int .i64 0, .int .i64 0]) (t := 37) ?hr ?_; (case hd => rfl); (case hg => rfl); (case hr => first | (go_simp; done) | (go_simp; rfl)); intro gb209 hg w30 hbox hb; have n0_ := Aside0.mk (below_step (by repeat (first | (with_reducible first | exact HB.out | apply below_alloc | apply pw_below_drewN | apply below_drew1) | exact HB.out)) hb); have n1_ := Aside0.mk (hbox); have n2_ := Aside0.mk ((by rw [hg]; exact (below_size (by repeat (first | (with_reducible first | exact HB.out | apply below_alloc | apply pw_below_drewN | apply below_drew1) | exact HB.out))) : w.heap.size ≤ gb209)); have n3_ := Aside0.mk ((by rw [hg]; exact (below_size (by repeat (first | (with_reducible first | exact HB.out | apply below_alloc | apply pw_below_drewN | apply below_drew1) | exact HB.out))) : w.heap.size ≤ gb209)); clear HB; have HB := n0_; have BK209 := n1_; have GW209 := n2_; have GE209 := n3_; clear n0_ n1_ n2_ n3_; clear hb hbox hg) | ((with_reducible refine gate_callee (f := 19) rfl ?_); refine goesL_ (some 14) rfl rfl Try.func19 (by kernel_rfl) rfl #[.slice A0 l0.length c0] rfl (by (try simp only [List.map_toArray, List.map_cons, List.map_nil]); first | done | rfl | (simp only [List.length_drop, List.length_take]; rfl)) ?_; (with_reducible refine (continuoref30_ValidMeter.calls k _ _ l0 true _ ?side1 ?side2 A3.out).mono ?_); (case side1 => repeat (first | exact (Kd.C_below HR0.out HB.out) | (with_reducible refine Kd.C_alloc ?_ _) | (with_reducible refine Kd.C_drewN ?_ _) | (with_reducible refine Kd.C_drew ?_))); (case side2 => exact HC0.out); rintro e w' ⟨rfl, ⟨nd, rfl⟩⟩; refine ⟨_, rfl, ?_⟩; (try (rw [drewN_self w30]; generalize hq_ : World.drewN w30 _ = w30; have n0_ : Aside0 (w30.heap[gb209]? = some (.cells #[.int .i64 0, .int .i64 0, .int .i64 0] 37 (0, 0))) := ⟨by rw [← hq_]; exact (by (with_reducible repeat (first | refine blk_drewN ?_ _ | refine blk_drew ?_ | refine blk_alloc ?_ _)); exact BK209.out)⟩; have n1_ : Aside0 (Below w.heap.size w w30) := ⟨by rw [← hq_]; exact (by repeat (first | (with_reducible first | exact HB.out | apply below_alloc | apply pw_below_drewN | apply below_drew1 | refine below_set ?_ GE209.out) | exact HB.out))⟩; clear BK209 HB hq_; have BK209 := n0_; have HB := n1_; clear n0_ n1_))) | ((with_reducible refine gate_callee (f := 50) rfl ?_); refine goesL_ (some 18) rfl rfl Try.func50 (by kernel_rfl) rfl #[.int .i64 a1] rfl (by (try simp only [List.map_toArray, List.map_cons, List.map_nil]); first | done | rfl | (simp only [List.length_drop, List.length_take]; rfl)) ?_; (with_reducible refine (continuoref30_time.calls a1 false _ A5.out).mono ?_); rintro e w' ⟨rfl, ⟨nd, rfl⟩⟩; refine ⟨_, rfl, ?_⟩; (try (rw [drewN_self w30]; generalize hq_ : World.drewN w30 _ = w30; have n0_ : Aside0 (w30.heap[gb209]? = some (.cells #[.int .i64 0, .int .i64 0, .int .i64 0] 37 (0, 0))) := ⟨by rw [← hq_]; exact (by (with_reducible repeat (first | refine blk_drewN ?_ _ | refine blk_drew ?_ | refine blk_alloc ?_ _)); exact BK209.out)⟩; have n1_ : Aside0 (Below w.heap.size w w30) := ⟨by rw [← hq_]; exact (by repeat (first | (with_reducible first | exact HB.out | apply below_alloc | apply pw_below_drewN | apply below_drew1 | refine below_set ?_ GE209.out) | exact HB.out))⟩; clear BK209 HB hq_; have BK209 := n0_; have HB := n1_; clear n0_ n1_)); have hcz31_0 : w30.cell? ⟨gb209, 0, none⟩ = some (.int .i64 0) := (blk_cell BK209.out 0).trans rfl; have hcz31_1 : w30.cell? ⟨gb209, 1, none⟩ = some (.int .i64 0) := (blk_cell BK209.out 1).trans rfl; have hcz31_2 : w30.cell? ⟨gb209, 2, none⟩ = some (.int .i64 0) := (blk_cell BK209.out 2).trans rfl; have hfz31_0 := blk_frozen BK209.out 0; have hfz31_1 := blk_frozen BK209.out 1; have hfz31_2 := blk_frozen BK209.out 2))
     refine bodyPost_ret (results_ct rfl _ _ gb209 37 #[.int .i64 0, .int .i64 0, .int .i64 0] (0, 0) _ rfl (by (with_reducible repeat (first | refine blk_drewN ?_ _ | refine blk_drew ?_ | refine blk_alloc ?_ _)); refine blk_put (cs := #[.int .i64 0, .int .i64 0, .int .i64 0]) ?_ 2 _ rfl; (with_reducible repeat (first | refine blk_drewN ?_ _ | refine blk_drew ?_ | refine blk_alloc ?_ _)); refine blk_put (cs := #[.int .i64 0, .int .i64 0, .int .i64 0]) ?_ 1 _ rfl; (with_reducible repeat (first | refine blk_drewN ?_ _ | refine blk_drew ?_ | refine blk_alloc ?_ _)); refine blk_put (cs := #[.int .i64 0, .int .i64 0, .int .i64 0]) ?_ 0 _ rfl; (with_reducible repeat (first | refine blk_drewN ?_ _ | refine blk_drew ?_ | refine blk_alloc ?_ _)); exact BK209.out) Try.underlying37 rfl (by kernel_rfl)) rfl ?_
     exact ⟨by first | rfl | (simp [errW_none, errW_some] <;> rfl) | (simp [*, errW_none, errW_some] <;> rfl), by repeat (first | (with_reducible first | exact HB.out | apply below_alloc | apply pw_below_drewN | apply below_drew1 | refine below_set ?_ GE209.out) | exact HB.out)⟩
 · replace c4 := Bool.eq_false_iff.mpr c4
   subst c4
   have H1 : (some (0, 0, 0, 1)) = some (r1, r2, r3, r4) := by rw [if_neg (show ¬ (false = true) by decide)] at H; exact H
   clear H
   have H := H1
   clear H1
   simp only [Option.some.injEq, Prod.mk.injEq] at H
   obtain ⟨rfl, rfl, rfl, rfl⟩ := H
   go_enter Try.func17, Try.ntmps17
   go_wp2_with (first | ((with_reducible refine gate_dst (N := 4) rfl ?_); refine box_event ?hg (N := 4) ?hd (cs := #[.int .i64 0, .int .i64 0, .int .i64 0]) (t := 37) ?hr ?_; (case hd => rfl); (case hg => rfl); (case hr => first | (go_simp; done) | (go_simp; rfl)); intro gb209 hg w32 hbox hb; have n0_ := Aside0.mk (below_step (by repeat (first | (with_reducible first | exact HB.out | apply below_alloc | apply pw_below_drewN | apply below_drew1) | exact HB.out)) hb); have n1_ := Aside0.mk (hbox); have n2_ := Aside0.mk ((by rw [hg]; exact (below_size (by repeat (first | (with_reducible first | exact HB.out | apply below_alloc | apply pw_below_drewN | apply below_drew1) | exact HB.out))) : w.heap.size ≤ gb209)); have n3_ := Aside0.mk ((by rw [hg]; exact (below_size (by repeat (first | (with_reducible first | exact HB.out | apply below_alloc | apply pw_below_drewN | apply below_drew1) | exact HB.out))) : w.heap.size ≤ gb209)); clear HB; have HB := n0_; have BK209 := n1_; have GW209 := n2_; have GE209 := n3_; clear n0_ n1_ n2_ n3_; clear hb hbox hg) | ((with_reducible refine gate_callee (f := 19) rfl ?_); refine goesL_ (some 14) rfl rfl Try.func19 (by kernel_rfl) rfl #[.slice A0 l0.length c0] rfl (by (try simp only [List.map_toArray, List.map_cons, List.map_nil]); first | done | rfl | (simp only [List.length_drop, List.length_take]; rfl)) ?_; (with_reducible refine (continuoref30_ValidMeter.calls k _ _ l0 false _ ?side1 ?side2 A3.out).mono ?_); (case side1 => repeat (first | exact (Kd.C_below HR0.out HB.out) | (with_reducible refine Kd.C_alloc ?_ _) | (with_reducible refine Kd.C_drewN ?_ _) | (with_reducible refine Kd.C_drew ?_))); (case side2 => exact HC0.out); rintro e w' ⟨rfl, ⟨nd, rfl⟩⟩; refine ⟨_, rfl, ?_⟩; (try (rw [drewN_self w32]; generalize hq_ : World.drewN w32 _ = w32; have n0_ : Aside0 (w32.heap[gb209]? = some (.cells #[.int .i64 0, .int .i64 0, .int .i64 0] 37 (0, 0))) := ⟨by rw [← hq_]; exact (by (with_reducible repeat (first | refine blk_drewN ?_ _ | refine blk_drew ?_ | refine blk_alloc ?_ _)); exact BK209.out)⟩; have n1_ : Aside0 (Below w.heap.size w w32) := ⟨by rw [← hq_]; exact (by repeat (first | (with_reducible first | exact HB.out | apply below_alloc | apply pw_below_drewN | apply below_drew1 | refine below_set ?_ GE209.out) | exact HB.out))⟩; clear BK209 HB hq_; have BK209 := n0_; have HB := n1_; clear n0_ n1_)); have hcz33_0 : w32.cell? ⟨gb209, 0, none⟩ = some (.int .i64 0) := (blk_cell BK209.out 0).trans rfl; have hcz33_1 : w32.cell? ⟨gb209, 1, none⟩ = some (.int .i64 0) := (blk_cell BK209.out 1).trans rfl; have hcz33_2 : w32.cell? ⟨gb209, 2, none⟩ = some (.int .i64 0) := (blk_cell BK209.out 2).trans rfl; have hfz33_0 := blk_frozen BK209.out 0; have hfz33_1 := blk_frozen BK209.out 1; have hfz33_2 := blk_frozen BK209.out 2))
   refine bodyPost_ret (results_ct rfl _ _ gb209 37 #[.int .i64 0, .int .i64 0, .int .i64 0] (0, 0) _ rfl (by (with_reducible repeat (first | refine blk_drewN ?_ _ | refine blk_drew ?_ | refine blk_alloc ?_ _)); refine blk_put (cs := #[.int .i64 0, .int .i64 0, .int .i64 0]) ?_ 2 _ rfl; (with_reducible repeat (first | refine blk_drewN ?_ _ | refine blk_drew ?_ | refine blk_alloc ?_ _)); refine blk_put (cs := #[.int .i64 0, .int .i64 0, .int .i64 0]) ?_ 1 _ rfl; (with_reducible repeat (first | refine blk_drewN ?_ _ | refine blk_drew ?_ | refine blk_alloc ?_ _)); refine blk_put (cs := #[.int .i64 0, .int .i64 0, .int .i64 0]) ?_ 0 _ rfl; (with_reducible repeat (first | refine blk_drewN ?_ _ | refine blk_drew ?_ | refine blk_alloc ?_ _)); exact BK209.out) Try.underlying37 rfl (by kernel_rfl)) rfl ?_
   exact ⟨by first | rfl | (simp [errW_none, errW_some] <;> rfl) | (simp [*, errW_none, errW_some] <;> rfl), by repeat (first | (with_reducible first | exact HB.out | apply below_alloc | apply pw_below_drewN | apply below_drew1 | refine below_set ?_ GE209.out) | exact HB.out)⟩
end Go.Proofs.Ytomlfbmfdoallaa.PA

namespace Go.Proofs.Ytomlfbmfdoallaa.PA
open Go.RowKit Go.Proofs.YtomlfbmfdoallaaW.PrintWords Go.Proofs.YtomlfbmfdoallaaW.PrintLast Go.Proofs.YtomlfbmfdoallaaW.PrintMore
set_option linter.unusedVariables false
set_option linter.unusedSimpArgs false
def inB (n a b : Int) : Bool := decide (a ≤ n) && decide (n ≤ b)
theorem within_calls (n a b : Int) (w : World) : Calls Try.prog 43 #[.int .i64 n, .int .i64 a, .int .i64 b] w fun e w' => e = .returned (.bool (inB n a b)) ∧ Below w.heap.size w w' :=
 (tempo_within.calls n a b _ w (tempo_within.eq _ _ _)).mono fun _ _ ⟨h, ⟨nd, hd⟩⟩ => ⟨h, by rw [hd]; exact pw_below_drewN (Below.refl _ _) nd⟩
def tempo_At.f (k : Nat) (l0 : List S61) (a1_0 a1_1 a1_2 : Int) : Option (Int × Int) :=
 (tempo_ValidMeter.f k l0).bind fun v => if v = true then (if inB a1_0 0 1000000000 = true then (tempo_bar.f k l0 a1_0).bind fun m =>
  if inB m.2.1 1 32 = true ∧ inB m.2.2.1 1 10000 = true ∧ inB m.2.2.2.2 (-1000000000000000) 10000000000000000 = true then (if inB a1_1 0 (m.2.1 - 1) = true then (if inB a1_2 0 (m.2.2.1 - 1) = true then (if m.2.2.2.2 + a1_1 * m.2.2.1 + a1_2 > 1000000000 then some (0, 7) else some (m.2.2.2.2 + a1_1 * m.2.2.1 + a1_2, 0)) else some (0, 7)) else some (0, 7)) else none else some (0, 7)) else some (0, 1)
theorem tempo_At.mono : ∀ a0 a1 a2 a3 k, LeO (tempo_At.f k a0 a1 a2 a3) (tempo_At.f (k + 1) a0 a1 a2 a3) := by
 intro a0 a1 a2 a3 k
 unfold tempo_At.f
 exact LeO.bind (tempo_ValidMeter.mono _ _) (fun _ => LeO.ite (LeO.ite (LeO.bind (tempo_bar.mono _ _ _) (fun _ => LeO.refl _)) (LeO.refl _)) (LeO.refl _))
set_option maxRecDepth 100000 in
set_option maxHeartbeats 2000000 in
theorem tempo_At.calls (k : Nat) (A0 : Option Addr) (c0 : Nat) (l0 : List (S61)) (a1_0 a1_1 a1_2 : Int) (r1 r2 : Int) (w : World) (hr0 : Kd.C k61 w A0 l0.length l0) (hc0 : l0.length ≤ c0) (h : tempo_At.f k l0 a1_0 a1_1 a1_2 = some (r1, r2)) :
 Calls Try.prog 20 #[.slice A0 l0.length c0, .agg #[.int .i64 a1_0, .int .i64 a1_1, .int .i64 a1_2]] w fun e w' => e = .returned (.tuple #[.int .i64 r1, .int .i64 r2]) ∧ Below w.heap.size w w' := by
 unfold tempo_At.f at h
 obtain ⟨v, hv, h'⟩ := Option.bind_eq_some_iff.mp h
 clear h
 have k0 := Blk.new w #[.int .i64 a1_0, .int .i64 a1_1, .int .i64 a1_2] 37
 have hb0 := (Below.refl _ w).alloc (Nat.le_refl _) (.cells #[.int .i64 a1_0, .int .i64 a1_1, .int .i64 a1_2] 37)
 have HV := fun w1 (hb : Below w.heap.size w w1) => Lib.hid (tempo_ValidMeter.calls k A0 c0 l0 v w1 (Kd.C_below hr0 hb) hc0 hv)
 clear hv
 cases v with
 | false =>
  simp only [Bool.false_eq_true, if_false, Option.some.injEq, Prod.mk.injEq] at h'
  obtain ⟨rfl, rfl⟩ := h'
  clear k0
  go_enter Try.func20, Try.ntmps20
  go_wp2_with (fail)
  refine (HV _ hb0).out.mono ?_
  rintro e w1 ⟨rfl, hb1⟩
  replace hb0 := hb0.trans (hb1.mono hb0.size)
  clear hb1
  go_wp2_with (fail)
  go_ret2
  exact ⟨rfl, hb0⟩
 | true =>
  simp only [if_true] at h'
  have HW0 := fun w => Lib.hid (within_calls a1_0 0 1000000000 w)
  cases hq0 : inB a1_0 0 1000000000 with
  | false =>
   rw [hq0] at h' HW0
   simp only [Bool.false_eq_true, if_false, Option.some.injEq, Prod.mk.injEq] at h'
   obtain ⟨rfl, rfl⟩ := h'
   clear hq0
   go_enter Try.func20, Try.ntmps20
   go_wp2_with (fail)
   refine (HV _ hb0).out.mono ?_
   rintro e w1 ⟨rfl, hb1⟩
   replace hb0 := hb0.trans (hb1.mono hb0.size)
   replace k0 := k0.below_ hb1
   clear hb1
   have g0 : w1.cell? ⟨w.heap.size, 0, none⟩ = some (.int .i64 a1_0) := k0.cell 0 rfl
   go_wp2_with (fail)
   refine (HW0 _).out.mono ?_
   rintro e w2 ⟨rfl, hb1⟩
   replace hb0 := hb0.trans (hb1.mono hb0.size)
   clear hb1 g0
   go_wp2_with (fail)
   go_ret2
   exact ⟨rfl, hb0⟩
  | true =>
   rw [hq0] at h' HW0
   simp only [if_true] at h'
   obtain ⟨⟨m0, m1, m2, m3, m4⟩, hm, h'⟩ := Option.bind_eq_some_iff.mp h'
   dsimp only at h'
   have HB := fun w1 (hb : Below w.heap.size w w1) => Lib.hid (tempo_bar.calls k A0 c0 l0 a1_0 m0 m1 m2 m3 m4 w1 (Kd.C_below hr0 hb) hc0 hm)
   clear hm hr0 hq0
   have HW1 := fun w => Lib.hid (within_calls a1_1 0 (m1 - 1) w)
   have HW2 := fun w => Lib.hid (within_calls a1_2 0 (m2 - 1) w)
   have hg : inB m1 1 32 = true ∧ inB m2 1 10000 = true ∧ inB m4 (-1000000000000000) 10000000000000000 = true := by
    apply Classical.byContradiction
    intro hn
    rw [if_neg hn] at h'
    cases h'
   rw [if_pos hg] at h'
   simp only [inB, Bool.and_eq_true, decide_eq_true_eq] at hg
   obtain ⟨⟨g1, g2⟩, ⟨g3, g4⟩, ⟨g5, g6⟩⟩ := hg
   cases hq1 : inB a1_1 0 (m1 - 1) with
   | false =>
    rw [hq1] at h' HW1
    simp only [Bool.false_eq_true, if_false, Option.some.injEq, Prod.mk.injEq] at h'
    obtain ⟨rfl, rfl⟩ := h'
    clear hq1
    go_enter Try.func20, Try.ntmps20
    go_wp2_with (fail)
    refine (HV _ hb0).out.mono ?_
    rintro e w1 ⟨rfl, hb1⟩
    replace hb0 := hb0.trans (hb1.mono hb0.size)
    replace k0 := k0.below_ hb1
    clear hb1
    have y0 : w1.cell? ⟨w.heap.size, 0, none⟩ = some (.int .i64 a1_0) := k0.cell 0 rfl
    go_wp2_with (fail)
    refine (HW0 _).out.mono ?_
    rintro e w2 ⟨rfl, hb1⟩
    replace hb0 := hb0.trans (hb1.mono hb0.size)
    replace k0 := k0.below_ hb1
    clear hb1 y0
    have y0 : w2.cell? ⟨w.heap.size, 0, none⟩ = some (.int .i64 a1_0) := k0.cell 0 rfl
    go_wp2_with (fail)
    refine (HB _ hb0).out.mono ?_
    rintro e w3 ⟨rfl, hb1⟩
    replace hb0 := hb0.trans (hb1.mono hb0.size)
    replace k0 := k0.below_ hb1
    clear hb1 y0
    have y1 : w3.cell? ⟨w.heap.size, 1, none⟩ = some (.int .i64 a1_1) := k0.cell 1 rfl
    have l0' := k0.lt
    go_wp2_with (fail)
    clear y1
    have k6 := Blk.new w3 #[.int .i64 m0, .int .i64 m1, .int .i64 m2, .int .i64 m3] 72
    replace k0 := k0.alloc (.cells #[.int .i64 m0, .int .i64 m1, .int .i64 m2, .int .i64 m3] 72)
    replace hb0 := hb0.alloc hb0.size (.cells #[.int .i64 m0, .int .i64 m1, .int .i64 m2, .int .i64 m3] 72)
    refine (HW1 _).out.mono ?_
    rintro e w4 ⟨rfl, hb1⟩
    replace hb0 := hb0.trans (hb1.mono hb0.size)
    replace k0 := k0.below_ hb1
    replace k6 := k6.below_ hb1
    clear hb1
    generalize w3.heap.size = b6 at k6 ⊢
    have y1 : w4.cell? ⟨w.heap.size, 1, none⟩ = some (.int .i64 a1_1) := k0.cell 1 rfl
    have y2 : w4.cell? ⟨w.heap.size, 2, none⟩ = some (.int .i64 a1_2) := k0.cell 2 rfl
    have z2 : w4.cell? ⟨b6, 2, none⟩ = some (.int .i64 m2) := k6.cell 2 rfl
    go_wp2_with (fail)
    go_ret2
    exact ⟨rfl, hb0⟩
   | true =>
    rw [hq1] at h' HW1
    simp only [inB, Bool.and_eq_true, decide_eq_true_eq] at hq1
    obtain ⟨q1, q2⟩ := hq1
    simp only [if_true] at h'
    cases hq2 : inB a1_2 0 (m2 - 1) with
    | false =>
     rw [hq2] at h' HW2
     simp only [Bool.false_eq_true, if_false, Option.some.injEq, Prod.mk.injEq] at h'
     obtain ⟨rfl, rfl⟩ := h'
     clear hq2
     go_enter Try.func20, Try.ntmps20
     go_wp2_with (fail)
     refine (HV _ hb0).out.mono ?_
     rintro e w1 ⟨rfl, hb1⟩
     replace hb0 := hb0.trans (hb1.mono hb0.size)
     replace k0 := k0.below_ hb1
     clear hb1
     have y0 : w1.cell? ⟨w.heap.size, 0, none⟩ = some (.int .i64 a1_0) := k0.cell 0 rfl
     go_wp2_with (fail)
     refine (HW0 _).out.mono ?_
     rintro e w2 ⟨rfl, hb1⟩
     replace hb0 := hb0.trans (hb1.mono hb0.size)
     replace k0 := k0.below_ hb1
     clear hb1 y0
     have y0 : w2.cell? ⟨w.heap.size, 0, none⟩ = some (.int .i64 a1_0) := k0.cell 0 rfl
     go_wp2_with (fail)
     refine (HB _ hb0).out.mono ?_
     rintro e w3 ⟨rfl, hb1⟩
     replace hb0 := hb0.trans (hb1.mono hb0.size)
     replace k0 := k0.below_ hb1
     clear hb1 y0
     have y1 : w3.cell? ⟨w.heap.size, 1, none⟩ = some (.int .i64 a1_1) := k0.cell 1 rfl
     have l0' := k0.lt
     go_wp2_with (fail)
     clear y1
     have k6 := Blk.new w3 #[.int .i64 m0, .int .i64 m1, .int .i64 m2, .int .i64 m3] 72
     replace k0 := k0.alloc (.cells #[.int .i64 m0, .int .i64 m1, .int .i64 m2, .int .i64 m3] 72)
     replace hb0 := hb0.alloc hb0.size (.cells #[.int .i64 m0, .int .i64 m1, .int .i64 m2, .int .i64 m3] 72)
     refine (HW1 _).out.mono ?_
     rintro e w4 ⟨rfl, hb1⟩
     replace hb0 := hb0.trans (hb1.mono hb0.size)
     replace k0 := k0.below_ hb1
     replace k6 := k6.below_ hb1
     clear hb1
     generalize w3.heap.size = b6 at k6 ⊢
     have y1 : w4.cell? ⟨w.heap.size, 1, none⟩ = some (.int .i64 a1_1) := k0.cell 1 rfl
     have y2 : w4.cell? ⟨w.heap.size, 2, none⟩ = some (.int .i64 a1_2) := k0.cell 2 rfl
     have z2 : w4.cell? ⟨b6, 2, none⟩ = some (.int .i64 m2) := k6.cell 2 rfl
     go_wp2_with (fail)
     clear y1 y2 z2
     refine (HW2 _).out.mono ?_
     rintro e w5 ⟨rfl, hb1⟩
     replace hb0 := hb0.trans (hb1.mono hb0.size)
     replace k0 := k0.below_ hb1
     replace k6 := k6.below_ hb1
     clear hb1
     have y1 : w5.cell? ⟨w.heap.size, 1, none⟩ = some (.int .i64 a1_1) := k0.cell 1 rfl
     have y2 : w5.cell? ⟨w.heap.size, 2, none⟩ = some (.int .i64 a1_2) := k0.cell 2 rfl
     have z2 : w5.cell? ⟨b6, 2, none⟩ = some (.int .i64 m2) := k6.cell 2 rfl
     go_wp2_with (fail)
     go_ret2
     exact ⟨rfl, hb0⟩
    | true =>
     rw [hq2] at h' HW2
     simp only [inB, Bool.and_eq_true, decide_eq_true_eq] at hq2
     obtain ⟨q3, q4⟩ := hq2
     simp only [if_true] at h'
     have e1 := mulb q1 (by omega : a1_1 ≤ 32) (by omega : 0 ≤ m2) g4
     by_cases hgt : m4 + a1_1 * m2 + a1_2 > 1000000000
     · rw [if_pos hgt] at h'
       simp only [Option.some.injEq, Prod.mk.injEq] at h'
       obtain ⟨rfl, rfl⟩ := h'
       have hgt' : 1000000000 < m4 + a1_1 * m2 + a1_2 := hgt
       clear hgt
       go_enter Try.func20, Try.ntmps20
       go_wp2_with (fail)
       refine (HV _ hb0).out.mono ?_
       rintro e w1 ⟨rfl, hb1⟩
       replace hb0 := hb0.trans (hb1.mono hb0.size)
       replace k0 := k0.below_ hb1
       clear hb1
       have y0 : w1.cell? ⟨w.heap.size, 0, none⟩ = some (.int .i64 a1_0) := k0.cell 0 rfl
       go_wp2_with (fail)
       refine (HW0 _).out.mono ?_
       rintro e w2 ⟨rfl, hb1⟩
       replace hb0 := hb0.trans (hb1.mono hb0.size)
       replace k0 := k0.below_ hb1
       clear hb1 y0
       have y0 : w2.cell? ⟨w.heap.size, 0, none⟩ = some (.int .i64 a1_0) := k0.cell 0 rfl
       go_wp2_with (fail)
       refine (HB _ hb0).out.mono ?_
       rintro e w3 ⟨rfl, hb1⟩
       replace hb0 := hb0.trans (hb1.mono hb0.size)
       replace k0 := k0.below_ hb1
       clear hb1 y0
       have y1 : w3.cell? ⟨w.heap.size, 1, none⟩ = some (.int .i64 a1_1) := k0.cell 1 rfl
       have l0' := k0.lt
       go_wp2_with (fail)
       clear y1
       have k6 := Blk.new w3 #[.int .i64 m0, .int .i64 m1, .int .i64 m2, .int .i64 m3] 72
       replace k0 := k0.alloc (.cells #[.int .i64 m0, .int .i64 m1, .int .i64 m2, .int .i64 m3] 72)
       replace hb0 := hb0.alloc hb0.size (.cells #[.int .i64 m0, .int .i64 m1, .int .i64 m2, .int .i64 m3] 72)
       refine (HW1 _).out.mono ?_
       rintro e w4 ⟨rfl, hb1⟩
       replace hb0 := hb0.trans (hb1.mono hb0.size)
       replace k0 := k0.below_ hb1
       replace k6 := k6.below_ hb1
       clear hb1
       generalize w3.heap.size = b6 at k6 ⊢
       have y1 : w4.cell? ⟨w.heap.size, 1, none⟩ = some (.int .i64 a1_1) := k0.cell 1 rfl
       have y2 : w4.cell? ⟨w.heap.size, 2, none⟩ = some (.int .i64 a1_2) := k0.cell 2 rfl
       have z2 : w4.cell? ⟨b6, 2, none⟩ = some (.int .i64 m2) := k6.cell 2 rfl
       go_wp2_with (fail)
       clear y1 y2 z2
       refine (HW2 _).out.mono ?_
       rintro e w5 ⟨rfl, hb1⟩
       replace hb0 := hb0.trans (hb1.mono hb0.size)
       replace k0 := k0.below_ hb1
       replace k6 := k6.below_ hb1
       clear hb1
       have y1 : w5.cell? ⟨w.heap.size, 1, none⟩ = some (.int .i64 a1_1) := k0.cell 1 rfl
       have y2 : w5.cell? ⟨w.heap.size, 2, none⟩ = some (.int .i64 a1_2) := k0.cell 2 rfl
       have z2 : w5.cell? ⟨b6, 2, none⟩ = some (.int .i64 m2) := k6.cell 2 rfl
       go_wp2_with (fail)
       go_ret2
       exact ⟨rfl, hb0⟩
     · rw [if_neg hgt] at h'
       simp only [Option.some.injEq, Prod.mk.injEq] at h'
       obtain ⟨rfl, rfl⟩ := h'
       have hgt' : ¬ 1000000000 < m4 + a1_1 * m2 + a1_2 := hgt
       clear hgt
       go_enter Try.func20, Try.ntmps20
       go_wp2_with (fail)
       refine (HV _ hb0).out.mono ?_
       rintro e w1 ⟨rfl, hb1⟩
       replace hb0 := hb0.trans (hb1.mono hb0.size)
       replace k0 := k0.below_ hb1
       clear hb1
       have y0 : w1.cell? ⟨w.heap.size, 0, none⟩ = some (.int .i64 a1_0) := k0.cell 0 rfl
       go_wp2_with (fail)
       refine (HW0 _).out.mono ?_
       rintro e w2 ⟨rfl, hb1⟩
       replace hb0 := hb0.trans (hb1.mono hb0.size)
       replace k0 := k0.below_ hb1
       clear hb1 y0
       have y0 : w2.cell? ⟨w.heap.size, 0, none⟩ = some (.int .i64 a1_0) := k0.cell 0 rfl
       go_wp2_with (fail)
       refine (HB _ hb0).out.mono ?_
       rintro e w3 ⟨rfl, hb1⟩
       replace hb0 := hb0.trans (hb1.mono hb0.size)
       replace k0 := k0.below_ hb1
       clear hb1 y0
       have y1 : w3.cell? ⟨w.heap.size, 1, none⟩ = some (.int .i64 a1_1) := k0.cell 1 rfl
       have l0' := k0.lt
       go_wp2_with (fail)
       clear y1
       have k6 := Blk.new w3 #[.int .i64 m0, .int .i64 m1, .int .i64 m2, .int .i64 m3] 72
       replace k0 := k0.alloc (.cells #[.int .i64 m0, .int .i64 m1, .int .i64 m2, .int .i64 m3] 72)
       replace hb0 := hb0.alloc hb0.size (.cells #[.int .i64 m0, .int .i64 m1, .int .i64 m2, .int .i64 m3] 72)
       refine (HW1 _).out.mono ?_
       rintro e w4 ⟨rfl, hb1⟩
       replace hb0 := hb0.trans (hb1.mono hb0.size)
       replace k0 := k0.below_ hb1
       replace k6 := k6.below_ hb1
       clear hb1
       generalize w3.heap.size = b6 at k6 ⊢
       have y1 : w4.cell? ⟨w.heap.size, 1, none⟩ = some (.int .i64 a1_1) := k0.cell 1 rfl
       have y2 : w4.cell? ⟨w.heap.size, 2, none⟩ = some (.int .i64 a1_2) := k0.cell 2 rfl
       have z2 : w4.cell? ⟨b6, 2, none⟩ = some (.int .i64 m2) := k6.cell 2 rfl
       go_wp2_with (fail)
       clear y1 y2 z2
       refine (HW2 _).out.mono ?_
       rintro e w5 ⟨rfl, hb1⟩
       replace hb0 := hb0.trans (hb1.mono hb0.size)
       replace k0 := k0.below_ hb1
       replace k6 := k6.below_ hb1
       clear hb1
       have y1 : w5.cell? ⟨w.heap.size, 1, none⟩ = some (.int .i64 a1_1) := k0.cell 1 rfl
       have y2 : w5.cell? ⟨w.heap.size, 2, none⟩ = some (.int .i64 a1_2) := k0.cell 2 rfl
       have z2 : w5.cell? ⟨b6, 2, none⟩ = some (.int .i64 m2) := k6.cell 2 rfl
       go_wp2_with (fail)
       go_ret2
       exact ⟨rfl, hb0⟩
end Go.Proofs.Ytomlfbmfdoallaa.PA

namespace Go.Proofs.Ytomlfbmfdoallaa.PA
open Go.RowKit Go.Proofs.YtomlfbmfdoallaaW.PrintWords Go.Proofs.YtomlfbmfdoallaaW.PrintLast Go.Proofs.YtomlfbmfdoallaaW.PrintMore
attribute [local go_sem] max2_int min2_int max_two min_two max_three min_three max_four min_four
set_option linter.unusedVariables false
set_option linter.unusedSimpArgs false
end Go.Proofs.Ytomlfbmfdoallaa.PA

namespace Go.Proofs.Ytomlfbmfdoallaa.PA
open Go.RowKit Go.Proofs.YtomlfbmfdoallaaW.PrintWords Go.Proofs.YtomlfbmfdoallaaW.PrintLast Go.Proofs.YtomlfbmfdoallaaW.PrintMore
attribute [local go_sem] max2_int min2_int max_two min_two max_three min_three max_four min_four
set_option linter.unusedVariables false
set_option linter.unusedSimpArgs false
def continuoref30_At.j0 : Nat → List (S61) → Bool → Int → Int → Int → Option (Int × Int)
 | 0, _, _, _, _, _ => none
 | k + 1, x0, x24, x223000, x223001, x223002 => if x24 = true then (some (0, 7)) else ((continuoref30_bar.f k x0 x223000).bind fun bt225 => (if x223001 ≥ bt225.2.2.1 then (some (0, 7)) else (if x223002 ≥ bt225.2.2.2 then (some (0, 7)) else (if (wrap64 ((wrap64 (bt225.1 + (wrap64 (x223001 * bt225.2.2.2)))) + x223002)) > 1000000000 then (some (0, 7)) else (some (wrap64 ((wrap64 (bt225.1 + (wrap64 (x223001 * bt225.2.2.2)))) + x223002), 0))))))
def continuoref30_At.f (k : Nat) (l0 : List (S61)) (a1_0 : Int) (a1_1 : Int) (a1_2 : Int) : Option (Int × Int) := (continuoref30_ValidMeter.f k l0).bind fun t223 => (if t223 = true then ((continuoref30_time.f a1_0).bind fun t224 => (if t224 = true then (if a1_1 < 0 then (continuoref30_At.j0 k l0 true a1_0 a1_1 a1_2) else (continuoref30_At.j0 k l0 (decide (a1_2 < 0)) a1_0 a1_1 a1_2)) else (continuoref30_At.j0 k l0 true a1_0 a1_1 a1_2))) else (some (0, 1)))
theorem continuoref30_At.mono_l : ∀ k, (∀ y0 y1 y2 y3 y4, LeO (continuoref30_At.j0 k y0 y1 y2 y3 y4) (continuoref30_At.j0 (k + 1) y0 y1 y2 y3 y4))
 | 0 => fun _ _ _ _ _ r h => by simp [continuoref30_At.j0] at h
 | k + 1 => by
  have ih0 := continuoref30_At.mono_l k
  · intro y0 y1 y2 y3 y4
    unfold continuoref30_At.j0
    repeat' first
    | (with_reducible exact ih0 _ _ _ _ _)
    | (with_reducible exact continuoref30_ValidMeter.mono _ _)
    | (with_reducible exact continuoref30_bar.mono _ _ _)
    | (with_reducible exact LeO.refl _)
    | (with_reducible exact LeO.none _)
    | (with_reducible refine LeO.ite ?_ ?_)
    | (with_reducible refine LeO.bind ?_ (fun _ => ?_))
    | exact ih0 _ _ _ _ _
    | exact continuoref30_ValidMeter.mono _ _
    | exact continuoref30_bar.mono _ _ _
    | exact LeO.none _
    | refine LeO.ite ?_ ?_
    | refine LeO.bind ?_ (fun _ => ?_)
theorem continuoref30_At.mono : ∀ a0 a1 a2 a3 k, LeO (continuoref30_At.f k a0 a1 a2 a3) (continuoref30_At.f (k + 1) a0 a1 a2 a3) := by
 intro a0 a1 a2 a3 k
 have ih0 := continuoref30_At.mono_l k
 unfold continuoref30_At.f
 repeat' first
  | (with_reducible exact ih0 _ _ _ _ _)
  | (with_reducible exact continuoref30_ValidMeter.mono _ _)
  | (with_reducible exact continuoref30_bar.mono _ _ _)
  | (with_reducible exact LeO.refl _)
  | (with_reducible exact LeO.none _)
  | (with_reducible refine LeO.ite ?_ ?_)
  | (with_reducible refine LeO.bind ?_ (fun _ => ?_))
  | exact ih0 _ _ _ _ _
  | exact continuoref30_ValidMeter.mono _ _
  | exact continuoref30_bar.mono _ _ _
  | exact LeO.none _
  | refine LeO.ite ?_ ?_
  | refine LeO.bind ?_ (fun _ => ?_)
set_option maxHeartbeats 8000000 in
set_option maxRecDepth 100000 in
theorem continuoref30_At.calls (k : Nat) (A0 : Option Addr) (c0 : Nat) (l0 : List (S61)) (a1_0 : Int) (a1_1 : Int) (a1_2 : Int) (r1 : Int) (r2 : Int) (w : World) (hr0 : Kd.C k61 w A0 l0.length l0) (hc0 : l0.length ≤ c0) (h : continuoref30_At.f k l0 a1_0 a1_1 a1_2 = some (r1, r2)) :
 Calls Try.prog 21 #[.slice A0 l0.length c0, .agg #[.int .i64 a1_0, .int .i64 a1_1, .int .i64 a1_2]] w fun e w' => e = .returned (.tuple #[.int .i64 r1, .int .i64 r2]) ∧ Below w.heap.size w w' := by
 have hu37 := Try.underlying37
 have hu61 := Try.underlying61
 have HR0 := Aside0.mk hr0
 have HC0 := Aside0.mk hc0
 clear hr0 hc0
 have HB := Aside0.mk (Below.refl w.heap.size w)
 have H : ((continuoref30_ValidMeter.f k l0).bind fun t223 => (if t223 = true then ((continuoref30_time.f a1_0).bind fun t224 => (if t224 = true then (if a1_1 < 0 then (continuoref30_At.j0 k l0 true a1_0 a1_1 a1_2) else (continuoref30_At.j0 k l0 (decide (a1_2 < 0)) a1_0 a1_1 a1_2)) else (continuoref30_At.j0 k l0 true a1_0 a1_1 a1_2))) else (some (0, 1)))) = some (r1, r2) := h
 clear h
 replace H := Option.bind_eq_some_iff.mp H
 obtain ⟨t223, A30, H⟩ := H
 replace H : (if t223 = true then ((continuoref30_time.f a1_0).bind fun t224 => (if t224 = true then (if a1_1 < 0 then (continuoref30_At.j0 k l0 true a1_0 a1_1 a1_2) else (continuoref30_At.j0 k l0 (decide (a1_2 < 0)) a1_0 a1_1 a1_2)) else (continuoref30_At.j0 k l0 true a1_0 a1_1 a1_2))) else (some (0, 1))) = some (r1, r2) := H
 have A3 := Aside0.mk A30
 clear A30
 by_cases c4 : t223 = true
 · subst c4
   have H1 : ((continuoref30_time.f a1_0).bind fun t224 => (if t224 = true then (if a1_1 < 0 then (continuoref30_At.j0 k l0 true a1_0 a1_1 a1_2) else (continuoref30_At.j0 k l0 (decide (a1_2 < 0)) a1_0 a1_1 a1_2)) else (continuoref30_At.j0 k l0 true a1_0 a1_1 a1_2))) = some (r1, r2) := by rw [if_pos rfl] at H; exact H
   clear H
   have H := H1
   clear H1
   have HC5 := Aside0.mk H
   clear H
   go_enter Try.func21, Try.ntmps21
   go_upto_region 3 with (first | ((with_reducible refine gate_dst (N := 3) rfl ?_); refine box_event ?hg (N := 3) ?hd (cs := #[.int .i64 a1_0, .int .i64 a1_1, .int .i64 a1_2]) (t := 37) ?hr ?_; (case hd => rfl); (case hg => rfl); (case hr => first | (go_simp; done) | (go_simp; rfl)); intro gb222 hg w6 hbox hb; have n0_ := Aside0.mk (below_step (by repeat (first | (with_reducible first | exact HB.out | apply below_alloc | apply pw_below_drewN | apply below_drew1) | exact HB.out)) hb); have n1_ := Aside0.mk (hbox); have n2_ := Aside0.mk ((by rw [hg]; exact (below_size (by repeat (first | (with_reducible first | exact HB.out | apply below_alloc | apply pw_below_drewN | apply below_drew1) | exact HB.out))) : w.heap.size ≤ gb222)); have n3_ := Aside0.mk ((by rw [hg]; exact (below_size (by repeat (first | (with_reducible first | exact HB.out | apply below_alloc | apply pw_below_drewN | apply below_drew1) | exact HB.out))) : w.heap.size ≤ gb222)); clear HB; have HB := n0_; have BK222 := n1_; have GW222 := n2_; have GE222 := n3_; clear n0_ n1_ n2_ n3_; clear hb hbox hg) | ((with_reducible refine gate_callee (f := 19) rfl ?_); refine goesL_ (some 9) rfl rfl Try.func19 (by kernel_rfl) rfl #[.slice A0 l0.length c0] rfl (by (try simp only [List.map_toArray, List.map_cons, List.map_nil]); first | done | rfl | (simp only [List.length_drop, List.length_take]; rfl)) ?_; (with_reducible refine (continuoref30_ValidMeter.calls k _ _ l0 true _ ?side1 ?side2 A3.out).mono ?_); (case side1 => repeat (first | exact (Kd.C_below HR0.out HB.out) | (with_reducible refine Kd.C_alloc ?_ _) | (with_reducible refine Kd.C_drewN ?_ _) | (with_reducible refine Kd.C_drew ?_))); (case side2 => exact HC0.out); rintro e w' ⟨rfl, ⟨nd, rfl⟩⟩; refine ⟨_, rfl, ?_⟩))
   (try simp only [Act.put, List.setIfInBounds_toArray, List.set_cons_zero, List.set_cons_succ])
   go_cut [24] (fun v24 wc => ∃ (kq : Nat) (x24_4 : Bool), v24 = .bool x24_4 ∧ Aside0 (continuoref30_At.j0 kq l0 x24_4 a1_0 a1_1 a1_2 = some (r1, r2)) ∧ Aside0 (kq ≤ k) ∧ Aside0 (wc.heap[gb222]? = some (.cells #[.int .i64 a1_0, .int .i64 a1_1, .int .i64 a1_2] 37 (0, 0))) ∧ Aside0 (Below w.heap.size w wc))
   case first =>
    have H := HC5.out
    clear HC5
    replace H := Option.bind_eq_some_iff.mp H
    obtain ⟨t224, A70, H⟩ := H
    replace H : (if t224 = true then (if a1_1 < 0 then (continuoref30_At.j0 k l0 true a1_0 a1_1 a1_2) else (continuoref30_At.j0 k l0 (decide (a1_2 < 0)) a1_0 a1_1 a1_2)) else (continuoref30_At.j0 k l0 true a1_0 a1_1 a1_2)) = some (r1, r2) := H
    have A7 := Aside0.mk A70
    clear A70
    by_cases c8 : t224 = true
    · subst c8
      have H1 : (if a1_1 < 0 then (continuoref30_At.j0 k l0 true a1_0 a1_1 a1_2) else (continuoref30_At.j0 k l0 (decide (a1_2 < 0)) a1_0 a1_1 a1_2)) = some (r1, r2) := by rw [if_pos rfl] at H; exact H
      clear H
      have H := H1
      clear H1
      by_cases c9 : a1_1 < 0
      · rw [if_pos c9] at H
        have c9b0 : decide (a1_1 < 0) = true := decide_eq_true c9
        clear c9
        (first | rw [c9b0] | (simp only [i64_w, i32_w]; rw [c9b0]) | skip)
        have H' := Aside0.mk H
        clear H
        have hcz10_0 : w6.cell? ⟨gb222, 0, none⟩ = some (.int .i64 a1_0) := (blk_cell BK222.out 0).trans rfl
        have hcz10_1 : w6.cell? ⟨gb222, 1, none⟩ = some (.int .i64 a1_1) := (blk_cell BK222.out 1).trans rfl
        have hcz10_2 : w6.cell? ⟨gb222, 2, none⟩ = some (.int .i64 a1_2) := (blk_cell BK222.out 2).trans rfl
        have hfz10_0 := blk_frozen BK222.out 0
        have hfz10_1 := blk_frozen BK222.out 1
        have hfz10_2 := blk_frozen BK222.out 2
        go_wp2_with (first | ((with_reducible refine gate_callee (f := 50) rfl ?_); refine goesL_ (some 13) rfl rfl Try.func50 (by kernel_rfl) rfl #[.int .i64 a1_0] rfl (by (try simp only [List.map_toArray, List.map_cons, List.map_nil]); first | done | rfl | (simp only [List.length_drop, List.length_take]; rfl)) ?_; (with_reducible refine (continuoref30_time.calls a1_0 true _ A7.out).mono ?_); rintro e w' ⟨rfl, ⟨nd, rfl⟩⟩; refine ⟨_, rfl, ?_⟩))
        go_meet
        case rel => exact ⟨_, (true), (by first | rfl | (simp; done) | (simp [*]; done)), H', ⟨by first | omega | exact Nat.le_refl _⟩, ⟨by (with_reducible repeat (first | refine blk_drewN ?_ _ | refine blk_drew ?_ | refine blk_alloc ?_ _)); exact BK222.out⟩, ⟨by repeat (first | (with_reducible first | exact HB.out | apply below_alloc | apply pw_below_drewN | apply below_drew1 | refine below_set ?_ GE222.out) | exact HB.out)⟩⟩
      · rw [if_neg c9] at H
        have c9b0 : decide (a1_1 < 0) = false := decide_eq_false c9
        clear c9
        (first | rw [c9b0] | (simp only [i64_w, i32_w]; rw [c9b0]) | skip)
        have H' := Aside0.mk H
        clear H
        have hcz11_0 : w6.cell? ⟨gb222, 0, none⟩ = some (.int .i64 a1_0) := (blk_cell BK222.out 0).trans rfl
        have hcz11_1 : w6.cell? ⟨gb222, 1, none⟩ = some (.int .i64 a1_1) := (blk_cell BK222.out 1).trans rfl
        have hcz11_2 : w6.cell? ⟨gb222, 2, none⟩ = some (.int .i64 a1_2) := (blk_cell BK222.out 2).trans rfl
        have hfz11_0 := blk_frozen BK222.out 0
        have hfz11_1 := blk_frozen BK222.out 1
        have hfz11_2 := blk_frozen BK222.out 2
        go_wp2_with (first | ((with_reducible refine gate_callee (f := 50) rfl ?_); refine goesL_ (some 13) rfl rfl Try.func50 (by kernel_rfl) rfl #[.int .i64 a1_0] rfl (by (try simp only [List.map_toArray, List.map_cons, List.map_nil]); first | done | rfl | (simp only [List.length_drop, List.length_take]; rfl)) ?_; (with_reducible refine (continuoref30_time.calls a1_0 true _ A7.out).mono ?_); rintro e w' ⟨rfl, ⟨nd, rfl⟩⟩; refine ⟨_, rfl, ?_⟩))
        go_meet
        case rel => exact ⟨_, (decide (a1_2 < 0)), (by first | rfl | (simp; done) | (simp [*]; done)), H', ⟨by first | omega | exact Nat.le_refl _⟩, ⟨by (with_reducible repeat (first | refine blk_drewN ?_ _ | refine blk_drew ?_ | refine blk_alloc ?_ _)); exact BK222.out⟩, ⟨by repeat (first | (with_reducible first | exact HB.out | apply below_alloc | apply pw_below_drewN | apply below_drew1 | refine below_set ?_ GE222.out) | exact HB.out)⟩⟩
    · replace c8 := Bool.eq_false_iff.mpr c8
      subst c8
      have H1 : (continuoref30_At.j0 k l0 true a1_0 a1_1 a1_2) = some (r1, r2) := by rw [if_neg (show ¬ (false = true) by decide)] at H; exact H
      clear H
      have H := H1
      clear H1
      have H' := Aside0.mk H
      clear H
      have hcz12_0 : w6.cell? ⟨gb222, 0, none⟩ = some (.int .i64 a1_0) := (blk_cell BK222.out 0).trans rfl
      have hcz12_1 : w6.cell? ⟨gb222, 1, none⟩ = some (.int .i64 a1_1) := (blk_cell BK222.out 1).trans rfl
      have hcz12_2 : w6.cell? ⟨gb222, 2, none⟩ = some (.int .i64 a1_2) := (blk_cell BK222.out 2).trans rfl
      have hfz12_0 := blk_frozen BK222.out 0
      have hfz12_1 := blk_frozen BK222.out 1
      have hfz12_2 := blk_frozen BK222.out 2
      go_wp2_with (first | ((with_reducible refine gate_callee (f := 50) rfl ?_); refine goesL_ (some 13) rfl rfl Try.func50 (by kernel_rfl) rfl #[.int .i64 a1_0] rfl (by (try simp only [List.map_toArray, List.map_cons, List.map_nil]); first | done | rfl | (simp only [List.length_drop, List.length_take]; rfl)) ?_; (with_reducible refine (continuoref30_time.calls a1_0 false _ A7.out).mono ?_); rintro e w' ⟨rfl, ⟨nd, rfl⟩⟩; refine ⟨_, rfl, ?_⟩))
      go_meet
      case rel => exact ⟨_, (true), (by first | rfl | (simp; done) | (simp [*]; done)), H', ⟨by first | omega | exact Nat.le_refl _⟩, ⟨by (with_reducible repeat (first | refine blk_drewN ?_ _ | refine blk_drew ?_ | refine blk_alloc ?_ _)); exact BK222.out⟩, ⟨by repeat (first | (with_reducible first | exact HB.out | apply below_alloc | apply pw_below_drewN | apply below_drew1 | refine below_set ?_ GE222.out) | exact HB.out)⟩⟩
   case rest =>
    clear HC5
    try clear c1
    try clear c2
    try clear p2
    try clear c4
    try clear c5
    try clear c8
    try clear c9
    try clear c9b0
    try clear hcz10_0
    try clear hcz10_1
    try clear hcz10_2
    try clear hcz11_0
    try clear hcz11_1
    try clear hcz11_2
    try clear hcz12_0
    try clear hcz12_1
    try clear hcz12_2
    try clear hfz10_0
    try clear hfz10_1
    try clear hfz10_2
    try clear hfz11_0
    try clear hfz11_1
    try clear hfz11_2
    try clear hfz12_0
    try clear hfz12_1
    try clear hfz12_2
    obtain ⟨kq, x24_4, rfl, HA, HJ4, BK222, HB⟩ := hcut
    cases kq with
    | zero => exact absurd HA.out (by simp [continuoref30_At.j0])
    | succ kj4 =>
     have H := HA.out
     clear HA
     simp only [continuoref30_At.j0] at H
     by_cases c13 : x24_4 = true
     · subst c13
       have H1 : (some (0, 7)) = some (r1, r2) := by rw [if_pos rfl] at H; exact H
       clear H
       have H := H1
       clear H1
       simp only [Option.some.injEq, Prod.mk.injEq] at H
       obtain ⟨rfl, rfl⟩ := H
       go_wp2
       go_ret2
       exact ⟨by first | rfl | (simp [errW_none, errW_some] <;> rfl) | (simp [*, errW_none, errW_some] <;> rfl), by repeat (first | (with_reducible first | exact HB.out | apply below_alloc | apply pw_below_drewN | apply below_drew1 | refine below_set ?_ GE222.out) | exact HB.out)⟩
     · replace c13 := Bool.eq_false_iff.mpr c13
       subst c13
       have H1 : ((continuoref30_bar.f kj4 l0 a1_0).bind fun bt225 => (if a1_1 ≥ bt225.2.2.1 then (some (0, 7)) else (if a1_2 ≥ bt225.2.2.2 then (some (0, 7)) else (if (wrap64 ((wrap64 (bt225.1 + (wrap64 (a1_1 * bt225.2.2.2)))) + a1_2)) > 1000000000 then (some (0, 7)) else (some (wrap64 ((wrap64 (bt225.1 + (wrap64 (a1_1 * bt225.2.2.2)))) + a1_2), 0)))))) = some (r1, r2) := by rw [if_neg (show ¬ (false = true) by decide)] at H; exact H
       clear H
       have H := H1
       clear H1
       replace H := Option.bind_eq_some_iff.mp H
       obtain ⟨⟨t225, t226, t227, t228⟩, A140, H⟩ := H
       replace H : (if a1_1 ≥ t227 then (some (0, 7)) else (if a1_2 ≥ t228 then (some (0, 7)) else (if (wrap64 ((wrap64 (t225 + (wrap64 (a1_1 * t228)))) + a1_2)) > 1000000000 then (some (0, 7)) else (some (wrap64 ((wrap64 (t225 + (wrap64 (a1_1 * t228)))) + a1_2), 0))))) = some (r1, r2) := H
       have A14 := Aside0.mk A140
       clear A140
       by_cases c15 : a1_1 ≥ t227
       · rw [if_pos c15] at H
         have c15b0 : decide (t227 ≤ a1_1) = true := decide_eq_true c15
         clear c15
         simp only [Option.some.injEq, Prod.mk.injEq] at H
         obtain ⟨rfl, rfl⟩ := H
         have hcz16_0 : wc.cell? ⟨gb222, 0, none⟩ = some (.int .i64 a1_0) := (blk_cell BK222.out 0).trans rfl
         have hcz16_1 : wc.cell? ⟨gb222, 1, none⟩ = some (.int .i64 a1_1) := (blk_cell BK222.out 1).trans rfl
         have hcz16_2 : wc.cell? ⟨gb222, 2, none⟩ = some (.int .i64 a1_2) := (blk_cell BK222.out 2).trans rfl
         have hfz16_0 := blk_frozen BK222.out 0
         have hfz16_1 := blk_frozen BK222.out 1
         have hfz16_2 := blk_frozen BK222.out 2
         go_wp2_with (first | ((with_reducible refine gate_callee (f := 51) rfl ?_); refine goesL_ (some 29) rfl rfl Try.func51 (by kernel_rfl) rfl #[.slice A0 l0.length c0, .int .i64 a1_0] rfl (by (try simp only [List.map_toArray, List.map_cons, List.map_nil]); first | done | rfl | (simp only [List.length_drop, List.length_take]; rfl)) ?_; (with_reducible refine (continuoref30_bar.calls kj4 _ _ l0 a1_0 t225 t226 t227 t228 _ ?side1 ?side2 A14.out).mono ?_); (case side1 => repeat (first | exact (Kd.C_below HR0.out HB.out) | (with_reducible refine Kd.C_alloc ?_ _) | (with_reducible refine Kd.C_drewN ?_ _) | (with_reducible refine Kd.C_drew ?_))); (case side2 => exact HC0.out); rintro e w17 ⟨rfl, hb⟩; refine ⟨_, rfl, ?_⟩; have n0_ := Aside0.mk (blk_below (g := gb222) (o := .cells #[.int .i64 a1_0, .int .i64 a1_1, .int .i64 a1_2] 37 (0, 0)) (by (with_reducible repeat (first | refine blk_drewN ?_ _ | refine blk_drew ?_ | refine blk_alloc ?_ _)); exact BK222.out) hb); have n1_ := Aside0.mk (below_step (by repeat (first | (with_reducible first | exact HB.out | apply below_alloc | apply pw_below_drewN | apply below_drew1 | refine below_set ?_ GE222.out) | exact HB.out)) hb); clear BK222; clear HB; have BK222 := n0_; have HB := n1_; clear n0_ n1_; (try clear hb); (try clear hb2); (try clear hk); (try clear hi)) | ((with_reducible refine gate_dst (N := 7) rfl ?_); refine box_event ?hg (N := 7) ?hd (cs := #[.int .i64 0, .int .i64 0, .int .i64 0]) (t := 61) ?hr ?_; (case hd => rfl); (case hg => rfl); (case hr => first | (go_simp; done) | (go_simp; rfl)); intro gb229 hg w18 hbox hb; have n0_ := Aside0.mk (blk_below (g := gb222) (o := .cells #[.int .i64 a1_0, .int .i64 a1_1, .int .i64 a1_2] 37 (0, 0)) (by (with_reducible repeat (first | refine blk_drewN ?_ _ | refine blk_drew ?_ | refine blk_alloc ?_ _)); exact BK222.out) hb); have n1_ := Aside0.mk (below_step (by repeat (first | (with_reducible first | exact HB.out | apply below_alloc | apply pw_below_drewN | apply below_drew1 | refine below_set ?_ GE222.out) | exact HB.out)) hb); have n2_ := Aside0.mk (hbox); have n3_ := Aside0.mk ((by rw [hg]; exact (below_size (by repeat (first | (with_reducible first | exact HB.out | apply below_alloc | apply pw_below_drewN | apply below_drew1 | refine below_set ?_ GE222.out) | exact HB.out))) : w.heap.size ≤ gb229)); have n4_ := Aside0.mk ((by rw [hg]; exact (below_size (by repeat (first | (with_reducible first | exact HB.out | apply below_alloc | apply pw_below_drewN | apply below_drew1 | refine below_set ?_ GE222.out) | exact HB.out))) : w.heap.size ≤ gb229)); have n5_ := Aside0.mk ((by rw [hg]; exact Nat.ne_of_lt (blk_lt (g := gb222) (o := .cells #[.int .i64 a1_0, .int .i64 a1_1, .int .i64 a1_2] 37 (0, 0)) (by (with_reducible repeat (first | refine blk_drewN ?_ _ | refine blk_drew ?_ | refine blk_alloc ?_ _)); exact BK222.out)) : gb222 ≠ gb229)); have n6_ := Aside0.mk ((by rw [hg]; exact Nat.ne_of_gt (blk_lt (g := gb222) (o := .cells #[.int .i64 a1_0, .int .i64 a1_1, .int .i64 a1_2] 37 (0, 0)) (by (with_reducible repeat (first | refine blk_drewN ?_ _ | refine blk_drew ?_ | refine blk_alloc ?_ _)); exact BK222.out)) : gb229 ≠ gb222)); clear BK222; clear HB; have BK222 := n0_; have HB := n1_; have BK229 := n2_; have GW229 := n3_; have GE229 := n4_; have NB222_229 := n5_; have NB229_222 := n6_; clear n0_ n1_ n2_ n3_ n4_ n5_ n6_; clear hb hbox hg; have hnb19 := NB229_222.out; have hnc19 := NB222_229.out; have hcz20_0 : w18.cell? ⟨gb229, 0, none⟩ = some (.int .i64 0) := (blk_cell BK229.out 0).trans rfl; have hcz20_1 : w18.cell? ⟨gb229, 1, none⟩ = some (.int .i64 0) := (blk_cell BK229.out 1).trans rfl; have hcz20_2 : w18.cell? ⟨gb229, 2, none⟩ = some (.int .i64 0) := (blk_cell BK229.out 2).trans rfl; have hfz20_0 := blk_frozen BK229.out 0; have hfz20_1 := blk_frozen BK229.out 1; have hfz20_2 := blk_frozen BK229.out 2; have hcz21_0 : w18.cell? ⟨gb222, 0, none⟩ = some (.int .i64 a1_0) := (blk_cell BK222.out 0).trans rfl; have hcz21_1 : w18.cell? ⟨gb222, 1, none⟩ = some (.int .i64 a1_1) := (blk_cell BK222.out 1).trans rfl; have hcz21_2 : w18.cell? ⟨gb222, 2, none⟩ = some (.int .i64 a1_2) := (blk_cell BK222.out 2).trans rfl; have hfz21_0 := blk_frozen BK222.out 0; have hfz21_1 := blk_frozen BK222.out 1; have hfz21_2 := blk_frozen BK222.out 2))
         go_ret2
         exact ⟨by first | rfl | (simp [errW_none, errW_some] <;> rfl) | (simp [*, errW_none, errW_some] <;> rfl), by repeat (first | (with_reducible first | exact HB.out | apply below_alloc | apply pw_below_drewN | apply below_drew1 | refine below_set ?_ GE222.out | refine below_set ?_ GE229.out) | exact HB.out)⟩
       · rw [if_neg c15] at H
         have c15b0 : decide (t227 ≤ a1_1) = false := decide_eq_false c15
         clear c15
         by_cases c22 : a1_2 ≥ t228
         · rw [if_pos c22] at H
           have c22b0 : decide (t228 ≤ a1_2) = true := decide_eq_true c22
           clear c22
           simp only [Option.some.injEq, Prod.mk.injEq] at H
           obtain ⟨rfl, rfl⟩ := H
           have hcz23_0 : wc.cell? ⟨gb222, 0, none⟩ = some (.int .i64 a1_0) := (blk_cell BK222.out 0).trans rfl
           have hcz23_1 : wc.cell? ⟨gb222, 1, none⟩ = some (.int .i64 a1_1) := (blk_cell BK222.out 1).trans rfl
           have hcz23_2 : wc.cell? ⟨gb222, 2, none⟩ = some (.int .i64 a1_2) := (blk_cell BK222.out 2).trans rfl
           have hfz23_0 := blk_frozen BK222.out 0
           have hfz23_1 := blk_frozen BK222.out 1
           have hfz23_2 := blk_frozen BK222.out 2
           go_wp2_with (first | ((with_reducible refine gate_callee (f := 51) rfl ?_); refine goesL_ (some 29) rfl rfl Try.func51 (by kernel_rfl) rfl #[.slice A0 l0.length c0, .int .i64 a1_0] rfl (by (try simp only [List.map_toArray, List.map_cons, List.map_nil]); first | done | rfl | (simp only [List.length_drop, List.length_take]; rfl)) ?_; (with_reducible refine (continuoref30_bar.calls kj4 _ _ l0 a1_0 t225 t226 t227 t228 _ ?side1 ?side2 A14.out).mono ?_); (case side1 => repeat (first | exact (Kd.C_below HR0.out HB.out) | (with_reducible refine Kd.C_alloc ?_ _) | (with_reducible refine Kd.C_drewN ?_ _) | (with_reducible refine Kd.C_drew ?_))); (case side2 => exact HC0.out); rintro e w24 ⟨rfl, hb⟩; refine ⟨_, rfl, ?_⟩; have n0_ := Aside0.mk (blk_below (g := gb222) (o := .cells #[.int .i64 a1_0, .int .i64 a1_1, .int .i64 a1_2] 37 (0, 0)) (by (with_reducible repeat (first | refine blk_drewN ?_ _ | refine blk_drew ?_ | refine blk_alloc ?_ _)); exact BK222.out) hb); have n1_ := Aside0.mk (below_step (by repeat (first | (with_reducible first | exact HB.out | apply below_alloc | apply pw_below_drewN | apply below_drew1 | refine below_set ?_ GE222.out) | exact HB.out)) hb); clear BK222; clear HB; have BK222 := n0_; have HB := n1_; clear n0_ n1_; (try clear hb); (try clear hb2); (try clear hk); (try clear hi)) | ((with_reducible refine gate_dst (N := 7) rfl ?_); refine box_event ?hg (N := 7) ?hd (cs := #[.int .i64 0, .int .i64 0, .int .i64 0]) (t := 61) ?hr ?_; (case hd => rfl); (case hg => rfl); (case hr => first | (go_simp; done) | (go_simp; rfl)); intro gb229 hg w25 hbox hb; have n0_ := Aside0.mk (blk_below (g := gb222) (o := .cells #[.int .i64 a1_0, .int .i64 a1_1, .int .i64 a1_2] 37 (0, 0)) (by (with_reducible repeat (first | refine blk_drewN ?_ _ | refine blk_drew ?_ | refine blk_alloc ?_ _)); exact BK222.out) hb); have n1_ := Aside0.mk (below_step (by repeat (first | (with_reducible first | exact HB.out | apply below_alloc | apply pw_below_drewN | apply below_drew1 | refine below_set ?_ GE222.out) | exact HB.out)) hb); have n2_ := Aside0.mk (hbox); have n3_ := Aside0.mk ((by rw [hg]; exact (below_size (by repeat (first | (with_reducible first | exact HB.out | apply below_alloc | apply pw_below_drewN | apply below_drew1 | refine below_set ?_ GE222.out) | exact HB.out))) : w.heap.size ≤ gb229)); have n4_ := Aside0.mk ((by rw [hg]; exact (below_size (by repeat (first | (with_reducible first | exact HB.out | apply below_alloc | apply pw_below_drewN | apply below_drew1 | refine below_set ?_ GE222.out) | exact HB.out))) : w.heap.size ≤ gb229)); have n5_ := Aside0.mk ((by rw [hg]; exact Nat.ne_of_lt (blk_lt (g := gb222) (o := .cells #[.int .i64 a1_0, .int .i64 a1_1, .int .i64 a1_2] 37 (0, 0)) (by (with_reducible repeat (first | refine blk_drewN ?_ _ | refine blk_drew ?_ | refine blk_alloc ?_ _)); exact BK222.out)) : gb222 ≠ gb229)); have n6_ := Aside0.mk ((by rw [hg]; exact Nat.ne_of_gt (blk_lt (g := gb222) (o := .cells #[.int .i64 a1_0, .int .i64 a1_1, .int .i64 a1_2] 37 (0, 0)) (by (with_reducible repeat (first | refine blk_drewN ?_ _ | refine blk_drew ?_ | refine blk_alloc ?_ _)); exact BK222.out)) : gb229 ≠ gb222)); clear BK222; clear HB; have BK222 := n0_; have HB := n1_; have BK229 := n2_; have GW229 := n3_; have GE229 := n4_; have NB222_229 := n5_; have NB229_222 := n6_; clear n0_ n1_ n2_ n3_ n4_ n5_ n6_; clear hb hbox hg; have hnb26 := NB229_222.out; have hnc26 := NB222_229.out; have hcz27_0 : w25.cell? ⟨gb229, 0, none⟩ = some (.int .i64 0) := (blk_cell BK229.out 0).trans rfl; have hcz27_1 : w25.cell? ⟨gb229, 1, none⟩ = some (.int .i64 0) := (blk_cell BK229.out 1).trans rfl; have hcz27_2 : w25.cell? ⟨gb229, 2, none⟩ = some (.int .i64 0) := (blk_cell BK229.out 2).trans rfl; have hfz27_0 := blk_frozen BK229.out 0; have hfz27_1 := blk_frozen BK229.out 1; have hfz27_2 := blk_frozen BK229.out 2; have hcz28_0 : w25.cell? ⟨gb222, 0, none⟩ = some (.int .i64 a1_0) := (blk_cell BK222.out 0).trans rfl; have hcz28_1 : w25.cell? ⟨gb222, 1, none⟩ = some (.int .i64 a1_1) := (blk_cell BK222.out 1).trans rfl; have hcz28_2 : w25.cell? ⟨gb222, 2, none⟩ = some (.int .i64 a1_2) := (blk_cell BK222.out 2).trans rfl; have hfz28_0 := blk_frozen BK222.out 0; have hfz28_1 := blk_frozen BK222.out 1; have hfz28_2 := blk_frozen BK222.out 2))
           go_ret2
           exact ⟨by first | rfl | (simp [errW_none, errW_some] <;> rfl) | (simp [*, errW_none, errW_some] <;> rfl), by repeat (first | (with_reducible first | exact HB.out | apply below_alloc | apply pw_below_drewN | apply below_drew1 | refine below_set ?_ GE222.out | refine below_set ?_ GE229.out) | exact HB.out)⟩
         · rw [if_neg c22] at H
           have c22b0 : decide (t228 ≤ a1_2) = false := decide_eq_false c22
           clear c22
           by_cases c29 : (wrap64 ((wrap64 (t225 + (wrap64 (a1_1 * t228)))) + a1_2)) > 1000000000
           · rw [if_pos c29] at H
             have c29b0 : decide (1000000000 < (wrap64 ((wrap64 (t225 + (wrap64 (a1_1 * t228)))) + a1_2))) = true := decide_eq_true c29
             clear c29
             simp only [Option.some.injEq, Prod.mk.injEq] at H
             obtain ⟨rfl, rfl⟩ := H
             have hcz30_0 : wc.cell? ⟨gb222, 0, none⟩ = some (.int .i64 a1_0) := (blk_cell BK222.out 0).trans rfl
             have hcz30_1 : wc.cell? ⟨gb222, 1, none⟩ = some (.int .i64 a1_1) := (blk_cell BK222.out 1).trans rfl
             have hcz30_2 : wc.cell? ⟨gb222, 2, none⟩ = some (.int .i64 a1_2) := (blk_cell BK222.out 2).trans rfl
             have hfz30_0 := blk_frozen BK222.out 0
             have hfz30_1 := blk_frozen BK222.out 1
             have hfz30_2 := blk_frozen BK222.out 2
             go_wp2_with (first | ((with_reducible refine gate_callee (f := 51) rfl ?_); refine goesL_ (some 29) rfl rfl Try.func51 (by kernel_rfl) rfl #[.slice A0 l0.length c0, .int .i64 a1_0] rfl (by (try simp only [List.map_toArray, List.map_cons, List.map_nil]); first | done | rfl | (simp only [List.length_drop, List.length_take]; rfl)) ?_; (with_reducible refine (continuoref30_bar.calls kj4 _ _ l0 a1_0 t225 t226 t227 t228 _ ?side1 ?side2 A14.out).mono ?_); (case side1 => repeat (first | exact (Kd.C_below HR0.out HB.out) | (with_reducible refine Kd.C_alloc ?_ _) | (with_reducible refine Kd.C_drewN ?_ _) | (with_reducible refine Kd.C_drew ?_))); (case side2 => exact HC0.out); rintro e w31 ⟨rfl, hb⟩; refine ⟨_, rfl, ?_⟩; have n0_ := Aside0.mk (blk_below (g := gb222) (o := .cells #[.int .i64 a1_0, .int .i64 a1_1, .int .i64 a1_2] 37 (0, 0)) (by (with_reducible repeat (first | refine blk_drewN ?_ _ | refine blk_drew ?_ | refine blk_alloc ?_ _)); exact BK222.out) hb); have n1_ := Aside0.mk (below_step (by repeat (first | (with_reducible first | exact HB.out | apply below_alloc | apply pw_below_drewN | apply below_drew1 | refine below_set ?_ GE222.out) | exact HB.out)) hb); clear BK222; clear HB; have BK222 := n0_; have HB := n1_; clear n0_ n1_; (try clear hb); (try clear hb2); (try clear hk); (try clear hi)) | ((with_reducible refine gate_dst (N := 7) rfl ?_); refine box_event ?hg (N := 7) ?hd (cs := #[.int .i64 0, .int .i64 0, .int .i64 0]) (t := 61) ?hr ?_; (case hd => rfl); (case hg => rfl); (case hr => first | (go_simp; done) | (go_simp; rfl)); intro gb229 hg w32 hbox hb; have n0_ := Aside0.mk (blk_below (g := gb222) (o := .cells #[.int .i64 a1_0, .int .i64 a1_1, .int .i64 a1_2] 37 (0, 0)) (by (with_reducible repeat (first | refine blk_drewN ?_ _ | refine blk_drew ?_ | refine blk_alloc ?_ _)); exact BK222.out) hb); have n1_ := Aside0.mk (below_step (by repeat (first | (with_reducible first | exact HB.out | apply below_alloc | apply pw_below_drewN | apply below_drew1 | refine below_set ?_ GE222.out) | exact HB.out)) hb); have n2_ := Aside0.mk (hbox); have n3_ := Aside0.mk ((by rw [hg]; exact (below_size (by repeat (first | (with_reducible first | exact HB.out | apply below_alloc | apply pw_below_drewN | apply below_drew1 | refine below_set ?_ GE222.out) | exact HB.out))) : w.heap.size ≤ gb229)); have n4_ := Aside0.mk ((by rw [hg]; exact (below_size (by repeat (first | (with_reducible first | exact HB.out | apply below_alloc | apply pw_below_drewN | apply below_drew1 | refine below_set ?_ GE222.out) | exact HB.out))) : w.heap.size ≤ gb229)); have n5_ := Aside0.mk ((by rw [hg]; exact Nat.ne_of_lt (blk_lt (g := gb222) (o := .cells #[.int .i64 a1_0, .int .i64 a1_1, .int .i64 a1_2] 37 (0, 0)) (by (with_reducible repeat (first | refine blk_drewN ?_ _ | refine blk_drew ?_ | refine blk_alloc ?_ _)); exact BK222.out)) : gb222 ≠ gb229)); have n6_ := Aside0.mk ((by rw [hg]; exact Nat.ne_of_gt (blk_lt (g := gb222) (o := .cells #[.int .i64 a1_0, .int .i64 a1_1, .int .i64 a1_2] 37 (0, 0)) (by (with_reducible repeat (first | refine blk_drewN ?_ _ | refine blk_drew ?_ | refine blk_alloc ?_ _)); exact BK222.out)) : gb229 ≠ gb222)); clear BK222; clear HB; have BK222 := n0_; have HB := n1_; have BK229 := n2_; have GW229 := n3_; have GE229 := n4_; have NB222_229 := n5_; have NB229_222 := n6_; clear n0_ n1_ n2_ n3_ n4_ n5_ n6_; clear hb hbox hg; have hnb33 := NB229_222.out; have hnc33 := NB222_229.out; have hcz34_0 : w32.cell? ⟨gb229, 0, none⟩ = some (.int .i64 0) := (blk_cell BK229.out 0).trans rfl; have hcz34_1 : w32.cell? ⟨gb229, 1, none⟩ = some (.int .i64 0) := (blk_cell BK229.out 1).trans rfl; have hcz34_2 : w32.cell? ⟨gb229, 2, none⟩ = some (.int .i64 0) := (blk_cell BK229.out 2).trans rfl; have hfz34_0 := blk_frozen BK229.out 0; have hfz34_1 := blk_frozen BK229.out 1; have hfz34_2 := blk_frozen BK229.out 2; have hcz35_0 : w32.cell? ⟨gb222, 0, none⟩ = some (.int .i64 a1_0) := (blk_cell BK222.out 0).trans rfl; have hcz35_1 : w32.cell? ⟨gb222, 1, none⟩ = some (.int .i64 a1_1) := (blk_cell BK222.out 1).trans rfl; have hcz35_2 : w32.cell? ⟨gb222, 2, none⟩ = some (.int .i64 a1_2) := (blk_cell BK222.out 2).trans rfl; have hfz35_0 := blk_frozen BK222.out 0; have hfz35_1 := blk_frozen BK222.out 1; have hfz35_2 := blk_frozen BK222.out 2))
             go_ret2
             exact ⟨by first | rfl | (simp [errW_none, errW_some] <;> rfl) | (simp [*, errW_none, errW_some] <;> rfl), by repeat (first | (with_reducible first | exact HB.out | apply below_alloc | apply pw_below_drewN | apply below_drew1 | refine below_set ?_ GE222.out | refine below_set ?_ GE229.out) | exact HB.out)⟩
           · rw [if_neg c29] at H
             have c29b0 : decide (1000000000 < (wrap64 ((wrap64 (t225 + (wrap64 (a1_1 * t228)))) + a1_2))) = false := decide_eq_false c29
             clear c29
             simp only [Option.some.injEq, Prod.mk.injEq] at H
             obtain ⟨rfl, rfl⟩ := H
             have hcz36_0 : wc.cell? ⟨gb222, 0, none⟩ = some (.int .i64 a1_0) := (blk_cell BK222.out 0).trans rfl
             have hcz36_1 : wc.cell? ⟨gb222, 1, none⟩ = some (.int .i64 a1_1) := (blk_cell BK222.out 1).trans rfl
             have hcz36_2 : wc.cell? ⟨gb222, 2, none⟩ = some (.int .i64 a1_2) := (blk_cell BK222.out 2).trans rfl
             have hfz36_0 := blk_frozen BK222.out 0
             have hfz36_1 := blk_frozen BK222.out 1
             have hfz36_2 := blk_frozen BK222.out 2
             go_wp2_with (first | ((with_reducible refine gate_callee (f := 51) rfl ?_); refine goesL_ (some 29) rfl rfl Try.func51 (by kernel_rfl) rfl #[.slice A0 l0.length c0, .int .i64 a1_0] rfl (by (try simp only [List.map_toArray, List.map_cons, List.map_nil]); first | done | rfl | (simp only [List.length_drop, List.length_take]; rfl)) ?_; (with_reducible refine (continuoref30_bar.calls kj4 _ _ l0 a1_0 t225 t226 t227 t228 _ ?side1 ?side2 A14.out).mono ?_); (case side1 => repeat (first | exact (Kd.C_below HR0.out HB.out) | (with_reducible refine Kd.C_alloc ?_ _) | (with_reducible refine Kd.C_drewN ?_ _) | (with_reducible refine Kd.C_drew ?_))); (case side2 => exact HC0.out); rintro e w37 ⟨rfl, hb⟩; refine ⟨_, rfl, ?_⟩; have n0_ := Aside0.mk (blk_below (g := gb222) (o := .cells #[.int .i64 a1_0, .int .i64 a1_1, .int .i64 a1_2] 37 (0, 0)) (by (with_reducible repeat (first | refine blk_drewN ?_ _ | refine blk_drew ?_ | refine blk_alloc ?_ _)); exact BK222.out) hb); have n1_ := Aside0.mk (below_step (by repeat (first | (with_reducible first | exact HB.out | apply below_alloc | apply pw_below_drewN | apply below_drew1 | refine below_set ?_ GE222.out) | exact HB.out)) hb); clear BK222; clear HB; have BK222 := n0_; have HB := n1_; clear n0_ n1_; (try clear hb); (try clear hb2); (try clear hk); (try clear hi)) | ((with_reducible refine gate_dst (N := 7) rfl ?_); refine box_event ?hg (N := 7) ?hd (cs := #[.int .i64 0, .int .i64 0, .int .i64 0]) (t := 61) ?hr ?_; (case hd => rfl); (case hg => rfl); (case hr => first | (go_simp; done) | (go_simp; rfl)); intro gb229 hg w38 hbox hb; have n0_ := Aside0.mk (blk_below (g := gb222) (o := .cells #[.int .i64 a1_0, .int .i64 a1_1, .int .i64 a1_2] 37 (0, 0)) (by (with_reducible repeat (first | refine blk_drewN ?_ _ | refine blk_drew ?_ | refine blk_alloc ?_ _)); exact BK222.out) hb); have n1_ := Aside0.mk (below_step (by repeat (first | (with_reducible first | exact HB.out | apply below_alloc | apply pw_below_drewN | apply below_drew1 | refine below_set ?_ GE222.out) | exact HB.out)) hb); have n2_ := Aside0.mk (hbox); have n3_ := Aside0.mk ((by rw [hg]; exact (below_size (by repeat (first | (with_reducible first | exact HB.out | apply below_alloc | apply pw_below_drewN | apply below_drew1 | refine below_set ?_ GE222.out) | exact HB.out))) : w.heap.size ≤ gb229)); have n4_ := Aside0.mk ((by rw [hg]; exact (below_size (by repeat (first | (with_reducible first | exact HB.out | apply below_alloc | apply pw_below_drewN | apply below_drew1 | refine below_set ?_ GE222.out) | exact HB.out))) : w.heap.size ≤ gb229)); have n5_ := Aside0.mk ((by rw [hg]; exact Nat.ne_of_lt (blk_lt (g := gb222) (o := .cells #[.int .i64 a1_0, .int .i64 a1_1, .int .i64 a1_2] 37 (0, 0)) (by (with_reducible repeat (first | refine blk_drewN ?_ _ | refine blk_drew ?_ | refine blk_alloc ?_ _)); exact BK222.out)) : gb222 ≠ gb229)); have n6_ := Aside0.mk ((by rw [hg]; exact Nat.ne_of_gt (blk_lt (g := gb222) (o := .cells #[.int .i64 a1_0, .int .i64 a1_1, .int .i64 a1_2] 37 (0, 0)) (by (with_reducible repeat (first | refine blk_drewN ?_ _ | refine blk_drew ?_ | refine blk_alloc ?_ _)); exact BK222.out)) : gb229 ≠ gb222)); clear BK222; clear HB; have BK222 := n0_; have HB := n1_; have BK229 := n2_; have GW229 := n3_; have GE229 := n4_; have NB222_229 := n5_; have NB229_222 := n6_; clear n0_ n1_ n2_ n3_ n4_ n5_ n6_; clear hb hbox hg; have hnb39 := NB229_222.out; have hnc39 := NB222_229.out; have hcz40_0 : w38.cell? ⟨gb229, 0, none⟩ = some (.int .i64 0) := (blk_cell BK229.out 0).trans rfl; have hcz40_1 : w38.cell? ⟨gb229, 1, none⟩ = some (.int .i64 0) := (blk_cell BK229.out 1).trans rfl; have hcz40_2 : w38.cell? ⟨gb229, 2, none⟩ = some (.int .i64 0) := (blk_cell BK229.out 2).trans rfl; have hfz40_0 := blk_frozen BK229.out 0; have hfz40_1 := blk_frozen BK229.out 1; have hfz40_2 := blk_frozen BK229.out 2; have hcz41_0 : w38.cell? ⟨gb222, 0, none⟩ = some (.int .i64 a1_0) := (blk_cell BK222.out 0).trans rfl; have hcz41_1 : w38.cell? ⟨gb222, 1, none⟩ = some (.int .i64 a1_1) := (blk_cell BK222.out 1).trans rfl; have hcz41_2 : w38.cell? ⟨gb222, 2, none⟩ = some (.int .i64 a1_2) := (blk_cell BK222.out 2).trans rfl; have hfz41_0 := blk_frozen BK222.out 0; have hfz41_1 := blk_frozen BK222.out 1; have hfz41_2 := blk_frozen BK222.out 2))
             go_ret2
             exact ⟨by first | rfl | (simp [errW_none, errW_some] <;> rfl) | (simp [*, errW_none, errW_some] <;> rfl), by repeat (first | (with_reducible first | exact HB.out | apply below_alloc | apply pw_below_drewN | apply below_drew1 | refine below_set ?_ GE222.out | refine below_set ?_ GE229.out) | exact HB.out)⟩
 · replace c4 := Bool.eq_false_iff.mpr c4
   subst c4
   have H1 : (some (0, 1)) = some (r1, r2) := by rw [if_neg (show ¬ (false = true) by decide)] at H; exact H
   clear H
   have H := H1
   clear H1
   simp only [Option.some.injEq, Prod.mk.injEq] at H
   obtain ⟨rfl, rfl⟩ := H
   go_enter Try.func21, Try.ntmps21
   go_wp2_with (first | ((with_reducible refine gate_dst (N := 3) rfl ?_); refine box_event ?hg (N := 3) ?hd (cs := #[.int .i64 a1_0, .int .i64 a1_1, .int .i64 a1_2]) (t := 37) ?hr ?_; (case hd => rfl); (case hg => rfl); (case hr => first | (go_simp; done) | (go_simp; rfl)); intro gb222 hg w42 hbox hb; have n0_ := Aside0.mk (below_step (by repeat (first | (with_reducible first | exact HB.out | apply below_alloc | apply pw_below_drewN | apply below_drew1) | exact HB.out)) hb); have n1_ := Aside0.mk (hbox); have n2_ := Aside0.mk ((by rw [hg]; exact (below_size (by repeat (first | (with_reducible first | exact HB.out | apply below_alloc | apply pw_below_drewN | apply below_drew1) | exact HB.out))) : w.heap.size ≤ gb222)); have n3_ := Aside0.mk ((by rw [hg]; exact (below_size (by repeat (first | (with_reducible first | exact HB.out | apply below_alloc | apply pw_below_drewN | apply below_drew1) | exact HB.out))) : w.heap.size ≤ gb222)); clear HB; have HB := n0_; have BK222 := n1_; have GW222 := n2_; have GE222 := n3_; clear n0_ n1_ n2_ n3_; clear hb hbox hg) | ((with_reducible refine gate_callee (f := 19) rfl ?_); refine goesL_ (some 9) rfl rfl Try.func19 (by kernel_rfl) rfl #[.slice A0 l0.length c0] rfl (by (try simp only [List.map_toArray, List.map_cons, List.map_nil]); first | done | rfl | (simp only [List.length_drop, List.length_take]; rfl)) ?_; (with_reducible refine (continuoref30_ValidMeter.calls k _ _ l0 false _ ?side1 ?side2 A3.out).mono ?_); (case side1 => repeat (first | exact (Kd.C_below HR0.out HB.out) | (with_reducible refine Kd.C_alloc ?_ _) | (with_reducible refine Kd.C_drewN ?_ _) | (with_reducible refine Kd.C_drew ?_))); (case side2 => exact HC0.out); rintro e w' ⟨rfl, ⟨nd, rfl⟩⟩; refine ⟨_, rfl, ?_⟩))
   go_ret2
   exact ⟨by first | rfl | (simp [errW_none, errW_some] <;> rfl) | (simp [*, errW_none, errW_some] <;> rfl), by repeat (first | (with_reducible first | exact HB.out | apply below_alloc | apply pw_below_drewN | apply below_drew1 | refine below_set ?_ GE222.out) | exact HB.out)⟩
end Go.Proofs.Ytomlfbmfdoallaa.PA

namespace Go.Proofs.Ytomlfbmfdoallaa.PA
open Go.RowKit Go.Proofs.YtomlfbmfdoallaaW.PrintWords Go.Proofs.YtomlfbmfdoallaaW.PrintLast Go.Proofs.YtomlfbmfdoallaaW.PrintMore
attribute [local go_sem] max2_int min2_int max_two min_two max_three min_three max_four min_four
set_option linter.unusedVariables false
set_option linter.unusedSimpArgs false
def tempo_Bar.f (k : Nat) (l0 : List (S61)) (a1 : Int) : Option (Int × Int) := (tempo_At.f k l0 a1 0 0).bind fun bt230 => (some (bt230.1, bt230.2))
theorem tempo_Bar.mono : ∀ a0 a1 k, LeO (tempo_Bar.f k a0 a1) (tempo_Bar.f (k + 1) a0 a1) := by
 intro a0 a1 k
 unfold tempo_Bar.f
 repeat' first
  | (with_reducible exact tempo_At.mono _ _ _ _ _)
  | (with_reducible exact LeO.refl _)
  | (with_reducible exact LeO.none _)
  | (with_reducible refine LeO.ite ?_ ?_)
  | (with_reducible refine LeO.bind ?_ (fun _ => ?_))
  | exact tempo_At.mono _ _ _ _ _
  | exact LeO.none _
  | refine LeO.ite ?_ ?_
  | refine LeO.bind ?_ (fun _ => ?_)
set_option maxHeartbeats 8000000 in
set_option maxRecDepth 100000 in
theorem tempo_Bar.calls (k : Nat) (A0 : Option Addr) (c0 : Nat) (l0 : List (S61)) (a1 : Int) (r1 : Int) (r2 : Int) (w : World) (hr0 : Kd.C k61 w A0 l0.length l0) (hc0 : l0.length ≤ c0) (h : tempo_Bar.f k l0 a1 = some (r1, r2)) :
 Calls Try.prog 22 #[.slice A0 l0.length c0, .int .i64 a1] w fun e w' => e = .returned (.tuple #[.int .i64 r1, .int .i64 r2]) ∧ Below w.heap.size w w' := by
 have hu37 := Try.underlying37
 have HR0 := Aside0.mk hr0
 have HC0 := Aside0.mk hc0
 clear hr0 hc0
 have HB := Aside0.mk (Below.refl w.heap.size w)
 have H : ((tempo_At.f k l0 a1 0 0).bind fun bt230 => (some (bt230.1, bt230.2))) = some (r1, r2) := h
 clear h
 replace H := Option.bind_eq_some_iff.mp H
 obtain ⟨⟨t230, t231⟩, A30, H⟩ := H
 replace H : (some (t230, t231)) = some (r1, r2) := H
 have A3 := Aside0.mk A30
 clear A30
 simp only [Option.some.injEq, Prod.mk.injEq] at H
 obtain ⟨rfl, rfl⟩ := H
 go_enter Try.func22, Try.ntmps22
 go_wp2_with (first | ((with_reducible refine gate_callee (f := 20) rfl ?_); refine goesL_ (some 9) rfl rfl Try.func20 (by kernel_rfl) rfl #[.slice A0 l0.length c0, .agg #[.int .i64 a1, .int .i64 0, .int .i64 0]] rfl (by (try simp only [List.map_toArray, List.map_cons, List.map_nil]); first | done | rfl | (simp only [List.length_drop, List.length_take]; rfl)) ?_; (with_reducible refine (tempo_At.calls k _ _ l0 a1 0 0 t230 t231 _ ?side1 ?side2 A3.out).mono ?_); (case side1 => repeat (first | exact HR0.out | (with_reducible refine Kd.C_alloc ?_ _) | (with_reducible refine Kd.C_drewN ?_ _) | (with_reducible refine Kd.C_drew ?_))); (case side2 => exact HC0.out); rintro e w4 ⟨rfl, hb⟩; refine ⟨_, rfl, ?_⟩; have n0_ := Aside0.mk (below_step (by repeat (first | (with_reducible first | exact HB.out | apply below_alloc | apply pw_below_drewN | apply below_drew1) | exact HB.out)) hb); clear HB; have HB := n0_; clear n0_; (try clear hb); (try clear hb2); (try clear hk); (try clear hi)))
 go_ret2
 exact ⟨by first | rfl | (simp [errW_none, errW_some] <;> rfl) | (simp [*, errW_none, errW_some] <;> rfl), by repeat (first | (with_reducible first | exact HB.out | apply below_alloc | apply pw_below_drewN | apply below_drew1) | exact HB.out)⟩
end Go.Proofs.Ytomlfbmfdoallaa.PA

namespace Go.Proofs.Ytomlfbmfdoallaa.PA
open Go.RowKit Go.Proofs.YtomlfbmfdoallaaW.PrintWords Go.Proofs.YtomlfbmfdoallaaW.PrintLast Go.Proofs.YtomlfbmfdoallaaW.PrintMore
attribute [local go_sem] max2_int min2_int max_two min_two max_three min_three max_four min_four
set_option linter.unusedVariables false
set_option linter.unusedSimpArgs false
def continuoref30_Bar.f (k : Nat) (l0 : List (S61)) (a1 : Int) : Option (Int × Int) := (continuoref30_At.f k l0 a1 0 0).bind fun bt232 => (some (bt232.1, bt232.2))
theorem continuoref30_Bar.mono : ∀ a0 a1 k, LeO (continuoref30_Bar.f k a0 a1) (continuoref30_Bar.f (k + 1) a0 a1) := by
 intro a0 a1 k
 unfold continuoref30_Bar.f
 repeat' first
  | (with_reducible exact continuoref30_At.mono _ _ _ _ _)
  | (with_reducible exact LeO.refl _)
  | (with_reducible exact LeO.none _)
  | (with_reducible refine LeO.ite ?_ ?_)
  | (with_reducible refine LeO.bind ?_ (fun _ => ?_))
  | exact continuoref30_At.mono _ _ _ _ _
  | exact LeO.none _
  | refine LeO.ite ?_ ?_
  | refine LeO.bind ?_ (fun _ => ?_)
set_option maxHeartbeats 8000000 in
set_option maxRecDepth 100000 in
theorem continuoref30_Bar.calls (k : Nat) (A0 : Option Addr) (c0 : Nat) (l0 : List (S61)) (a1 : Int) (r1 : Int) (r2 : Int) (w : World) (hr0 : Kd.C k61 w A0 l0.length l0) (hc0 : l0.length ≤ c0) (h : continuoref30_Bar.f k l0 a1 = some (r1, r2)) :
 Calls Try.prog 23 #[.slice A0 l0.length c0, .int .i64 a1] w fun e w' => e = .returned (.tuple #[.int .i64 r1, .int .i64 r2]) ∧ Below w.heap.size w w' := by
 have hu37 := Try.underlying37
 have HR0 := Aside0.mk hr0
 have HC0 := Aside0.mk hc0
 clear hr0 hc0
 have HB := Aside0.mk (Below.refl w.heap.size w)
 have H : ((continuoref30_At.f k l0 a1 0 0).bind fun bt232 => (some (bt232.1, bt232.2))) = some (r1, r2) := h
 clear h
 replace H := Option.bind_eq_some_iff.mp H
 obtain ⟨⟨t232, t233⟩, A30, H⟩ := H
 replace H : (some (t232, t233)) = some (r1, r2) := H
 have A3 := Aside0.mk A30
 clear A30
 simp only [Option.some.injEq, Prod.mk.injEq] at H
 obtain ⟨rfl, rfl⟩ := H
 go_enter Try.func23, Try.ntmps23
 go_wp2_with (first | ((with_reducible refine gate_callee (f := 21) rfl ?_); refine goesL_ (some 9) rfl rfl Try.func21 (by kernel_rfl) rfl #[.slice A0 l0.length c0, .agg #[.int .i64 a1, .int .i64 0, .int .i64 0]] rfl (by (try simp only [List.map_toArray, List.map_cons, List.map_nil]); first | done | rfl | (simp only [List.length_drop, List.length_take]; rfl)) ?_; (with_reducible refine (continuoref30_At.calls k _ _ l0 a1 0 0 t232 t233 _ ?side1 ?side2 A3.out).mono ?_); (case side1 => repeat (first | exact HR0.out | (with_reducible refine Kd.C_alloc ?_ _) | (with_reducible refine Kd.C_drewN ?_ _) | (with_reducible refine Kd.C_drew ?_))); (case side2 => exact HC0.out); rintro e w4 ⟨rfl, hb⟩; refine ⟨_, rfl, ?_⟩; have n0_ := Aside0.mk (below_step (by repeat (first | (with_reducible first | exact HB.out | apply below_alloc | apply pw_below_drewN | apply below_drew1) | exact HB.out)) hb); clear HB; have HB := n0_; clear n0_; (try clear hb); (try clear hb2); (try clear hk); (try clear hi)))
 go_ret2
 exact ⟨by first | rfl | (simp [errW_none, errW_some] <;> rfl) | (simp [*, errW_none, errW_some] <;> rfl), by repeat (first | (with_reducible first | exact HB.out | apply below_alloc | apply pw_below_drewN | apply below_drew1) | exact HB.out)⟩
end Go.Proofs.Ytomlfbmfdoallaa.PA

namespace Go.Proofs.Ytomlfbmfdoallaa.PA
open Go.RowKit Go.Proofs.YtomlfbmfdoallaaW.PrintWords Go.Proofs.YtomlfbmfdoallaaW.PrintLast Go.Proofs.YtomlfbmfdoallaaW.PrintMore
attribute [local go_sem] max2_int min2_int max_two min_two max_three min_three max_four min_four
set_option linter.unusedVariables false
set_option linter.unusedSimpArgs false
attribute [local go_sem high] eqA37
mutual
def continuolaw30_TempoPlaces.j0 : Nat → List (S61) → Int → Int → Int → Bool → Int → Int → Int → Int → Int → Int → Option (Bool)
 | 0, _, _, _, _, _, _, _, _, _, _, _ => none
 | k + 1, x0, x1, x2, x10, x49, x235000, x235001, x235002, x242000, x242001, x242002 => if x49 = true then (some false) else (if x10 = 0 then ((tempo_At.f k x0 x242000 x242001 x242002).bind fun bt249 => (if bt249.1 = x1 then (if bt249.2 = 0 then (continuolaw30_TempoPlaces.j1 k x0 x2 x235000 x235001 x235002) else (some false)) else (some false))) else (continuolaw30_TempoPlaces.j1 k x0 x2 x235000 x235001 x235002))
def continuolaw30_TempoPlaces.j1 : Nat → List (S61) → Int → Int → Int → Int → Option (Bool)
 | 0, _, _, _, _, _ => none
 | k + 1, x0, x2, x235000, x235001, x235002 => (tempo_At.f k x0 x235000 x235001 x235002).bind fun bt251 => ((continuoref30_At.f k x0 x235000 x235001 x235002).bind fun bt253 => (if bt251.1 = bt253.1 then (continuolaw30_TempoPlaces.j2 k x0 x2 bt251.2 bt251.1 (bt251.2 != bt253.2) x235000 x235001 x235002) else (continuolaw30_TempoPlaces.j2 k x0 x2 bt251.2 bt251.1 true x235000 x235001 x235002)))
def continuolaw30_TempoPlaces.j2 : Nat → List (S61) → Int → Int → Int → Bool → Int → Int → Int → Option (Bool)
 | 0, _, _, _, _, _, _, _, _ => none
 | k + 1, x0, x2, x10, x15, x84, x235000, x235001, x235002 => if x84 = true then (some false) else (if x10 = 0 then ((tempo_Place.f k x0 x15).bind fun bt255 => (if (!(bt255.1 == x235000) || (!(bt255.2.1 == x235001) || (!(bt255.2.2.1 == x235002)))) = true then (continuolaw30_TempoPlaces.j3 k x0 x2 true) else (continuolaw30_TempoPlaces.j3 k x0 x2 (bt255.2.2.2 != 0)))) else ((tempo_Bar.f k x0 x2).bind fun bt264 => ((continuoref30_Bar.f k x0 x2).bind fun bt266 => (if bt264.1 = bt266.1 then (some (bt264.2 == bt266.2)) else (some false)))))
def continuolaw30_TempoPlaces.j3 : Nat → List (S61) → Int → Bool → Option (Bool)
 | 0, _, _, _ => none
 | k + 1, x0, x2, x99 => if x99 = true then (some false) else ((tempo_Bar.f k x0 x2).bind fun bt260 => ((continuoref30_Bar.f k x0 x2).bind fun bt262 => (if bt260.1 = bt262.1 then (some (bt260.2 == bt262.2)) else (some false))))
end
def continuolaw30_TempoPlaces.f (k : Nat) (l0 : List (S61)) (a1 : Int) (a2 : Int) (a3_0 : Int) (a3_1 : Int) (a3_2 : Int) : Option (Bool) := (continuolaw30_awake.f k).bind fun t235 => (if t235 = true then ((continuolaw30_long.f ([] : List (S27)) l0 ([] : List (S56))).bind fun t236 => (if t236 = true then (some true) else ((tempo_Place.f k l0 a1).bind fun bt237 => ((continuoref30_Place.f k l0 a1).bind fun bt242 => (if (!(bt237.1 == bt242.1) || (!(bt237.2.1 == bt242.2.1) || (!(bt237.2.2.1 == bt242.2.2.1)))) = true then (continuolaw30_TempoPlaces.j0 k l0 a1 a2 bt237.2.2.2 true a3_0 a3_1 a3_2 bt237.1 bt237.2.1 bt237.2.2.1) else (if bt237.2.2.2 = bt242.2.2.2 then ((tempo_ValidMeter.f k l0).bind fun t247 => ((continuoref30_ValidMeter.f k l0).bind fun t248 => (continuolaw30_TempoPlaces.j0 k l0 a1 a2 bt237.2.2.2 (t247 != t248) a3_0 a3_1 a3_2 bt237.1 bt237.2.1 bt237.2.2.1))) else (continuolaw30_TempoPlaces.j0 k l0 a1 a2 bt237.2.2.2 true a3_0 a3_1 a3_2 bt237.1 bt237.2.1 bt237.2.2.1))))))) else (some false))
theorem continuolaw30_TempoPlaces.mono_l : ∀ k, (∀ y0 y1 y2 y3 y4 y5 y6 y7 y8 y9 y10, LeO (continuolaw30_TempoPlaces.j0 k y0 y1 y2 y3 y4 y5 y6 y7 y8 y9 y10) (continuolaw30_TempoPlaces.j0 (k + 1) y0 y1 y2 y3 y4 y5 y6 y7 y8 y9 y10)) ∧ (∀ y0 y1 y2 y3 y4, LeO (continuolaw30_TempoPlaces.j1 k y0 y1 y2 y3 y4) (continuolaw30_TempoPlaces.j1 (k + 1) y0 y1 y2 y3 y4)) ∧ (∀ y0 y1 y2 y3 y4 y5 y6 y7, LeO (continuolaw30_TempoPlaces.j2 k y0 y1 y2 y3 y4 y5 y6 y7) (continuolaw30_TempoPlaces.j2 (k + 1) y0 y1 y2 y3 y4 y5 y6 y7)) ∧ (∀ y0 y1 y2, LeO (continuolaw30_TempoPlaces.j3 k y0 y1 y2) (continuolaw30_TempoPlaces.j3 (k + 1) y0 y1 y2))
 | 0 => ⟨fun _ _ _ _ _ _ _ _ _ _ _ r h => by simp [continuolaw30_TempoPlaces.j0] at h, fun _ _ _ _ _ r h => by simp [continuolaw30_TempoPlaces.j1] at h, fun _ _ _ _ _ _ _ _ r h => by simp [continuolaw30_TempoPlaces.j2] at h, fun _ _ _ r h => by simp [continuolaw30_TempoPlaces.j3] at h⟩
 | k + 1 => by
  obtain ⟨ih0, ih1, ih2, ih3⟩ := continuolaw30_TempoPlaces.mono_l k
  refine ⟨?_, ?_, ?_, ?_⟩
  · intro y0 y1 y2 y3 y4 y5 y6 y7 y8 y9 y10
    unfold continuolaw30_TempoPlaces.j0
    repeat' first
    | (with_reducible exact ih0 _ _ _ _ _ _ _ _ _ _ _)
    | (with_reducible exact ih1 _ _ _ _ _)
    | (with_reducible exact ih2 _ _ _ _ _ _ _ _)
    | (with_reducible exact ih3 _ _ _)
    | (with_reducible exact continuolaw30_awake.mono _)
    | (with_reducible exact continuoref30_At.mono _ _ _ _ _)
    | (with_reducible exact continuoref30_Bar.mono _ _ _)
    | (with_reducible exact continuoref30_Place.mono _ _ _)
    | (with_reducible exact continuoref30_ValidMeter.mono _ _)
    | (with_reducible exact tempo_At.mono _ _ _ _ _)
    | (with_reducible exact tempo_Bar.mono _ _ _)
    | (with_reducible exact tempo_Place.mono _ _ _)
    | (with_reducible exact tempo_ValidMeter.mono _ _)
    | (with_reducible exact LeO.refl _)
    | (with_reducible exact LeO.none _)
    | (with_reducible refine LeO.ite ?_ ?_)
    | (with_reducible refine LeO.bind ?_ (fun _ => ?_))
    | exact ih0 _ _ _ _ _ _ _ _ _ _ _
    | exact ih1 _ _ _ _ _
    | exact ih2 _ _ _ _ _ _ _ _
    | exact ih3 _ _ _
    | exact continuolaw30_awake.mono _
    | exact continuoref30_At.mono _ _ _ _ _
    | exact continuoref30_Bar.mono _ _ _
    | exact continuoref30_Place.mono _ _ _
    | exact continuoref30_ValidMeter.mono _ _
    | exact tempo_At.mono _ _ _ _ _
    | exact tempo_Bar.mono _ _ _
    | exact tempo_Place.mono _ _ _
    | exact tempo_ValidMeter.mono _ _
    | exact LeO.none _
    | refine LeO.ite ?_ ?_
    | refine LeO.bind ?_ (fun _ => ?_)
  · intro y0 y1 y2 y3 y4
    unfold continuolaw30_TempoPlaces.j1
    repeat' first
    | (with_reducible exact ih0 _ _ _ _ _ _ _ _ _ _ _)
    | (with_reducible exact ih1 _ _ _ _ _)
    | (with_reducible exact ih2 _ _ _ _ _ _ _ _)
    | (with_reducible exact ih3 _ _ _)
    | (with_reducible exact continuolaw30_awake.mono _)
    | (with_reducible exact continuoref30_At.mono _ _ _ _ _)
    | (with_reducible exact continuoref30_Bar.mono _ _ _)
    | (with_reducible exact continuoref30_Place.mono _ _ _)
    | (with_reducible exact continuoref30_ValidMeter.mono _ _)
    | (with_reducible exact tempo_At.mono _ _ _ _ _)
    | (with_reducible exact tempo_Bar.mono _ _ _)
    | (with_reducible exact tempo_Place.mono _ _ _)
    | (with_reducible exact tempo_ValidMeter.mono _ _)
    | (with_reducible exact LeO.refl _)
    | (with_reducible exact LeO.none _)
    | (with_reducible refine LeO.ite ?_ ?_)
    | (with_reducible refine LeO.bind ?_ (fun _ => ?_))
    | exact ih0 _ _ _ _ _ _ _ _ _ _ _
    | exact ih1 _ _ _ _ _
    | exact ih2 _ _ _ _ _ _ _ _
    | exact ih3 _ _ _
    | exact continuolaw30_awake.mono _
    | exact continuoref30_At.mono _ _ _ _ _
    | exact continuoref30_Bar.mono _ _ _
    | exact continuoref30_Place.mono _ _ _
    | exact continuoref30_ValidMeter.mono _ _
    | exact tempo_At.mono _ _ _ _ _
    | exact tempo_Bar.mono _ _ _
    | exact tempo_Place.mono _ _ _
    | exact tempo_ValidMeter.mono _ _
    | exact LeO.none _
    | refine LeO.ite ?_ ?_
    | refine LeO.bind ?_ (fun _ => ?_)
  · intro y0 y1 y2 y3 y4 y5 y6 y7
    unfold continuolaw30_TempoPlaces.j2
    repeat' first
    | (with_reducible exact ih0 _ _ _ _ _ _ _ _ _ _ _)
    | (with_reducible exact ih1 _ _ _ _ _)
    | (with_reducible exact ih2 _ _ _ _ _ _ _ _)
    | (with_reducible exact ih3 _ _ _)
    | (with_reducible exact continuolaw30_awake.mono _)
    | (with_reducible exact continuoref30_At.mono _ _ _ _ _)
    | (with_reducible exact continuoref30_Bar.mono _ _ _)
    | (with_reducible exact continuoref30_Place.mono _ _ _)
    | (with_reducible exact continuoref30_ValidMeter.mono _ _)
    | (with_reducible exact tempo_At.mono _ _ _ _ _)
    | (with_reducible exact tempo_Bar.mono _ _ _)
    | (with_reducible exact tempo_Place.mono _ _ _)
    | (with_reducible exact tempo_ValidMeter.mono _ _)
    | (with_reducible exact LeO.refl _)
    | (with_reducible exact LeO.none _)
    | (with_reducible refine LeO.ite ?_ ?_)
    | (with_reducible refine LeO.bind ?_ (fun _ => ?_))
    | exact ih0 _ _ _ _ _ _ _ _ _ _ _
    | exact ih1 _ _ _ _ _
    | exact ih2 _ _ _ _ _ _ _ _
    | exact ih3 _ _ _
    | exact continuolaw30_awake.mono _
    | exact continuoref30_At.mono _ _ _ _ _
    | exact continuoref30_Bar.mono _ _ _
    | exact continuoref30_Place.mono _ _ _
    | exact continuoref30_ValidMeter.mono _ _
    | exact tempo_At.mono _ _ _ _ _
    | exact tempo_Bar.mono _ _ _
    | exact tempo_Place.mono _ _ _
    | exact tempo_ValidMeter.mono _ _
    | exact LeO.none _
    | refine LeO.ite ?_ ?_
    | refine LeO.bind ?_ (fun _ => ?_)
  · intro y0 y1 y2
    unfold continuolaw30_TempoPlaces.j3
    repeat' first
    | (with_reducible exact ih0 _ _ _ _ _ _ _ _ _ _ _)
    | (with_reducible exact ih1 _ _ _ _ _)
    | (with_reducible exact ih2 _ _ _ _ _ _ _ _)
    | (with_reducible exact ih3 _ _ _)
    | (with_reducible exact continuolaw30_awake.mono _)
    | (with_reducible exact continuoref30_At.mono _ _ _ _ _)
    | (with_reducible exact continuoref30_Bar.mono _ _ _)
    | (with_reducible exact continuoref30_Place.mono _ _ _)
    | (with_reducible exact continuoref30_ValidMeter.mono _ _)
    | (with_reducible exact tempo_At.mono _ _ _ _ _)
    | (with_reducible exact tempo_Bar.mono _ _ _)
    | (with_reducible exact tempo_Place.mono _ _ _)
    | (with_reducible exact tempo_ValidMeter.mono _ _)
    | (with_reducible exact LeO.refl _)
    | (with_reducible exact LeO.none _)
    | (with_reducible refine LeO.ite ?_ ?_)
    | (with_reducible refine LeO.bind ?_ (fun _ => ?_))
    | exact ih0 _ _ _ _ _ _ _ _ _ _ _
    | exact ih1 _ _ _ _ _
    | exact ih2 _ _ _ _ _ _ _ _
    | exact ih3 _ _ _
    | exact continuolaw30_awake.mono _
    | exact continuoref30_At.mono _ _ _ _ _
    | exact continuoref30_Bar.mono _ _ _
    | exact continuoref30_Place.mono _ _ _
    | exact continuoref30_ValidMeter.mono _ _
    | exact tempo_At.mono _ _ _ _ _
    | exact tempo_Bar.mono _ _ _
    | exact tempo_Place.mono _ _ _
    | exact tempo_ValidMeter.mono _ _
    | exact LeO.none _
    | refine LeO.ite ?_ ?_
    | refine LeO.bind ?_ (fun _ => ?_)
theorem continuolaw30_TempoPlaces.mono : ∀ a0 a1 a2 a3 a4 a5 k, LeO (continuolaw30_TempoPlaces.f k a0 a1 a2 a3 a4 a5) (continuolaw30_TempoPlaces.f (k + 1) a0 a1 a2 a3 a4 a5) := by
 intro a0 a1 a2 a3 a4 a5 k
 obtain ⟨ih0, ih1, ih2, ih3⟩ := continuolaw30_TempoPlaces.mono_l k
 unfold continuolaw30_TempoPlaces.f
 repeat' first
  | (with_reducible exact ih0 _ _ _ _ _ _ _ _ _ _ _)
  | (with_reducible exact ih1 _ _ _ _ _)
  | (with_reducible exact ih2 _ _ _ _ _ _ _ _)
  | (with_reducible exact ih3 _ _ _)
  | (with_reducible exact continuolaw30_awake.mono _)
  | (with_reducible exact continuoref30_At.mono _ _ _ _ _)
  | (with_reducible exact continuoref30_Bar.mono _ _ _)
  | (with_reducible exact continuoref30_Place.mono _ _ _)
  | (with_reducible exact continuoref30_ValidMeter.mono _ _)
  | (with_reducible exact tempo_At.mono _ _ _ _ _)
  | (with_reducible exact tempo_Bar.mono _ _ _)
  | (with_reducible exact tempo_Place.mono _ _ _)
  | (with_reducible exact tempo_ValidMeter.mono _ _)
  | (with_reducible exact LeO.refl _)
  | (with_reducible exact LeO.none _)
  | (with_reducible refine LeO.ite ?_ ?_)
  | (with_reducible refine LeO.bind ?_ (fun _ => ?_))
  | exact ih0 _ _ _ _ _ _ _ _ _ _ _
  | exact ih1 _ _ _ _ _
  | exact ih2 _ _ _ _ _ _ _ _
  | exact ih3 _ _ _
  | exact continuolaw30_awake.mono _
  | exact continuoref30_At.mono _ _ _ _ _
  | exact continuoref30_Bar.mono _ _ _
  | exact continuoref30_Place.mono _ _ _
  | exact continuoref30_ValidMeter.mono _ _
  | exact tempo_At.mono _ _ _ _ _
  | exact tempo_Bar.mono _ _ _
  | exact tempo_Place.mono _ _ _
  | exact tempo_ValidMeter.mono _ _
  | exact LeO.none _
  | refine LeO.ite ?_ ?_
  | refine LeO.bind ?_ (fun _ => ?_)
set_option maxHeartbeats 8000000 in
set_option maxRecDepth 100000 in
theorem continuolaw30_TempoPlaces.calls (k : Nat) (A0 : Option Addr) (c0 : Nat) (l0 : List (S61)) (a1 : Int) (a2 : Int) (a3_0 : Int) (a3_1 : Int) (a3_2 : Int) (r : Bool) (w : World) (hr0 : Kd.C k61 w A0 l0.length l0) (hc0 : l0.length ≤ c0) (h : continuolaw30_TempoPlaces.f k l0 a1 a2 a3_0 a3_1 a3_2 = some r) :
 Calls Try.prog 5 #[.slice A0 l0.length c0, .int .i64 a1, .int .i64 a2, .agg #[.int .i64 a3_0, .int .i64 a3_1, .int .i64 a3_2]] w fun e w' => e = .returned (.bool r) ∧ Below w.heap.size w w' := by
 have hu37 := Try.underlying37
 have HR0 := Aside0.mk hr0
 have HC0 := Aside0.mk hc0
 clear hr0 hc0
 have HB := Aside0.mk (Below.refl w.heap.size w)
 have H : ((continuolaw30_awake.f k).bind fun t235 => (if t235 = true then ((continuolaw30_long.f ([] : List (S27)) l0 ([] : List (S56))).bind fun t236 => (if t236 = true then (some true) else ((tempo_Place.f k l0 a1).bind fun bt237 => ((continuoref30_Place.f k l0 a1).bind fun bt242 => (if (!(bt237.1 == bt242.1) || (!(bt237.2.1 == bt242.2.1) || (!(bt237.2.2.1 == bt242.2.2.1)))) = true then (continuolaw30_TempoPlaces.j0 k l0 a1 a2 bt237.2.2.2 true a3_0 a3_1 a3_2 bt237.1 bt237.2.1 bt237.2.2.1) else (if bt237.2.2.2 = bt242.2.2.2 then ((tempo_ValidMeter.f k l0).bind fun t247 => ((continuoref30_ValidMeter.f k l0).bind fun t248 => (continuolaw30_TempoPlaces.j0 k l0 a1 a2 bt237.2.2.2 (t247 != t248) a3_0 a3_1 a3_2 bt237.1 bt237.2.1 bt237.2.2.1))) else (continuolaw30_TempoPlaces.j0 k l0 a1 a2 bt237.2.2.2 true a3_0 a3_1 a3_2 bt237.1 bt237.2.1 bt237.2.2.1))))))) else (some false))) = some r := h
 clear h
 replace H := Option.bind_eq_some_iff.mp H
 obtain ⟨t235, A50, H⟩ := H
 replace H : (if t235 = true then ((continuolaw30_long.f ([] : List (S27)) l0 ([] : List (S56))).bind fun t236 => (if t236 = true then (some true) else ((tempo_Place.f k l0 a1).bind fun bt237 => ((continuoref30_Place.f k l0 a1).bind fun bt242 => (if (!(bt237.1 == bt242.1) || (!(bt237.2.1 == bt242.2.1) || (!(bt237.2.2.1 == bt242.2.2.1)))) = true then (continuolaw30_TempoPlaces.j0 k l0 a1 a2 bt237.2.2.2 true a3_0 a3_1 a3_2 bt237.1 bt237.2.1 bt237.2.2.1) else (if bt237.2.2.2 = bt242.2.2.2 then ((tempo_ValidMeter.f k l0).bind fun t247 => ((continuoref30_ValidMeter.f k l0).bind fun t248 => (continuolaw30_TempoPlaces.j0 k l0 a1 a2 bt237.2.2.2 (t247 != t248) a3_0 a3_1 a3_2 bt237.1 bt237.2.1 bt237.2.2.1))) else (continuolaw30_TempoPlaces.j0 k l0 a1 a2 bt237.2.2.2 true a3_0 a3_1 a3_2 bt237.1 bt237.2.1 bt237.2.2.1))))))) else (some false)) = some r := H
 have A5 := Aside0.mk A50
 clear A50
 by_cases c6 : t235 = true
 · subst c6
   have H1 : ((continuolaw30_long.f ([] : List (S27)) l0 ([] : List (S56))).bind fun t236 => (if t236 = true then (some true) else ((tempo_Place.f k l0 a1).bind fun bt237 => ((continuoref30_Place.f k l0 a1).bind fun bt242 => (if (!(bt237.1 == bt242.1) || (!(bt237.2.1 == bt242.2.1) || (!(bt237.2.2.1 == bt242.2.2.1)))) = true then (continuolaw30_TempoPlaces.j0 k l0 a1 a2 bt237.2.2.2 true a3_0 a3_1 a3_2 bt237.1 bt237.2.1 bt237.2.2.1) else (if bt237.2.2.2 = bt242.2.2.2 then ((tempo_ValidMeter.f k l0).bind fun t247 => ((continuoref30_ValidMeter.f k l0).bind fun t248 => (continuolaw30_TempoPlaces.j0 k l0 a1 a2 bt237.2.2.2 (t247 != t248) a3_0 a3_1 a3_2 bt237.1 bt237.2.1 bt237.2.2.1))) else (continuolaw30_TempoPlaces.j0 k l0 a1 a2 bt237.2.2.2 true a3_0 a3_1 a3_2 bt237.1 bt237.2.1 bt237.2.2.1))))))) = some r := by rw [if_pos rfl] at H; exact H
   clear H
   have H := H1
   clear H1
   replace H := Option.bind_eq_some_iff.mp H
   obtain ⟨t236, A70, H⟩ := H
   replace H : (if t236 = true then (some true) else ((tempo_Place.f k l0 a1).bind fun bt237 => ((continuoref30_Place.f k l0 a1).bind fun bt242 => (if (!(bt237.1 == bt242.1) || (!(bt237.2.1 == bt242.2.1) || (!(bt237.2.2.1 == bt242.2.2.1)))) = true then (continuolaw30_TempoPlaces.j0 k l0 a1 a2 bt237.2.2.2 true a3_0 a3_1 a3_2 bt237.1 bt237.2.1 bt237.2.2.1) else (if bt237.2.2.2 = bt242.2.2.2 then ((tempo_ValidMeter.f k l0).bind fun t247 => ((continuoref30_ValidMeter.f k l0).bind fun t248 => (continuolaw30_TempoPlaces.j0 k l0 a1 a2 bt237.2.2.2 (t247 != t248) a3_0 a3_1 a3_2 bt237.1 bt237.2.1 bt237.2.2.1))) else (continuolaw30_TempoPlaces.j0 k l0 a1 a2 bt237.2.2.2 true a3_0 a3_1 a3_2 bt237.1 bt237.2.1 bt237.2.2.1)))))) = some r := H
   have A7 := Aside0.mk A70
   clear A70
   by_cases c8 : t236 = true
   · subst c8
     have H1 : (some true) = some r := by rw [if_pos rfl] at H; exact H
     clear H
     have H := H1
     clear H1
     obtain rfl := Option.some.inj H
     go_enter Try.func5, Try.ntmps5
     go_wp2_with (first | ((with_reducible refine gate_dst (N := 7) rfl ?_); refine box_event ?hg (N := 7) ?hd (cs := #[.int .i64 a3_0, .int .i64 a3_1, .int .i64 a3_2]) (t := 37) ?hr ?_; (case hd => rfl); (case hg => rfl); (case hr => first | (go_simp; done) | (go_simp; rfl)); intro gb234 hg w9 hbox hb; have n0_ := Aside0.mk (below_step (by repeat (first | (with_reducible first | exact HB.out | apply below_alloc | apply pw_below_drewN | apply below_drew1) | exact HB.out)) hb); have n1_ := Aside0.mk (hbox); have n2_ := Aside0.mk ((by rw [hg]; exact (below_size (by repeat (first | (with_reducible first | exact HB.out | apply below_alloc | apply pw_below_drewN | apply below_drew1) | exact HB.out))) : w.heap.size ≤ gb234)); have n3_ := Aside0.mk ((by rw [hg]; exact (below_size (by repeat (first | (with_reducible first | exact HB.out | apply below_alloc | apply pw_below_drewN | apply below_drew1) | exact HB.out))) : w.heap.size ≤ gb234)); clear HB; have HB := n0_; have BK234 := n1_; have GW234 := n2_; have GE234 := n3_; clear n0_ n1_ n2_ n3_; clear hb hbox hg) | ((with_reducible refine gate_callee (f := 9) rfl ?_); refine goesL_ (some 19) rfl rfl Try.func9 (by kernel_rfl) rfl #[] rfl (by (try simp only [List.map_toArray, List.map_cons, List.map_nil]); first | done | rfl | (simp only [List.length_drop, List.length_take]; rfl)) ?_; (with_reducible refine (continuolaw30_awake.calls k  true _ A5.out).mono ?_); rintro e w10 ⟨rfl, hb⟩; refine ⟨_, rfl, ?_⟩; have n0_ := Aside0.mk (blk_below (g := gb234) (o := .cells #[.int .i64 a3_0, .int .i64 a3_1, .int .i64 a3_2] 37 (0, 0)) (by (with_reducible repeat (first | refine blk_drewN ?_ _ | refine blk_drew ?_ | refine blk_alloc ?_ _)); exact BK234.out) hb); have n1_ := Aside0.mk (below_step (by repeat (first | (with_reducible first | exact HB.out | apply below_alloc | apply pw_below_drewN | apply below_drew1 | refine below_set ?_ GE234.out) | exact HB.out)) hb); clear BK234; clear HB; have BK234 := n0_; have HB := n1_; clear n0_ n1_; (try clear hb); (try clear hb2); (try clear hk); (try clear hi)) | ((with_reducible refine gate_callee (f := 10) rfl ?_); refine goesL_ (some 22) rfl rfl Try.func10 (by kernel_rfl) rfl #[.slice none 0 0, .slice A0 l0.length c0, .slice none 0 0] rfl (by (try simp only [List.map_toArray, List.map_cons, List.map_nil]); first | done | rfl | (simp only [List.length_drop, List.length_take]; rfl)) ?_; (refine (continuolaw30_long.calls _ _ ([] : List (S27)) _ _ l0 _ _ ([] : List (S56)) true _ ?side1 ?side2 ?side3 ?side4 ?side5 ?side6 A7.out).mono ?_); (case side1 => exact Kd.C_nil _ _); (case side2 => exact Nat.le_refl _); (case side3 => repeat (first | exact (Kd.C_below HR0.out HB.out) | (with_reducible refine Kd.C_alloc ?_ _) | (with_reducible refine Kd.C_drewN ?_ _) | (with_reducible refine Kd.C_drew ?_))); (case side4 => exact HC0.out); (case side5 => exact Kd.C_nil _ _); (case side6 => exact Nat.le_refl _); rintro e w' ⟨rfl, ⟨nd, rfl⟩⟩; refine ⟨_, rfl, ?_⟩))
     go_ret
     exact ⟨by first | rfl | (simp [errW_none, errW_some] <;> rfl) | (simp [*, errW_none, errW_some] <;> rfl), by repeat (first | (with_reducible first | exact HB.out | apply below_alloc | apply pw_below_drewN | apply below_drew1 | refine below_set ?_ GE234.out) | exact HB.out)⟩
   · replace c8 := Bool.eq_false_iff.mpr c8
     subst c8
     have H1 : ((tempo_Place.f k l0 a1).bind fun bt237 => ((continuoref30_Place.f k l0 a1).bind fun bt242 => (if (!(bt237.1 == bt242.1) || (!(bt237.2.1 == bt242.2.1) || (!(bt237.2.2.1 == bt242.2.2.1)))) = true then (continuolaw30_TempoPlaces.j0 k l0 a1 a2 bt237.2.2.2 true a3_0 a3_1 a3_2 bt237.1 bt237.2.1 bt237.2.2.1) else (if bt237.2.2.2 = bt242.2.2.2 then ((tempo_ValidMeter.f k l0).bind fun t247 => ((continuoref30_ValidMeter.f k l0).bind fun t248 => (continuolaw30_TempoPlaces.j0 k l0 a1 a2 bt237.2.2.2 (t247 != t248) a3_0 a3_1 a3_2 bt237.1 bt237.2.1 bt237.2.2.1))) else (continuolaw30_TempoPlaces.j0 k l0 a1 a2 bt237.2.2.2 true a3_0 a3_1 a3_2 bt237.1 bt237.2.1 bt237.2.2.1))))) = some r := by rw [if_neg (show ¬ (false = true) by decide)] at H; exact H
     clear H
     have H := H1
     clear H1
     replace H := Option.bind_eq_some_iff.mp H
     obtain ⟨⟨t237, t238, t239, t240⟩, A110, H⟩ := H
     replace H : ((continuoref30_Place.f k l0 a1).bind fun bt242 => (if (!(t237 == bt242.1) || (!(t238 == bt242.2.1) || (!(t239 == bt242.2.2.1)))) = true then (continuolaw30_TempoPlaces.j0 k l0 a1 a2 t240 true a3_0 a3_1 a3_2 t237 t238 t239) else (if t240 = bt242.2.2.2 then ((tempo_ValidMeter.f k l0).bind fun t247 => ((continuoref30_ValidMeter.f k l0).bind fun t248 => (continuolaw30_TempoPlaces.j0 k l0 a1 a2 t240 (t247 != t248) a3_0 a3_1 a3_2 t237 t238 t239))) else (continuolaw30_TempoPlaces.j0 k l0 a1 a2 t240 true a3_0 a3_1 a3_2 t237 t238 t239)))) = some r := H
     have A11 := Aside0.mk A110
     clear A110
     replace H := Option.bind_eq_some_iff.mp H
     obtain ⟨⟨t242, t243, t244, t245⟩, A120, H⟩ := H
     replace H : (if (!(t237 == t242) || (!(t238 == t243) || (!(t239 == t244)))) = true then (continuolaw30_TempoPlaces.j0 k l0 a1 a2 t240 true a3_0 a3_1 a3_2 t237 t238 t239) else (if t240 = t245 then ((tempo_ValidMeter.f k l0).bind fun t247 => ((continuoref30_ValidMeter.f k l0).bind fun t248 => (continuolaw30_TempoPlaces.j0 k l0 a1 a2 t240 (t247 != t248) a3_0 a3_1 a3_2 t237 t238 t239))) else (continuolaw30_TempoPlaces.j0 k l0 a1 a2 t240 true a3_0 a3_1 a3_2 t237 t238 t239))) = some r := H
     have A12 := Aside0.mk A120
     clear A120
     have HC13 := Aside0.mk H
     clear H
     go_enter Try.func5, Try.ntmps5
     go_upto_region 7 with (first | ((with_reducible refine gate_dst (N := 7) rfl ?_); refine box_event ?hg (N := 7) ?hd (cs := #[.int .i64 a3_0, .int .i64 a3_1, .int .i64 a3_2]) (t := 37) ?hr ?_; (case hd => rfl); (case hg => rfl); (case hr => first | (go_simp; done) | (go_simp; rfl)); intro gb234 hg w14 hbox hb; have n0_ := Aside0.mk (below_step (by repeat (first | (with_reducible first | exact HB.out | apply below_alloc | apply pw_below_drewN | apply below_drew1) | exact HB.out)) hb); have n1_ := Aside0.mk (hbox); have n2_ := Aside0.mk ((by rw [hg]; exact (below_size (by repeat (first | (with_reducible first | exact HB.out | apply below_alloc | apply pw_below_drewN | apply below_drew1) | exact HB.out))) : w.heap.size ≤ gb234)); have n3_ := Aside0.mk ((by rw [hg]; exact (below_size (by repeat (first | (with_reducible first | exact HB.out | apply below_alloc | apply pw_below_drewN | apply below_drew1) | exact HB.out))) : w.heap.size ≤ gb234)); clear HB; have HB := n0_; have BK234 := n1_; have GW234 := n2_; have GE234 := n3_; clear n0_ n1_ n2_ n3_; clear hb hbox hg) | ((with_reducible refine gate_callee (f := 9) rfl ?_); refine goesL_ (some 19) rfl rfl Try.func9 (by kernel_rfl) rfl #[] rfl (by (try simp only [List.map_toArray, List.map_cons, List.map_nil]); first | done | rfl | (simp only [List.length_drop, List.length_take]; rfl)) ?_; (with_reducible refine (continuolaw30_awake.calls k  true _ A5.out).mono ?_); rintro e w15 ⟨rfl, hb⟩; refine ⟨_, rfl, ?_⟩; have n0_ := Aside0.mk (blk_below (g := gb234) (o := .cells #[.int .i64 a3_0, .int .i64 a3_1, .int .i64 a3_2] 37 (0, 0)) (by (with_reducible repeat (first | refine blk_drewN ?_ _ | refine blk_drew ?_ | refine blk_alloc ?_ _)); exact BK234.out) hb); have n1_ := Aside0.mk (below_step (by repeat (first | (with_reducible first | exact HB.out | apply below_alloc | apply pw_below_drewN | apply below_drew1 | refine below_set ?_ GE234.out) | exact HB.out)) hb); clear BK234; clear HB; have BK234 := n0_; have HB := n1_; clear n0_ n1_; (try clear hb); (try clear hb2); (try clear hk); (try clear hi)) | ((with_reducible refine gate_callee (f := 10) rfl ?_); refine goesL_ (some 22) rfl rfl Try.func10 (by kernel_rfl) rfl #[.slice none 0 0, .slice A0 l0.length c0, .slice none 0 0] rfl (by (try simp only [List.map_toArray, List.map_cons, List.map_nil]); first | done | rfl | (simp only [List.length_drop, List.length_take]; rfl)) ?_; (refine (continuolaw30_long.calls _ _ ([] : List (S27)) _ _ l0 _ _ ([] : List (S56)) false _ ?side1 ?side2 ?side3 ?side4 ?side5 ?side6 A7.out).mono ?_); (case side1 => exact Kd.C_nil _ _); (case side2 => exact Nat.le_refl _); (case side3 => repeat (first | exact (Kd.C_below HR0.out HB.out) | (with_reducible refine Kd.C_alloc ?_ _) | (with_reducible refine Kd.C_drewN ?_ _) | (with_reducible refine Kd.C_drew ?_))); (case side4 => exact HC0.out); (case side5 => exact Kd.C_nil _ _); (case side6 => exact Nat.le_refl _); rintro e w' ⟨rfl, ⟨nd, rfl⟩⟩; refine ⟨_, rfl, ?_⟩; (try (rw [drewN_self w15]; generalize hq_ : World.drewN w15 _ = w15; have n0_ : Aside0 (w15.heap[gb234]? = some (.cells #[.int .i64 a3_0, .int .i64 a3_1, .int .i64 a3_2] 37 (0, 0))) := ⟨by rw [← hq_]; exact (by (with_reducible repeat (first | refine blk_drewN ?_ _ | refine blk_drew ?_ | refine blk_alloc ?_ _)); exact BK234.out)⟩; have n1_ : Aside0 (Below w.heap.size w w15) := ⟨by rw [← hq_]; exact (by repeat (first | (with_reducible first | exact HB.out | apply below_alloc | apply pw_below_drewN | apply below_drew1 | refine below_set ?_ GE234.out) | exact HB.out))⟩; clear BK234 HB hq_; have BK234 := n0_; have HB := n1_; clear n0_ n1_))) | ((with_reducible refine gate_callee (f := 16) rfl ?_); refine goesL_ (some 26) rfl rfl Try.func16 (by kernel_rfl) rfl #[.slice A0 l0.length c0, .int .i64 a1] rfl (by (try simp only [List.map_toArray, List.map_cons, List.map_nil]); first | done | rfl | (simp only [List.length_drop, List.length_take]; rfl)) ?_; (with_reducible refine (tempo_Place.calls k _ _ l0 a1 t237 t238 t239 t240 _ ?side1 ?side2 A11.out).mono ?_); (case side1 => repeat (first | exact (Kd.C_below HR0.out HB.out) | (with_reducible refine Kd.C_alloc ?_ _) | (with_reducible refine Kd.C_drewN ?_ _) | (with_reducible refine Kd.C_drew ?_))); (case side2 => exact HC0.out); rintro e w16 ⟨rfl, hb⟩; refine ⟨_, rfl, ?_⟩; have n0_ := Aside0.mk (blk_below (g := gb234) (o := .cells #[.int .i64 a3_0, .int .i64 a3_1, .int .i64 a3_2] 37 (0, 0)) (by (with_reducible repeat (first | refine blk_drewN ?_ _ | refine blk_drew ?_ | refine blk_alloc ?_ _)); exact BK234.out) hb); have n1_ := Aside0.mk (below_step (by repeat (first | (with_reducible first | exact HB.out | apply below_alloc | apply pw_below_drewN | apply below_drew1 | refine below_set ?_ GE234.out) | exact HB.out)) hb); clear BK234; clear HB; have BK234 := n0_; have HB := n1_; clear n0_ n1_; (try clear hb); (try clear hb2); (try clear hk); (try clear hi)) | ((with_reducible refine gate_dst (N := 9) rfl ?_); refine box_event ?hg (N := 9) ?hd (cs := #[.int .i64 0, .int .i64 0, .int .i64 0]) (t := 37) ?hr ?_; (case hd => rfl); (case hg => rfl); (case hr => first | (go_simp; done) | (go_simp; rfl)); intro gb241 hg w17 hbox hb; have n0_ := Aside0.mk (blk_below (g := gb234) (o := .cells #[.int .i64 a3_0, .int .i64 a3_1, .int .i64 a3_2] 37 (0, 0)) (by (with_reducible repeat (first | refine blk_drewN ?_ _ | refine blk_drew ?_ | refine blk_alloc ?_ _)); exact BK234.out) hb); have n1_ := Aside0.mk (below_step (by repeat (first | (with_reducible first | exact HB.out | apply below_alloc | apply pw_below_drewN | apply below_drew1 | refine below_set ?_ GE234.out) | exact HB.out)) hb); have n2_ := Aside0.mk (hbox); have n3_ := Aside0.mk ((by rw [hg]; exact (below_size (by repeat (first | (with_reducible first | exact HB.out | apply below_alloc | apply pw_below_drewN | apply below_drew1 | refine below_set ?_ GE234.out) | exact HB.out))) : w.heap.size ≤ gb241)); have n4_ := Aside0.mk ((by rw [hg]; exact (below_size (by repeat (first | (with_reducible first | exact HB.out | apply below_alloc | apply pw_below_drewN | apply below_drew1 | refine below_set ?_ GE234.out) | exact HB.out))) : w.heap.size ≤ gb241)); have n5_ := Aside0.mk ((by rw [hg]; exact Nat.ne_of_lt (blk_lt (g := gb234) (o := .cells #[.int .i64 a3_0, .int .i64 a3_1, .int .i64 a3_2] 37 (0, 0)) (by (with_reducible repeat (first | refine blk_drewN ?_ _ | refine blk_drew ?_ | refine blk_alloc ?_ _)); exact BK234.out)) : gb234 ≠ gb241)); have n6_ := Aside0.mk ((by rw [hg]; exact Nat.ne_of_gt (blk_lt (g := gb234) (o := .cells #[.int .i64 a3_0, .int .i64 a3_1, .int .i64 a3_2] 37 (0, 0)) (by (with_reducible repeat (first | refine blk_drewN ?_ _ | refine blk_drew ?_ | refine blk_alloc ?_ _)); exact BK234.out)) : gb241 ≠ gb234)); clear BK234; clear HB; have BK234 := n0_; have HB := n1_; have BK241 := n2_; have GW241 := n3_; have GE241 := n4_; have NB234_241 := n5_; have NB241_234 := n6_; clear n0_ n1_ n2_ n3_ n4_ n5_ n6_; clear hb hbox hg; have hnb18 := NB241_234.out; have hnc18 := NB234_241.out; have hcz19_0 : w17.cell? ⟨gb241, 0, none⟩ = some (.int .i64 0) := (blk_cell BK241.out 0).trans rfl; have hcz19_1 : w17.cell? ⟨gb241, 1, none⟩ = some (.int .i64 0) := (blk_cell BK241.out 1).trans rfl; have hcz19_2 : w17.cell? ⟨gb241, 2, none⟩ = some (.int .i64 0) := (blk_cell BK241.out 2).trans rfl; have hfz19_0 := blk_frozen BK241.out 0; have hfz19_1 := blk_frozen BK241.out 1; have hfz19_2 := blk_frozen BK241.out 2) | ((with_reducible refine gate_callee (f := 17) rfl ?_); refine goesL_ (some 32) rfl rfl Try.func17 (by kernel_rfl) rfl #[.slice A0 l0.length c0, .int .i64 a1] rfl (by (try simp only [List.map_toArray, List.map_cons, List.map_nil]); first | done | rfl | (simp only [List.length_drop, List.length_take]; rfl)) ?_; (with_reducible refine (continuoref30_Place.calls k _ _ l0 a1 t242 t243 t244 t245 _ ?side1 ?side2 A12.out).mono ?_); (case side1 => exact Kd.C_below HR0.out (by repeat (first | (with_reducible first | exact HB.out | apply below_alloc | apply pw_below_drewN | apply below_drew1 | refine below_set ?_ GE234.out | refine below_set ?_ GE241.out) | exact HB.out))); (case side2 => exact HC0.out); rintro e w20 ⟨rfl, hb⟩; refine ⟨_, rfl, ?_⟩; have n0_ := Aside0.mk (blk_below (g := gb234) (o := .cells #[.int .i64 a3_0, .int .i64 a3_1, .int .i64 a3_2] 37 (0, 0)) (by (with_reducible repeat (first | refine blk_drewN ?_ _ | refine blk_drew ?_ | refine blk_alloc ?_ _)); refine blk_far ?_ NB234_241.out _; (with_reducible repeat (first | refine blk_drewN ?_ _ | refine blk_drew ?_ | refine blk_alloc ?_ _)); refine blk_far ?_ NB234_241.out _; (with_reducible repeat (first | refine blk_drewN ?_ _ | refine blk_drew ?_ | refine blk_alloc ?_ _)); refine blk_far ?_ NB234_241.out _; (with_reducible repeat (first | refine blk_drewN ?_ _ | refine blk_drew ?_ | refine blk_alloc ?_ _)); exact BK234.out) hb); have n1_ := Aside0.mk (blk_below (g := gb241) (o := .cells #[.int .i64 t237, .int .i64 t238, .int .i64 t239] 37 (0, 0)) (by (with_reducible repeat (first | refine blk_drewN ?_ _ | refine blk_drew ?_ | refine blk_alloc ?_ _)); refine blk_put (cs := #[.int .i64 t237, .int .i64 t238, .int .i64 0]) ?_ 2 _ rfl; (with_reducible repeat (first | refine blk_drewN ?_ _ | refine blk_drew ?_ | refine blk_alloc ?_ _)); refine blk_put (cs := #[.int .i64 t237, .int .i64 0, .int .i64 0]) ?_ 1 _ rfl; (with_reducible repeat (first | refine blk_drewN ?_ _ | refine blk_drew ?_ | refine blk_alloc ?_ _)); refine blk_put (cs := #[.int .i64 0, .int .i64 0, .int .i64 0]) ?_ 0 _ rfl; (with_reducible repeat (first | refine blk_drewN ?_ _ | refine blk_drew ?_ | refine blk_alloc ?_ _)); exact BK241.out) hb); have n2_ := Aside0.mk (below_step (by repeat (first | (with_reducible first | exact HB.out | apply below_alloc | apply pw_below_drewN | apply below_drew1 | refine below_set ?_ GE234.out | refine below_set ?_ GE241.out) | exact HB.out)) hb); clear BK234; clear BK241; clear HB; have BK234 := n0_; have BK241 := n1_; have HB := n2_; clear n0_ n1_ n2_; (try clear hb); (try clear hb2); (try clear hk); (try clear hi)) | ((with_reducible refine gate_dst (N := 11) rfl ?_); refine box_event ?hg (N := 11) ?hd (cs := #[.int .i64 0, .int .i64 0, .int .i64 0]) (t := 37) ?hr ?_; (case hd => rfl); (case hg => rfl); (case hr => first | (go_simp; done) | (go_simp; rfl)); intro gb246 hg w21 hbox hb; have n0_ := Aside0.mk (blk_below (g := gb234) (o := .cells #[.int .i64 a3_0, .int .i64 a3_1, .int .i64 a3_2] 37 (0, 0)) (by (with_reducible repeat (first | refine blk_drewN ?_ _ | refine blk_drew ?_ | refine blk_alloc ?_ _)); exact BK234.out) hb); have n1_ := Aside0.mk (blk_below (g := gb241) (o := .cells #[.int .i64 t237, .int .i64 t238, .int .i64 t239] 37 (0, 0)) (by (with_reducible repeat (first | refine blk_drewN ?_ _ | refine blk_drew ?_ | refine blk_alloc ?_ _)); exact BK241.out) hb); have n2_ := Aside0.mk (below_step (by repeat (first | (with_reducible first | exact HB.out | apply below_alloc | apply pw_below_drewN | apply below_drew1 | refine below_set ?_ GE234.out | refine below_set ?_ GE241.out) | exact HB.out)) hb); have n3_ := Aside0.mk (hbox); have n4_ := Aside0.mk ((by rw [hg]; exact (below_size (by repeat (first | (with_reducible first | exact HB.out | apply below_alloc | apply pw_below_drewN | apply below_drew1 | refine below_set ?_ GE234.out | refine below_set ?_ GE241.out) | exact HB.out))) : w.heap.size ≤ gb246)); have n5_ := Aside0.mk ((by rw [hg]; exact (below_size (by repeat (first | (with_reducible first | exact HB.out | apply below_alloc | apply pw_below_drewN | apply below_drew1 | refine below_set ?_ GE234.out | refine below_set ?_ GE241.out) | exact HB.out))) : w.heap.size ≤ gb246)); have n6_ := Aside0.mk ((by rw [hg]; exact Nat.ne_of_lt (blk_lt (g := gb234) (o := .cells #[.int .i64 a3_0, .int .i64 a3_1, .int .i64 a3_2] 37 (0, 0)) (by (with_reducible repeat (first | refine blk_drewN ?_ _ | refine blk_drew ?_ | refine blk_alloc ?_ _)); exact BK234.out)) : gb234 ≠ gb246)); have n7_ := Aside0.mk ((by rw [hg]; exact Nat.ne_of_gt (blk_lt (g := gb234) (o := .cells #[.int .i64 a3_0, .int .i64 a3_1, .int .i64 a3_2] 37 (0, 0)) (by (with_reducible repeat (first | refine blk_drewN ?_ _ | refine blk_drew ?_ | refine blk_alloc ?_ _)); exact BK234.out)) : gb246 ≠ gb234)); have n8_ := Aside0.mk ((by rw [hg]; exact Nat.ne_of_lt (blk_lt (g := gb241) (o := .cells #[.int .i64 t237, .int .i64 t238, .int .i64 t239] 37 (0, 0)) (by (with_reducible repeat (first | refine blk_drewN ?_ _ | refine blk_drew ?_ | refine blk_alloc ?_ _)); exact BK241.out)) : gb241 ≠ gb246)); have n9_ := Aside0.mk ((by rw [hg]; exact Nat.ne_of_gt (blk_lt (g := gb241) (o := .cells #[.int .i64 t237, .int .i64 t238, .int .i64 t239] 37 (0, 0)) (by (with_reducible repeat (first | refine blk_drewN ?_ _ | refine blk_drew ?_ | refine blk_alloc ?_ _)); exact BK241.out)) : gb246 ≠ gb241)); clear BK234; clear BK241; clear HB; have BK234 := n0_; have BK241 := n1_; have HB := n2_; have BK246 := n3_; have GW246 := n4_; have GE246 := n5_; have NB234_246 := n6_; have NB246_234 := n7_; have NB241_246 := n8_; have NB246_241 := n9_; clear n0_ n1_ n2_ n3_ n4_ n5_ n6_ n7_ n8_ n9_; clear hb hbox hg; have hnb22 := NB246_234.out; have hnc22 := NB234_246.out; have hnb23 := NB246_241.out; have hnc23 := NB241_246.out; have hcz24_0 : w21.cell? ⟨gb246, 0, none⟩ = some (.int .i64 0) := (blk_cell BK246.out 0).trans rfl; have hcz24_1 : w21.cell? ⟨gb246, 1, none⟩ = some (.int .i64 0) := (blk_cell BK246.out 1).trans rfl; have hcz24_2 : w21.cell? ⟨gb246, 2, none⟩ = some (.int .i64 0) := (blk_cell BK246.out 2).trans rfl; have hfz24_0 := blk_frozen BK246.out 0; have hfz24_1 := blk_frozen BK246.out 1; have hfz24_2 := blk_frozen BK246.out 2))
     (try simp only [Act.put, List.setIfInBounds_toArray, List.set_cons_zero, List.set_cons_succ])
     go_cut [49] (fun v49 wc => ∃ (kq : Nat) (x49_12 : Bool), v49 = .bool x49_12 ∧ Aside0 (continuolaw30_TempoPlaces.j0 kq l0 a1 a2 t240 x49_12 a3_0 a3_1 a3_2 t237 t238 t239 = some r) ∧ Aside0 (kq ≤ k) ∧ Aside0 (wc.heap[gb234]? = some (.cells #[.int .i64 a3_0, .int .i64 a3_1, .int .i64 a3_2] 37 (0, 0))) ∧ Aside0 (wc.heap[gb241]? = some (.cells #[.int .i64 t237, .int .i64 t238, .int .i64 t239] 37 (0, 0))) ∧ Aside0 (wc.heap[gb246]? = some (.cells #[.int .i64 t242, .int .i64 t243, .int .i64 t244] 37 (0, 0))) ∧ Aside0 (Below w.heap.size w wc))
     case first =>
      have H := HC13.out
      clear HC13
      by_cases c25 : (!(t237 == t242) || (!(t238 == t243) || (!(t239 == t244)))) = true
      · rw [if_pos c25] at H
        have c25b0 : (!(t237 == t242) || (!(t238 == t243) || (!(t239 == t244)))) = true := c25
        clear c25
        (first | rw [c25b0] | (simp only [i64_w, i32_w]; rw [c25b0]) | skip)
        have H' := Aside0.mk H
        clear H
        have hnb26 := NB241_234.out
        have hnc26 := NB234_241.out
        have hnb27 := NB241_246.out
        have hnc27 := NB246_241.out
        have hcz28_0 : w21.cell? ⟨gb241, 0, none⟩ = some (.int .i64 t237) := (blk_cell BK241.out 0).trans rfl
        have hcz28_1 : w21.cell? ⟨gb241, 1, none⟩ = some (.int .i64 t238) := (blk_cell BK241.out 1).trans rfl
        have hcz28_2 : w21.cell? ⟨gb241, 2, none⟩ = some (.int .i64 t239) := (blk_cell BK241.out 2).trans rfl
        have hfz28_0 := blk_frozen BK241.out 0
        have hfz28_1 := blk_frozen BK241.out 1
        have hfz28_2 := blk_frozen BK241.out 2
        have hnb29 := NB246_234.out
        have hnc29 := NB234_246.out
        have hcz30_0 : w21.cell? ⟨gb246, 0, none⟩ = some (.int .i64 0) := (blk_cell BK246.out 0).trans rfl
        have hcz30_1 : w21.cell? ⟨gb246, 1, none⟩ = some (.int .i64 0) := (blk_cell BK246.out 1).trans rfl
        have hcz30_2 : w21.cell? ⟨gb246, 2, none⟩ = some (.int .i64 0) := (blk_cell BK246.out 2).trans rfl
        have hfz30_0 := blk_frozen BK246.out 0
        have hfz30_1 := blk_frozen BK246.out 1
        have hfz30_2 := blk_frozen BK246.out 2
        go_wp2
        go_meet
        case rel => exact ⟨_, (true), (by first | rfl | (simp; done) | (simp [*]; done)), H', ⟨by first | omega | exact Nat.le_refl _⟩, ⟨by (with_reducible repeat (first | refine blk_drewN ?_ _ | refine blk_drew ?_ | refine blk_alloc ?_ _)); refine blk_far ?_ NB234_246.out _; (with_reducible repeat (first | refine blk_drewN ?_ _ | refine blk_drew ?_ | refine blk_alloc ?_ _)); refine blk_far ?_ NB234_246.out _; (with_reducible repeat (first | refine blk_drewN ?_ _ | refine blk_drew ?_ | refine blk_alloc ?_ _)); refine blk_far ?_ NB234_246.out _; (with_reducible repeat (first | refine blk_drewN ?_ _ | refine blk_drew ?_ | refine blk_alloc ?_ _)); exact BK234.out⟩, ⟨by (with_reducible repeat (first | refine blk_drewN ?_ _ | refine blk_drew ?_ | refine blk_alloc ?_ _)); refine blk_far ?_ NB241_246.out _; (with_reducible repeat (first | refine blk_drewN ?_ _ | refine blk_drew ?_ | refine blk_alloc ?_ _)); refine blk_far ?_ NB241_246.out _; (with_reducible repeat (first | refine blk_drewN ?_ _ | refine blk_drew ?_ | refine blk_alloc ?_ _)); refine blk_far ?_ NB241_246.out _; (with_reducible repeat (first | refine blk_drewN ?_ _ | refine blk_drew ?_ | refine blk_alloc ?_ _)); exact BK241.out⟩, ⟨by (with_reducible repeat (first | refine blk_drewN ?_ _ | refine blk_drew ?_ | refine blk_alloc ?_ _)); refine blk_put (cs := #[.int .i64 t242, .int .i64 t243, .int .i64 0]) ?_ 2 _ rfl; (with_reducible repeat (first | refine blk_drewN ?_ _ | refine blk_drew ?_ | refine blk_alloc ?_ _)); refine blk_put (cs := #[.int .i64 t242, .int .i64 0, .int .i64 0]) ?_ 1 _ rfl; (with_reducible repeat (first | refine blk_drewN ?_ _ | refine blk_drew ?_ | refine blk_alloc ?_ _)); refine blk_put (cs := #[.int .i64 0, .int .i64 0, .int .i64 0]) ?_ 0 _ rfl; (with_reducible repeat (first | refine blk_drewN ?_ _ | refine blk_drew ?_ | refine blk_alloc ?_ _)); exact BK246.out⟩, ⟨by repeat (first | (with_reducible first | exact HB.out | apply below_alloc | apply pw_below_drewN | apply below_drew1 | refine below_set ?_ GE234.out | refine below_set ?_ GE241.out | refine below_set ?_ GE246.out) | exact HB.out)⟩⟩
      · rw [if_neg c25] at H
        have c25b0 : (!(t237 == t242) || (!(t238 == t243) || (!(t239 == t244)))) = false := by simpa using c25
        clear c25
        (first | rw [c25b0] | (simp only [i64_w, i32_w]; rw [c25b0]) | skip)
        by_cases c31 : t240 = t245
        · rw [if_pos c31] at H
          have c31b0 : (t240 == t245) = true := beq_iff_eq.mpr c31
          have c31b1 : (t240 != t245) = false := bne_eq_false_iff_eq.mpr c31
          clear c31
          replace H := Option.bind_eq_some_iff.mp H
          obtain ⟨t247, A320, H⟩ := H
          replace H : ((continuoref30_ValidMeter.f k l0).bind fun t248 => (continuolaw30_TempoPlaces.j0 k l0 a1 a2 t240 (t247 != t248) a3_0 a3_1 a3_2 t237 t238 t239)) = some r := H
          have A32 := Aside0.mk A320
          clear A320
          replace H := Option.bind_eq_some_iff.mp H
          obtain ⟨t248, A330, H⟩ := H
          replace H : (continuolaw30_TempoPlaces.j0 k l0 a1 a2 t240 (t247 != t248) a3_0 a3_1 a3_2 t237 t238 t239) = some r := H
          have A33 := Aside0.mk A330
          clear A330
          have H' := Aside0.mk H
          clear H
          have hnb34 := NB241_234.out
          have hnc34 := NB234_241.out
          have hnb35 := NB241_246.out
          have hnc35 := NB246_241.out
          have hcz36_0 : w21.cell? ⟨gb241, 0, none⟩ = some (.int .i64 t237) := (blk_cell BK241.out 0).trans rfl
          have hcz36_1 : w21.cell? ⟨gb241, 1, none⟩ = some (.int .i64 t238) := (blk_cell BK241.out 1).trans rfl
          have hcz36_2 : w21.cell? ⟨gb241, 2, none⟩ = some (.int .i64 t239) := (blk_cell BK241.out 2).trans rfl
          have hfz36_0 := blk_frozen BK241.out 0
          have hfz36_1 := blk_frozen BK241.out 1
          have hfz36_2 := blk_frozen BK241.out 2
          have hnb37 := NB246_234.out
          have hnc37 := NB234_246.out
          have hcz38_0 : w21.cell? ⟨gb246, 0, none⟩ = some (.int .i64 0) := (blk_cell BK246.out 0).trans rfl
          have hcz38_1 : w21.cell? ⟨gb246, 1, none⟩ = some (.int .i64 0) := (blk_cell BK246.out 1).trans rfl
          have hcz38_2 : w21.cell? ⟨gb246, 2, none⟩ = some (.int .i64 0) := (blk_cell BK246.out 2).trans rfl
          have hfz38_0 := blk_frozen BK246.out 0
          have hfz38_1 := blk_frozen BK246.out 1
          have hfz38_2 := blk_frozen BK246.out 2
          go_wp2_with (first | (go_at_call 18; (with_reducible refine (tempo_ValidMeter.calls k _ _ l0 t247 _ ?side1 ?side2 A32.out).mono ?_); (case side1 => exact Kd.C_below HR0.out (by repeat (first | (with_reducible first | exact HB.out | apply below_alloc | apply pw_below_drewN | apply below_drew1 | refine below_set ?_ GE234.out | refine below_set ?_ GE241.out | refine below_set ?_ GE246.out) | exact HB.out))); (case side2 => exact HC0.out); rintro e w39 ⟨rfl, hb⟩; have n0_ := Aside0.mk (blk_below (g := gb234) (o := .cells #[.int .i64 a3_0, .int .i64 a3_1, .int .i64 a3_2] 37 (0, 0)) (by (with_reducible repeat (first | refine blk_drewN ?_ _ | refine blk_drew ?_ | refine blk_alloc ?_ _)); refine blk_far ?_ NB234_246.out _; (with_reducible repeat (first | refine blk_drewN ?_ _ | refine blk_drew ?_ | refine blk_alloc ?_ _)); refine blk_far ?_ NB234_246.out _; (with_reducible repeat (first | refine blk_drewN ?_ _ | refine blk_drew ?_ | refine blk_alloc ?_ _)); refine blk_far ?_ NB234_246.out _; (with_reducible repeat (first | refine blk_drewN ?_ _ | refine blk_drew ?_ | refine blk_alloc ?_ _)); exact BK234.out) hb); have n1_ := Aside0.mk (blk_below (g := gb241) (o := .cells #[.int .i64 t237, .int .i64 t238, .int .i64 t239] 37 (0, 0)) (by (with_reducible repeat (first | refine blk_drewN ?_ _ | refine blk_drew ?_ | refine blk_alloc ?_ _)); refine blk_far ?_ NB241_246.out _; (with_reducible repeat (first | refine blk_drewN ?_ _ | refine blk_drew ?_ | refine blk_alloc ?_ _)); refine blk_far ?_ NB241_246.out _; (with_reducible repeat (first | refine blk_drewN ?_ _ | refine blk_drew ?_ | refine blk_alloc ?_ _)); refine blk_far ?_ NB241_246.out _; (with_reducible repeat (first | refine blk_drewN ?_ _ | refine blk_drew ?_ | refine blk_alloc ?_ _)); exact BK241.out) hb); have n2_ := Aside0.mk (blk_below (g := gb246) (o := .cells #[.int .i64 t242, .int .i64 t243, .int .i64 t244] 37 (0, 0)) (by (with_reducible repeat (first | refine blk_drewN ?_ _ | refine blk_drew ?_ | refine blk_alloc ?_ _)); refine blk_put (cs := #[.int .i64 t242, .int .i64 t243, .int .i64 0]) ?_ 2 _ rfl; (with_reducible repeat (first | refine blk_drewN ?_ _ | refine blk_drew ?_ | refine blk_alloc ?_ _)); refine blk_put (cs := #[.int .i64 t242, .int .i64 0, .int .i64 0]) ?_ 1 _ rfl; (with_reducible repeat (first | refine blk_drewN ?_ _ | refine blk_drew ?_ | refine blk_alloc ?_ _)); refine blk_put (cs := #[.int .i64 0, .int .i64 0, .int .i64 0]) ?_ 0 _ rfl; (with_reducible repeat (first | refine blk_drewN ?_ _ | refine blk_drew ?_ | refine blk_alloc ?_ _)); exact BK246.out) hb); have n3_ := Aside0.mk (below_step (by repeat (first | (with_reducible first | exact HB.out | apply below_alloc | apply pw_below_drewN | apply below_drew1 | refine below_set ?_ GE234.out | refine below_set ?_ GE241.out | refine below_set ?_ GE246.out) | exact HB.out)) hb); clear BK234; clear BK241; clear BK246; clear HB; have BK234 := n0_; have BK241 := n1_; have BK246 := n2_; have HB := n3_; clear n0_ n1_ n2_ n3_; (try clear hb); (try clear hb2); (try clear hk); (try clear hi)) | (go_at_call 19; (with_reducible refine (continuoref30_ValidMeter.calls k _ _ l0 t248 _ ?side1 ?side2 A33.out).mono ?_); (case side1 => repeat (first | exact (Kd.C_below HR0.out HB.out) | (with_reducible refine Kd.C_alloc ?_ _) | (with_reducible refine Kd.C_drewN ?_ _) | (with_reducible refine Kd.C_drew ?_))); (case side2 => exact HC0.out); rintro e w' ⟨rfl, ⟨nd, rfl⟩⟩))
          go_meet
          case rel => exact ⟨_, ((t247 != t248)), (by first | rfl | (simp; done) | (simp [*]; done)), H', ⟨by first | omega | exact Nat.le_refl _⟩, ⟨by (with_reducible repeat (first | refine blk_drewN ?_ _ | refine blk_drew ?_ | refine blk_alloc ?_ _)); exact BK234.out⟩, ⟨by (with_reducible repeat (first | refine blk_drewN ?_ _ | refine blk_drew ?_ | refine blk_alloc ?_ _)); exact BK241.out⟩, ⟨by (with_reducible repeat (first | refine blk_drewN ?_ _ | refine blk_drew ?_ | refine blk_alloc ?_ _)); exact BK246.out⟩, ⟨by repeat (first | (with_reducible first | exact HB.out | apply below_alloc | apply pw_below_drewN | apply below_drew1 | refine below_set ?_ GE234.out | refine below_set ?_ GE241.out | refine below_set ?_ GE246.out) | exact HB.out)⟩⟩
        · rw [if_neg c31] at H
          have c31b0 : (t240 == t245) = false := beq_eq_false_iff_ne.mpr c31
          have c31b1 : (t240 != t245) = true := bne_iff_ne.mpr c31
          have H' := Aside0.mk H
          clear H
          have hnb40 := NB241_234.out
          have hnc40 := NB234_241.out
          have hnb41 := NB241_246.out
          have hnc41 := NB246_241.out
          have hcz42_0 : w21.cell? ⟨gb241, 0, none⟩ = some (.int .i64 t237) := (blk_cell BK241.out 0).trans rfl
          have hcz42_1 : w21.cell? ⟨gb241, 1, none⟩ = some (.int .i64 t238) := (blk_cell BK241.out 1).trans rfl
          have hcz42_2 : w21.cell? ⟨gb241, 2, none⟩ = some (.int .i64 t239) := (blk_cell BK241.out 2).trans rfl
          have hfz42_0 := blk_frozen BK241.out 0
          have hfz42_1 := blk_frozen BK241.out 1
          have hfz42_2 := blk_frozen BK241.out 2
          have hnb43 := NB246_234.out
          have hnc43 := NB234_246.out
          have hcz44_0 : w21.cell? ⟨gb246, 0, none⟩ = some (.int .i64 0) := (blk_cell BK246.out 0).trans rfl
          have hcz44_1 : w21.cell? ⟨gb246, 1, none⟩ = some (.int .i64 0) := (blk_cell BK246.out 1).trans rfl
          have hcz44_2 : w21.cell? ⟨gb246, 2, none⟩ = some (.int .i64 0) := (blk_cell BK246.out 2).trans rfl
          have hfz44_0 := blk_frozen BK246.out 0
          have hfz44_1 := blk_frozen BK246.out 1
          have hfz44_2 := blk_frozen BK246.out 2
          go_wp2
          go_meet
          case rel => exact ⟨_, (true), (by first | rfl | (simp; done) | (simp [*]; done)), H', ⟨by first | omega | exact Nat.le_refl _⟩, ⟨by (with_reducible repeat (first | refine blk_drewN ?_ _ | refine blk_drew ?_ | refine blk_alloc ?_ _)); refine blk_far ?_ NB234_246.out _; (with_reducible repeat (first | refine blk_drewN ?_ _ | refine blk_drew ?_ | refine blk_alloc ?_ _)); refine blk_far ?_ NB234_246.out _; (with_reducible repeat (first | refine blk_drewN ?_ _ | refine blk_drew ?_ | refine blk_alloc ?_ _)); refine blk_far ?_ NB234_246.out _; (with_reducible repeat (first | refine blk_drewN ?_ _ | refine blk_drew ?_ | refine blk_alloc ?_ _)); exact BK234.out⟩, ⟨by (with_reducible repeat (first | refine blk_drewN ?_ _ | refine blk_drew ?_ | refine blk_alloc ?_ _)); refine blk_far ?_ NB241_246.out _; (with_reducible repeat (first | refine blk_drewN ?_ _ | refine blk_drew ?_ | refine blk_alloc ?_ _)); refine blk_far ?_ NB241_246.out _; (with_reducible repeat (first | refine blk_drewN ?_ _ | refine blk_drew ?_ | refine blk_alloc ?_ _)); refine blk_far ?_ NB241_246.out _; (with_reducible repeat (first | refine blk_drewN ?_ _ | refine blk_drew ?_ | refine blk_alloc ?_ _)); exact BK241.out⟩, ⟨by (with_reducible repeat (first | refine blk_drewN ?_ _ | refine blk_drew ?_ | refine blk_alloc ?_ _)); refine blk_put (cs := #[.int .i64 t242, .int .i64 t243, .int .i64 0]) ?_ 2 _ rfl; (with_reducible repeat (first | refine blk_drewN ?_ _ | refine blk_drew ?_ | refine blk_alloc ?_ _)); refine blk_put (cs := #[.int .i64 t242, .int .i64 0, .int .i64 0]) ?_ 1 _ rfl; (with_reducible repeat (first | refine blk_drewN ?_ _ | refine blk_drew ?_ | refine blk_alloc ?_ _)); refine blk_put (cs := #[.int .i64 0, .int .i64 0, .int .i64 0]) ?_ 0 _ rfl; (with_reducible repeat (first | refine blk_drewN ?_ _ | refine blk_drew ?_ | refine blk_alloc ?_ _)); exact BK246.out⟩, ⟨by repeat (first | (with_reducible first | exact HB.out | apply below_alloc | apply pw_below_drewN | apply below_drew1 | refine below_set ?_ GE234.out | refine below_set ?_ GE241.out | refine below_set ?_ GE246.out) | exact HB.out)⟩⟩
     case rest =>
      clear HC13
      try clear c1
      try clear c2
      try clear p2
      try clear c3
      try clear c4
      try clear c5
      try clear c6
      try clear c8
      try clear c9
      try clear c10
      try clear c16
      try clear c17
      try clear c18
      try clear c22
      try clear c23
      try clear c25
      try clear c25b0
      try clear c26
      try clear c27
      try clear c29
      try clear c31
      try clear c31b0
      try clear c31b1
      try clear c34
      try clear c35
      try clear c37
      try clear c40
      try clear c41
      try clear c43
      try clear hcz19_0
      try clear hcz19_1
      try clear hcz19_2
      try clear hcz24_0
      try clear hcz24_1
      try clear hcz24_2
      try clear hcz28_0
      try clear hcz28_1
      try clear hcz28_2
      try clear hcz30_0
      try clear hcz30_1
      try clear hcz30_2
      try clear hcz36_0
      try clear hcz36_1
      try clear hcz36_2
      try clear hcz38_0
      try clear hcz38_1
      try clear hcz38_2
      try clear hcz42_0
      try clear hcz42_1
      try clear hcz42_2
      try clear hcz44_0
      try clear hcz44_1
      try clear hcz44_2
      try clear hfz19_0
      try clear hfz19_1
      try clear hfz19_2
      try clear hfz24_0
      try clear hfz24_1
      try clear hfz24_2
      try clear hfz28_0
      try clear hfz28_1
      try clear hfz28_2
      try clear hfz30_0
      try clear hfz30_1
      try clear hfz30_2
      try clear hfz36_0
      try clear hfz36_1
      try clear hfz36_2
      try clear hfz38_0
      try clear hfz38_1
      try clear hfz38_2
      try clear hfz42_0
      try clear hfz42_1
      try clear hfz42_2
      try clear hfz44_0
      try clear hfz44_1
      try clear hfz44_2
      obtain ⟨kq, x49_12, rfl, HA, HJ12, BK234, BK241, BK246, HB⟩ := hcut
      cases kq with
      | zero => exact absurd HA.out (by simp [continuolaw30_TempoPlaces.j0])
      | succ kj12 =>
       have H := HA.out
       clear HA
       simp only [continuolaw30_TempoPlaces.j0] at H
       by_cases c45 : x49_12 = true
       · subst c45
         have H1 : (some false) = some r := by rw [if_pos rfl] at H; exact H
         clear H
         have H := H1
         clear H1
         obtain rfl := Option.some.inj H
         go_wp2
         go_ret
         exact ⟨by first | rfl | (simp [errW_none, errW_some] <;> rfl) | (simp [*, errW_none, errW_some] <;> rfl), by repeat (first | (with_reducible first | exact HB.out | apply below_alloc | apply pw_below_drewN | apply below_drew1 | refine below_set ?_ GE234.out | refine below_set ?_ GE241.out | refine below_set ?_ GE246.out) | exact HB.out)⟩
       · replace c45 := Bool.eq_false_iff.mpr c45
         subst c45
         have H1 : (if t240 = 0 then ((tempo_At.f kj12 l0 t237 t238 t239).bind fun bt249 => (if bt249.1 = a1 then (if bt249.2 = 0 then (continuolaw30_TempoPlaces.j1 kj12 l0 a2 a3_0 a3_1 a3_2) else (some false)) else (some false))) else (continuolaw30_TempoPlaces.j1 kj12 l0 a2 a3_0 a3_1 a3_2)) = some r := by rw [if_neg (show ¬ (false = true) by decide)] at H; exact H
         clear H
         have H := H1
         clear H1
         have HC46 := Aside0.mk H
         clear H
         go_upto_if 51 with (fail)
         go_cut [] (fun wc => ∃ (kq : Nat), Aside0 (continuolaw30_TempoPlaces.j1 kq l0 a2 a3_0 a3_1 a3_2 = some r) ∧ Aside0 (kq ≤ kj12) ∧ Aside0 (wc.heap[gb234]? = some (.cells #[.int .i64 a3_0, .int .i64 a3_1, .int .i64 a3_2] 37 (0, 0))) ∧ Aside0 (wc.heap[gb241]? = some (.cells #[.int .i64 t237, .int .i64 t238, .int .i64 t239] 37 (0, 0))) ∧ Aside0 (wc.heap[gb246]? = some (.cells #[.int .i64 t242, .int .i64 t243, .int .i64 t244] 37 (0, 0))) ∧ Aside0 (Below w.heap.size w wc))
         case first =>
          have H := HC46.out
          clear HC46
          by_cases c47 : t240 = 0
          · rw [if_pos c47] at H
            have c47b0 : (t240 == 0) = true := beq_iff_eq.mpr c47
            have c47b1 : (t240 != 0) = false := bne_eq_false_iff_eq.mpr c47
            clear c47
            (first | rw [c47b0] | (simp only [i64_w, i32_w]; rw [c47b0]) | skip)
            replace H := Option.bind_eq_some_iff.mp H
            obtain ⟨⟨t249, t250⟩, A480, H⟩ := H
            replace H : (if t249 = a1 then (if t250 = 0 then (continuolaw30_TempoPlaces.j1 kj12 l0 a2 a3_0 a3_1 a3_2) else (some false)) else (some false)) = some r := H
            have A48 := Aside0.mk A480
            clear A480
            by_cases c49 : t249 = a1
            · rw [if_pos c49] at H
              have c49b0 : (t249 == a1) = true := beq_iff_eq.mpr c49
              have c49b1 : (t249 != a1) = false := bne_eq_false_iff_eq.mpr c49
              clear c49
              by_cases c50 : t250 = 0
              · rw [if_pos c50] at H
                have c50b0 : (t250 == 0) = true := beq_iff_eq.mpr c50
                have c50b1 : (t250 != 0) = false := bne_eq_false_iff_eq.mpr c50
                clear c50
                have H' := Aside0.mk H
                clear H
                have hnb51 := NB241_234.out
                have hnc51 := NB234_241.out
                have hnb52 := NB241_246.out
                have hnc52 := NB246_241.out
                have hcz53_0 : wc.cell? ⟨gb241, 0, none⟩ = some (.int .i64 t237) := (blk_cell BK241.out 0).trans rfl
                have hcz53_1 : wc.cell? ⟨gb241, 1, none⟩ = some (.int .i64 t238) := (blk_cell BK241.out 1).trans rfl
                have hcz53_2 : wc.cell? ⟨gb241, 2, none⟩ = some (.int .i64 t239) := (blk_cell BK241.out 2).trans rfl
                have hfz53_0 := blk_frozen BK241.out 0
                have hfz53_1 := blk_frozen BK241.out 1
                have hfz53_2 := blk_frozen BK241.out 2
                go_wp2_with (first | ((with_reducible refine gate_callee (f := 20) rfl ?_); refine goesL_ (some 55) rfl rfl Try.func20 (by kernel_rfl) rfl #[.slice A0 l0.length c0, .agg #[.int .i64 t237, .int .i64 t238, .int .i64 t239]] rfl (by (try simp only [List.map_toArray, List.map_cons, List.map_nil]); first | done | rfl | (simp only [List.length_drop, List.length_take]; rfl)) ?_; (with_reducible refine (tempo_At.calls kj12 _ _ l0 t237 t238 t239 t249 t250 _ ?side1 ?side2 A48.out).mono ?_); (case side1 => repeat (first | exact (Kd.C_below HR0.out HB.out) | (with_reducible refine Kd.C_alloc ?_ _) | (with_reducible refine Kd.C_drewN ?_ _) | (with_reducible refine Kd.C_drew ?_))); (case side2 => exact HC0.out); rintro e w54 ⟨rfl, hb⟩; refine ⟨_, rfl, ?_⟩; have n0_ := Aside0.mk (blk_below (g := gb234) (o := .cells #[.int .i64 a3_0, .int .i64 a3_1, .int .i64 a3_2] 37 (0, 0)) (by (with_reducible repeat (first | refine blk_drewN ?_ _ | refine blk_drew ?_ | refine blk_alloc ?_ _)); exact BK234.out) hb); have n1_ := Aside0.mk (blk_below (g := gb241) (o := .cells #[.int .i64 t237, .int .i64 t238, .int .i64 t239] 37 (0, 0)) (by (with_reducible repeat (first | refine blk_drewN ?_ _ | refine blk_drew ?_ | refine blk_alloc ?_ _)); exact BK241.out) hb); have n2_ := Aside0.mk (blk_below (g := gb246) (o := .cells #[.int .i64 t242, .int .i64 t243, .int .i64 t244] 37 (0, 0)) (by (with_reducible repeat (first | refine blk_drewN ?_ _ | refine blk_drew ?_ | refine blk_alloc ?_ _)); exact BK246.out) hb); have n3_ := Aside0.mk (below_step (by repeat (first | (with_reducible first | exact HB.out | apply below_alloc | apply pw_below_drewN | apply below_drew1 | refine below_set ?_ GE234.out | refine below_set ?_ GE241.out | refine below_set ?_ GE246.out) | exact HB.out)) hb); clear BK234; clear BK241; clear BK246; clear HB; have BK234 := n0_; have BK241 := n1_; have BK246 := n2_; have HB := n3_; clear n0_ n1_ n2_ n3_; (try clear hb); (try clear hb2); (try clear hk); (try clear hi)))
                go_meet
                case rel => exact ⟨_, H', ⟨by have := HJ12.out; first | omega | exact Nat.le_refl _⟩, ⟨by (with_reducible repeat (first | refine blk_drewN ?_ _ | refine blk_drew ?_ | refine blk_alloc ?_ _)); exact BK234.out⟩, ⟨by (with_reducible repeat (first | refine blk_drewN ?_ _ | refine blk_drew ?_ | refine blk_alloc ?_ _)); exact BK241.out⟩, ⟨by (with_reducible repeat (first | refine blk_drewN ?_ _ | refine blk_drew ?_ | refine blk_alloc ?_ _)); exact BK246.out⟩, ⟨by repeat (first | (with_reducible first | exact HB.out | apply below_alloc | apply pw_below_drewN | apply below_drew1 | refine below_set ?_ GE234.out | refine below_set ?_ GE241.out | refine below_set ?_ GE246.out) | exact HB.out)⟩⟩
              · rw [if_neg c50] at H
                have c50b0 : (t250 == 0) = false := beq_eq_false_iff_ne.mpr c50
                have c50b1 : (t250 != 0) = true := bne_iff_ne.mpr c50
                obtain rfl := Option.some.inj H
                have hnb55 := NB241_234.out
                have hnc55 := NB234_241.out
                have hnb56 := NB241_246.out
                have hnc56 := NB246_241.out
                have hcz57_0 : wc.cell? ⟨gb241, 0, none⟩ = some (.int .i64 t237) := (blk_cell BK241.out 0).trans rfl
                have hcz57_1 : wc.cell? ⟨gb241, 1, none⟩ = some (.int .i64 t238) := (blk_cell BK241.out 1).trans rfl
                have hcz57_2 : wc.cell? ⟨gb241, 2, none⟩ = some (.int .i64 t239) := (blk_cell BK241.out 2).trans rfl
                have hfz57_0 := blk_frozen BK241.out 0
                have hfz57_1 := blk_frozen BK241.out 1
                have hfz57_2 := blk_frozen BK241.out 2
                go_wp2_with (first | ((with_reducible refine gate_callee (f := 20) rfl ?_); refine goesL_ (some 55) rfl rfl Try.func20 (by kernel_rfl) rfl #[.slice A0 l0.length c0, .agg #[.int .i64 t237, .int .i64 t238, .int .i64 t239]] rfl (by (try simp only [List.map_toArray, List.map_cons, List.map_nil]); first | done | rfl | (simp only [List.length_drop, List.length_take]; rfl)) ?_; (with_reducible refine (tempo_At.calls kj12 _ _ l0 t237 t238 t239 t249 t250 _ ?side1 ?side2 A48.out).mono ?_); (case side1 => repeat (first | exact (Kd.C_below HR0.out HB.out) | (with_reducible refine Kd.C_alloc ?_ _) | (with_reducible refine Kd.C_drewN ?_ _) | (with_reducible refine Kd.C_drew ?_))); (case side2 => exact HC0.out); rintro e w58 ⟨rfl, hb⟩; refine ⟨_, rfl, ?_⟩; have n0_ := Aside0.mk (blk_below (g := gb234) (o := .cells #[.int .i64 a3_0, .int .i64 a3_1, .int .i64 a3_2] 37 (0, 0)) (by (with_reducible repeat (first | refine blk_drewN ?_ _ | refine blk_drew ?_ | refine blk_alloc ?_ _)); exact BK234.out) hb); have n1_ := Aside0.mk (blk_below (g := gb241) (o := .cells #[.int .i64 t237, .int .i64 t238, .int .i64 t239] 37 (0, 0)) (by (with_reducible repeat (first | refine blk_drewN ?_ _ | refine blk_drew ?_ | refine blk_alloc ?_ _)); exact BK241.out) hb); have n2_ := Aside0.mk (blk_below (g := gb246) (o := .cells #[.int .i64 t242, .int .i64 t243, .int .i64 t244] 37 (0, 0)) (by (with_reducible repeat (first | refine blk_drewN ?_ _ | refine blk_drew ?_ | refine blk_alloc ?_ _)); exact BK246.out) hb); have n3_ := Aside0.mk (below_step (by repeat (first | (with_reducible first | exact HB.out | apply below_alloc | apply pw_below_drewN | apply below_drew1 | refine below_set ?_ GE234.out | refine below_set ?_ GE241.out | refine below_set ?_ GE246.out) | exact HB.out)) hb); clear BK234; clear BK241; clear BK246; clear HB; have BK234 := n0_; have BK241 := n1_; have BK246 := n2_; have HB := n3_; clear n0_ n1_ n2_ n3_; (try clear hb); (try clear hb2); (try clear hk); (try clear hi)))
                go_ret
                exact ⟨by first | rfl | (simp [errW_none, errW_some] <;> rfl) | (simp [*, errW_none, errW_some] <;> rfl), by repeat (first | (with_reducible first | exact HB.out | apply below_alloc | apply pw_below_drewN | apply below_drew1 | refine below_set ?_ GE234.out | refine below_set ?_ GE241.out | refine below_set ?_ GE246.out) | exact HB.out)⟩
            · rw [if_neg c49] at H
              have c49b0 : (t249 == a1) = false := beq_eq_false_iff_ne.mpr c49
              have c49b1 : (t249 != a1) = true := bne_iff_ne.mpr c49
              obtain rfl := Option.some.inj H
              have hnb59 := NB241_234.out
              have hnc59 := NB234_241.out
              have hnb60 := NB241_246.out
              have hnc60 := NB246_241.out
              have hcz61_0 : wc.cell? ⟨gb241, 0, none⟩ = some (.int .i64 t237) := (blk_cell BK241.out 0).trans rfl
              have hcz61_1 : wc.cell? ⟨gb241, 1, none⟩ = some (.int .i64 t238) := (blk_cell BK241.out 1).trans rfl
              have hcz61_2 : wc.cell? ⟨gb241, 2, none⟩ = some (.int .i64 t239) := (blk_cell BK241.out 2).trans rfl
              have hfz61_0 := blk_frozen BK241.out 0
              have hfz61_1 := blk_frozen BK241.out 1
              have hfz61_2 := blk_frozen BK241.out 2
              go_wp2_with (first | ((with_reducible refine gate_callee (f := 20) rfl ?_); refine goesL_ (some 55) rfl rfl Try.func20 (by kernel_rfl) rfl #[.slice A0 l0.length c0, .agg #[.int .i64 t237, .int .i64 t238, .int .i64 t239]] rfl (by (try simp only [List.map_toArray, List.map_cons, List.map_nil]); first | done | rfl | (simp only [List.length_drop, List.length_take]; rfl)) ?_; (with_reducible refine (tempo_At.calls kj12 _ _ l0 t237 t238 t239 t249 t250 _ ?side1 ?side2 A48.out).mono ?_); (case side1 => repeat (first | exact (Kd.C_below HR0.out HB.out) | (with_reducible refine Kd.C_alloc ?_ _) | (with_reducible refine Kd.C_drewN ?_ _) | (with_reducible refine Kd.C_drew ?_))); (case side2 => exact HC0.out); rintro e w62 ⟨rfl, hb⟩; refine ⟨_, rfl, ?_⟩; have n0_ := Aside0.mk (blk_below (g := gb234) (o := .cells #[.int .i64 a3_0, .int .i64 a3_1, .int .i64 a3_2] 37 (0, 0)) (by (with_reducible repeat (first | refine blk_drewN ?_ _ | refine blk_drew ?_ | refine blk_alloc ?_ _)); exact BK234.out) hb); have n1_ := Aside0.mk (blk_below (g := gb241) (o := .cells #[.int .i64 t237, .int .i64 t238, .int .i64 t239] 37 (0, 0)) (by (with_reducible repeat (first | refine blk_drewN ?_ _ | refine blk_drew ?_ | refine blk_alloc ?_ _)); exact BK241.out) hb); have n2_ := Aside0.mk (blk_below (g := gb246) (o := .cells #[.int .i64 t242, .int .i64 t243, .int .i64 t244] 37 (0, 0)) (by (with_reducible repeat (first | refine blk_drewN ?_ _ | refine blk_drew ?_ | refine blk_alloc ?_ _)); exact BK246.out) hb); have n3_ := Aside0.mk (below_step (by repeat (first | (with_reducible first | exact HB.out | apply below_alloc | apply pw_below_drewN | apply below_drew1 | refine below_set ?_ GE234.out | refine below_set ?_ GE241.out | refine below_set ?_ GE246.out) | exact HB.out)) hb); clear BK234; clear BK241; clear BK246; clear HB; have BK234 := n0_; have BK241 := n1_; have BK246 := n2_; have HB := n3_; clear n0_ n1_ n2_ n3_; (try clear hb); (try clear hb2); (try clear hk); (try clear hi)))
              go_ret
              exact ⟨by first | rfl | (simp [errW_none, errW_some] <;> rfl) | (simp [*, errW_none, errW_some] <;> rfl), by repeat (first | (with_reducible first | exact HB.out | apply below_alloc | apply pw_below_drewN | apply below_drew1 | refine below_set ?_ GE234.out | refine below_set ?_ GE241.out | refine below_set ?_ GE246.out) | exact HB.out)⟩
          · rw [if_neg c47] at H
            have c47b0 : (t240 == 0) = false := beq_eq_false_iff_ne.mpr c47
            have c47b1 : (t240 != 0) = true := bne_iff_ne.mpr c47
            (first | rw [c47b0] | (simp only [i64_w, i32_w]; rw [c47b0]) | skip)
            have H' := Aside0.mk H
            clear H
            go_wp2
            go_meet
            case rel => exact ⟨_, H', ⟨by have := HJ12.out; first | omega | exact Nat.le_refl _⟩, ⟨by (with_reducible repeat (first | refine blk_drewN ?_ _ | refine blk_drew ?_ | refine blk_alloc ?_ _)); exact BK234.out⟩, ⟨by (with_reducible repeat (first | refine blk_drewN ?_ _ | refine blk_drew ?_ | refine blk_alloc ?_ _)); exact BK241.out⟩, ⟨by (with_reducible repeat (first | refine blk_drewN ?_ _ | refine blk_drew ?_ | refine blk_alloc ?_ _)); exact BK246.out⟩, ⟨by repeat (first | (with_reducible first | exact HB.out | apply below_alloc | apply pw_below_drewN | apply below_drew1 | refine below_set ?_ GE234.out | refine below_set ?_ GE241.out | refine below_set ?_ GE246.out) | exact HB.out)⟩⟩
         case rest =>
          clear HC46
          try clear c1
          try clear c2
          try clear p2
          try clear c3
          try clear c4
          try clear c5
          try clear c6
          try clear c8
          try clear c9
          try clear c10
          try clear c16
          try clear c17
          try clear c18
          try clear c20
          try clear c22
          try clear c23
          try clear c25
          try clear c25b0
          try clear c26
          try clear c27
          try clear c29
          try clear c31
          try clear c31b0
          try clear c31b1
          try clear c34
          try clear c35
          try clear c37
          try clear c40
          try clear c41
          try clear c43
          try clear c45
          try clear c47
          try clear c47b0
          try clear c47b1
          try clear c49
          try clear c49b0
          try clear c49b1
          try clear c50
          try clear c50b0
          try clear c50b1
          try clear c51
          try clear c52
          try clear c55
          try clear c56
          try clear c59
          try clear c60
          try clear hcz19_0
          try clear hcz19_1
          try clear hcz19_2
          try clear hcz24_0
          try clear hcz24_1
          try clear hcz24_2
          try clear hcz28_0
          try clear hcz28_1
          try clear hcz28_2
          try clear hcz30_0
          try clear hcz30_1
          try clear hcz30_2
          try clear hcz36_0
          try clear hcz36_1
          try clear hcz36_2
          try clear hcz38_0
          try clear hcz38_1
          try clear hcz38_2
          try clear hcz42_0
          try clear hcz42_1
          try clear hcz42_2
          try clear hcz44_0
          try clear hcz44_1
          try clear hcz44_2
          try clear hcz53_0
          try clear hcz53_1
          try clear hcz53_2
          try clear hcz57_0
          try clear hcz57_1
          try clear hcz57_2
          try clear hcz61_0
          try clear hcz61_1
          try clear hcz61_2
          try clear hfz19_0
          try clear hfz19_1
          try clear hfz19_2
          try clear hfz24_0
          try clear hfz24_1
          try clear hfz24_2
          try clear hfz28_0
          try clear hfz28_1
          try clear hfz28_2
          try clear hfz30_0
          try clear hfz30_1
          try clear hfz30_2
          try clear hfz36_0
          try clear hfz36_1
          try clear hfz36_2
          try clear hfz38_0
          try clear hfz38_1
          try clear hfz38_2
          try clear hfz42_0
          try clear hfz42_1
          try clear hfz42_2
          try clear hfz44_0
          try clear hfz44_1
          try clear hfz44_2
          try clear hfz53_0
          try clear hfz53_1
          try clear hfz53_2
          try clear hfz57_0
          try clear hfz57_1
          try clear hfz57_2
          try clear hfz61_0
          try clear hfz61_1
          try clear hfz61_2
          try clear p2
          obtain ⟨kq, HA, HJ45, BK234, BK241, BK246, HB⟩ := hcut
          cases kq with
          | zero => exact absurd HA.out (by simp [continuolaw30_TempoPlaces.j1])
          | succ kj45 =>
           have H := HA.out
           clear HA
           simp only [continuolaw30_TempoPlaces.j1] at H
           replace H := Option.bind_eq_some_iff.mp H
           obtain ⟨⟨t251, t252⟩, A630, H⟩ := H
           replace H : ((continuoref30_At.f kj45 l0 a3_0 a3_1 a3_2).bind fun bt253 => (if t251 = bt253.1 then (continuolaw30_TempoPlaces.j2 kj45 l0 a2 t252 t251 (t252 != bt253.2) a3_0 a3_1 a3_2) else (continuolaw30_TempoPlaces.j2 kj45 l0 a2 t252 t251 true a3_0 a3_1 a3_2))) = some r := H
           have A63 := Aside0.mk A630
           clear A630
           replace H := Option.bind_eq_some_iff.mp H
           obtain ⟨⟨t253, t254⟩, A640, H⟩ := H
           replace H : (if t251 = t253 then (continuolaw30_TempoPlaces.j2 kj45 l0 a2 t252 t251 (t252 != t254) a3_0 a3_1 a3_2) else (continuolaw30_TempoPlaces.j2 kj45 l0 a2 t252 t251 true a3_0 a3_1 a3_2)) = some r := H
           have A64 := Aside0.mk A640
           clear A640
           have HC65 := Aside0.mk H
           clear H
           have hnb66 := NB234_241.out
           have hnc66 := NB241_234.out
           have hnb67 := NB234_246.out
           have hnc67 := NB246_234.out
           have hcz68_0 : wc.cell? ⟨gb234, 0, none⟩ = some (.int .i64 a3_0) := (blk_cell BK234.out 0).trans rfl
           have hcz68_1 : wc.cell? ⟨gb234, 1, none⟩ = some (.int .i64 a3_1) := (blk_cell BK234.out 1).trans rfl
           have hcz68_2 : wc.cell? ⟨gb234, 2, none⟩ = some (.int .i64 a3_2) := (blk_cell BK234.out 2).trans rfl
           have hfz68_0 := blk_frozen BK234.out 0
           have hfz68_1 := blk_frozen BK234.out 1
           have hfz68_2 := blk_frozen BK234.out 2
           go_upto_region 15 with (first | ((with_reducible refine gate_callee (f := 20) rfl ?_); refine goesL_ (some 68) rfl rfl Try.func20 (by kernel_rfl) rfl #[.slice A0 l0.length c0, .agg #[.int .i64 a3_0, .int .i64 a3_1, .int .i64 a3_2]] rfl (by (try simp only [List.map_toArray, List.map_cons, List.map_nil]); first | done | rfl | (simp only [List.length_drop, List.length_take]; rfl)) ?_; (with_reducible refine (tempo_At.calls kj45 _ _ l0 a3_0 a3_1 a3_2 t251 t252 _ ?side1 ?side2 A63.out).mono ?_); (case side1 => repeat (first | exact (Kd.C_below HR0.out HB.out) | (with_reducible refine Kd.C_alloc ?_ _) | (with_reducible refine Kd.C_drewN ?_ _) | (with_reducible refine Kd.C_drew ?_))); (case side2 => exact HC0.out); rintro e w69 ⟨rfl, hb⟩; refine ⟨_, rfl, ?_⟩; have n0_ := Aside0.mk (blk_below (g := gb234) (o := .cells #[.int .i64 a3_0, .int .i64 a3_1, .int .i64 a3_2] 37 (0, 0)) (by (with_reducible repeat (first | refine blk_drewN ?_ _ | refine blk_drew ?_ | refine blk_alloc ?_ _)); exact BK234.out) hb); have n1_ := Aside0.mk (blk_below (g := gb241) (o := .cells #[.int .i64 t237, .int .i64 t238, .int .i64 t239] 37 (0, 0)) (by (with_reducible repeat (first | refine blk_drewN ?_ _ | refine blk_drew ?_ | refine blk_alloc ?_ _)); exact BK241.out) hb); have n2_ := Aside0.mk (blk_below (g := gb246) (o := .cells #[.int .i64 t242, .int .i64 t243, .int .i64 t244] 37 (0, 0)) (by (with_reducible repeat (first | refine blk_drewN ?_ _ | refine blk_drew ?_ | refine blk_alloc ?_ _)); exact BK246.out) hb); have n3_ := Aside0.mk (below_step (by repeat (first | (with_reducible first | exact HB.out | apply below_alloc | apply pw_below_drewN | apply below_drew1 | refine below_set ?_ GE234.out | refine below_set ?_ GE241.out | refine below_set ?_ GE246.out) | exact HB.out)) hb); clear BK234; clear BK241; clear BK246; clear HB; have BK234 := n0_; have BK241 := n1_; have BK246 := n2_; have HB := n3_; clear n0_ n1_ n2_ n3_; (try clear hb); (try clear hb2); (try clear hk); (try clear hi); have hcz70_0 : w69.cell? ⟨gb234, 0, none⟩ = some (.int .i64 a3_0) := (blk_cell BK234.out 0).trans rfl; have hcz70_1 : w69.cell? ⟨gb234, 1, none⟩ = some (.int .i64 a3_1) := (blk_cell BK234.out 1).trans rfl; have hcz70_2 : w69.cell? ⟨gb234, 2, none⟩ = some (.int .i64 a3_2) := (blk_cell BK234.out 2).trans rfl; have hfz70_0 := blk_frozen BK234.out 0; have hfz70_1 := blk_frozen BK234.out 1; have hfz70_2 := blk_frozen BK234.out 2) | ((with_reducible refine gate_callee (f := 21) rfl ?_); refine goesL_ (some 74) rfl rfl Try.func21 (by kernel_rfl) rfl #[.slice A0 l0.length c0, .agg #[.int .i64 a3_0, .int .i64 a3_1, .int .i64 a3_2]] rfl (by (try simp only [List.map_toArray, List.map_cons, List.map_nil]); first | done | rfl | (simp only [List.length_drop, List.length_take]; rfl)) ?_; (with_reducible refine (continuoref30_At.calls kj45 _ _ l0 a3_0 a3_1 a3_2 t253 t254 _ ?side1 ?side2 A64.out).mono ?_); (case side1 => repeat (first | exact (Kd.C_below HR0.out HB.out) | (with_reducible refine Kd.C_alloc ?_ _) | (with_reducible refine Kd.C_drewN ?_ _) | (with_reducible refine Kd.C_drew ?_))); (case side2 => exact HC0.out); rintro e w71 ⟨rfl, hb⟩; refine ⟨_, rfl, ?_⟩; have n0_ := Aside0.mk (blk_below (g := gb234) (o := .cells #[.int .i64 a3_0, .int .i64 a3_1, .int .i64 a3_2] 37 (0, 0)) (by (with_reducible repeat (first | refine blk_drewN ?_ _ | refine blk_drew ?_ | refine blk_alloc ?_ _)); exact BK234.out) hb); have n1_ := Aside0.mk (blk_below (g := gb241) (o := .cells #[.int .i64 t237, .int .i64 t238, .int .i64 t239] 37 (0, 0)) (by (with_reducible repeat (first | refine blk_drewN ?_ _ | refine blk_drew ?_ | refine blk_alloc ?_ _)); exact BK241.out) hb); have n2_ := Aside0.mk (blk_below (g := gb246) (o := .cells #[.int .i64 t242, .int .i64 t243, .int .i64 t244] 37 (0, 0)) (by (with_reducible repeat (first | refine blk_drewN ?_ _ | refine blk_drew ?_ | refine blk_alloc ?_ _)); exact BK246.out) hb); have n3_ := Aside0.mk (below_step (by repeat (first | (with_reducible first | exact HB.out | apply below_alloc | apply pw_below_drewN | apply below_drew1 | refine below_set ?_ GE234.out | refine below_set ?_ GE241.out | refine below_set ?_ GE246.out) | exact HB.out)) hb); clear BK234; clear BK241; clear BK246; clear HB; have BK234 := n0_; have BK241 := n1_; have BK246 := n2_; have HB := n3_; clear n0_ n1_ n2_ n3_; (try clear hb); (try clear hb2); (try clear hk); (try clear hi)))
           (try simp only [Act.put, List.setIfInBounds_toArray, List.set_cons_zero, List.set_cons_succ])
           go_cut [84] (fun v84 wc => ∃ (kq : Nat) (x84_64 : Bool), v84 = .bool x84_64 ∧ Aside0 (continuolaw30_TempoPlaces.j2 kq l0 a2 t252 t251 x84_64 a3_0 a3_1 a3_2 = some r) ∧ Aside0 (kq ≤ kj45) ∧ Aside0 (wc.heap[gb234]? = some (.cells #[.int .i64 a3_0, .int .i64 a3_1, .int .i64 a3_2] 37 (0, 0))) ∧ Aside0 (wc.heap[gb241]? = some (.cells #[.int .i64 t237, .int .i64 t238, .int .i64 t239] 37 (0, 0))) ∧ Aside0 (wc.heap[gb246]? = some (.cells #[.int .i64 t242, .int .i64 t243, .int .i64 t244] 37 (0, 0))) ∧ Aside0 (Below w.heap.size w wc))
           case first =>
            have H := HC65.out
            clear HC65
            by_cases c72 : t251 = t253
            · rw [if_pos c72] at H
              have c72b0 : (t251 == t253) = true := beq_iff_eq.mpr c72
              have c72b1 : (t251 != t253) = false := bne_eq_false_iff_eq.mpr c72
              clear c72
              (first | rw [c72b0] | (simp only [i64_w, i32_w]; rw [c72b0]) | skip)
              have H' := Aside0.mk H
              clear H
              go_wp2
              go_meet
              case rel => exact ⟨_, ((t252 != t254)), (by first | rfl | (simp; done) | (simp [*]; done)), H', ⟨by have := HJ12.out; have := HJ45.out; first | omega | exact Nat.le_refl _⟩, ⟨by (with_reducible repeat (first | refine blk_drewN ?_ _ | refine blk_drew ?_ | refine blk_alloc ?_ _)); exact BK234.out⟩, ⟨by (with_reducible repeat (first | refine blk_drewN ?_ _ | refine blk_drew ?_ | refine blk_alloc ?_ _)); exact BK241.out⟩, ⟨by (with_reducible repeat (first | refine blk_drewN ?_ _ | refine blk_drew ?_ | refine blk_alloc ?_ _)); exact BK246.out⟩, ⟨by repeat (first | (with_reducible first | exact HB.out | apply below_alloc | apply pw_below_drewN | apply below_drew1 | refine below_set ?_ GE234.out | refine below_set ?_ GE241.out | refine below_set ?_ GE246.out) | exact HB.out)⟩⟩
            · rw [if_neg c72] at H
              have c72b0 : (t251 == t253) = false := beq_eq_false_iff_ne.mpr c72
              have c72b1 : (t251 != t253) = true := bne_iff_ne.mpr c72
              (first | rw [c72b0] | (simp only [i64_w, i32_w]; rw [c72b0]) | skip)
              have H' := Aside0.mk H
              clear H
              go_wp2
              go_meet
              case rel => exact ⟨_, (true), (by first | rfl | (simp; done) | (simp [*]; done)), H', ⟨by have := HJ12.out; have := HJ45.out; first | omega | exact Nat.le_refl _⟩, ⟨by (with_reducible repeat (first | refine blk_drewN ?_ _ | refine blk_drew ?_ | refine blk_alloc ?_ _)); exact BK234.out⟩, ⟨by (with_reducible repeat (first | refine blk_drewN ?_ _ | refine blk_drew ?_ | refine blk_alloc ?_ _)); exact BK241.out⟩, ⟨by (with_reducible repeat (first | refine blk_drewN ?_ _ | refine blk_drew ?_ | refine blk_alloc ?_ _)); exact BK246.out⟩, ⟨by repeat (first | (with_reducible first | exact HB.out | apply below_alloc | apply pw_below_drewN | apply below_drew1 | refine below_set ?_ GE234.out | refine below_set ?_ GE241.out | refine below_set ?_ GE246.out) | exact HB.out)⟩⟩
           case rest =>
            clear HC65
            try clear c1
            try clear c2
            try clear p2
            try clear c3
            try clear c4
            try clear c5
            try clear c6
            try clear c7
            try clear c8
            try clear c9
            try clear c10
            try clear c16
            try clear c17
            try clear c18
            try clear c20
            try clear c21
            try clear c22
            try clear c23
            try clear c25
            try clear c25b0
            try clear c26
            try clear c27
            try clear c29
            try clear c31
            try clear c31b0
            try clear c31b1
            try clear c34
            try clear c35
            try clear c37
            try clear c40
            try clear c41
            try clear c43
            try clear c45
            try clear c47
            try clear c47b0
            try clear c47b1
            try clear c49
            try clear c49b0
            try clear c49b1
            try clear c50
            try clear c50b0
            try clear c50b1
            try clear c51
            try clear c52
            try clear c55
            try clear c56
            try clear c59
            try clear c60
            try clear c66
            try clear c67
            try clear c72
            try clear c72b0
            try clear c72b1
            try clear hcz19_0
            try clear hcz19_1
            try clear hcz19_2
            try clear hcz24_0
            try clear hcz24_1
            try clear hcz24_2
            try clear hcz28_0
            try clear hcz28_1
            try clear hcz28_2
            try clear hcz30_0
            try clear hcz30_1
            try clear hcz30_2
            try clear hcz36_0
            try clear hcz36_1
            try clear hcz36_2
            try clear hcz38_0
            try clear hcz38_1
            try clear hcz38_2
            try clear hcz42_0
            try clear hcz42_1
            try clear hcz42_2
            try clear hcz44_0
            try clear hcz44_1
            try clear hcz44_2
            try clear hcz53_0
            try clear hcz53_1
            try clear hcz53_2
            try clear hcz57_0
            try clear hcz57_1
            try clear hcz57_2
            try clear hcz61_0
            try clear hcz61_1
            try clear hcz61_2
            try clear hcz68_0
            try clear hcz68_1
            try clear hcz68_2
            try clear hcz70_0
            try clear hcz70_1
            try clear hcz70_2
            try clear hfz19_0
            try clear hfz19_1
            try clear hfz19_2
            try clear hfz24_0
            try clear hfz24_1
            try clear hfz24_2
            try clear hfz28_0
            try clear hfz28_1
            try clear hfz28_2
            try clear hfz30_0
            try clear hfz30_1
            try clear hfz30_2
            try clear hfz36_0
            try clear hfz36_1
            try clear hfz36_2
            try clear hfz38_0
            try clear hfz38_1
            try clear hfz38_2
            try clear hfz42_0
            try clear hfz42_1
            try clear hfz42_2
            try clear hfz44_0
            try clear hfz44_1
            try clear hfz44_2
            try clear hfz53_0
            try clear hfz53_1
            try clear hfz53_2
            try clear hfz57_0
            try clear hfz57_1
            try clear hfz57_2
            try clear hfz61_0
            try clear hfz61_1
            try clear hfz61_2
            try clear hfz68_0
            try clear hfz68_1
            try clear hfz68_2
            try clear hfz70_0
            try clear hfz70_1
            try clear hfz70_2
            try clear p2
            obtain ⟨kq, x84_64, rfl, HA, HJ64, BK234, BK241, BK246, HB⟩ := hcut
            cases kq with
            | zero => exact absurd HA.out (by simp [continuolaw30_TempoPlaces.j2])
            | succ kj64 =>
             have H := HA.out
             clear HA
             simp only [continuolaw30_TempoPlaces.j2] at H
             by_cases c73 : x84_64 = true
             · subst c73
               have H1 : (some false) = some r := by rw [if_pos rfl] at H; exact H
               clear H
               have H := H1
               clear H1
               obtain rfl := Option.some.inj H
               go_wp2
               go_ret
               exact ⟨by first | rfl | (simp [errW_none, errW_some] <;> rfl) | (simp [*, errW_none, errW_some] <;> rfl), by repeat (first | (with_reducible first | exact HB.out | apply below_alloc | apply pw_below_drewN | apply below_drew1 | refine below_set ?_ GE234.out | refine below_set ?_ GE241.out | refine below_set ?_ GE246.out) | exact HB.out)⟩
             · replace c73 := Bool.eq_false_iff.mpr c73
               subst c73
               have H1 : (if t252 = 0 then ((tempo_Place.f kj64 l0 t251).bind fun bt255 => (if (!(bt255.1 == a3_0) || (!(bt255.2.1 == a3_1) || (!(bt255.2.2.1 == a3_2)))) = true then (continuolaw30_TempoPlaces.j3 kj64 l0 a2 true) else (continuolaw30_TempoPlaces.j3 kj64 l0 a2 (bt255.2.2.2 != 0)))) else ((tempo_Bar.f kj64 l0 a2).bind fun bt264 => ((continuoref30_Bar.f kj64 l0 a2).bind fun bt266 => (if bt264.1 = bt266.1 then (some (bt264.2 == bt266.2)) else (some false))))) = some r := by rw [if_neg (show ¬ (false = true) by decide)] at H; exact H
               clear H
               have H := H1
               clear H1
               by_cases c74 : t252 = 0
               · rw [if_pos c74] at H
                 have c74b0 : (t252 == 0) = true := beq_iff_eq.mpr c74
                 have c74b1 : (t252 != 0) = false := bne_eq_false_iff_eq.mpr c74
                 clear c74
                 replace H := Option.bind_eq_some_iff.mp H
                 obtain ⟨⟨t255, t256, t257, t258⟩, A750, H⟩ := H
                 replace H : (if (!(t255 == a3_0) || (!(t256 == a3_1) || (!(t257 == a3_2)))) = true then (continuolaw30_TempoPlaces.j3 kj64 l0 a2 true) else (continuolaw30_TempoPlaces.j3 kj64 l0 a2 (t258 != 0))) = some r := H
                 have A75 := Aside0.mk A750
                 clear A750
                 have HC76 := Aside0.mk H
                 clear H
                 go_upto_region 19 with (first | ((with_reducible refine gate_callee (f := 16) rfl ?_); refine goesL_ (some 90) rfl rfl Try.func16 (by kernel_rfl) rfl #[.slice A0 l0.length c0, .int .i64 t251] rfl (by (try simp only [List.map_toArray, List.map_cons, List.map_nil]); first | done | rfl | (simp only [List.length_drop, List.length_take]; rfl)) ?_; (with_reducible refine (tempo_Place.calls kj64 _ _ l0 t251 t255 t256 t257 t258 _ ?side1 ?side2 A75.out).mono ?_); (case side1 => repeat (first | exact (Kd.C_below HR0.out HB.out) | (with_reducible refine Kd.C_alloc ?_ _) | (with_reducible refine Kd.C_drewN ?_ _) | (with_reducible refine Kd.C_drew ?_))); (case side2 => exact HC0.out); rintro e w77 ⟨rfl, hb⟩; refine ⟨_, rfl, ?_⟩; have n0_ := Aside0.mk (blk_below (g := gb234) (o := .cells #[.int .i64 a3_0, .int .i64 a3_1, .int .i64 a3_2] 37 (0, 0)) (by (with_reducible repeat (first | refine blk_drewN ?_ _ | refine blk_drew ?_ | refine blk_alloc ?_ _)); exact BK234.out) hb); have n1_ := Aside0.mk (blk_below (g := gb241) (o := .cells #[.int .i64 t237, .int .i64 t238, .int .i64 t239] 37 (0, 0)) (by (with_reducible repeat (first | refine blk_drewN ?_ _ | refine blk_drew ?_ | refine blk_alloc ?_ _)); exact BK241.out) hb); have n2_ := Aside0.mk (blk_below (g := gb246) (o := .cells #[.int .i64 t242, .int .i64 t243, .int .i64 t244] 37 (0, 0)) (by (with_reducible repeat (first | refine blk_drewN ?_ _ | refine blk_drew ?_ | refine blk_alloc ?_ _)); exact BK246.out) hb); have n3_ := Aside0.mk (below_step (by repeat (first | (with_reducible first | exact HB.out | apply below_alloc | apply pw_below_drewN | apply below_drew1 | refine below_set ?_ GE234.out | refine below_set ?_ GE241.out | refine below_set ?_ GE246.out) | exact HB.out)) hb); clear BK234; clear BK241; clear BK246; clear HB; have BK234 := n0_; have BK241 := n1_; have BK246 := n2_; have HB := n3_; clear n0_ n1_ n2_ n3_; (try clear hb); (try clear hb2); (try clear hk); (try clear hi)) | ((with_reducible refine gate_dst (N := 17) rfl ?_); refine box_event ?hg (N := 17) ?hd (cs := #[.int .i64 0, .int .i64 0, .int .i64 0]) (t := 37) ?hr ?_; (case hd => rfl); (case hg => rfl); (case hr => first | (go_simp; done) | (go_simp; rfl)); intro gb259 hg w78 hbox hb; have n0_ := Aside0.mk (blk_below (g := gb234) (o := .cells #[.int .i64 a3_0, .int .i64 a3_1, .int .i64 a3_2] 37 (0, 0)) (by (with_reducible repeat (first | refine blk_drewN ?_ _ | refine blk_drew ?_ | refine blk_alloc ?_ _)); exact BK234.out) hb); have n1_ := Aside0.mk (blk_below (g := gb241) (o := .cells #[.int .i64 t237, .int .i64 t238, .int .i64 t239] 37 (0, 0)) (by (with_reducible repeat (first | refine blk_drewN ?_ _ | refine blk_drew ?_ | refine blk_alloc ?_ _)); exact BK241.out) hb); have n2_ := Aside0.mk (blk_below (g := gb246) (o := .cells #[.int .i64 t242, .int .i64 t243, .int .i64 t244] 37 (0, 0)) (by (with_reducible repeat (first | refine blk_drewN ?_ _ | refine blk_drew ?_ | refine blk_alloc ?_ _)); exact BK246.out) hb); have n3_ := Aside0.mk (below_step (by repeat (first | (with_reducible first | exact HB.out | apply below_alloc | apply pw_below_drewN | apply below_drew1 | refine below_set ?_ GE234.out | refine below_set ?_ GE241.out | refine below_set ?_ GE246.out) | exact HB.out)) hb); have n4_ := Aside0.mk (hbox); have n5_ := Aside0.mk ((by rw [hg]; exact (below_size (by repeat (first | (with_reducible first | exact HB.out | apply below_alloc | apply pw_below_drewN | apply below_drew1 | refine below_set ?_ GE234.out | refine below_set ?_ GE241.out | refine below_set ?_ GE246.out) | exact HB.out))) : w.heap.size ≤ gb259)); have n6_ := Aside0.mk ((by rw [hg]; exact (below_size (by repeat (first | (with_reducible first | exact HB.out | apply below_alloc | apply pw_below_drewN | apply below_drew1 | refine below_set ?_ GE234.out | refine below_set ?_ GE241.out | refine below_set ?_ GE246.out) | exact HB.out))) : w.heap.size ≤ gb259)); have n7_ := Aside0.mk ((by rw [hg]; exact Nat.ne_of_lt (blk_lt (g := gb234) (o := .cells #[.int .i64 a3_0, .int .i64 a3_1, .int .i64 a3_2] 37 (0, 0)) (by (with_reducible repeat (first | refine blk_drewN ?_ _ | refine blk_drew ?_ | refine blk_alloc ?_ _)); exact BK234.out)) : gb234 ≠ gb259)); have n8_ := Aside0.mk ((by rw [hg]; exact Nat.ne_of_gt (blk_lt (g := gb234) (o := .cells #[.int .i64 a3_0, .int .i64 a3_1, .int .i64 a3_2] 37 (0, 0)) (by (with_reducible repeat (first | refine blk_drewN ?_ _ | refine blk_drew ?_ | refine blk_alloc ?_ _)); exact BK234.out)) : gb259 ≠ gb234)); have n9_ := Aside0.mk ((by rw [hg]; exact Nat.ne_of_lt (blk_lt (g := gb241) (o := .cells #[.int .i64 t237, .int .i64 t238, .int .i64 t239] 37 (0, 0)) (by (with_reducible repeat (first | refine blk_drewN ?_ _ | refine blk_drew ?_ | refine blk_alloc ?_ _)); exact BK241.out)) : gb241 ≠ gb259)); have n10_ := Aside0.mk ((by rw [hg]; exact Nat.ne_of_gt (blk_lt (g := gb241) (o := .cells #[.int .i64 t237, .int .i64 t238, .int .i64 t239] 37 (0, 0)) (by (with_reducible repeat (first | refine blk_drewN ?_ _ | refine blk_drew ?_ | refine blk_alloc ?_ _)); exact BK241.out)) : gb259 ≠ gb241)); have n11_ := Aside0.mk ((by rw [hg]; exact Nat.ne_of_lt (blk_lt (g := gb246) (o := .cells #[.int .i64 t242, .int .i64 t243, .int .i64 t244] 37 (0, 0)) (by (with_reducible repeat (first | refine blk_drewN ?_ _ | refine blk_drew ?_ | refine blk_alloc ?_ _)); exact BK246.out)) : gb246 ≠ gb259)); have n12_ := Aside0.mk ((by rw [hg]; exact Nat.ne_of_gt (blk_lt (g := gb246) (o := .cells #[.int .i64 t242, .int .i64 t243, .int .i64 t244] 37 (0, 0)) (by (with_reducible repeat (first | refine blk_drewN ?_ _ | refine blk_drew ?_ | refine blk_alloc ?_ _)); exact BK246.out)) : gb259 ≠ gb246)); clear BK234; clear BK241; clear BK246; clear HB; have BK234 := n0_; have BK241 := n1_; have BK246 := n2_; have HB := n3_; have BK259 := n4_; have GW259 := n5_; have GE259 := n6_; have NB234_259 := n7_; have NB259_234 := n8_; have NB241_259 := n9_; have NB259_241 := n10_; have NB246_259 := n11_; have NB259_246 := n12_; clear n0_ n1_ n2_ n3_ n4_ n5_ n6_ n7_ n8_ n9_ n10_ n11_ n12_; clear hb hbox hg; have hnb79 := NB259_234.out; have hnc79 := NB234_259.out; have hnb80 := NB259_241.out; have hnc80 := NB241_259.out; have hnb81 := NB259_246.out; have hnc81 := NB246_259.out; have hcz82_0 : w78.cell? ⟨gb259, 0, none⟩ = some (.int .i64 0) := (blk_cell BK259.out 0).trans rfl; have hcz82_1 : w78.cell? ⟨gb259, 1, none⟩ = some (.int .i64 0) := (blk_cell BK259.out 1).trans rfl; have hcz82_2 : w78.cell? ⟨gb259, 2, none⟩ = some (.int .i64 0) := (blk_cell BK259.out 2).trans rfl; have hfz82_0 := blk_frozen BK259.out 0; have hfz82_1 := blk_frozen BK259.out 1; have hfz82_2 := blk_frozen BK259.out 2))
                 (try simp only [Act.put, List.setIfInBounds_toArray, List.set_cons_zero, List.set_cons_succ])
                 go_cut [99] (fun v99 wc => ∃ (kq : Nat) (x99_75 : Bool), v99 = .bool x99_75 ∧ Aside0 (continuolaw30_TempoPlaces.j3 kq l0 a2 x99_75 = some r) ∧ Aside0 (kq ≤ kj64) ∧ Aside0 (wc.heap[gb234]? = some (.cells #[.int .i64 a3_0, .int .i64 a3_1, .int .i64 a3_2] 37 (0, 0))) ∧ Aside0 (wc.heap[gb241]? = some (.cells #[.int .i64 t237, .int .i64 t238, .int .i64 t239] 37 (0, 0))) ∧ Aside0 (wc.heap[gb246]? = some (.cells #[.int .i64 t242, .int .i64 t243, .int .i64 t244] 37 (0, 0))) ∧ Aside0 (wc.heap[gb259]? = some (.cells #[.int .i64 t255, .int .i64 t256, .int .i64 t257] 37 (0, 0))) ∧ Aside0 (Below w.heap.size w wc))
                 case first =>
                  have H := HC76.out
                  clear HC76
                  by_cases c83 : (!(t255 == a3_0) || (!(t256 == a3_1) || (!(t257 == a3_2)))) = true
                  · rw [if_pos c83] at H
                    have c83b0 : (!(t255 == a3_0) || (!(t256 == a3_1) || (!(t257 == a3_2)))) = true := c83
                    clear c83
                    (first | rw [c83b0] | (simp only [i64_w, i32_w]; rw [c83b0]) | skip)
                    have H' := Aside0.mk H
                    clear H
                    have hnb84 := NB259_234.out
                    have hnc84 := NB234_259.out
                    have hnb85 := NB259_241.out
                    have hnc85 := NB241_259.out
                    have hnb86 := NB259_246.out
                    have hnc86 := NB246_259.out
                    have hcz87_0 : w78.cell? ⟨gb259, 0, none⟩ = some (.int .i64 0) := (blk_cell BK259.out 0).trans rfl
                    have hcz87_1 : w78.cell? ⟨gb259, 1, none⟩ = some (.int .i64 0) := (blk_cell BK259.out 1).trans rfl
                    have hcz87_2 : w78.cell? ⟨gb259, 2, none⟩ = some (.int .i64 0) := (blk_cell BK259.out 2).trans rfl
                    have hfz87_0 := blk_frozen BK259.out 0
                    have hfz87_1 := blk_frozen BK259.out 1
                    have hfz87_2 := blk_frozen BK259.out 2
                    have hnb88 := NB234_241.out
                    have hnc88 := NB241_234.out
                    have hnb89 := NB234_246.out
                    have hnc89 := NB246_234.out
                    have hcz90_0 : w78.cell? ⟨gb234, 0, none⟩ = some (.int .i64 a3_0) := (blk_cell BK234.out 0).trans rfl
                    have hcz90_1 : w78.cell? ⟨gb234, 1, none⟩ = some (.int .i64 a3_1) := (blk_cell BK234.out 1).trans rfl
                    have hcz90_2 : w78.cell? ⟨gb234, 2, none⟩ = some (.int .i64 a3_2) := (blk_cell BK234.out 2).trans rfl
                    have hfz90_0 := blk_frozen BK234.out 0
                    have hfz90_1 := blk_frozen BK234.out 1
                    have hfz90_2 := blk_frozen BK234.out 2
                    go_wp2
                    go_meet
                    case rel => exact ⟨_, (true), (by first | rfl | (simp; done) | (simp [*]; done)), H', ⟨by have := HJ12.out; have := HJ45.out; have := HJ64.out; first | omega | exact Nat.le_refl _⟩, ⟨by (with_reducible repeat (first | refine blk_drewN ?_ _ | refine blk_drew ?_ | refine blk_alloc ?_ _)); refine blk_far ?_ NB234_259.out _; (with_reducible repeat (first | refine blk_drewN ?_ _ | refine blk_drew ?_ | refine blk_alloc ?_ _)); refine blk_far ?_ NB234_259.out _; (with_reducible repeat (first | refine blk_drewN ?_ _ | refine blk_drew ?_ | refine blk_alloc ?_ _)); refine blk_far ?_ NB234_259.out _; (with_reducible repeat (first | refine blk_drewN ?_ _ | refine blk_drew ?_ | refine blk_alloc ?_ _)); exact BK234.out⟩, ⟨by (with_reducible repeat (first | refine blk_drewN ?_ _ | refine blk_drew ?_ | refine blk_alloc ?_ _)); refine blk_far ?_ NB241_259.out _; (with_reducible repeat (first | refine blk_drewN ?_ _ | refine blk_drew ?_ | refine blk_alloc ?_ _)); refine blk_far ?_ NB241_259.out _; (with_reducible repeat (first | refine blk_drewN ?_ _ | refine blk_drew ?_ | refine blk_alloc ?_ _)); refine blk_far ?_ NB241_259.out _; (with_reducible repeat (first | refine blk_drewN ?_ _ | refine blk_drew ?_ | refine blk_alloc ?_ _)); exact BK241.out⟩, ⟨by (with_reducible repeat (first | refine blk_drewN ?_ _ | refine blk_drew ?_ | refine blk_alloc ?_ _)); refine blk_far ?_ NB246_259.out _; (with_reducible repeat (first | refine blk_drewN ?_ _ | refine blk_drew ?_ | refine blk_alloc ?_ _)); refine blk_far ?_ NB246_259.out _; (with_reducible repeat (first | refine blk_drewN ?_ _ | refine blk_drew ?_ | refine blk_alloc ?_ _)); refine blk_far ?_ NB246_259.out _; (with_reducible repeat (first | refine blk_drewN ?_ _ | refine blk_drew ?_ | refine blk_alloc ?_ _)); exact BK246.out⟩, ⟨by (with_reducible repeat (first | refine blk_drewN ?_ _ | refine blk_drew ?_ | refine blk_alloc ?_ _)); refine blk_put (cs := #[.int .i64 t255, .int .i64 t256, .int .i64 0]) ?_ 2 _ rfl; (with_reducible repeat (first | refine blk_drewN ?_ _ | refine blk_drew ?_ | refine blk_alloc ?_ _)); refine blk_put (cs := #[.int .i64 t255, .int .i64 0, .int .i64 0]) ?_ 1 _ rfl; (with_reducible repeat (first | refine blk_drewN ?_ _ | refine blk_drew ?_ | refine blk_alloc ?_ _)); refine blk_put (cs := #[.int .i64 0, .int .i64 0, .int .i64 0]) ?_ 0 _ rfl; (with_reducible repeat (first | refine blk_drewN ?_ _ | refine blk_drew ?_ | refine blk_alloc ?_ _)); exact BK259.out⟩, ⟨by repeat (first | (with_reducible first | exact HB.out | apply below_alloc | apply pw_below_drewN | apply below_drew1 | refine below_set ?_ GE234.out | refine below_set ?_ GE241.out | refine below_set ?_ GE246.out | refine below_set ?_ GE259.out) | exact HB.out)⟩⟩
                  · rw [if_neg c83] at H
                    have c83b0 : (!(t255 == a3_0) || (!(t256 == a3_1) || (!(t257 == a3_2)))) = false := by simpa using c83
                    clear c83
                    (first | rw [c83b0] | (simp only [i64_w, i32_w]; rw [c83b0]) | skip)
                    have H' := Aside0.mk H
                    clear H
                    have hnb91 := NB259_234.out
                    have hnc91 := NB234_259.out
                    have hnb92 := NB259_241.out
                    have hnc92 := NB241_259.out
                    have hnb93 := NB259_246.out
                    have hnc93 := NB246_259.out
                    have hcz94_0 : w78.cell? ⟨gb259, 0, none⟩ = some (.int .i64 0) := (blk_cell BK259.out 0).trans rfl
                    have hcz94_1 : w78.cell? ⟨gb259, 1, none⟩ = some (.int .i64 0) := (blk_cell BK259.out 1).trans rfl
                    have hcz94_2 : w78.cell? ⟨gb259, 2, none⟩ = some (.int .i64 0) := (blk_cell BK259.out 2).trans rfl
                    have hfz94_0 := blk_frozen BK259.out 0
                    have hfz94_1 := blk_frozen BK259.out 1
                    have hfz94_2 := blk_frozen BK259.out 2
                    have hnb95 := NB234_241.out
                    have hnc95 := NB241_234.out
                    have hnb96 := NB234_246.out
                    have hnc96 := NB246_234.out
                    have hcz97_0 : w78.cell? ⟨gb234, 0, none⟩ = some (.int .i64 a3_0) := (blk_cell BK234.out 0).trans rfl
                    have hcz97_1 : w78.cell? ⟨gb234, 1, none⟩ = some (.int .i64 a3_1) := (blk_cell BK234.out 1).trans rfl
                    have hcz97_2 : w78.cell? ⟨gb234, 2, none⟩ = some (.int .i64 a3_2) := (blk_cell BK234.out 2).trans rfl
                    have hfz97_0 := blk_frozen BK234.out 0
                    have hfz97_1 := blk_frozen BK234.out 1
                    have hfz97_2 := blk_frozen BK234.out 2
                    go_wp2
                    go_meet
                    case rel => exact ⟨_, ((t258 != 0)), (by first | rfl | (simp; done) | (simp [*]; done)), H', ⟨by have := HJ12.out; have := HJ45.out; have := HJ64.out; first | omega | exact Nat.le_refl _⟩, ⟨by (with_reducible repeat (first | refine blk_drewN ?_ _ | refine blk_drew ?_ | refine blk_alloc ?_ _)); refine blk_far ?_ NB234_259.out _; (with_reducible repeat (first | refine blk_drewN ?_ _ | refine blk_drew ?_ | refine blk_alloc ?_ _)); refine blk_far ?_ NB234_259.out _; (with_reducible repeat (first | refine blk_drewN ?_ _ | refine blk_drew ?_ | refine blk_alloc ?_ _)); refine blk_far ?_ NB234_259.out _; (with_reducible repeat (first | refine blk_drewN ?_ _ | refine blk_drew ?_ | refine blk_alloc ?_ _)); exact BK234.out⟩, ⟨by (with_reducible repeat (first | refine blk_drewN ?_ _ | refine blk_drew ?_ | refine blk_alloc ?_ _)); refine blk_far ?_ NB241_259.out _; (with_reducible repeat (first | refine blk_drewN ?_ _ | refine blk_drew ?_ | refine blk_alloc ?_ _)); refine blk_far ?_ NB241_259.out _; (with_reducible repeat (first | refine blk_drewN ?_ _ | refine blk_drew ?_ | refine blk_alloc ?_ _)); refine blk_far ?_ NB241_259.out _; (with_reducible repeat (first | refine blk_drewN ?_ _ | refine blk_drew ?_ | refine blk_alloc ?_ _)); exact BK241.out⟩, ⟨by (with_reducible repeat (first | refine blk_drewN ?_ _ | refine blk_drew ?_ | refine blk_alloc ?_ _)); refine blk_far ?_ NB246_259.out _; (with_reducible repeat (first | refine blk_drewN ?_ _ | refine blk_drew ?_ | refine blk_alloc ?_ _)); refine blk_far ?_ NB246_259.out _; (with_reducible repeat (first | refine blk_drewN ?_ _ | refine blk_drew ?_ | refine blk_alloc ?_ _)); refine blk_far ?_ NB246_259.out _; (with_reducible repeat (first | refine blk_drewN ?_ _ | refine blk_drew ?_ | refine blk_alloc ?_ _)); exact BK246.out⟩, ⟨by (with_reducible repeat (first | refine blk_drewN ?_ _ | refine blk_drew ?_ | refine blk_alloc ?_ _)); refine blk_put (cs := #[.int .i64 t255, .int .i64 t256, .int .i64 0]) ?_ 2 _ rfl; (with_reducible repeat (first | refine blk_drewN ?_ _ | refine blk_drew ?_ | refine blk_alloc ?_ _)); refine blk_put (cs := #[.int .i64 t255, .int .i64 0, .int .i64 0]) ?_ 1 _ rfl; (with_reducible repeat (first | refine blk_drewN ?_ _ | refine blk_drew ?_ | refine blk_alloc ?_ _)); refine blk_put (cs := #[.int .i64 0, .int .i64 0, .int .i64 0]) ?_ 0 _ rfl; (with_reducible repeat (first | refine blk_drewN ?_ _ | refine blk_drew ?_ | refine blk_alloc ?_ _)); exact BK259.out⟩, ⟨by repeat (first | (with_reducible first | exact HB.out | apply below_alloc | apply pw_below_drewN | apply below_drew1 | refine below_set ?_ GE234.out | refine below_set ?_ GE241.out | refine below_set ?_ GE246.out | refine below_set ?_ GE259.out) | exact HB.out)⟩⟩
                 case rest =>
                  clear HC76
                  try clear c1
                  try clear c2
                  try clear p2
                  try clear c3
                  try clear c4
                  try clear c5
                  try clear c6
                  try clear c7
                  try clear c8
                  try clear c9
                  try clear c10
                  try clear c16
                  try clear c17
                  try clear c18
                  try clear c20
                  try clear c21
                  try clear c22
                  try clear c23
                  try clear c25
                  try clear c25b0
                  try clear c26
                  try clear c27
                  try clear c29
                  try clear c31
                  try clear c31b0
                  try clear c31b1
                  try clear c34
                  try clear c35
                  try clear c37
                  try clear c40
                  try clear c41
                  try clear c43
                  try clear c45
                  try clear c47
                  try clear c47b0
                  try clear c47b1
                  try clear c49
                  try clear c49b0
                  try clear c49b1
                  try clear c50
                  try clear c50b0
                  try clear c50b1
                  try clear c51
                  try clear c52
                  try clear c55
                  try clear c56
                  try clear c59
                  try clear c60
                  try clear c66
                  try clear c67
                  try clear c72
                  try clear c72b0
                  try clear c72b1
                  try clear c73
                  try clear c74
                  try clear c74b0
                  try clear c74b1
                  try clear c79
                  try clear c80
                  try clear c81
                  try clear c83
                  try clear c83b0
                  try clear c84
                  try clear c85
                  try clear c86
                  try clear c88
                  try clear c89
                  try clear c91
                  try clear c92
                  try clear c93
                  try clear c95
                  try clear c96
                  try clear hcz19_0
                  try clear hcz19_1
                  try clear hcz19_2
                  try clear hcz24_0
                  try clear hcz24_1
                  try clear hcz24_2
                  try clear hcz28_0
                  try clear hcz28_1
                  try clear hcz28_2
                  try clear hcz30_0
                  try clear hcz30_1
                  try clear hcz30_2
                  try clear hcz36_0
                  try clear hcz36_1
                  try clear hcz36_2
                  try clear hcz38_0
                  try clear hcz38_1
                  try clear hcz38_2
                  try clear hcz42_0
                  try clear hcz42_1
                  try clear hcz42_2
                  try clear hcz44_0
                  try clear hcz44_1
                  try clear hcz44_2
                  try clear hcz53_0
                  try clear hcz53_1
                  try clear hcz53_2
                  try clear hcz57_0
                  try clear hcz57_1
                  try clear hcz57_2
                  try clear hcz61_0
                  try clear hcz61_1
                  try clear hcz61_2
                  try clear hcz68_0
                  try clear hcz68_1
                  try clear hcz68_2
                  try clear hcz70_0
                  try clear hcz70_1
                  try clear hcz70_2
                  try clear hcz82_0
                  try clear hcz82_1
                  try clear hcz82_2
                  try clear hcz87_0
                  try clear hcz87_1
                  try clear hcz87_2
                  try clear hcz90_0
                  try clear hcz90_1
                  try clear hcz90_2
                  try clear hcz94_0
                  try clear hcz94_1
                  try clear hcz94_2
                  try clear hcz97_0
                  try clear hcz97_1
                  try clear hcz97_2
                  try clear hfz19_0
                  try clear hfz19_1
                  try clear hfz19_2
                  try clear hfz24_0
                  try clear hfz24_1
                  try clear hfz24_2
                  try clear hfz28_0
                  try clear hfz28_1
                  try clear hfz28_2
                  try clear hfz30_0
                  try clear hfz30_1
                  try clear hfz30_2
                  try clear hfz36_0
                  try clear hfz36_1
                  try clear hfz36_2
                  try clear hfz38_0
                  try clear hfz38_1
                  try clear hfz38_2
                  try clear hfz42_0
                  try clear hfz42_1
                  try clear hfz42_2
                  try clear hfz44_0
                  try clear hfz44_1
                  try clear hfz44_2
                  try clear hfz53_0
                  try clear hfz53_1
                  try clear hfz53_2
                  try clear hfz57_0
                  try clear hfz57_1
                  try clear hfz57_2
                  try clear hfz61_0
                  try clear hfz61_1
                  try clear hfz61_2
                  try clear hfz68_0
                  try clear hfz68_1
                  try clear hfz68_2
                  try clear hfz70_0
                  try clear hfz70_1
                  try clear hfz70_2
                  try clear hfz82_0
                  try clear hfz82_1
                  try clear hfz82_2
                  try clear hfz87_0
                  try clear hfz87_1
                  try clear hfz87_2
                  try clear hfz90_0
                  try clear hfz90_1
                  try clear hfz90_2
                  try clear hfz94_0
                  try clear hfz94_1
                  try clear hfz94_2
                  try clear hfz97_0
                  try clear hfz97_1
                  try clear hfz97_2
                  try clear p2
                  obtain ⟨kq, x99_75, rfl, HA, HJ75, BK234, BK241, BK246, BK259, HB⟩ := hcut
                  cases kq with
                  | zero => exact absurd HA.out (by simp [continuolaw30_TempoPlaces.j3])
                  | succ kj75 =>
                   have H := HA.out
                   clear HA
                   simp only [continuolaw30_TempoPlaces.j3] at H
                   by_cases c98 : x99_75 = true
                   · subst c98
                     have H1 : (some false) = some r := by rw [if_pos rfl] at H; exact H
                     clear H
                     have H := H1
                     clear H1
                     obtain rfl := Option.some.inj H
                     go_wp2
                     go_ret
                     exact ⟨by first | rfl | (simp [errW_none, errW_some] <;> rfl) | (simp [*, errW_none, errW_some] <;> rfl), by repeat (first | (with_reducible first | exact HB.out | apply below_alloc | apply pw_below_drewN | apply below_drew1 | refine below_set ?_ GE234.out | refine below_set ?_ GE241.out | refine below_set ?_ GE246.out | refine below_set ?_ GE259.out) | exact HB.out)⟩
                   · replace c98 := Bool.eq_false_iff.mpr c98
                     subst c98
                     have H1 : ((tempo_Bar.f kj75 l0 a2).bind fun bt260 => ((continuoref30_Bar.f kj75 l0 a2).bind fun bt262 => (if bt260.1 = bt262.1 then (some (bt260.2 == bt262.2)) else (some false)))) = some r := by rw [if_neg (show ¬ (false = true) by decide)] at H; exact H
                     clear H
                     have H := H1
                     clear H1
                     replace H := Option.bind_eq_some_iff.mp H
                     obtain ⟨⟨t260, t261⟩, A990, H⟩ := H
                     replace H : ((continuoref30_Bar.f kj75 l0 a2).bind fun bt262 => (if t260 = bt262.1 then (some (t261 == bt262.2)) else (some false))) = some r := H
                     have A99 := Aside0.mk A990
                     clear A990
                     replace H := Option.bind_eq_some_iff.mp H
                     obtain ⟨⟨t262, t263⟩, A1000, H⟩ := H
                     replace H : (if t260 = t262 then (some (t261 == t263)) else (some false)) = some r := H
                     have A100 := Aside0.mk A1000
                     clear A1000
                     by_cases c101 : t260 = t262
                     · rw [if_pos c101] at H
                       have c101b0 : (t260 == t262) = true := beq_iff_eq.mpr c101
                       have c101b1 : (t260 != t262) = false := bne_eq_false_iff_eq.mpr c101
                       clear c101
                       obtain rfl := Option.some.inj H
                       go_wp2_with (first | ((with_reducible refine gate_callee (f := 22) rfl ?_); refine goesL_ (some 103) rfl rfl Try.func22 (by kernel_rfl) rfl #[.slice A0 l0.length c0, .int .i64 a2] rfl (by (try simp only [List.map_toArray, List.map_cons, List.map_nil]); first | done | rfl | (simp only [List.length_drop, List.length_take]; rfl)) ?_; (with_reducible refine (tempo_Bar.calls kj75 _ _ l0 a2 t260 t261 _ ?side1 ?side2 A99.out).mono ?_); (case side1 => repeat (first | exact (Kd.C_below HR0.out HB.out) | (with_reducible refine Kd.C_alloc ?_ _) | (with_reducible refine Kd.C_drewN ?_ _) | (with_reducible refine Kd.C_drew ?_))); (case side2 => exact HC0.out); rintro e w102 ⟨rfl, hb⟩; refine ⟨_, rfl, ?_⟩; have n0_ := Aside0.mk (blk_below (g := gb234) (o := .cells #[.int .i64 a3_0, .int .i64 a3_1, .int .i64 a3_2] 37 (0, 0)) (by (with_reducible repeat (first | refine blk_drewN ?_ _ | refine blk_drew ?_ | refine blk_alloc ?_ _)); exact BK234.out) hb); have n1_ := Aside0.mk (blk_below (g := gb241) (o := .cells #[.int .i64 t237, .int .i64 t238, .int .i64 t239] 37 (0, 0)) (by (with_reducible repeat (first | refine blk_drewN ?_ _ | refine blk_drew ?_ | refine blk_alloc ?_ _)); exact BK241.out) hb); have n2_ := Aside0.mk (blk_below (g := gb246) (o := .cells #[.int .i64 t242, .int .i64 t243, .int .i64 t244] 37 (0, 0)) (by (with_reducible repeat (first | refine blk_drewN ?_ _ | refine blk_drew ?_ | refine blk_alloc ?_ _)); exact BK246.out) hb); have n3_ := Aside0.mk (blk_below (g := gb259) (o := .cells #[.int .i64 t255, .int .i64 t256, .int .i64 t257] 37 (0, 0)) (by (with_reducible repeat (first | refine blk_drewN ?_ _ | refine blk_drew ?_ | refine blk_alloc ?_ _)); exact BK259.out) hb); have n4_ := Aside0.mk (below_step (by repeat (first | (with_reducible first | exact HB.out | apply below_alloc | apply pw_below_drewN | apply below_drew1 | refine below_set ?_ GE234.out | refine below_set ?_ GE241.out | refine below_set ?_ GE246.out | refine below_set ?_ GE259.out) | exact HB.out)) hb); clear BK234; clear BK241; clear BK246; clear BK259; clear HB; have BK234 := n0_; have BK241 := n1_; have BK246 := n2_; have BK259 := n3_; have HB := n4_; clear n0_ n1_ n2_ n3_ n4_; (try clear hb); (try clear hb2); (try clear hk); (try clear hi)) | ((with_reducible refine gate_callee (f := 23) rfl ?_); refine goesL_ (some 109) rfl rfl Try.func23 (by kernel_rfl) rfl #[.slice A0 l0.length c0, .int .i64 a2] rfl (by (try simp only [List.map_toArray, List.map_cons, List.map_nil]); first | done | rfl | (simp only [List.length_drop, List.length_take]; rfl)) ?_; (with_reducible refine (continuoref30_Bar.calls kj75 _ _ l0 a2 t262 t263 _ ?side1 ?side2 A100.out).mono ?_); (case side1 => repeat (first | exact (Kd.C_below HR0.out HB.out) | (with_reducible refine Kd.C_alloc ?_ _) | (with_reducible refine Kd.C_drewN ?_ _) | (with_reducible refine Kd.C_drew ?_))); (case side2 => exact HC0.out); rintro e w103 ⟨rfl, hb⟩; refine ⟨_, rfl, ?_⟩; have n0_ := Aside0.mk (blk_below (g := gb234) (o := .cells #[.int .i64 a3_0, .int .i64 a3_1, .int .i64 a3_2] 37 (0, 0)) (by (with_reducible repeat (first | refine blk_drewN ?_ _ | refine blk_drew ?_ | refine blk_alloc ?_ _)); exact BK234.out) hb); have n1_ := Aside0.mk (blk_below (g := gb241) (o := .cells #[.int .i64 t237, .int .i64 t238, .int .i64 t239] 37 (0, 0)) (by (with_reducible repeat (first | refine blk_drewN ?_ _ | refine blk_drew ?_ | refine blk_alloc ?_ _)); exact BK241.out) hb); have n2_ := Aside0.mk (blk_below (g := gb246) (o := .cells #[.int .i64 t242, .int .i64 t243, .int .i64 t244] 37 (0, 0)) (by (with_reducible repeat (first | refine blk_drewN ?_ _ | refine blk_drew ?_ | refine blk_alloc ?_ _)); exact BK246.out) hb); have n3_ := Aside0.mk (blk_below (g := gb259) (o := .cells #[.int .i64 t255, .int .i64 t256, .int .i64 t257] 37 (0, 0)) (by (with_reducible repeat (first | refine blk_drewN ?_ _ | refine blk_drew ?_ | refine blk_alloc ?_ _)); exact BK259.out) hb); have n4_ := Aside0.mk (below_step (by repeat (first | (with_reducible first | exact HB.out | apply below_alloc | apply pw_below_drewN | apply below_drew1 | refine below_set ?_ GE234.out | refine below_set ?_ GE241.out | refine below_set ?_ GE246.out | refine below_set ?_ GE259.out) | exact HB.out)) hb); clear BK234; clear BK241; clear BK246; clear BK259; clear HB; have BK234 := n0_; have BK241 := n1_; have BK246 := n2_; have BK259 := n3_; have HB := n4_; clear n0_ n1_ n2_ n3_ n4_; (try clear hb); (try clear hb2); (try clear hk); (try clear hi)))
                       go_ret
                       exact ⟨by first | rfl | (simp [errW_none, errW_some] <;> rfl) | (simp [*, errW_none, errW_some] <;> rfl), by repeat (first | (with_reducible first | exact HB.out | apply below_alloc | apply pw_below_drewN | apply below_drew1 | refine below_set ?_ GE234.out | refine below_set ?_ GE241.out | refine below_set ?_ GE246.out | refine below_set ?_ GE259.out) | exact HB.out)⟩
                     · rw [if_neg c101] at H
                       have c101b0 : (t260 == t262) = false := beq_eq_false_iff_ne.mpr c101
                       have c101b1 : (t260 != t262) = true := bne_iff_ne.mpr c101
                       obtain rfl := Option.some.inj H
                       go_wp2_with (first | ((with_reducible refine gate_callee (f := 22) rfl ?_); refine goesL_ (some 103) rfl rfl Try.func22 (by kernel_rfl) rfl #[.slice A0 l0.length c0, .int .i64 a2] rfl (by (try simp only [List.map_toArray, List.map_cons, List.map_nil]); first | done | rfl | (simp only [List.length_drop, List.length_take]; rfl)) ?_; (with_reducible refine (tempo_Bar.calls kj75 _ _ l0 a2 t260 t261 _ ?side1 ?side2 A99.out).mono ?_); (case side1 => repeat (first | exact (Kd.C_below HR0.out HB.out) | (with_reducible refine Kd.C_alloc ?_ _) | (with_reducible refine Kd.C_drewN ?_ _) | (with_reducible refine Kd.C_drew ?_))); (case side2 => exact HC0.out); rintro e w104 ⟨rfl, hb⟩; refine ⟨_, rfl, ?_⟩; have n0_ := Aside0.mk (blk_below (g := gb234) (o := .cells #[.int .i64 a3_0, .int .i64 a3_1, .int .i64 a3_2] 37 (0, 0)) (by (with_reducible repeat (first | refine blk_drewN ?_ _ | refine blk_drew ?_ | refine blk_alloc ?_ _)); exact BK234.out) hb); have n1_ := Aside0.mk (blk_below (g := gb241) (o := .cells #[.int .i64 t237, .int .i64 t238, .int .i64 t239] 37 (0, 0)) (by (with_reducible repeat (first | refine blk_drewN ?_ _ | refine blk_drew ?_ | refine blk_alloc ?_ _)); exact BK241.out) hb); have n2_ := Aside0.mk (blk_below (g := gb246) (o := .cells #[.int .i64 t242, .int .i64 t243, .int .i64 t244] 37 (0, 0)) (by (with_reducible repeat (first | refine blk_drewN ?_ _ | refine blk_drew ?_ | refine blk_alloc ?_ _)); exact BK246.out) hb); have n3_ := Aside0.mk (blk_below (g := gb259) (o := .cells #[.int .i64 t255, .int .i64 t256, .int .i64 t257] 37 (0, 0)) (by (with_reducible repeat (first | refine blk_drewN ?_ _ | refine blk_drew ?_ | refine blk_alloc ?_ _)); exact BK259.out) hb); have n4_ := Aside0.mk (below_step (by repeat (first | (with_reducible first | exact HB.out | apply below_alloc | apply pw_below_drewN | apply below_drew1 | refine below_set ?_ GE234.out | refine below_set ?_ GE241.out | refine below_set ?_ GE246.out | refine below_set ?_ GE259.out) | exact HB.out)) hb); clear BK234; clear BK241; clear BK246; clear BK259; clear HB; have BK234 := n0_; have BK241 := n1_; have BK246 := n2_; have BK259 := n3_; have HB := n4_; clear n0_ n1_ n2_ n3_ n4_; (try clear hb); (try clear hb2); (try clear hk); (try clear hi)) | ((with_reducible refine gate_callee (f := 23) rfl ?_); refine goesL_ (some 109) rfl rfl Try.func23 (by kernel_rfl) rfl #[.slice A0 l0.length c0, .int .i64 a2] rfl (by (try simp only [List.map_toArray, List.map_cons, List.map_nil]); first | done | rfl | (simp only [List.length_drop, List.length_take]; rfl)) ?_; (with_reducible refine (continuoref30_Bar.calls kj75 _ _ l0 a2 t262 t263 _ ?side1 ?side2 A100.out).mono ?_); (case side1 => repeat (first | exact (Kd.C_below HR0.out HB.out) | (with_reducible refine Kd.C_alloc ?_ _) | (with_reducible refine Kd.C_drewN ?_ _) | (with_reducible refine Kd.C_drew ?_))); (case side2 => exact HC0.out); rintro e w105 ⟨rfl, hb⟩; refine ⟨_, rfl, ?_⟩; have n0_ := Aside0.mk (blk_below (g := gb234) (o := .cells #[.int .i64 a3_0, .int .i64 a3_1, .int .i64 a3_2] 37 (0, 0)) (by (with_reducible repeat (first | refine blk_drewN ?_ _ | refine blk_drew ?_ | refine blk_alloc ?_ _)); exact BK234.out) hb); have n1_ := Aside0.mk (blk_below (g := gb241) (o := .cells #[.int .i64 t237, .int .i64 t238, .int .i64 t239] 37 (0, 0)) (by (with_reducible repeat (first | refine blk_drewN ?_ _ | refine blk_drew ?_ | refine blk_alloc ?_ _)); exact BK241.out) hb); have n2_ := Aside0.mk (blk_below (g := gb246) (o := .cells #[.int .i64 t242, .int .i64 t243, .int .i64 t244] 37 (0, 0)) (by (with_reducible repeat (first | refine blk_drewN ?_ _ | refine blk_drew ?_ | refine blk_alloc ?_ _)); exact BK246.out) hb); have n3_ := Aside0.mk (blk_below (g := gb259) (o := .cells #[.int .i64 t255, .int .i64 t256, .int .i64 t257] 37 (0, 0)) (by (with_reducible repeat (first | refine blk_drewN ?_ _ | refine blk_drew ?_ | refine blk_alloc ?_ _)); exact BK259.out) hb); have n4_ := Aside0.mk (below_step (by repeat (first | (with_reducible first | exact HB.out | apply below_alloc | apply pw_below_drewN | apply below_drew1 | refine below_set ?_ GE234.out | refine below_set ?_ GE241.out | refine below_set ?_ GE246.out | refine below_set ?_ GE259.out) | exact HB.out)) hb); clear BK234; clear BK241; clear BK246; clear BK259; clear HB; have BK234 := n0_; have BK241 := n1_; have BK246 := n2_; have BK259 := n3_; have HB := n4_; clear n0_ n1_ n2_ n3_ n4_; (try clear hb); (try clear hb2); (try clear hk); (try clear hi)))
                       go_ret
                       exact ⟨by first | rfl | (simp [errW_none, errW_some] <;> rfl) | (simp [*, errW_none, errW_some] <;> rfl), by repeat (first | (with_reducible first | exact HB.out | apply below_alloc | apply pw_below_drewN | apply below_drew1 | refine below_set ?_ GE234.out | refine below_set ?_ GE241.out | refine below_set ?_ GE246.out | refine below_set ?_ GE259.out) | exact HB.out)⟩
               · rw [if_neg c74] at H
                 have c74b0 : (t252 == 0) = false := beq_eq_false_iff_ne.mpr c74
                 have c74b1 : (t252 != 0) = true := bne_iff_ne.mpr c74
                 replace H := Option.bind_eq_some_iff.mp H
                 obtain ⟨⟨t264, t265⟩, A1060, H⟩ := H
                 replace H : ((continuoref30_Bar.f kj64 l0 a2).bind fun bt266 => (if t264 = bt266.1 then (some (t265 == bt266.2)) else (some false))) = some r := H
                 have A106 := Aside0.mk A1060
                 clear A1060
                 replace H := Option.bind_eq_some_iff.mp H
                 obtain ⟨⟨t266, t267⟩, A1070, H⟩ := H
                 replace H : (if t264 = t266 then (some (t265 == t267)) else (some false)) = some r := H
                 have A107 := Aside0.mk A1070
                 clear A1070
                 by_cases c108 : t264 = t266
                 · rw [if_pos c108] at H
                   have c108b0 : (t264 == t266) = true := beq_iff_eq.mpr c108
                   have c108b1 : (t264 != t266) = false := bne_eq_false_iff_eq.mpr c108
                   clear c108
                   obtain rfl := Option.some.inj H
                   go_wp2_with (first | ((with_reducible refine gate_callee (f := 22) rfl ?_); refine goesL_ (some 103) rfl rfl Try.func22 (by kernel_rfl) rfl #[.slice A0 l0.length c0, .int .i64 a2] rfl (by (try simp only [List.map_toArray, List.map_cons, List.map_nil]); first | done | rfl | (simp only [List.length_drop, List.length_take]; rfl)) ?_; (with_reducible refine (tempo_Bar.calls kj64 _ _ l0 a2 t264 t265 _ ?side1 ?side2 A106.out).mono ?_); (case side1 => repeat (first | exact (Kd.C_below HR0.out HB.out) | (with_reducible refine Kd.C_alloc ?_ _) | (with_reducible refine Kd.C_drewN ?_ _) | (with_reducible refine Kd.C_drew ?_))); (case side2 => exact HC0.out); rintro e w109 ⟨rfl, hb⟩; refine ⟨_, rfl, ?_⟩; have n0_ := Aside0.mk (blk_below (g := gb234) (o := .cells #[.int .i64 a3_0, .int .i64 a3_1, .int .i64 a3_2] 37 (0, 0)) (by (with_reducible repeat (first | refine blk_drewN ?_ _ | refine blk_drew ?_ | refine blk_alloc ?_ _)); exact BK234.out) hb); have n1_ := Aside0.mk (blk_below (g := gb241) (o := .cells #[.int .i64 t237, .int .i64 t238, .int .i64 t239] 37 (0, 0)) (by (with_reducible repeat (first | refine blk_drewN ?_ _ | refine blk_drew ?_ | refine blk_alloc ?_ _)); exact BK241.out) hb); have n2_ := Aside0.mk (blk_below (g := gb246) (o := .cells #[.int .i64 t242, .int .i64 t243, .int .i64 t244] 37 (0, 0)) (by (with_reducible repeat (first | refine blk_drewN ?_ _ | refine blk_drew ?_ | refine blk_alloc ?_ _)); exact BK246.out) hb); have n3_ := Aside0.mk (below_step (by repeat (first | (with_reducible first | exact HB.out | apply below_alloc | apply pw_below_drewN | apply below_drew1 | refine below_set ?_ GE234.out | refine below_set ?_ GE241.out | refine below_set ?_ GE246.out) | exact HB.out)) hb); clear BK234; clear BK241; clear BK246; clear HB; have BK234 := n0_; have BK241 := n1_; have BK246 := n2_; have HB := n3_; clear n0_ n1_ n2_ n3_; (try clear hb); (try clear hb2); (try clear hk); (try clear hi)) | ((with_reducible refine gate_callee (f := 23) rfl ?_); refine goesL_ (some 109) rfl rfl Try.func23 (by kernel_rfl) rfl #[.slice A0 l0.length c0, .int .i64 a2] rfl (by (try simp only [List.map_toArray, List.map_cons, List.map_nil]); first | done | rfl | (simp only [List.length_drop, List.length_take]; rfl)) ?_; (with_reducible refine (continuoref30_Bar.calls kj64 _ _ l0 a2 t266 t267 _ ?side1 ?side2 A107.out).mono ?_); (case side1 => repeat (first | exact (Kd.C_below HR0.out HB.out) | (with_reducible refine Kd.C_alloc ?_ _) | (with_reducible refine Kd.C_drewN ?_ _) | (with_reducible refine Kd.C_drew ?_))); (case side2 => exact HC0.out); rintro e w110 ⟨rfl, hb⟩; refine ⟨_, rfl, ?_⟩; have n0_ := Aside0.mk (blk_below (g := gb234) (o := .cells #[.int .i64 a3_0, .int .i64 a3_1, .int .i64 a3_2] 37 (0, 0)) (by (with_reducible repeat (first | refine blk_drewN ?_ _ | refine blk_drew ?_ | refine blk_alloc ?_ _)); exact BK234.out) hb); have n1_ := Aside0.mk (blk_below (g := gb241) (o := .cells #[.int .i64 t237, .int .i64 t238, .int .i64 t239] 37 (0, 0)) (by (with_reducible repeat (first | refine blk_drewN ?_ _ | refine blk_drew ?_ | refine blk_alloc ?_ _)); exact BK241.out) hb); have n2_ := Aside0.mk (blk_below (g := gb246) (o := .cells #[.int .i64 t242, .int .i64 t243, .int .i64 t244] 37 (0, 0)) (by (with_reducible repeat (first | refine blk_drewN ?_ _ | refine blk_drew ?_ | refine blk_alloc ?_ _)); exact BK246.out) hb); have n3_ := Aside0.mk (below_step (by repeat (first | (with_reducible first | exact HB.out | apply below_alloc | apply pw_below_drewN | apply below_drew1 | refine below_set ?_ GE234.out | refine below_set ?_ GE241.out | refine below_set ?_ GE246.out) | exact HB.out)) hb); clear BK234; clear BK241; clear BK246; clear HB; have BK234 := n0_; have BK241 := n1_; have BK246 := n2_; have HB := n3_; clear n0_ n1_ n2_ n3_; (try clear hb); (try clear hb2); (try clear hk); (try clear hi)))
                   go_ret
                   exact ⟨by first | rfl | (simp [errW_none, errW_some] <;> rfl) | (simp [*, errW_none, errW_some] <;> rfl), by repeat (first | (with_reducible first | exact HB.out | apply below_alloc | apply pw_below_drewN | apply below_drew1 | refine below_set ?_ GE234.out | refine below_set ?_ GE241.out | refine below_set ?_ GE246.out) | exact HB.out)⟩
                 · rw [if_neg c108] at H
                   have c108b0 : (t264 == t266) = false := beq_eq_false_iff_ne.mpr c108
                   have c108b1 : (t264 != t266) = true := bne_iff_ne.mpr c108
                   obtain rfl := Option.some.inj H
                   go_wp2_with (first | ((with_reducible refine gate_callee (f := 22) rfl ?_); refine goesL_ (some 103) rfl rfl Try.func22 (by kernel_rfl) rfl #[.slice A0 l0.length c0, .int .i64 a2] rfl (by (try simp only [List.map_toArray, List.map_cons, List.map_nil]); first | done | rfl | (simp only [List.length_drop, List.length_take]; rfl)) ?_; (with_reducible refine (tempo_Bar.calls kj64 _ _ l0 a2 t264 t265 _ ?side1 ?side2 A106.out).mono ?_); (case side1 => repeat (first | exact (Kd.C_below HR0.out HB.out) | (with_reducible refine Kd.C_alloc ?_ _) | (with_reducible refine Kd.C_drewN ?_ _) | (with_reducible refine Kd.C_drew ?_))); (case side2 => exact HC0.out); rintro e w111 ⟨rfl, hb⟩; refine ⟨_, rfl, ?_⟩; have n0_ := Aside0.mk (blk_below (g := gb234) (o := .cells #[.int .i64 a3_0, .int .i64 a3_1, .int .i64 a3_2] 37 (0, 0)) (by (with_reducible repeat (first | refine blk_drewN ?_ _ | refine blk_drew ?_ | refine blk_alloc ?_ _)); exact BK234.out) hb); have n1_ := Aside0.mk (blk_below (g := gb241) (o := .cells #[.int .i64 t237, .int .i64 t238, .int .i64 t239] 37 (0, 0)) (by (with_reducible repeat (first | refine blk_drewN ?_ _ | refine blk_drew ?_ | refine blk_alloc ?_ _)); exact BK241.out) hb); have n2_ := Aside0.mk (blk_below (g := gb246) (o := .cells #[.int .i64 t242, .int .i64 t243, .int .i64 t244] 37 (0, 0)) (by (with_reducible repeat (first | refine blk_drewN ?_ _ | refine blk_drew ?_ | refine blk_alloc ?_ _)); exact BK246.out) hb); have n3_ := Aside0.mk (below_step (by repeat (first | (with_reducible first | exact HB.out | apply below_alloc | apply pw_below_drewN | apply below_drew1 | refine below_set ?_ GE234.out | refine below_set ?_ GE241.out | refine below_set ?_ GE246.out) | exact HB.out)) hb); clear BK234; clear BK241; clear BK246; clear HB; have BK234 := n0_; have BK241 := n1_; have BK246 := n2_; have HB := n3_; clear n0_ n1_ n2_ n3_; (try clear hb); (try clear hb2); (try clear hk); (try clear hi)) | ((with_reducible refine gate_callee (f := 23) rfl ?_); refine goesL_ (some 109) rfl rfl Try.func23 (by kernel_rfl) rfl #[.slice A0 l0.length c0, .int .i64 a2] rfl (by (try simp only [List.map_toArray, List.map_cons, List.map_nil]); first | done | rfl | (simp only [List.length_drop, List.length_take]; rfl)) ?_; (with_reducible refine (continuoref30_Bar.calls kj64 _ _ l0 a2 t266 t267 _ ?side1 ?side2 A107.out).mono ?_); (case side1 => repeat (first | exact (Kd.C_below HR0.out HB.out) | (with_reducible refine Kd.C_alloc ?_ _) | (with_reducible refine Kd.C_drewN ?_ _) | (with_reducible refine Kd.C_drew ?_))); (case side2 => exact HC0.out); rintro e w112 ⟨rfl, hb⟩; refine ⟨_, rfl, ?_⟩; have n0_ := Aside0.mk (blk_below (g := gb234) (o := .cells #[.int .i64 a3_0, .int .i64 a3_1, .int .i64 a3_2] 37 (0, 0)) (by (with_reducible repeat (first | refine blk_drewN ?_ _ | refine blk_drew ?_ | refine blk_alloc ?_ _)); exact BK234.out) hb); have n1_ := Aside0.mk (blk_below (g := gb241) (o := .cells #[.int .i64 t237, .int .i64 t238, .int .i64 t239] 37 (0, 0)) (by (with_reducible repeat (first | refine blk_drewN ?_ _ | refine blk_drew ?_ | refine blk_alloc ?_ _)); exact BK241.out) hb); have n2_ := Aside0.mk (blk_below (g := gb246) (o := .cells #[.int .i64 t242, .int .i64 t243, .int .i64 t244] 37 (0, 0)) (by (with_reducible repeat (first | refine blk_drewN ?_ _ | refine blk_drew ?_ | refine blk_alloc ?_ _)); exact BK246.out) hb); have n3_ := Aside0.mk (below_step (by repeat (first | (with_reducible first | exact HB.out | apply below_alloc | apply pw_below_drewN | apply below_drew1 | refine below_set ?_ GE234.out | refine below_set ?_ GE241.out | refine below_set ?_ GE246.out) | exact HB.out)) hb); clear BK234; clear BK241; clear BK246; clear HB; have BK234 := n0_; have BK241 := n1_; have BK246 := n2_; have HB := n3_; clear n0_ n1_ n2_ n3_; (try clear hb); (try clear hb2); (try clear hk); (try clear hi)))
                   go_ret
                   exact ⟨by first | rfl | (simp [errW_none, errW_some] <;> rfl) | (simp [*, errW_none, errW_some] <;> rfl), by repeat (first | (with_reducible first | exact HB.out | apply below_alloc | apply pw_below_drewN | apply below_drew1 | refine below_set ?_ GE234.out | refine below_set ?_ GE241.out | refine below_set ?_ GE246.out) | exact HB.out)⟩
 · replace c6 := Bool.eq_false_iff.mpr c6
   subst c6
   have H1 : (some false) = some r := by rw [if_neg (show ¬ (false = true) by decide)] at H; exact H
   clear H
   have H := H1
   clear H1
   obtain rfl := Option.some.inj H
   go_enter Try.func5, Try.ntmps5
   go_wp2_with (first | ((with_reducible refine gate_dst (N := 7) rfl ?_); refine box_event ?hg (N := 7) ?hd (cs := #[.int .i64 a3_0, .int .i64 a3_1, .int .i64 a3_2]) (t := 37) ?hr ?_; (case hd => rfl); (case hg => rfl); (case hr => first | (go_simp; done) | (go_simp; rfl)); intro gb234 hg w113 hbox hb; have n0_ := Aside0.mk (below_step (by repeat (first | (with_reducible first | exact HB.out | apply below_alloc | apply pw_below_drewN | apply below_drew1) | exact HB.out)) hb); have n1_ := Aside0.mk (hbox); have n2_ := Aside0.mk ((by rw [hg]; exact (below_size (by repeat (first | (with_reducible first | exact HB.out | apply below_alloc | apply pw_below_drewN | apply below_drew1) | exact HB.out))) : w.heap.size ≤ gb234)); have n3_ := Aside0.mk ((by rw [hg]; exact (below_size (by repeat (first | (with_reducible first | exact HB.out | apply below_alloc | apply pw_below_drewN | apply below_drew1) | exact HB.out))) : w.heap.size ≤ gb234)); clear HB; have HB := n0_; have BK234 := n1_; have GW234 := n2_; have GE234 := n3_; clear n0_ n1_ n2_ n3_; clear hb hbox hg) | ((with_reducible refine gate_callee (f := 9) rfl ?_); refine goesL_ (some 19) rfl rfl Try.func9 (by kernel_rfl) rfl #[] rfl (by (try simp only [List.map_toArray, List.map_cons, List.map_nil]); first | done | rfl | (simp only [List.length_drop, List.length_take]; rfl)) ?_; (with_reducible refine (continuolaw30_awake.calls k  false _ A5.out).mono ?_); rintro e w114 ⟨rfl, hb⟩; refine ⟨_, rfl, ?_⟩; have n0_ := Aside0.mk (blk_below (g := gb234) (o := .cells #[.int .i64 a3_0, .int .i64 a3_1, .int .i64 a3_2] 37 (0, 0)) (by (with_reducible repeat (first | refine blk_drewN ?_ _ | refine blk_drew ?_ | refine blk_alloc ?_ _)); exact BK234.out) hb); have n1_ := Aside0.mk (below_step (by repeat (first | (with_reducible first | exact HB.out | apply below_alloc | apply pw_below_drewN | apply below_drew1 | refine below_set ?_ GE234.out) | exact HB.out)) hb); clear BK234; clear HB; have BK234 := n0_; have HB := n1_; clear n0_ n1_; (try clear hb); (try clear hb2); (try clear hk); (try clear hi)))
   go_ret
   exact ⟨by first | rfl | (simp [errW_none, errW_some] <;> rfl) | (simp [*, errW_none, errW_some] <;> rfl), by repeat (first | (with_reducible first | exact HB.out | apply below_alloc | apply pw_below_drewN | apply below_drew1 | refine below_set ?_ GE234.out) | exact HB.out)⟩
end Go.Proofs.Ytomlfbmfdoallaa.PA

namespace Go.Proofs.Ytomlfbmfdoallaa.Pure
open Go.RowKit Go.Proofs.Ytomlfbmfdoallaa.PA Go.Proofs.YtomlfbmfdoallaaW.PrintWords Go.Proofs.YtomlfbmfdoallaaW.PrintLast
set_option linter.unusedVariables false
set_option linter.unusedSimpArgs false
theorem rd61 (l : List S61) (i : Nat) (h : i < l.length) : rd_T61 l (i : Int) = l[i] := by simp [rd_T61, h]
theorem rd72 (l : List S72) (i : Nat) (h : i < l.length) : rd_T72 l (i : Int) = l[i] := by simp [rd_T72, h]
def okN (m : S61) : Bool := decide (0 ≤ m.f0) && decide (m.f0 ≤ 1000000000) && (decide (1 ≤ m.f1) && decide (m.f1 ≤ 32)) && (decide (1 ≤ m.f2) && decide (m.f2 ≤ 10000))
def vmL : Option S61 → List S61 → Bool
 | _, [] => true
 | p, m :: r => okN m && (match p with | none => true | some q => decide (q.f0 < m.f0)) && vmL (some m) r
def vmB (l : List S61) : Bool := decide (1 ≤ l.length) && decide (l.length ≤ 50) && (match l.head? with | none => true | some m => decide (m.f0 = 0)) && vmL none l
theorem prev_succ (l : List S61) (i : Nat) (h : i < l.length) : (if i + 1 = 0 then none else l[i + 1 - 1]?) = some l[i] := by simp [h]
theorem vm_loop (l : List S61) (hl : l.length ≤ 100) : ∀ (d k i : Nat), l.length - i = d → i ≤ l.length → d < k → tempo_ValidMeter.l0 k l l (l.length : Int) (i : Int) = some (vmL (if i = 0 then none else l[i - 1]?) (l.drop i)) := by
 intro d
 induction d with
 | zero =>
  intro k i hd hi hk
  obtain ⟨k, rfl⟩ : ∃ m, k = m + 1 := ⟨k - 1, by omega⟩
  simp only [tempo_ValidMeter.l0]
  rw [if_neg (by omega), List.drop_eq_nil_of_le (by omega)]
  rfl
 | succ d ih =>
  intro k i hd hi hk
  obtain ⟨k, rfl⟩ : ∃ m, k = m + 1 := ⟨k - 1, by omega⟩
  have hlt : i < l.length := by omega
  have hih := ih k (i + 1) (by omega) (by omega) (by omega)
  rw [prev_succ l i hlt] at hih
  have hw : wrap64 ((i : Int) + 1) = ((i + 1 : Nat) : Int) := by rw [w64 (by omega) (by omega)]; omega
  simp only [tempo_ValidMeter.l0]
  rw [if_pos (by omega), if_pos (by omega), if_pos (by omega), hw, hih, rd61 l i hlt, List.drop_eq_getElem_cons hlt]
  simp only [tempo_within.eq, Option.bind_some, vmL]
  by_cases h0 : i = 0
  · subst h0
    simp only [if_true]
    rw [if_neg (show ¬ (((0 : Nat) : Int) > 0) by omega)]
    simp only [okN]
    generalize l[0] = m
    clear hih ih
    repeat' split
    all_goals (first | (simp_all; done) | (simp_all; intros; exfalso; omega))
  · have hw2 : wrap64 ((i : Int) - 1) = ((i - 1 : Nat) : Int) := by rw [w64 (by omega) (by omega)]; omega
    rw [if_pos (show (i : Int) > 0 by omega), hw2, if_pos (show (0 : Int) ≤ ((i - 1 : Nat) : Int) by omega), if_pos (show ((i - 1 : Nat) : Int) < (l.length : Int) by omega), rd61 l (i - 1) (by omega)]
    rw [if_neg h0, List.getElem?_eq_getElem (show i - 1 < l.length by omega)]
    simp only [okN]
    generalize l[i - 1] = q
    generalize l[i] = m
    clear hih ih
    repeat' split
    all_goals (first | (simp_all; done) | (simp_all; omega) | (simp_all; intros; exfalso; omega))
theorem vm_eq (l : List S61) (hl : l.length ≤ 100) : tempo_ValidMeter.f 200 l = some (vmB l) := by
 unfold tempo_ValidMeter.f vmB
 simp only [tempo_within.eq, Option.bind_some]
 by_cases h : 1 ≤ l.length ∧ l.length ≤ 50
 · rw [if_pos (by simp; omega), if_pos (by omega)]
   rw [show tempo_ValidMeter.j0 200 l ((rd_T61 l 0).f0 != 0) = if ((rd_T61 l 0).f0 != 0) = true then some false else tempo_ValidMeter.l0 199 l l (l.length : Int) 0 from rfl]
   have := vm_loop l hl l.length 199 0 (by omega) (by omega) (by omega)
   simp only [if_true, List.drop_zero] at this
   rw [show ((0 : Nat) : Int) = 0 from rfl] at this
   rw [this]
   have h0 : rd_T61 l 0 = l[0]'(by omega) := rd61 l 0 (by omega)
   rw [h0]
   cases l with
   | nil => simp at h
   | cons m r =>
    simp only [List.getElem_cons_zero, List.head?_cons]
    by_cases e : m.f0 = 0
    · simp [e, h.1, h.2]; simp at h; omega
    · simp [e]
 · rw [if_neg (by simp; omega)]
   rw [show tempo_ValidMeter.j0 200 l true = some false from rfl]
   congr 1
   by_cases h1 : 1 ≤ l.length
   · simp [h1, show ¬ l.length ≤ 50 by omega]
   · simp [h1]
theorem refvm_loop (l : List S61) (hl : l.length ≤ 100) : ∀ (d k i : Nat), l.length - i = d → i ≤ l.length → d < k → continuoref30_ValidMeter.l0 k l (i : Int) = some (vmL (if i = 0 then none else l[i - 1]?) (l.drop i)) := by
 intro d
 induction d with
 | zero =>
  intro k i hd hi hk
  obtain ⟨k, rfl⟩ : ∃ m, k = m + 1 := ⟨k - 1, by omega⟩
  simp only [continuoref30_ValidMeter.l0]
  rw [if_neg (by omega), List.drop_eq_nil_of_le (by omega)]
  rfl
 | succ d ih =>
  intro k i hd hi hk
  obtain ⟨k, rfl⟩ : ∃ m, k = m + 1 := ⟨k - 1, by omega⟩
  have hlt : i < l.length := by omega
  have hih := ih k (i + 1) (by omega) (by omega) (by omega)
  rw [prev_succ l i hlt] at hih
  have hw : wrap64 ((i : Int) + 1) = ((i + 1 : Nat) : Int) := by rw [w64 (by omega) (by omega)]; omega
  simp only [continuoref30_ValidMeter.l0]
  rw [if_pos (by omega), if_pos (by omega), hw, hih, rd61 l i hlt, List.drop_eq_getElem_cons hlt]
  simp only [vmL]
  by_cases h0 : i = 0
  · subst h0
    simp only [if_true]
    rw [if_neg (show ¬ (((0 : Nat) : Int) > 0) by omega)]
    simp only [okN]
    generalize l[0] = m
    clear hih ih
    repeat' split
    all_goals (first | (simp_all; done) | (simp_all; intros; exfalso; omega) | (simp_all; omega))
  · have hw2 : wrap64 ((i : Int) - 1) = ((i - 1 : Nat) : Int) := by rw [w64 (by omega) (by omega)]; omega
    rw [if_pos (show (i : Int) > 0 by omega), hw2, if_pos (show (0 : Int) ≤ ((i - 1 : Nat) : Int) by omega), if_pos (show ((i - 1 : Nat) : Int) < (l.length : Int) by omega), rd61 l (i - 1) (by omega)]
    rw [if_neg h0, List.getElem?_eq_getElem (show i - 1 < l.length by omega)]
    simp only [okN]
    generalize l[i - 1] = q
    generalize l[i] = m
    clear hih ih
    repeat' split
    all_goals (first | (simp_all; done) | (simp_all; omega) | (simp_all; intros; exfalso; omega))
theorem refvm_eq (l : List S61) (hl : l.length ≤ 100) : continuoref30_ValidMeter.f 200 l = some (vmB l) := by
 unfold continuoref30_ValidMeter.f vmB
 by_cases h : 1 ≤ l.length ∧ l.length ≤ 50
 · rw [if_neg (by omega), if_neg (by omega), if_pos (by omega)]
   rw [show continuoref30_ValidMeter.j0 200 l ((rd_T61 l 0).f0 != 0) = if ((rd_T61 l 0).f0 != 0) = true then some false else continuoref30_ValidMeter.l0 199 l 0 from rfl]
   have := refvm_loop l hl l.length 199 0 (by omega) (by omega) (by omega)
   simp only [if_true, List.drop_zero] at this
   rw [show ((0 : Nat) : Int) = 0 from rfl] at this
   rw [this]
   have h0 : rd_T61 l 0 = l[0]'(by omega) := rd61 l 0 (by omega)
   rw [h0]
   cases l with
   | nil => simp at h
   | cons m r =>
    simp only [List.getElem_cons_zero, List.head?_cons]
    by_cases e : m.f0 = 0
    · simp [e, h.1, h.2]; simp at h; omega
    · simp [e]
 · have e : continuoref30_ValidMeter.j0 200 l true = some false := rfl
   by_cases h1 : 1 ≤ l.length
   · rw [if_neg (by omega), if_pos (by omega), e]
     simp [h1, show ¬ l.length ≤ 50 by omega]
   · rw [if_pos (by omega), e]
     simp [h1]
def long (m : S61) : Int := m.f1 * m.f2
def nxt (p : S72) (m : S61) : S72 := ⟨m, p.f1 + (m.f0 - p.f0.f0) * long p.f0⟩
def mtsFrom : S72 → List S61 → List S72
 | _, [] => []
 | p, m :: r => nxt p m :: mtsFrom (nxt p m) r
structure Good (p : S72) : Prop where
 b0 : 0 ≤ p.f0.f0
 b1 : p.f0.f0 ≤ 1000000000
 c0 : 1 ≤ p.f0.f1
 c1 : p.f0.f1 ≤ 32
 d0 : 1 ≤ p.f0.f2
 d1 : p.f0.f2 ≤ 10000
 t0 : p.f0.f0 ≤ p.f1
 t1 : p.f1 ≤ p.f0.f0 * 320000
theorem okN_iff (m : S61) : okN m = true ↔ (0 ≤ m.f0 ∧ m.f0 ≤ 1000000000 ∧ 1 ≤ m.f1 ∧ m.f1 ≤ 32 ∧ 1 ≤ m.f2 ∧ m.f2 ≤ 10000) := by
 simp [okN, and_assoc]
theorem Good.long {p : S72} (h : Good p) : 1 ≤ long p.f0 ∧ long p.f0 ≤ 320000 := by
 have h1 := mulb (by have := h.c0; omega : 0 ≤ p.f0.f1) h.c1 (by have := h.d0; omega : 0 ≤ p.f0.f2) h.d1
 have h2 := Int.mul_le_mul h.c0 h.d0 (by omega) (by have := h.c0; omega)
 unfold Pure.long
 omega
theorem Good.next {p : S72} (h : Good p) {m : S61} (hm : okN m = true) (hlt : p.f0.f0 < m.f0) : Good (nxt p m) ∧ p.f1 < (nxt p m).f1 := by
 rw [okN_iff] at hm
 obtain ⟨a, b, c, d, e, f⟩ := hm
 have hl := h.long
 have h1 := mulb (n := m.f0 - p.f0.f0) (N := m.f0 - p.f0.f0) (by omega) (Int.le_refl _) (by omega : 0 ≤ Pure.long p.f0) hl.2
 have h2 : (m.f0 - p.f0.f0) * 1 ≤ (m.f0 - p.f0.f0) * Pure.long p.f0 := Int.mul_le_mul_of_nonneg_left hl.1 (by omega)
 have h3 := h.t0
 have h4 := h.t1
 refine ⟨⟨a, b, c, d, e, f, ?_, ?_⟩, ?_⟩
 · show m.f0 ≤ p.f1 + (m.f0 - p.f0.f0) * Pure.long p.f0; omega
 · show p.f1 + (m.f0 - p.f0.f0) * Pure.long p.f0 ≤ m.f0 * 320000; omega
 · show p.f1 < p.f1 + (m.f0 - p.f0.f0) * Pure.long p.f0; omega
theorem meters_loop (l : List S61) (hl : l.length ≤ 100) : ∀ (d k i : Nat) (pre : List S72) (p : S72), l.length - i = d → i ≤ l.length → d < k → (pre ++ [p]).length = i → Good p → vmL (some p.f0) (l.drop i) = true →
 tempo_meters.l0 k (pre ++ [p]) l (l.length : Int) (i : Int) = some ((pre ++ [p]) ++ mtsFrom p (l.drop i)) := by
 intro d
 induction d with
 | zero =>
  intro k i pre p hd hi hk hlen hg hv
  obtain ⟨k, rfl⟩ : ∃ m, k = m + 1 := ⟨k - 1, by omega⟩
  simp only [tempo_meters.l0]
  rw [if_neg (by omega), List.drop_eq_nil_of_le (by omega)]
  simp [mtsFrom]
 | succ d ih =>
  intro k i pre p hd hi hk hlen hg hv
  obtain ⟨k, rfl⟩ : ∃ m, k = m + 1 := ⟨k - 1, by omega⟩
  have hlt : i < l.length := by omega
  have hw : wrap64 ((i : Int) + 1) = ((i + 1 : Nat) : Int) := by rw [w64 (by omega) (by omega)]; omega
  have hpl : pre.length + 1 = i := by simpa using hlen
  have hw3 : wrap64 (((pre ++ [p]).length : Int) - 1) = (pre.length : Int) := by rw [hlen]; rw [w64 (x := (i : Int) - 1) (by omega) (by omega)]; omega
  have hr : rd_T72 (pre ++ [p]) (pre.length : Int) = p := by rw [rd72 _ _ (by simp)]; simp
  have c1 : (i : Int) < (l.length : Int) := by omega
  have c2 : (0 : Int) ≤ (i : Int) := by omega
  have c3 : (pre.length : Int) ≥ 0 := by omega
  have c4 : (0 : Int) ≤ (pre.length : Int) := by omega
  have c5 : (pre.length : Int) < ((pre ++ [p]).length : Int) := by simp; omega
  have hbig : (pre ++ [p]).length < 4398046511104 := by rw [hlen]; omega
  rw [List.drop_eq_getElem_cons hlt] at hv ⊢
  simp only [vmL, Bool.and_eq_true, decide_eq_true_eq] at hv
  obtain ⟨⟨hm, hlt2⟩, hv⟩ := hv
  obtain ⟨hg2, hinc⟩ := hg.next hm hlt2
  have hih := ih k (i + 1) (pre ++ [p]) (nxt p l[i]) (by omega) (by omega) (by omega) (by simp; omega) hg2 hv
  have hlg : tempo_metered_long.f p.f0.f0 p.f0.f1 p.f0.f2 p.f1 = some (long p.f0) := by
   have := hg.long
   unfold tempo_metered_long.f long at *
   rw [w64 (by omega) (by omega)]
  have hb1 := hg.b0; have hb2 := hg.b1; have ht0 := hg.t0; have ht1 := hg.t1
  have hc1 := hg2.b0; have hc2 := hg2.b1; have hs0 := hg2.t0; have hs1 := hg2.t1
  have e1 : (nxt p l[i]).f0 = l[i] := rfl
  have e2 : (nxt p l[i]).f1 = p.f1 + (l[i].f0 - p.f0.f0) * long p.f0 := rfl
  rw [e1] at hc1 hc2 hs0 hs1
  rw [e2] at hs0 hs1
  generalize hmul : (l[i].f0 - p.f0.f0) * long p.f0 = mu at hs0 hs1
  have v1 : wrap64 (l[i].f0 - p.f0.f0) = l[i].f0 - p.f0.f0 := w64 (by omega) (by omega)
  have v2 : wrap64 mu = mu := w64 (by omega) (by omega)
  have v3 : wrap64 (p.f1 + mu) = p.f1 + mu := w64 (by omega) (by omega)
  rw [← hmul] at v2 v3
  simp only [tempo_meters.l0]
  rw [if_pos c1, if_pos c2, if_pos c1, hw, hw3, if_pos c3, if_pos c4, if_pos c5, hr, rd61 l i hlt, hlg]
  simp only [Option.bind_some]
  rw [if_pos hbig, v1, v2, v3]
  have e3 : (⟨(⟨l[i].f0, l[i].f1, l[i].f2⟩ : S61), p.f1 + (l[i].f0 - p.f0.f0) * long p.f0⟩ : S72) = nxt p l[i] := rfl
  rw [e3, hih]
  simp [mtsFrom]
theorem meters_first (m : S61) (r : List S61) (k : Nat) (hl : (m :: r).length ≤ 100) : tempo_meters.l0 (k + 1) ([] : List S72) (m :: r) ((m :: r).length : Int) 0 = tempo_meters.l0 k ([] ++ [⟨m, 0⟩]) (m :: r) ((m :: r).length : Int) ((1 : Nat) : Int) := by
 have h0 : (([] : List S72).length : Int) = 0 := rfl
 have h1 : wrap64 ((([] : List S72).length : Int) - 1) = -1 := by rw [h0]; exact w64 (x := 0 - 1) (by omega) (by omega)
 have hbig : ([] : List S72).length < 4398046511104 := by show 0 < 4398046511104; omega
 have hlen : (0 : Int) < ((m :: r).length : Int) := by simp only [List.length_cons]; omega
 simp only [tempo_meters.l0]
 have h2 : rd_T61 (m :: r) 0 = m := rfl
 have h3 : wrap64 (0 + 1) = ((1 : Nat) : Int) := w64 (x := 0 + 1) (by omega) (by omega)
 rw [if_pos hlen, if_pos (Int.le_refl 0), if_pos hlen, h1, if_neg (by decide), if_pos hbig, h2, h3]
theorem meters_eq (m : S61) (r : List S61) (hl : (m :: r).length ≤ 100) (hv : vmB (m :: r) = true) : tempo_meters.f 200 (m :: r) = some (⟨m, 0⟩ :: mtsFrom ⟨m, 0⟩ r) ∧ Good ⟨m, 0⟩ ∧ vmL (some m) r = true ∧ m.f0 = 0 := by
 unfold vmB at hv
 simp only [Bool.and_eq_true, decide_eq_true_eq, List.head?_cons, vmL, Bool.true_and, Bool.and_true] at hv
 obtain ⟨⟨⟨h1, h2⟩, h3⟩, h4, h5⟩ := hv
 have hm := (okN_iff m).1 h4
 have hg : Good ⟨m, 0⟩ := ⟨hm.1, hm.2.1, hm.2.2.1, hm.2.2.2.1, hm.2.2.2.2.1, hm.2.2.2.2.2, by show m.f0 ≤ 0; omega, by show 0 ≤ m.f0 * 320000; omega⟩
 refine ⟨?_, hg, h5, h3⟩
 unfold tempo_meters.f
 rw [meters_first m r 199 hl]
 have := meters_loop (m :: r) hl r.length 199 1 [] ⟨m, 0⟩ (by simp) (by simp) (by simp at h2; omega) rfl hg (by simpa using h5)
 rw [this]
 rfl
end Go.Proofs.Ytomlfbmfdoallaa.Pure

namespace Go.Proofs.Ytomlfbmfdoallaa.Pure
open Go.RowKit Go.Proofs.Ytomlfbmfdoallaa.PA Go.Proofs.YtomlfbmfdoallaaW.PrintWords Go.Proofs.YtomlfbmfdoallaaW.PrintLast
set_option linter.unusedVariables false
set_option linter.unusedSimpArgs false
def sB : S72 → List S61 → Int → S72
 | p, [], _ => p
 | p, m :: r, n => if m.f0 ≤ n then sB (nxt p m) r n else p
def sT : S72 → List S61 → Int → S72
 | p, [], _ => p
 | p, m :: r, t => if (nxt p m).f1 ≤ t then sT (nxt p m) r t else p
def bt (p : S72) (r : List S61) (n : Int) : Int := (sB p r n).f1 + (n - (sB p r n).f0.f0) * long (sB p r n).f0
theorem vm_cons {p m : S61} {r : List S61} (h : vmL (some p) (m :: r) = true) : okN m = true ∧ p.f0 < m.f0 ∧ vmL (some m) r = true := by
 simp only [vmL, Bool.and_eq_true, decide_eq_true_eq] at h
 exact ⟨h.1.1, h.1.2, h.2⟩
theorem good_sB : ∀ (r : List S61) (p : S72) (n : Int), Good p → vmL (some p.f0) r = true → p.f0.f0 ≤ n → Good (sB p r n) ∧ (sB p r n).f0.f0 ≤ n
 | [], p, n, hg, _, hn => ⟨hg, hn⟩
 | m :: r, p, n, hg, hv, hn => by
  obtain ⟨h1, h2, h3⟩ := vm_cons hv
  unfold sB
  split
  · exact good_sB r (nxt p m) n (hg.next h1 h2).1 h3 (by assumption)
  · exact ⟨hg, hn⟩
theorem good_sT : ∀ (r : List S61) (p : S72) (t : Int), Good p → vmL (some p.f0) r = true → p.f1 ≤ t → Good (sT p r t) ∧ (sT p r t).f1 ≤ t ∧ p.f0.f0 ≤ (sT p r t).f0.f0
 | [], p, t, hg, _, hn => ⟨hg, hn, Int.le_refl _⟩
 | m :: r, p, t, hg, hv, hn => by
  obtain ⟨h1, h2, h3⟩ := vm_cons hv
  unfold sT
  split
  · obtain ⟨a, b, c⟩ := good_sT r (nxt p m) t (hg.next h1 h2).1 h3 (by assumption)
    exact ⟨a, b, by have : (nxt p m).f0.f0 = m.f0 := rfl; omega⟩
  · exact ⟨hg, hn, Int.le_refl _⟩
theorem mts_mem : ∀ (r : List S61) (p : S72) (y : S72), Good p → vmL (some p.f0) r = true → y ∈ mtsFrom p r → p.f1 < y.f1 ∧ p.f0.f0 < y.f0.f0
 | [], p, y, _, _, h => by simp [mtsFrom] at h
 | m :: r, p, y, hg, hv, h => by
  obtain ⟨h1, h2, h3⟩ := vm_cons hv
  obtain ⟨hg2, hi⟩ := hg.next h1 h2
  rcases List.mem_cons.1 h with rfl | h
  · exact ⟨hi, h2⟩
  · obtain ⟨a, b⟩ := mts_mem r (nxt p m) y hg2 h3 h
    have : (nxt p m).f0.f0 = m.f0 := rfl
    exact ⟨by omega, by omega⟩
theorem lastOr_none (P : S72 → Bool) : ∀ (l : List S72) (o : S72), (∀ y ∈ l, P y = false) → lastOr P o l = o
 | [], o, _ => rfl
 | x :: xs, o, h => by
  unfold lastOr
  rw [h x (by simp), if_neg (by simp)]
  exact lastOr_none P xs o (fun y hy => h y (by simp [hy]))
theorem lastOr_sT (t : Int) : ∀ (r : List S61) (p : S72), Good p → vmL (some p.f0) r = true → lastOr (fun x => decide (x.f1 ≤ t)) p (mtsFrom p r) = sT p r t
 | [], p, _, _ => rfl
 | m :: r, p, hg, hv => by
  obtain ⟨h1, h2, h3⟩ := vm_cons hv
  obtain ⟨hg2, hi⟩ := hg.next h1 h2
  unfold mtsFrom lastOr sT
  by_cases h : (nxt p m).f1 ≤ t
  · rw [if_pos (by simpa using h), if_pos h]; exact lastOr_sT t r (nxt p m) hg2 h3
  · rw [if_neg (by simpa using h), if_neg h]
    exact lastOr_none _ _ _ (fun y hy => by have := (mts_mem r (nxt p m) y hg2 h3 hy).1; simp; omega)
theorem lastOr_sB (n : Int) : ∀ (r : List S61) (p : S72), Good p → vmL (some p.f0) r = true → lastOr (fun x => decide (x.f0.f0 ≤ n)) p (mtsFrom p r) = sB p r n
 | [], p, _, _ => rfl
 | m :: r, p, hg, hv => by
  obtain ⟨h1, h2, h3⟩ := vm_cons hv
  obtain ⟨hg2, hi⟩ := hg.next h1 h2
  have e : (nxt p m).f0.f0 = m.f0 := rfl
  unfold mtsFrom lastOr sB
  by_cases h : m.f0 ≤ n
  · rw [if_pos (by simpa [e] using h), if_pos h]; exact lastOr_sB n r (nxt p m) hg2 h3
  · rw [if_neg (by simpa [e] using h), if_neg h]
    exact lastOr_none _ _ _ (fun y hy => by have := (mts_mem r (nxt p m) y hg2 h3 hy).2; simp; omega)
theorem bt_succ : ∀ (r : List S61) (p : S72) (n : Int), Good p → vmL (some p.f0) r = true → p.f0.f0 ≤ n → bt p r (n + 1) = bt p r n + long (sB p r n).f0
 | [], p, n, _, _, _ => by
  show p.f1 + (n + 1 - p.f0.f0) * long p.f0 = p.f1 + (n - p.f0.f0) * long p.f0 + long p.f0
  grind
 | m :: r, p, n, hg, hv, hn => by
  obtain ⟨h1, h2, h3⟩ := vm_cons hv
  obtain ⟨hg2, hi⟩ := hg.next h1 h2
  by_cases ha : m.f0 ≤ n
  · have := bt_succ r (nxt p m) n hg2 h3 ha
    simp only [bt, sB, if_pos ha, if_pos (show m.f0 ≤ n + 1 by omega)] at this ⊢
    exact this
  · by_cases hb : m.f0 ≤ n + 1
    · have e : sB (nxt p m) r (n + 1) = nxt p m := by
       cases r with
       | nil => rfl
       | cons m2 r2 =>
        obtain ⟨_, g2, _⟩ := vm_cons h3
        unfold sB
        rw [if_neg (by omega)]
      simp only [bt, sB, if_neg ha, if_pos hb, e]
      show p.f1 + (m.f0 - p.f0.f0) * long p.f0 + (n + 1 - m.f0) * long m = p.f1 + (n - p.f0.f0) * long p.f0 + long p.f0
      have e1 : m.f0 = n + 1 := by omega
      rw [e1, Int.sub_self, Int.zero_mul]
      grind
    · simp only [bt, sB, if_neg ha, if_neg hb]
      grind
theorem bt_mono (r : List S61) (p : S72) (hg : Good p) (hv : vmL (some p.f0) r = true) (d : Nat) : ∀ n : Int, p.f0.f0 ≤ n → bt p r n + d ≤ bt p r (n + d) := by
 induction d with
 | zero => intro n _; simp
 | succ d ih =>
  intro n hn
  have h1 := ih n hn
  have h2 := bt_succ r p (n + d) hg hv (by omega)
  have h3 := (good_sB r p (n + d) hg hv (by omega)).1.long
  have e : n + ((d + 1 : Nat) : Int) = n + d + 1 := by omega
  rw [e]
  omega
theorem bt_le {r : List S61} {p : S72} (hg : Good p) (hv : vmL (some p.f0) r = true) {a b : Int} (ha : p.f0.f0 ≤ a) (hab : a ≤ b) : bt p r a + (b - a) ≤ bt p r b := by
 have := bt_mono r p hg hv (b - a).toNat a ha
 rw [show a + ((b - a).toNat : Int) = b by omega] at this
 omega
def barOf (s : S72) (t : Int) : Int := s.f0.f0 + (t - s.f1) / long s.f0
theorem sB_barOf : ∀ (r : List S61) (p : S72) (t : Int), Good p → vmL (some p.f0) r = true → p.f1 ≤ t → sB p r (barOf (sT p r t) t) = sT p r t
 | [], p, t, _, _, _ => rfl
 | m :: r, p, t, hg, hv, ht => by
  obtain ⟨h1, h2, h3⟩ := vm_cons hv
  obtain ⟨hg2, hi⟩ := hg.next h1 h2
  by_cases h : (nxt p m).f1 ≤ t
  · have e : sT p (m :: r) t = sT (nxt p m) r t := by simp [sT, h]
    rw [e]
    have ih := sB_barOf r (nxt p m) t hg2 h3 h
    obtain ⟨g, g1, g2⟩ := good_sT r (nxt p m) t hg2 h3 h
    have e2 : (nxt p m).f0.f0 = m.f0 := rfl
    have h5 : 0 ≤ (t - (sT (nxt p m) r t).f1) / long (sT (nxt p m) r t).f0 := Int.ediv_nonneg (by omega) (by have := g.long; omega)
    have h6 : m.f0 ≤ barOf (sT (nxt p m) r t) t := by unfold barOf; omega
    conv => lhs; unfold sB
    rw [if_pos h6]
    exact ih
  · have e : sT p (m :: r) t = p := by simp [sT, h]
    rw [e]
    have hl := hg.long
    have h7 : t - p.f1 < (m.f0 - p.f0.f0) * long p.f0 := by
     have : ¬ p.f1 + (m.f0 - p.f0.f0) * long p.f0 ≤ t := h
     omega
    have h8 : (t - p.f1) / long p.f0 < m.f0 - p.f0.f0 := Int.ediv_lt_of_lt_mul (by omega) h7
    unfold sB
    rw [if_neg (by unfold barOf; omega)]
theorem bt_barOf (r : List S61) (p : S72) (t : Int) (hg : Good p) (hv : vmL (some p.f0) r = true) (ht : p.f1 ≤ t) (hb : p.f0.f0 ≤ barOf (sT p r t) t) :
 bt p r (barOf (sT p r t) t) = t - (t - (sT p r t).f1) % long (sT p r t).f0 ∧ t < bt p r (barOf (sT p r t) t + 1) := by
 obtain ⟨g, g1, g2⟩ := good_sT r p t hg hv ht
 have hs := sB_barOf r p t hg hv ht
 have hl := g.long
 have h1 := Int.mul_ediv_add_emod (t - (sT p r t).f1) (long (sT p r t).f0)
 have h2 := Int.emod_lt_of_pos (t - (sT p r t).f1) (show 0 < long (sT p r t).f0 by omega)
 have h3 := Int.emod_nonneg (t - (sT p r t).f1) (show long (sT p r t).f0 ≠ 0 by omega)
 have e1 : bt p r (barOf (sT p r t) t) = t - (t - (sT p r t).f1) % long (sT p r t).f0 := by
  unfold bt
  rw [hs]
  unfold barOf
  have : (sT p r t).f0.f0 + (t - (sT p r t).f1) / long (sT p r t).f0 - (sT p r t).f0.f0 = (t - (sT p r t).f1) / long (sT p r t).f0 := by omega
  rw [this, Int.mul_comm]
  omega
 refine ⟨e1, ?_⟩
 rw [bt_succ r p _ hg hv hb, hs, e1]
 omega
theorem bt_iff (r : List S61) (p : S72) (t n : Int) (hg : Good p) (hv : vmL (some p.f0) r = true) (ht : p.f1 ≤ t) (hn : p.f0.f0 ≤ n) : bt p r n ≤ t ↔ n ≤ barOf (sT p r t) t := by
 obtain ⟨g, g1, g2⟩ := good_sT r p t hg hv ht
 have hb : p.f0.f0 ≤ barOf (sT p r t) t := by
  have : 0 ≤ (t - (sT p r t).f1) / long (sT p r t).f0 := Int.ediv_nonneg (by omega) (by have := g.long; omega)
  unfold barOf; omega
 obtain ⟨e1, e2⟩ := bt_barOf r p t hg hv ht hb
 have h3 := Int.emod_nonneg (t - (sT p r t).f1) (show long (sT p r t).f0 ≠ 0 by have := g.long; omega)
 constructor
 · intro h
   apply Classical.byContradiction
   intro hc
   have := bt_le hg hv (a := barOf (sT p r t) t + 1) (b := n) (by omega) (by omega)
   omega
 · intro h
   have := bt_le hg hv hn h
   omega
end Go.Proofs.Ytomlfbmfdoallaa.Pure
