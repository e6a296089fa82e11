/- TempoSums, part 4: what the row is built on. -/
import Derived.Test.YtomlfbmfdoallaaCTempoSums3
import Derived.Deep.RegionHeld3
import Derived.LoopTactic
namespace Go.Proofs.Ytomlfbmfdoallaa.PA
open Go.RowKit Go.Proofs.YtomlfbmfdoallaaW.PrintWords Go.Proofs.YtomlfbmfdoallaaW.PrintLast Go.Proofs.YtomlfbmfdoallaaW.PrintMore
attribute [local go_sem] max2_int min2_int max_two min_two max_three min_three max_four min_four
set_option linter.unusedVariables false
set_option linter.unusedSimpArgs false
def tempo_meters.l0 : Nat → List (S72) → List (S61) → Int → Int → Option ((List (S72)))
 | 0, _, _, _, _ => none
 | k + 1, x3, x8, x9, x10 => if x10 < x9 then (if 0 ≤ x10 then (if x10 < (x8.length : Int) then (if (wrap64 ((x3.length : Int) - 1)) ≥ 0 then (if 0 ≤ (wrap64 ((x3.length : Int) - 1)) then (if (wrap64 ((x3.length : Int) - 1)) < (x3.length : Int) then ((tempo_metered_long.f ((rd_T72 x3 (wrap64 ((x3.length : Int) - 1))).f0.f0) ((rd_T72 x3 (wrap64 ((x3.length : Int) - 1))).f0.f1) ((rd_T72 x3 (wrap64 ((x3.length : Int) - 1))).f0.f2) ((rd_T72 x3 (wrap64 ((x3.length : Int) - 1))).f1)).bind fun t138 => (if x3.length < 4398046511104 then (tempo_meters.l0 k (x3 ++ [(⟨(⟨(rd_T61 x8 x10).f0, (rd_T61 x8 x10).f1, (rd_T61 x8 x10).f2⟩ : S61), wrap64 (((rd_T72 x3 (wrap64 ((x3.length : Int) - 1))).f1) + (wrap64 ((wrap64 (((rd_T61 x8 x10).f0) - ((rd_T72 x3 (wrap64 ((x3.length : Int) - 1))).f0.f0))) * t138)))⟩ : S72)]) x8 x9 (wrap64 (x10 + 1))) else (none))) else (none)) else (none)) else (if x3.length < 4398046511104 then (tempo_meters.l0 k (x3 ++ [(⟨(⟨(rd_T61 x8 x10).f0, (rd_T61 x8 x10).f1, (rd_T61 x8 x10).f2⟩ : S61), 0⟩ : S72)]) x8 x9 (wrap64 (x10 + 1))) else (none))) else (none)) else (none)) else (some x3)
def tempo_meters.f (k : Nat) (l0 : List (S61)) : Option ((List (S72))) := tempo_meters.l0 k ([] : List (S72)) l0 (l0.length : Int) 0
theorem tempo_meters.mono_l : ∀ k, (∀ y0 y1 y2 y3, LeO (tempo_meters.l0 k y0 y1 y2 y3) (tempo_meters.l0 (k + 1) y0 y1 y2 y3))
 | 0 => fun _ _ _ _ r h => by simp [tempo_meters.l0] at h
 | k + 1 => by
  have ih0 := tempo_meters.mono_l k
  · intro y0 y1 y2 y3
    unfold tempo_meters.l0
    repeat' first
    | (with_reducible exact ih0 _ _ _ _)
    | (with_reducible exact LeO.refl _)
    | (with_reducible exact LeO.none _)
    | (with_reducible refine LeO.ite ?_ ?_)
    | (with_reducible refine LeO.bind ?_ (fun _ => ?_))
    | exact ih0 _ _ _ _
    | exact LeO.none _
    | refine LeO.ite ?_ ?_
    | refine LeO.bind ?_ (fun _ => ?_)
theorem tempo_meters.mono : ∀ a0 k, LeO (tempo_meters.f k a0) (tempo_meters.f (k + 1) a0) := by
 intro a0 k
 have ih0 := tempo_meters.mono_l k
 unfold tempo_meters.f
 repeat' first
  | (with_reducible exact ih0 _ _ _ _)
  | (with_reducible exact LeO.refl _)
  | (with_reducible exact LeO.none _)
  | (with_reducible refine LeO.ite ?_ ?_)
  | (with_reducible refine LeO.bind ?_ (fun _ => ?_))
  | exact ih0 _ _ _ _
  | exact LeO.none _
  | refine LeO.ite ?_ ?_
  | refine LeO.bind ?_ (fun _ => ?_)
def tempo_meters.T8 : Bool × List (List Nat × List Nat) := (true, [([], []), ([], []), ([0, 1], [0, 1]), ([2], [2]), ([3], [3]), ([], []), ([5], [5]), ([], []), ([], []), ([7, 8], [7, 8]), ([9], [9]), ([10], [10]), ([11], [11]), ([6, 12], [6, 12]), ([], []), ([], []), ([14, 15], [14, 15]), ([16], [16]), ([17], [17]), ([13, 18], [13, 18]), ([4, 19], [4, 19]), ([0, 1, 2, 3, 4, 5, 6, 7, 8, 9, 10, 11, 12, 13, 14, 15, 16, 17, 18, 19, 20], []), ([21, 20, 18, 0, 1, 2, 3, 4, 5, 6, 7, 8, 9, 10, 11, 12, 13, 14, 15, 16, 17, 18, 19, 20], [20, 21])])
def tempo_meters.B8 : List Nat := [0, 0, 3, 7, 15, 0, 32, 0, 0, 384, 896, 1920, 3968, 8160, 0, 0, 49152, 114688, 245760, 524256, 1048575, 2097151, 4194303]
theorem tempo_meters.tab8 : rtab .any (opsOf Try.f47 8) = tempo_meters.T8 := by kernel_rfl
theorem tempo_meters.bits8 : waitsOk tempo_meters.T8.2 tempo_meters.B8 = true := by kernel_rfl
set_option maxHeartbeats 8000000 in
set_option maxRecDepth 100000 in
theorem tempo_meters.calls (k : Nat) (A0 : Option Addr) (c0 : Nat) (l0 : List (S61)) (r : List (S72)) (w : World) (hr0 : Kd.C k61 w A0 l0.length l0) (hc0 : l0.length ≤ c0) (h : tempo_meters.f k l0 = some r) :
 Calls Try.prog 47 #[.slice A0 l0.length c0] w fun e w' => ∃ v0_ : Value, e = .returned (v0_) ∧ Kd.R k72 72 w' w.heap.size (fun _ => True) v0_ r ∧ Below w.heap.size w w' := by
 have hu61 := Try.underlying61
 have hu72 := Try.underlying72
 have HR0 := Aside0.mk hr0
 have HC0 := Aside0.mk hc0
 clear hr0 hc0
 have HB := Aside0.mk (Below.refl w.heap.size w)
 have H : (tempo_meters.l0 k ([] : List (S72)) l0 (l0.length : Int) 0) = some r := h
 clear h
 have H' := Aside0.mk H
 clear H
 go_enter Try.func47, Try.ntmps47
 go_wp2
 go_loopg [3, 10] k (fun kq v3 v10 w' => ∃ (x3_1 : List (S72)) (x10_1 : Int), v10 = .int .i64 x10_1 ∧ Aside0 (tempo_meters.l0 kq x3_1 l0 (l0.length : Int) x10_1 = some r) ∧ Aside0 (kq ≤ k) ∧ Aside0 (Kd.R k72 72 w' w.heap.size (fun _ => True) v3 x3_1) ∧ Aside0 (Below w.heap.size w w'))
 case atStart => exact ⟨(([] : List (S72))), (0), (by first | rfl | (simp; done) | (simp [*]; done)), H', ⟨Nat.le_refl _⟩, ⟨by first | exact Kd.R_nil _ _ _ _ _ | exact Kd.N_nil _ _ _ _ _ | exact Kd.V_nil _ _ _ _ _ | exact Kd.Q_nil _ _ _ _ _ | exact Kd.S_nil _ _ _ _ _⟩, ⟨by repeat (first | (with_reducible first | exact HB.out | apply below_alloc | apply pw_below_drewN | apply below_drew1) | exact HB.out)⟩⟩
 case round =>
  clear H'
  obtain ⟨x3_1, x10_1, rfl, HA, HK1, HO_3, HB⟩ := hrel
  cases gk with
  | zero => exact absurd HA.out (by simp [tempo_meters.l0])
  | succ k1 =>
   have H := HA.out
   clear HA
   simp only [tempo_meters.l0] at H
   by_cases c2 : x10_1 < (l0.length : Int)
   · rw [if_pos c2] at H
     have c2b0 : decide (x10_1 < (l0.length : Int)) = true := decide_eq_true c2
     clear c2
     by_cases c3 : 0 ≤ x10_1
     · rw [if_pos c3] at H
       have c3b0 : decide (0 ≤ x10_1) = true := decide_eq_true c3
       clear c3
       by_cases c4 : x10_1 < (l0.length : Int)
       · rw [if_pos c4] at H
         have c4b0 : decide (x10_1 < (l0.length : Int)) = true := decide_eq_true c4
         clear c4
         by_cases c5 : (wrap64 ((x3_1.length : Int) - 1)) ≥ 0
         · rw [if_pos c5] at H
           have c5b0 : decide (0 ≤ (wrap64 ((x3_1.length : Int) - 1))) = true := decide_eq_true c5
           clear c5
           obtain ⟨ji6, hji6⟩ : ∃ j_ : Int, (wrap64 ((x3_1.length : Int) - 1)) = j_ := ⟨_, rfl⟩
           replace H : (if 0 ≤ (ji6) then (if (ji6) < (x3_1.length : Int) then ((tempo_metered_long.f ((rd_T72 x3_1 (ji6)).f0.f0) ((rd_T72 x3_1 (ji6)).f0.f1) ((rd_T72 x3_1 (ji6)).f0.f2) ((rd_T72 x3_1 (ji6)).f1)).bind fun t138 => (if x3_1.length < 4398046511104 then (tempo_meters.l0 k1 (x3_1 ++ [(⟨(⟨(rd_T61 l0 x10_1).f0, (rd_T61 l0 x10_1).f1, (rd_T61 l0 x10_1).f2⟩ : S61), wrap64 (((rd_T72 x3_1 (ji6)).f1) + (wrap64 ((wrap64 (((rd_T61 l0 x10_1).f0) - ((rd_T72 x3_1 (ji6)).f0.f0))) * t138)))⟩ : S72)]) l0 (l0.length : Int) (wrap64 (x10_1 + 1))) else (none))) else (none)) else (none)) = some r := by first | (rw [hji6] at H; exact H) | (simp only [hji6] at H ⊢; exact H)
           (try rw [hji6] at c5b0)
           have hji6w : (IntKind.i64.wrap ((x3_1.length : Int) - 1)) = ji6 := (i64_w _).trans hji6
           by_cases c7 : 0 ≤ (ji6)
           · rw [if_pos c7] at H
             have c7b0 : decide (0 ≤ (ji6)) = true := decide_eq_true c7
             clear c7
             by_cases c8 : (ji6) < (x3_1.length : Int)
             · rw [if_pos c8] at H
               have c8b0 : decide ((ji6) < (x3_1.length : Int)) = true := decide_eq_true c8
               clear c8
               replace H := Option.bind_eq_some_iff.mp H
               obtain ⟨t138, A90, H⟩ := H
               replace H : (if x3_1.length < 4398046511104 then (tempo_meters.l0 k1 (x3_1 ++ [(⟨(⟨(rd_T61 l0 x10_1).f0, (rd_T61 l0 x10_1).f1, (rd_T61 l0 x10_1).f2⟩ : S61), wrap64 (((rd_T72 x3_1 (ji6)).f1) + (wrap64 ((wrap64 (((rd_T61 l0 x10_1).f0) - ((rd_T72 x3_1 (ji6)).f0.f0))) * t138)))⟩ : S72)]) l0 (l0.length : Int) (wrap64 (x10_1 + 1))) else (none)) = some r := H
               have A9 := Aside0.mk A90
               clear A90
               by_cases c10 : x3_1.length < 4398046511104
               · rw [if_pos c10] at H
                 have LMc10 := Aside0.mk c10
                 clear c10
                 obtain ⟨y139, hy139⟩ : ∃ y_ : List (S72), y_ = (x3_1 ++ [(⟨(⟨(rd_T61 l0 x10_1).f0, (rd_T61 l0 x10_1).f1, (rd_T61 l0 x10_1).f2⟩ : S61), wrap64 (((rd_T72 x3_1 (ji6)).f1) + (wrap64 ((wrap64 (((rd_T61 l0 x10_1).f0) - ((rd_T72 x3_1 (ji6)).f0.f0))) * t138)))⟩ : S72)]) := ⟨_, rfl⟩
                 replace H : (tempo_meters.l0 k1 y139 l0 (l0.length : Int) (wrap64 (x10_1 + 1))) = some r := by first | (rw [hy139]; with_reducible exact H) | (have H2_ := (Option.bind_some _ _).symm.trans H; rw [hy139]; with_reducible exact H2_) | (have H2_ := (Option.bind_some _ _).symm.trans H; with_reducible exact H2_) | with_reducible exact H | (rw [hy139]; exact H) | exact H
                 have Ny139 := Aside0.mk hy139
                 clear hy139
                 have H' := Aside0.mk H
                 clear H
                 have p132 : 0 ≤ (x10_1 : Int) := of_decide_eq_true (by first | (with_reducible assumption) | assumption)
                 have q132 : x10_1 < (l0.length : Int) := of_decide_eq_true (by first | (with_reducible assumption) | assumption)
                 obtain ⟨ad132, e132, hx132_0, hx132_1, hx132_2⟩ := at_T61 HR0.out x10_1 p132 q132
                 cases e132
                 replace hx132_0 := (HB.out.cell (World.block_lt_of_cell? w _ hx132_0)).trans hx132_0
                 replace hx132_1 := (HB.out.cell (World.block_lt_of_cell? w _ hx132_1)).trans hx132_1
                 replace hx132_2 := (HB.out.cell (World.block_lt_of_cell? w _ hx132_2)).trans hx132_2
                 replace p132 := eq_true p132
                 replace q132 := eq_true q132
                 try go_wp2_with (first | ((with_reducible refine gate_dst (N := 5) rfl ?_); refine box_event ?hg (N := 5) ?hd (cs := #[.int .i64 0, .int .i64 0, .int .i64 0]) (t := 61) ?hr ?_; (case hd => rfl); (case hg => rfl); (case hr => first | (go_simp; done) | (go_simp; rfl)); intro gb133 hg w11 hbox hb; have n0_ := Aside0.mk (Kd.R_below (by (with_reducible repeat (first | apply Kd.R_alloc | apply Kd.R_drewN | apply Kd.R_drew)); exact HO_3.out) hb); have n1_ := Aside0.mk (below_step (by repeat (first | (with_reducible first | exact HB.out | apply below_alloc | apply pw_below_drewN | apply below_drew1) | exact HB.out)) hb); have n2_ := Aside0.mk (hbox); have n3_ := Aside0.mk ((by rw [hg]; exact (below_size (by repeat (first | (with_reducible first | exact HB.out | apply below_alloc | apply pw_below_drewN | apply below_drew1) | exact HB.out))) : w.heap.size ≤ gb133)); have n4_ := Aside0.mk ((by rw [hg]; exact (below_size (by repeat (first | (with_reducible first | exact HB.out | apply below_alloc | apply pw_below_drewN | apply below_drew1) | exact HB.out))) : w.heap.size ≤ gb133)); clear HO_3; clear HB; have HO_3 := n0_; have HB := n1_; have BK133 := n2_; have GW133 := n3_; have GE133 := n4_; clear n0_ n1_ n2_ n3_ n4_; clear hb hbox hg; have hcz12_0 : w11.cell? ⟨gb133, 0, none⟩ = some (.int .i64 0) := (blk_cell BK133.out 0).trans rfl; have hcz12_1 : w11.cell? ⟨gb133, 1, none⟩ = some (.int .i64 0) := (blk_cell BK133.out 1).trans rfl; have hcz12_2 : w11.cell? ⟨gb133, 2, none⟩ = some (.int .i64 0) := (blk_cell BK133.out 2).trans rfl; have hfz12_0 := blk_frozen BK133.out 0; have hfz12_1 := blk_frozen BK133.out 1; have hfz12_2 := blk_frozen BK133.out 2) | ((with_reducible refine gate_dst (N := 6) rfl ?_); refine box_event ?hg (N := 6) ?hd (cs := #[.int .i64 0, .int .i64 0, .int .i64 0, .int .i64 0]) (t := 72) ?hr ?_; (case hd => rfl); (case hg => rfl); (case hr => first | (go_simp; done) | (go_simp; rfl)); intro gb134 hg w13 hbox hb; have n0_ := Aside0.mk (Kd.R_below (Kd.R_elderB (by (with_reducible repeat (first | apply Kd.R_alloc | apply Kd.R_drewN | apply Kd.R_drew)); exact (Kd.R_mono (Kd.R_far (p := ⟨gb133, 2, none⟩) (Kd.R_far (p := ⟨gb133, 1, none⟩) (Kd.R_far (p := ⟨gb133, 0, none⟩) (Kd.R_types HO_3.out BK133.out (by decide)) (fun _ hk => hk.2) (.int .i64 ((rd_T61 l0 x10_1).f0))) (fun _ hk => hk.2) (.int .i64 ((rd_T61 l0 x10_1).f1))) (fun _ hk => hk.2) (.int .i64 ((rd_T61 l0 x10_1).f2))) (fun _ h_ => h_.1))) gb134 (Nat.le_of_eq hg.symm)) hb); have n1_ := Aside0.mk (blk_below (g := gb133) (o := .cells #[.int .i64 ((rd_T61 l0 x10_1).f0), .int .i64 ((rd_T61 l0 x10_1).f1), .int .i64 ((rd_T61 l0 x10_1).f2)] 61 (0, 0)) (by (with_reducible repeat (first | refine blk_drewN ?_ _ | refine blk_drew ?_ | refine blk_alloc ?_ _)); refine blk_put (cs := #[.int .i64 ((rd_T61 l0 x10_1).f0), .int .i64 ((rd_T61 l0 x10_1).f1), .int .i64 0]) ?_ 2 _ rfl; (with_reducible repeat (first | refine blk_drewN ?_ _ | refine blk_drew ?_ | refine blk_alloc ?_ _)); refine blk_put (cs := #[.int .i64 ((rd_T61 l0 x10_1).f0), .int .i64 0, .int .i64 0]) ?_ 1 _ rfl; (with_reducible repeat (first | refine blk_drewN ?_ _ | refine blk_drew ?_ | refine blk_alloc ?_ _)); refine blk_put (cs := #[.int .i64 0, .int .i64 0, .int .i64 0]) ?_ 0 _ rfl; (with_reducible repeat (first | refine blk_drewN ?_ _ | refine blk_drew ?_ | refine blk_alloc ?_ _)); exact BK133.out) hb); have n2_ := Aside0.mk (below_step (by repeat (first | (with_reducible first | exact HB.out | apply below_alloc | apply pw_below_drewN | apply below_drew1 | refine below_set ?_ GE133.out) | exact HB.out)) hb); have n3_ := Aside0.mk (hbox); have n4_ := Aside0.mk ((by rw [hg]; exact (below_size (by repeat (first | (with_reducible first | exact HB.out | apply below_alloc | apply pw_below_drewN | apply below_drew1 | refine below_set ?_ GE133.out) | exact HB.out))) : w.heap.size ≤ gb134)); have n5_ := Aside0.mk ((by rw [hg]; exact (below_size (by repeat (first | (with_reducible first | exact HB.out | apply below_alloc | apply pw_below_drewN | apply below_drew1 | refine below_set ?_ GE133.out) | exact HB.out))) : w.heap.size ≤ gb134)); have n6_ := Aside0.mk ((by rw [hg]; exact Nat.ne_of_lt (blk_lt (g := gb133) (o := .cells #[.int .i64 ((rd_T61 l0 x10_1).f0), .int .i64 ((rd_T61 l0 x10_1).f1), .int .i64 ((rd_T61 l0 x10_1).f2)] 61 (0, 0)) (by (with_reducible repeat (first | refine blk_drewN ?_ _ | refine blk_drew ?_ | refine blk_alloc ?_ _)); refine blk_put (cs := #[.int .i64 ((rd_T61 l0 x10_1).f0), .int .i64 ((rd_T61 l0 x10_1).f1), .int .i64 0]) ?_ 2 _ rfl; (with_reducible repeat (first | refine blk_drewN ?_ _ | refine blk_drew ?_ | refine blk_alloc ?_ _)); refine blk_put (cs := #[.int .i64 ((rd_T61 l0 x10_1).f0), .int .i64 0, .int .i64 0]) ?_ 1 _ rfl; (with_reducible repeat (first | refine blk_drewN ?_ _ | refine blk_drew ?_ | refine blk_alloc ?_ _)); refine blk_put (cs := #[.int .i64 0, .int .i64 0, .int .i64 0]) ?_ 0 _ rfl; (with_reducible repeat (first | refine blk_drewN ?_ _ | refine blk_drew ?_ | refine blk_alloc ?_ _)); exact BK133.out)) : gb133 ≠ gb134)); have n7_ := Aside0.mk ((by rw [hg]; exact Nat.ne_of_gt (blk_lt (g := gb133) (o := .cells #[.int .i64 ((rd_T61 l0 x10_1).f0), .int .i64 ((rd_T61 l0 x10_1).f1), .int .i64 ((rd_T61 l0 x10_1).f2)] 61 (0, 0)) (by (with_reducible repeat (first | refine blk_drewN ?_ _ | refine blk_drew ?_ | refine blk_alloc ?_ _)); refine blk_put (cs := #[.int .i64 ((rd_T61 l0 x10_1).f0), .int .i64 ((rd_T61 l0 x10_1).f1), .int .i64 0]) ?_ 2 _ rfl; (with_reducible repeat (first | refine blk_drewN ?_ _ | refine blk_drew ?_ | refine blk_alloc ?_ _)); refine blk_put (cs := #[.int .i64 ((rd_T61 l0 x10_1).f0), .int .i64 0, .int .i64 0]) ?_ 1 _ rfl; (with_reducible repeat (first | refine blk_drewN ?_ _ | refine blk_drew ?_ | refine blk_alloc ?_ _)); refine blk_put (cs := #[.int .i64 0, .int .i64 0, .int .i64 0]) ?_ 0 _ rfl; (with_reducible repeat (first | refine blk_drewN ?_ _ | refine blk_drew ?_ | refine blk_alloc ?_ _)); exact BK133.out)) : gb134 ≠ gb133)); clear HO_3; clear BK133; clear HB; have HO_3 := n0_; have BK133 := n1_; have HB := n2_; have BK134 := n3_; have GW134 := n4_; have GE134 := n5_; have NB133_134 := n6_; have NB134_133 := n7_; clear n0_ n1_ n2_ n3_ n4_ n5_ n6_ n7_; clear hb hbox hg; have hnb14 := NB134_133.out; have hnc14 := NB133_134.out; have hcz15_0 : w13.cell? ⟨gb134, 0, none⟩ = some (.int .i64 0) := (blk_cell BK134.out 0).trans rfl; have hcz15_1 : w13.cell? ⟨gb134, 1, none⟩ = some (.int .i64 0) := (blk_cell BK134.out 1).trans rfl; have hcz15_2 : w13.cell? ⟨gb134, 2, none⟩ = some (.int .i64 0) := (blk_cell BK134.out 2).trans rfl; have hcz15_3 : w13.cell? ⟨gb134, 3, none⟩ = some (.int .i64 0) := (blk_cell BK134.out 3).trans rfl; have hfz15_0 := blk_frozen BK134.out 0; have hfz15_1 := blk_frozen BK134.out 1; have hfz15_2 := blk_frozen BK134.out 2; have hfz15_3 := blk_frozen BK134.out 3; obtain ⟨Ao16, co16, eo16⟩ := Kd.R_slice HO_3.out; subst eo16))
                 have n0_ : Aside0 (Kd.R k72 72 ((((w13.setCell ⟨gb134, 0, none⟩ (.int .i64 ((rd_T61 l0 x10_1).f0))).setCell ⟨gb134, 1, none⟩ (.int .i64 ((rd_T61 l0 x10_1).f1))).setCell ⟨gb134, 2, none⟩ (.int .i64 ((rd_T61 l0 x10_1).f2))).setCell ⟨gb134, 3, none⟩ (.int .i64 0)) w.heap.size (fun k_ => k_ ≠ gb134) (.slice Ao16 x3_1.length co16) x3_1) := ⟨by (with_reducible repeat (first | apply Kd.R_alloc | apply Kd.R_drewN | apply Kd.R_drew)); exact Kd.R_mono (Kd.R_far (p := ⟨gb134, 3, none⟩) (Kd.R_far (p := ⟨gb134, 2, none⟩) (Kd.R_far (p := ⟨gb134, 1, none⟩) (Kd.R_far (p := ⟨gb134, 0, none⟩) (Kd.R_mono HO_3.out (fun k_ hk => (⟨hk, hk.2⟩ : _ ∧ k_ ≠ gb134))) (fun _ hk => hk.2) (.int .i64 ((rd_T61 l0 x10_1).f0))) (fun _ hk => hk.2) (.int .i64 ((rd_T61 l0 x10_1).f1))) (fun _ hk => hk.2) (.int .i64 ((rd_T61 l0 x10_1).f2))) (fun _ hk => hk.2) (.int .i64 0)) (fun _ hk => hk.1.2)⟩
                 have n1_ : Aside0 (((((w13.setCell ⟨gb134, 0, none⟩ (.int .i64 ((rd_T61 l0 x10_1).f0))).setCell ⟨gb134, 1, none⟩ (.int .i64 ((rd_T61 l0 x10_1).f1))).setCell ⟨gb134, 2, none⟩ (.int .i64 ((rd_T61 l0 x10_1).f2))).setCell ⟨gb134, 3, none⟩ (.int .i64 0)).heap[gb133]? = some (.cells #[.int .i64 ((rd_T61 l0 x10_1).f0), .int .i64 ((rd_T61 l0 x10_1).f1), .int .i64 ((rd_T61 l0 x10_1).f2)] 61 (0, 0))) := ⟨by (with_reducible repeat (first | refine blk_drewN ?_ _ | refine blk_drew ?_ | refine blk_alloc ?_ _)); refine blk_far ?_ NB133_134.out _; (with_reducible repeat (first | refine blk_drewN ?_ _ | refine blk_drew ?_ | refine blk_alloc ?_ _)); refine blk_far ?_ NB133_134.out _; (with_reducible repeat (first | refine blk_drewN ?_ _ | refine blk_drew ?_ | refine blk_alloc ?_ _)); refine blk_far ?_ NB133_134.out _; (with_reducible repeat (first | refine blk_drewN ?_ _ | refine blk_drew ?_ | refine blk_alloc ?_ _)); refine blk_far ?_ NB133_134.out _; (with_reducible repeat (first | refine blk_drewN ?_ _ | refine blk_drew ?_ | refine blk_alloc ?_ _)); exact BK133.out⟩
                 have n2_ : Aside0 (((((w13.setCell ⟨gb134, 0, none⟩ (.int .i64 ((rd_T61 l0 x10_1).f0))).setCell ⟨gb134, 1, none⟩ (.int .i64 ((rd_T61 l0 x10_1).f1))).setCell ⟨gb134, 2, none⟩ (.int .i64 ((rd_T61 l0 x10_1).f2))).setCell ⟨gb134, 3, none⟩ (.int .i64 0)).heap[gb134]? = some (.cells #[.int .i64 ((rd_T61 l0 x10_1).f0), .int .i64 ((rd_T61 l0 x10_1).f1), .int .i64 ((rd_T61 l0 x10_1).f2), .int .i64 0] 72 (0, 0))) := ⟨by (with_reducible repeat (first | refine blk_drewN ?_ _ | refine blk_drew ?_ | refine blk_alloc ?_ _)); refine blk_put (cs := #[.int .i64 ((rd_T61 l0 x10_1).f0), .int .i64 ((rd_T61 l0 x10_1).f1), .int .i64 ((rd_T61 l0 x10_1).f2), .int .i64 0]) ?_ 3 _ rfl; (with_reducible repeat (first | refine blk_drewN ?_ _ | refine blk_drew ?_ | refine blk_alloc ?_ _)); refine blk_put (cs := #[.int .i64 ((rd_T61 l0 x10_1).f0), .int .i64 ((rd_T61 l0 x10_1).f1), .int .i64 0, .int .i64 0]) ?_ 2 _ rfl; (with_reducible repeat (first | refine blk_drewN ?_ _ | refine blk_drew ?_ | refine blk_alloc ?_ _)); refine blk_put (cs := #[.int .i64 ((rd_T61 l0 x10_1).f0), .int .i64 0, .int .i64 0, .int .i64 0]) ?_ 1 _ rfl; (with_reducible repeat (first | refine blk_drewN ?_ _ | refine blk_drew ?_ | refine blk_alloc ?_ _)); refine blk_put (cs := #[.int .i64 0, .int .i64 0, .int .i64 0, .int .i64 0]) ?_ 0 _ rfl; (with_reducible repeat (first | refine blk_drewN ?_ _ | refine blk_drew ?_ | refine blk_alloc ?_ _)); exact BK134.out⟩
                 have n3_ : Aside0 (Below w.heap.size w ((((w13.setCell ⟨gb134, 0, none⟩ (.int .i64 ((rd_T61 l0 x10_1).f0))).setCell ⟨gb134, 1, none⟩ (.int .i64 ((rd_T61 l0 x10_1).f1))).setCell ⟨gb134, 2, none⟩ (.int .i64 ((rd_T61 l0 x10_1).f2))).setCell ⟨gb134, 3, none⟩ (.int .i64 0))) := ⟨by repeat (first | (with_reducible first | exact HB.out | apply below_alloc | apply pw_below_drewN | apply below_drew1 | refine below_set ?_ GE133.out | refine below_set ?_ GE134.out) | exact HB.out)⟩
                 (try clear HO_3)
                 (try clear BK133)
                 (try clear BK134)
                 (try clear HB)
                 generalize ((((w13.setCell ⟨gb134, 0, none⟩ (.int .i64 ((rd_T61 l0 x10_1).f0))).setCell ⟨gb134, 1, none⟩ (.int .i64 ((rd_T61 l0 x10_1).f1))).setCell ⟨gb134, 2, none⟩ (.int .i64 ((rd_T61 l0 x10_1).f2))).setCell ⟨gb134, 3, none⟩ (.int .i64 0)) = w17 at n0_ n1_ n2_ n3_ ⊢
                 have HO_3 := n0_
                 have BK133 := n1_
                 have BK134 := n2_
                 have HB := n3_
                 clear n0_ n1_ n2_ n3_
                 have n0_ := Aside0.mk (Kd.R_drew HO_3.out)
                 have n1_ := Aside0.mk (blk_drew BK133.out)
                 have n2_ := Aside0.mk (blk_drew BK134.out)
                 have n3_ := Aside0.mk (below_drew1 HB.out)
                 clear HO_3
                 clear BK133
                 clear BK134
                 clear HB
                 have HO_3 := n0_
                 have BK133 := n1_
                 have BK134 := n2_
                 have HB := n3_
                 clear n0_ n1_ n2_ n3_
                 have p135 : 0 ≤ ((ji6) : Int) := of_decide_eq_true (by first | (with_reducible assumption) | assumption)
                 have q135 : (ji6) < (x3_1.length : Int) := of_decide_eq_true (by first | (with_reducible assumption) | assumption)
                 obtain ⟨ad135, e135, hx135_0, hx135_1, hx135_2, hx135_3⟩ := at_T72 (Kd.R_reads' HO_3.out).2.2 (ji6) p135 q135
                 cases e135
                 replace p135 := eq_true p135
                 replace q135 := eq_true q135
                 have p136 : 0 ≤ ((ji6) : Int) := of_decide_eq_true (by first | (with_reducible assumption) | assumption)
                 have q136 : (ji6) < (x3_1.length : Int) := of_decide_eq_true (by first | (with_reducible assumption) | assumption)
                 obtain ⟨ad136, e136, hx136_0, hx136_1, hx136_2, hx136_3⟩ := at_T72 (Kd.R_reads' HO_3.out).2.2 (ji6) p136 q136
                 obtain rfl : ad135 = ad136 := (by injection e136)
                 replace p136 := eq_true p136
                 replace q136 := eq_true q136
                 have p137 : 0 ≤ ((ji6) : Int) := of_decide_eq_true (by first | (with_reducible assumption) | assumption)
                 have q137 : (ji6) < (x3_1.length : Int) := of_decide_eq_true (by first | (with_reducible assumption) | assumption)
                 obtain ⟨ad137, e137, hx137_0, hx137_1, hx137_2, hx137_3⟩ := at_T72 (Kd.R_reads' HO_3.out).2.2 (ji6) p137 q137
                 obtain rfl : ad135 = ad137 := (by injection e137)
                 replace p137 := eq_true p137
                 replace q137 := eq_true q137
                 refine start_ (n := 23) (S := fun w' => w'.cell? ⟨gb133, 0, none⟩ = some (.int .i64 ((rd_T61 l0 x10_1).f0)) ∧ w'.cell? ⟨gb133, 1, none⟩ = some (.int .i64 ((rd_T61 l0 x10_1).f1)) ∧ w'.cell? ⟨gb133, 2, none⟩ = some (.int .i64 ((rd_T61 l0 x10_1).f2)) ∧ w'.cell? (ad135.add (((ji6)).toNat * 4)) = some (.int .i64 ((rd_T72 x3_1 (ji6)).f0.f0)) ∧ w'.cell? ⟨(ad135.add (((ji6)).toNat * 4)).block, (ad135.add (((ji6)).toNat * 4)).off + 1, none⟩ = some (.int .i64 ((rd_T72 x3_1 (ji6)).f0.f1)) ∧ w'.cell? ⟨(ad135.add (((ji6)).toNat * 4)).block, (ad135.add (((ji6)).toNat * 4)).off + 2, none⟩ = some (.int .i64 ((rd_T72 x3_1 (ji6)).f0.f2)) ∧ w'.cell? ⟨(ad135.add (((ji6)).toNat * 4)).block, (ad135.add (((ji6)).toNat * 4)).off + 3, none⟩ = some (.int .i64 ((rd_T72 x3_1 (ji6)).f1)) ∧ w'.cell? (ad135.add (((ji6)).toNat * 4)) = some (.int .i64 ((rd_T72 x3_1 (ji6)).f0.f0)) ∧ w'.cell? ⟨(ad135.add (((ji6)).toNat * 4)).block, (ad135.add (((ji6)).toNat * 4)).off + 1, none⟩ = some (.int .i64 ((rd_T72 x3_1 (ji6)).f0.f1)) ∧ w'.cell? ⟨(ad135.add (((ji6)).toNat * 4)).block, (ad135.add (((ji6)).toNat * 4)).off + 2, none⟩ = some (.int .i64 ((rd_T72 x3_1 (ji6)).f0.f2)) ∧ w'.cell? ⟨(ad135.add (((ji6)).toNat * 4)).block, (ad135.add (((ji6)).toNat * 4)).off + 3, none⟩ = some (.int .i64 ((rd_T72 x3_1 (ji6)).f1)) ∧ w'.cell? (ad135.add (((ji6)).toNat * 4)) = some (.int .i64 ((rd_T72 x3_1 (ji6)).f0.f0)) ∧ w'.cell? ⟨(ad135.add (((ji6)).toNat * 4)).block, (ad135.add (((ji6)).toNat * 4)).off + 1, none⟩ = some (.int .i64 ((rd_T72 x3_1 (ji6)).f0.f1)) ∧ w'.cell? ⟨(ad135.add (((ji6)).toNat * 4)).block, (ad135.add (((ji6)).toNat * 4)).off + 2, none⟩ = some (.int .i64 ((rd_T72 x3_1 (ji6)).f0.f2)) ∧ w'.cell? ⟨(ad135.add (((ji6)).toNat * 4)).block, (ad135.add (((ji6)).toNat * 4)).off + 3, none⟩ = some (.int .i64 ((rd_T72 x3_1 (ji6)).f1))) (ds := []) #[false, false, false, false, false, false, false, false, false, false, false, false, false, false, false, false, false, false, false, false, false, false, false] (by kernel_rfl) rfl rfl ⟨(blk_cell BK133.out 0).trans rfl, (blk_cell BK133.out 1).trans rfl, (blk_cell BK133.out 2).trans rfl, hx135_0, hx135_1, hx135_2, hx135_3, hx136_0, hx136_1, hx136_2, hx136_3, hx137_0, hx137_1, hx137_2, hx137_3⟩ (fun hHeld => ?_); refine with_tabW tempo_meters.tab8 tempo_meters.bits8 (fun HT_ HW_ => ?_)
                 generalize w17.drew = w18 at HO_3 BK133 BK134 HB hx135_0 hx135_1 hx135_2 hx135_3 hx136_0 hx136_1 hx136_2 hx136_3 hx137_0 hx137_1 hx137_2 hx137_3 hHeld ⊢
                 refine pure_ (i := 0) (N := some 21) (v := ?_) (a' := ?_) #[true, false, false, false, false, false, false, false, false, false, false, false, false, false, false, false, false, false, false, false, false, false, false] rfl rfl (any_of HT_.out (by kernel_rfl)) (fun _ _ _ h => h) (Or.inl ⟨by rfl, ?_⟩) ?_ ?_
                 rotate_left
                 · intro w'
                   go_simp
                   with_reducible rfl
                 rotate_left
                 · simp only [Act.put, List.setIfInBounds_toArray, List.set_cons_zero, List.set_cons_succ, i64_w, i32_w]
                   rfl
                 refine pure_ (i := 1) (N := some 22) (v := ?_) (a' := ?_) #[true, true, false, false, false, false, false, false, false, false, false, false, false, false, false, false, false, false, false, false, false, false, false] rfl rfl (any_of HT_.out (by kernel_rfl)) (fun _ _ _ h => h) (Or.inl ⟨by rfl, ?_⟩) ?_ ?_
                 rotate_left
                 · intro w'
                   go_simp
                   with_reducible rfl
                 rotate_left
                 · simp only [Act.put, List.setIfInBounds_toArray, List.set_cons_zero, List.set_cons_succ, i64_w, i32_w]
                   rfl
                 refine pure_ (i := 2) (N := some 23) (v := ?_) (a' := ?_) #[true, true, true, false, false, false, false, false, false, false, false, false, false, false, false, false, false, false, false, false, false, false, false] rfl rfl (any_of HT_.out (by kernel_rfl)) (fun _ _ _ h => h) (Or.inl ⟨by rfl, ?_⟩) ?_ ?_
                 rotate_left
                 · intro w'
                   go_simp
                   with_reducible rfl
                 rotate_left
                 · simp only [Act.put, List.setIfInBounds_toArray, List.set_cons_zero, List.set_cons_succ, i64_w, i32_w]
                   rfl
                 refine pure_ (i := 3) (N := some 24) (v := ?_) (a' := ?_) #[true, true, true, true, false, false, false, false, false, false, false, false, false, false, false, false, false, false, false, false, false, false, false] rfl rfl (any_of HT_.out (by kernel_rfl)) (fun _ _ _ h => h) (Or.inl ⟨by rfl, ?_⟩) ?_ ?_
                 rotate_left
                 · intro w'
                   go_simp
                   with_reducible rfl
                 rotate_left
                 · simp only [Act.put, List.setIfInBounds_toArray, List.set_cons_zero, List.set_cons_succ, i64_w, i32_w]
                   rfl
                 refine pure_ (i := 5) (N := some 26) (v := ?_) (a' := ?_) #[true, true, true, true, false, true, false, false, false, false, false, false, false, false, false, false, false, false, false, false, false, false, false] rfl rfl (any_of HT_.out (by kernel_rfl)) (fun _ _ _ h => h) (Or.inl ⟨by rfl, ?_⟩) ?_ ?_
                 rotate_left
                 · intro w'
                   go_simp
                   with_reducible rfl
                 rotate_left
                 · simp only [Act.put, List.setIfInBounds_toArray, List.set_cons_zero, List.set_cons_succ, i64_w, i32_w]
                   rfl
                 refine pure_ (i := 7) (N := some 28) (v := ?_) (a' := ?_) #[true, true, true, true, false, true, false, true, false, false, false, false, false, false, false, false, false, false, false, false, false, false, false] rfl rfl (any_of HT_.out (by kernel_rfl)) (fun _ _ _ h => h) (Or.inl ⟨by rfl, ?_⟩) ?_ ?_
                 rotate_left
                 · intro w'
                   go_simp
                   with_reducible rfl
                 rotate_left
                 · simp only [Act.put, List.setIfInBounds_toArray, List.set_cons_zero, List.set_cons_succ, i64_w, i32_w]
                   rfl
                 refine pure_ (i := 8) (N := some 29) (v := ?_) (a' := ?_) #[true, true, true, true, false, true, false, true, true, false, false, false, false, false, false, false, false, false, false, false, false, false, false] rfl rfl (any_of HT_.out (by kernel_rfl)) (fun _ _ _ h => h) (Or.inl ⟨by rfl, ?_⟩) ?_ ?_
                 rotate_left
                 · intro w'
                   go_simp
                   with_reducible rfl
                 rotate_left
                 · simp only [Act.put, List.setIfInBounds_toArray, List.set_cons_zero, List.set_cons_succ, i64_w, i32_w]
                   rfl
                 refine pure_ (i := 9) (N := some 30) (v := ?_) (a' := ?_) #[true, true, true, true, false, true, false, true, true, true, false, false, false, false, false, false, false, false, false, false, false, false, false] rfl rfl (any_of HT_.out (by kernel_rfl)) (fun _ _ _ h => h) (Or.inl ⟨by rfl, ?_⟩) ?_ ?_
                 rotate_left
                 · intro w'
                   go_simp
                   with_reducible rfl
                 rotate_left
                 · simp only [Act.put, List.setIfInBounds_toArray, List.set_cons_zero, List.set_cons_succ, i64_w, i32_w]
                   rfl
                 refine pure_ (i := 10) (N := some 31) (v := ?_) (a' := ?_) #[true, true, true, true, false, true, false, true, true, true, true, false, false, false, false, false, false, false, false, false, false, false, false] rfl rfl (any_of HT_.out (by kernel_rfl)) (fun _ _ _ h => h) (Or.inl ⟨by rfl, ?_⟩) ?_ ?_
                 rotate_left
                 · intro w'
                   go_simp
                   with_reducible rfl
                 rotate_left
                 · simp only [Act.put, List.setIfInBounds_toArray, List.set_cons_zero, List.set_cons_succ, i64_w, i32_w]
                   rfl
                 refine pure_ (i := 11) (N := some 32) (v := ?_) (a' := ?_) #[true, true, true, true, false, true, false, true, true, true, true, true, false, false, false, false, false, false, false, false, false, false, false] rfl rfl (any_of HT_.out (by kernel_rfl)) (fun _ _ _ h => h) (Or.inl ⟨by rfl, ?_⟩) ?_ ?_
                 rotate_left
                 · intro w'
                   go_simp
                   with_reducible rfl
                 rotate_left
                 · simp only [Act.put, List.setIfInBounds_toArray, List.set_cons_zero, List.set_cons_succ, i64_w, i32_w]
                   rfl
                 refine pure_ (i := 14) (N := some 35) (v := ?_) (a' := ?_) #[true, true, true, true, false, true, false, true, true, true, true, true, false, false, true, false, false, false, false, false, false, false, false] rfl rfl (any_of HT_.out (by kernel_rfl)) (fun _ _ _ h => h) (Or.inl ⟨by rfl, ?_⟩) ?_ ?_
                 rotate_left
                 · intro w'
                   go_simp
                   with_reducible rfl
                 rotate_left
                 · simp only [Act.put, List.setIfInBounds_toArray, List.set_cons_zero, List.set_cons_succ, i64_w, i32_w]
                   rfl
                 refine pure_ (i := 15) (N := some 36) (v := ?_) (a' := ?_) #[true, true, true, true, false, true, false, true, true, true, true, true, false, false, true, true, false, false, false, false, false, false, false] rfl rfl (any_of HT_.out (by kernel_rfl)) (fun _ _ _ h => h) (Or.inl ⟨by rfl, ?_⟩) ?_ ?_
                 rotate_left
                 · intro w'
                   go_simp
                   with_reducible rfl
                 rotate_left
                 · simp only [Act.put, List.setIfInBounds_toArray, List.set_cons_zero, List.set_cons_succ, i64_w, i32_w]
                   rfl
                 refine pure_ (i := 16) (N := some 37) (v := ?_) (a' := ?_) #[true, true, true, true, false, true, false, true, true, true, true, true, false, false, true, true, true, false, false, false, false, false, false] rfl rfl (any_of HT_.out (by kernel_rfl)) (fun _ _ _ h => h) (Or.inl ⟨by rfl, ?_⟩) ?_ ?_
                 rotate_left
                 · intro w'
                   go_simp
                   with_reducible rfl
                 rotate_left
                 · simp only [Act.put, List.setIfInBounds_toArray, List.set_cons_zero, List.set_cons_succ, i64_w, i32_w]
                   rfl
                 refine take_ (i := 4) (N := some 25) (v := ?_) (a' := ?_) #[true, true, true, true, true, true, false, true, true, true, true, true, false, false, true, true, true, false, false, false, false, false, false] rfl rfl (take_ofW HT_.out HW_.out (by kernel_rfl)) (fun _ _ _ h => h) (Or.inl ⟨by rfl, ?_⟩) hHeld ?_ ?_
                 rotate_left
                 · rintro w' ⟨s0, s1, s2, s3, s4, s5, s6, s7, s8, s9, s10, s11, s12, s13, s14⟩
                   go_simp
                   with_reducible rfl
                 rotate_left
                 · simp only [Act.put, List.setIfInBounds_toArray, List.set_cons_zero, List.set_cons_succ, i64_w, i32_w]
                   rfl
                 refine take_ (i := 6) (N := some 27) (v := ?_) (a' := ?_) #[true, true, true, true, true, true, true, true, true, true, true, true, false, false, true, true, true, false, false, false, false, false, false] rfl rfl (take_ofW HT_.out HW_.out (by kernel_rfl)) (fun _ _ _ h => h) (Or.inl ⟨by rfl, ?_⟩) hHeld ?_ ?_
                 rotate_left
                 · rintro w' ⟨s0, s1, s2, s3, s4, s5, s6, s7, s8, s9, s10, s11, s12, s13, s14⟩
                   go_simp
                   with_reducible rfl
                 rotate_left
                 · simp only [Act.put, List.setIfInBounds_toArray, List.set_cons_zero, List.set_cons_succ, i64_w, i32_w]
                   rfl
                 refine take_ (i := 12) (N := some 33) (v := ?_) (a' := ?_) #[true, true, true, true, true, true, true, true, true, true, true, true, true, false, true, true, true, false, false, false, false, false, false] rfl rfl (take_ofW HT_.out HW_.out (by kernel_rfl)) (fun _ _ _ h => h) (Or.inl ⟨by rfl, ?_⟩) hHeld ?_ ?_
                 rotate_left
                 · rintro w' ⟨s0, s1, s2, s3, s4, s5, s6, s7, s8, s9, s10, s11, s12, s13, s14⟩
                   go_simp
                   with_reducible rfl
                 rotate_left
                 · simp only [Act.put, List.setIfInBounds_toArray, List.set_cons_zero, List.set_cons_succ, i64_w, i32_w]
                   rfl
                 refine pure_ (i := 13) (N := some 34) (v := ?_) (a' := ?_) #[true, true, true, true, true, true, true, true, true, true, true, true, true, true, true, true, true, false, false, false, false, false, false] rfl rfl (any_of HT_.out (by kernel_rfl)) (fun _ _ _ h => h) (Or.inl ⟨by rfl, ?_⟩) ?_ ?_
                 rotate_left
                 · intro w'
                   go_simp
                   with_reducible rfl
                 rotate_left
                 · simp only [Act.put, List.setIfInBounds_toArray, List.set_cons_zero, List.set_cons_succ, i64_w, i32_w]
                   rfl
                 refine take_ (i := 17) (N := some 38) (v := ?_) (a' := ?_) #[true, true, true, true, true, true, true, true, true, true, true, true, true, true, true, true, true, true, false, false, false, false, false] rfl rfl (take_ofW HT_.out HW_.out (by kernel_rfl)) (fun _ _ _ h => h) (Or.inl ⟨by rfl, ?_⟩) hHeld ?_ ?_
                 rotate_left
                 · rintro w' ⟨s0, s1, s2, s3, s4, s5, s6, s7, s8, s9, s10, s11, s12, s13, s14⟩
                   go_simp
                   with_reducible rfl
                 rotate_left
                 · simp only [Act.put, List.setIfInBounds_toArray, List.set_cons_zero, List.set_cons_succ, i64_w, i32_w]
                   rfl
                 refine one_ (i := 18) (N := some 39) #[true, true, true, true, true, true, true, true, true, true, true, true, true, true, true, true, true, true, true, false, false, false, false] rfl rfl (one_of HT_.out (by kernel_rfl)) (by decide) (fun K hK => ?_)
                 refine goes_ Try.func49 (by kernel_rfl) rfl #[.agg #[.int .i64 ((rd_T72 x3_1 (ji6)).f0.f0), .int .i64 ((rd_T72 x3_1 (ji6)).f0.f1), .int .i64 ((rd_T72 x3_1 (ji6)).f0.f2), .int .i64 ((rd_T72 x3_1 (ji6)).f1)]] (by rfl) rfl rfl (by (try simp only [List.map_toArray, List.map_cons, List.map_nil]); first | done | (simp only [hji6]; rfl) | rfl | (simp only [List.length_drop, List.length_take]; rfl)) ?_
                 with_reducible refine (tempo_metered_long.calls ((rd_T72 x3_1 (ji6)).f0.f0) ((rd_T72 x3_1 (ji6)).f0.f1) ((rd_T72 x3_1 (ji6)).f0.f2) ((rd_T72 x3_1 (ji6)).f1) t138 _ A9.out).mono ?_
                 rintro e w19 ⟨rfl, hb⟩
                 have HS3_ := (hb.cell (World.block_lt_of_cell? _ _ (hHeld.2.2.2.1))).trans (hHeld.2.2.2.1)
                 have HS4_ := (hb.cell (World.block_lt_of_cell? _ _ (hHeld.2.2.2.2.1))).trans (hHeld.2.2.2.2.1)
                 have HS5_ := (hb.cell (World.block_lt_of_cell? _ _ (hHeld.2.2.2.2.2.1))).trans (hHeld.2.2.2.2.2.1)
                 have HS6_ := (hb.cell (World.block_lt_of_cell? _ _ (hHeld.2.2.2.2.2.2.1))).trans (hHeld.2.2.2.2.2.2.1)
                 have HS7_ := (hb.cell (World.block_lt_of_cell? _ _ (hHeld.2.2.2.2.2.2.2.1))).trans (hHeld.2.2.2.2.2.2.2.1)
                 have HS8_ := (hb.cell (World.block_lt_of_cell? _ _ (hHeld.2.2.2.2.2.2.2.2.1))).trans (hHeld.2.2.2.2.2.2.2.2.1)
                 have HS9_ := (hb.cell (World.block_lt_of_cell? _ _ (hHeld.2.2.2.2.2.2.2.2.2.1))).trans (hHeld.2.2.2.2.2.2.2.2.2.1)
                 have HS10_ := (hb.cell (World.block_lt_of_cell? _ _ (hHeld.2.2.2.2.2.2.2.2.2.2.1))).trans (hHeld.2.2.2.2.2.2.2.2.2.2.1)
                 have HS11_ := (hb.cell (World.block_lt_of_cell? _ _ (hHeld.2.2.2.2.2.2.2.2.2.2.2.1))).trans (hHeld.2.2.2.2.2.2.2.2.2.2.2.1)
                 have HS12_ := (hb.cell (World.block_lt_of_cell? _ _ (hHeld.2.2.2.2.2.2.2.2.2.2.2.2.1))).trans (hHeld.2.2.2.2.2.2.2.2.2.2.2.2.1)
                 have HS13_ := (hb.cell (World.block_lt_of_cell? _ _ (hHeld.2.2.2.2.2.2.2.2.2.2.2.2.2.1))).trans (hHeld.2.2.2.2.2.2.2.2.2.2.2.2.2.1)
                 have HS14_ := (hb.cell (World.block_lt_of_cell? _ _ (hHeld.2.2.2.2.2.2.2.2.2.2.2.2.2.2))).trans (hHeld.2.2.2.2.2.2.2.2.2.2.2.2.2.2)
                 refine ⟨_, rfl, ?_⟩
                 have n0_ := Aside0.mk (Kd.R_below (by (with_reducible repeat (first | apply Kd.R_alloc | apply Kd.R_drewN | apply Kd.R_drew)); exact HO_3.out) hb)
                 have n1_ := Aside0.mk (blk_below (g := gb133) (o := .cells #[.int .i64 ((rd_T61 l0 x10_1).f0), .int .i64 ((rd_T61 l0 x10_1).f1), .int .i64 ((rd_T61 l0 x10_1).f2)] 61 (0, 0)) (by (with_reducible repeat (first | refine blk_drewN ?_ _ | refine blk_drew ?_ | refine blk_alloc ?_ _)); exact BK133.out) hb)
                 have n2_ := Aside0.mk (blk_below (g := gb134) (o := .cells #[.int .i64 ((rd_T61 l0 x10_1).f0), .int .i64 ((rd_T61 l0 x10_1).f1), .int .i64 ((rd_T61 l0 x10_1).f2), .int .i64 0] 72 (0, 0)) (by (with_reducible repeat (first | refine blk_drewN ?_ _ | refine blk_drew ?_ | refine blk_alloc ?_ _)); exact BK134.out) hb)
                 have n3_ := Aside0.mk (below_step (by repeat (first | (with_reducible first | exact HB.out | apply below_alloc | apply pw_below_drewN | apply below_drew1 | refine below_set ?_ GE133.out | refine below_set ?_ GE134.out) | exact HB.out)) hb)
                 clear HO_3
                 clear BK133
                 clear BK134
                 clear HB
                 have HO_3 := n0_
                 have BK133 := n1_
                 have BK134 := n2_
                 have HB := n3_
                 clear n0_ n1_ n2_ n3_
                 (try clear hb)
                 (try clear hb2)
                 (try clear hk)
                 (try clear hi)
                 refine hK.out _ _ ⟨(blk_cell BK133.out 0).trans rfl, (blk_cell BK133.out 1).trans rfl, (blk_cell BK133.out 2).trans rfl, HS3_, HS4_, HS5_, HS6_, HS7_, HS8_, HS9_, HS10_, HS11_, HS12_, HS13_, HS14_⟩ (fun hHeld => ?_)
                 clear hK K
                 refine norm_ (a' := ?_) ?_ ?_
                 rotate_left
                 · show Act.put _ (some 39) _ = _
                   simp only [Act.put, List.setIfInBounds_toArray, List.set_cons_zero, List.set_cons_succ, i64_w, i32_w]
                   rfl
                 refine pure_ (i := 19) (N := some 40) (v := ?_) (a' := ?_) #[true, true, true, true, true, true, true, true, true, true, true, true, true, true, true, true, true, true, true, true, false, false, false] rfl rfl (any_of HT_.out (by kernel_rfl)) (fun _ _ _ h => h) (Or.inl ⟨by rfl, ?_⟩) ?_ ?_
                 rotate_left
                 · intro w'
                   go_simp
                   with_reducible rfl
                 rotate_left
                 · simp only [Act.put, List.setIfInBounds_toArray, List.set_cons_zero, List.set_cons_succ, i64_w, i32_w]
                   rfl
                 refine pure_ (i := 20) (N := some 41) (v := ?_) (a' := ?_) #[true, true, true, true, true, true, true, true, true, true, true, true, true, true, true, true, true, true, true, true, true, false, false] rfl rfl (any_of HT_.out (by kernel_rfl)) (fun _ _ _ h => h) (Or.inl ⟨by rfl, ?_⟩) ?_ ?_
                 rotate_left
                 · intro w'
                   go_simp
                   with_reducible rfl
                 rotate_left
                 · simp only [Act.put, List.setIfInBounds_toArray, List.set_cons_zero, List.set_cons_succ, i64_w, i32_w]
                   rfl
                 refine pure_ (i := 21) (N := some 42) (v := ?_) (a' := ?_) #[true, true, true, true, true, true, true, true, true, true, true, true, true, true, true, true, true, true, true, true, true, true, false] rfl rfl (any_of HT_.out (by kernel_rfl)) (fun _ _ _ h => h) (Or.inl ⟨by rfl, ?_⟩) ?_ ?_
                 rotate_left
                 · intro w'
                   go_simp
                   with_reducible rfl
                 rotate_left
                 · simp only [Act.put, List.setIfInBounds_toArray, List.set_cons_zero, List.set_cons_succ, i64_w, i32_w]
                   rfl
                 refine one_ (i := 22) (N := none) #[true, true, true, true, true, true, true, true, true, true, true, true, true, true, true, true, true, true, true, true, true, true, true] rfl rfl (one_of HT_.out (by kernel_rfl)) (by decide) (fun K hK => ?_)
                 have hs20 : w19.cell? ⟨gb134, 3, none⟩ = some (.int .i64 0) := (blk_cell BK134.out 3).trans rfl
                 have hfs20 := blk_frozen BK134.out 3
                 have hns20_0 := NB133_134.out
                 have hms20_0 := NB134_133.out
                 refine skip_ (w1 := ?_) (by rfl) rfl ?_ ?_
                 rotate_left
                 · go_simp
                   rfl
                 refine hK.out _ _ ⟨((cell_far (p := ⟨gb134, _, none⟩) NB133_134.out _).trans (hHeld.1)), ((cell_far (p := ⟨gb134, _, none⟩) NB133_134.out _).trans (hHeld.2.1)), ((cell_far (p := ⟨gb134, _, none⟩) NB133_134.out _).trans (hHeld.2.2.1)), ((cell_far (p := ⟨gb134, _, none⟩) (by first | exact Kd.own_blk (Kd.R_away HO_3.out (fun _ hk => hk)) | (rw [add_block]; exact Kd.own_blk (Kd.R_away HO_3.out (fun _ hk => hk))) | (show (Addr.add _ _).block ≠ _; rw [add_block]; exact Kd.own_blk (Kd.R_away HO_3.out (fun _ hk => hk))) | (dsimp only; exact Kd.own_blk (Kd.R_away HO_3.out (fun _ hk => hk)))) _).trans (hHeld.2.2.2.1)), ((cell_far (p := ⟨gb134, _, none⟩) (by first | exact Kd.own_blk (Kd.R_away HO_3.out (fun _ hk => hk)) | (rw [add_block]; exact Kd.own_blk (Kd.R_away HO_3.out (fun _ hk => hk))) | (show (Addr.add _ _).block ≠ _; rw [add_block]; exact Kd.own_blk (Kd.R_away HO_3.out (fun _ hk => hk))) | (dsimp only; exact Kd.own_blk (Kd.R_away HO_3.out (fun _ hk => hk)))) _).trans (hHeld.2.2.2.2.1)), ((cell_far (p := ⟨gb134, _, none⟩) (by first | exact Kd.own_blk (Kd.R_away HO_3.out (fun _ hk => hk)) | (rw [add_block]; exact Kd.own_blk (Kd.R_away HO_3.out (fun _ hk => hk))) | (show (Addr.add _ _).block ≠ _; rw [add_block]; exact Kd.own_blk (Kd.R_away HO_3.out (fun _ hk => hk))) | (dsimp only; exact Kd.own_blk (Kd.R_away HO_3.out (fun _ hk => hk)))) _).trans (hHeld.2.2.2.2.2.1)), ((cell_far (p := ⟨gb134, _, none⟩) (by first | exact Kd.own_blk (Kd.R_away HO_3.out (fun _ hk => hk)) | (rw [add_block]; exact Kd.own_blk (Kd.R_away HO_3.out (fun _ hk => hk))) | (show (Addr.add _ _).block ≠ _; rw [add_block]; exact Kd.own_blk (Kd.R_away HO_3.out (fun _ hk => hk))) | (dsimp only; exact Kd.own_blk (Kd.R_away HO_3.out (fun _ hk => hk)))) _).trans (hHeld.2.2.2.2.2.2.1)), ((cell_far (p := ⟨gb134, _, none⟩) (by first | exact Kd.own_blk (Kd.R_away HO_3.out (fun _ hk => hk)) | (rw [add_block]; exact Kd.own_blk (Kd.R_away HO_3.out (fun _ hk => hk))) | (show (Addr.add _ _).block ≠ _; rw [add_block]; exact Kd.own_blk (Kd.R_away HO_3.out (fun _ hk => hk))) | (dsimp only; exact Kd.own_blk (Kd.R_away HO_3.out (fun _ hk => hk)))) _).trans (hHeld.2.2.2.2.2.2.2.1)), ((cell_far (p := ⟨gb134, _, none⟩) (by first | exact Kd.own_blk (Kd.R_away HO_3.out (fun _ hk => hk)) | (rw [add_block]; exact Kd.own_blk (Kd.R_away HO_3.out (fun _ hk => hk))) | (show (Addr.add _ _).block ≠ _; rw [add_block]; exact Kd.own_blk (Kd.R_away HO_3.out (fun _ hk => hk))) | (dsimp only; exact Kd.own_blk (Kd.R_away HO_3.out (fun _ hk => hk)))) _).trans (hHeld.2.2.2.2.2.2.2.2.1)), ((cell_far (p := ⟨gb134, _, none⟩) (by first | exact Kd.own_blk (Kd.R_away HO_3.out (fun _ hk => hk)) | (rw [add_block]; exact Kd.own_blk (Kd.R_away HO_3.out (fun _ hk => hk))) | (show (Addr.add _ _).block ≠ _; rw [add_block]; exact Kd.own_blk (Kd.R_away HO_3.out (fun _ hk => hk))) | (dsimp only; exact Kd.own_blk (Kd.R_away HO_3.out (fun _ hk => hk)))) _).trans (hHeld.2.2.2.2.2.2.2.2.2.1)), ((cell_far (p := ⟨gb134, _, none⟩) (by first | exact Kd.own_blk (Kd.R_away HO_3.out (fun _ hk => hk)) | (rw [add_block]; exact Kd.own_blk (Kd.R_away HO_3.out (fun _ hk => hk))) | (show (Addr.add _ _).block ≠ _; rw [add_block]; exact Kd.own_blk (Kd.R_away HO_3.out (fun _ hk => hk))) | (dsimp only; exact Kd.own_blk (Kd.R_away HO_3.out (fun _ hk => hk)))) _).trans (hHeld.2.2.2.2.2.2.2.2.2.2.1)), ((cell_far (p := ⟨gb134, _, none⟩) (by first | exact Kd.own_blk (Kd.R_away HO_3.out (fun _ hk => hk)) | (rw [add_block]; exact Kd.own_blk (Kd.R_away HO_3.out (fun _ hk => hk))) | (show (Addr.add _ _).block ≠ _; rw [add_block]; exact Kd.own_blk (Kd.R_away HO_3.out (fun _ hk => hk))) | (dsimp only; exact Kd.own_blk (Kd.R_away HO_3.out (fun _ hk => hk)))) _).trans (hHeld.2.2.2.2.2.2.2.2.2.2.2.1)), ((cell_far (p := ⟨gb134, _, none⟩) (by first | exact Kd.own_blk (Kd.R_away HO_3.out (fun _ hk => hk)) | (rw [add_block]; exact Kd.own_blk (Kd.R_away HO_3.out (fun _ hk => hk))) | (show (Addr.add _ _).block ≠ _; rw [add_block]; exact Kd.own_blk (Kd.R_away HO_3.out (fun _ hk => hk))) | (dsimp only; exact Kd.own_blk (Kd.R_away HO_3.out (fun _ hk => hk)))) _).trans (hHeld.2.2.2.2.2.2.2.2.2.2.2.2.1)), ((cell_far (p := ⟨gb134, _, none⟩) (by first | exact Kd.own_blk (Kd.R_away HO_3.out (fun _ hk => hk)) | (rw [add_block]; exact Kd.own_blk (Kd.R_away HO_3.out (fun _ hk => hk))) | (show (Addr.add _ _).block ≠ _; rw [add_block]; exact Kd.own_blk (Kd.R_away HO_3.out (fun _ hk => hk))) | (dsimp only; exact Kd.own_blk (Kd.R_away HO_3.out (fun _ hk => hk)))) _).trans (hHeld.2.2.2.2.2.2.2.2.2.2.2.2.2.1)), ((cell_far (p := ⟨gb134, _, none⟩) (by first | exact Kd.own_blk (Kd.R_away HO_3.out (fun _ hk => hk)) | (rw [add_block]; exact Kd.own_blk (Kd.R_away HO_3.out (fun _ hk => hk))) | (show (Addr.add _ _).block ≠ _; rw [add_block]; exact Kd.own_blk (Kd.R_away HO_3.out (fun _ hk => hk))) | (dsimp only; exact Kd.own_blk (Kd.R_away HO_3.out (fun _ hk => hk)))) _).trans (hHeld.2.2.2.2.2.2.2.2.2.2.2.2.2.2))⟩ (fun hHeld => ?_)
                 clear hK K
                 refine done_ (done_of HT_.out (by kernel_rfl)) ?_
                 have hcz21_0 : w19.cell? ⟨gb134, 0, none⟩ = some (.int .i64 ((rd_T61 l0 x10_1).f0)) := (blk_cell BK134.out 0).trans rfl
                 have hcz21_1 : w19.cell? ⟨gb134, 1, none⟩ = some (.int .i64 ((rd_T61 l0 x10_1).f1)) := (blk_cell BK134.out 1).trans rfl
                 have hcz21_2 : w19.cell? ⟨gb134, 2, none⟩ = some (.int .i64 ((rd_T61 l0 x10_1).f2)) := (blk_cell BK134.out 2).trans rfl
                 have hcz21_3 : w19.cell? ⟨gb134, 3, none⟩ = some (.int .i64 0) := (blk_cell BK134.out 3).trans rfl
                 have hfz21_0 := blk_frozen BK134.out 0
                 have hfz21_1 := blk_frozen BK134.out 1
                 have hfz21_2 := blk_frozen BK134.out 2
                 have hfz21_3 := blk_frozen BK134.out 3
                 try go_wp2_with (first | ((with_reducible refine gate_builtin (b := .append) (xs := #[.tmp 43, .tmp 45]) rfl ?_); at_builtin; refine Kd.R_append k72 (w0 := w) w.heap.size rfl (.tmp 43) (.tmp 45) 74 72 (.agg #[(.int .i64 0), (.int .i64 0), (.int .i64 0), (.int .i64 0)]) 32 rfl Try.underlying74 info72 rfl (by decide) (by omega) (.slice (some ad135) x3_1.length co16) x3_1 (⟨(⟨(rd_T61 l0 x10_1).f0, (rd_T61 l0 x10_1).f1, (rd_T61 l0 x10_1).f2⟩ : S61), wrap64 (((rd_T72 x3_1 (ji6)).f1) + (wrap64 ((wrap64 (((rd_T61 l0 x10_1).f0) - ((rd_T72 x3_1 (ji6)).f0.f0))) * t138)))⟩ : S72) [.int .i64 ((rd_T61 l0 x10_1).f0), .int .i64 ((rd_T61 l0 x10_1).f1), .int .i64 ((rd_T61 l0 x10_1).f2), .int .i64 (wrap64 (((rd_T72 x3_1 (ji6)).f1) + (wrap64 ((wrap64 (((rd_T61 l0 x10_1).f0) - ((rd_T72 x3_1 (ji6)).f0.f0))) * t138))))] (fun k_ => k_ ≠ gb134) (fun _ => False) rfl (by first | (go_simp; done) | (go_simp; rfl)) ?aP (fun _ hk => hk.elim) ?aF ?aO ?aB ?aS ?aL ?_; (case aP => exact k72_mkM _ _ _ (⟨(⟨(rd_T61 l0 x10_1).f0, (rd_T61 l0 x10_1).f1, (rd_T61 l0 x10_1).f2⟩ : S61), wrap64 (((rd_T72 x3_1 (ji6)).f1) + (wrap64 ((wrap64 (((rd_T61 l0 x10_1).f0) - ((rd_T72 x3_1 (ji6)).f0.f0))) * t138)))⟩ : S72)); (case aB => exact (by repeat (first | (with_reducible first | exact HB.out | apply below_alloc | apply pw_below_drewN | apply below_drew1 | refine below_set ?_ GE133.out | refine below_set ?_ GE134.out) | exact HB.out))); (case aF => exact (fun k_ hk => Kd.freshB (g := gb134) (o := .cells #[.int .i64 ((rd_T61 l0 x10_1).f0), .int .i64 ((rd_T61 l0 x10_1).f1), .int .i64 ((rd_T61 l0 x10_1).f2), .int .i64 (wrap64 (((rd_T72 x3_1 (ji6)).f1) + (wrap64 ((wrap64 (((rd_T61 l0 x10_1).f0) - ((rd_T72 x3_1 (ji6)).f0.f0))) * t138))))] 72 (0, 0)) (by (with_reducible repeat (first | refine blk_drewN ?_ _ | refine blk_drew ?_ | refine blk_alloc ?_ _)); refine blk_put (cs := #[.int .i64 ((rd_T61 l0 x10_1).f0), .int .i64 ((rd_T61 l0 x10_1).f1), .int .i64 ((rd_T61 l0 x10_1).f2), .int .i64 0]) ?_ 3 _ rfl; (with_reducible repeat (first | refine blk_drewN ?_ _ | refine blk_drew ?_ | refine blk_alloc ?_ _)); exact BK134.out) k_ hk)); (case aO => exact (by (with_reducible repeat (first | apply Kd.R_alloc | apply Kd.R_drewN | apply Kd.R_drew)); exact Kd.R_mono (Kd.R_far (p := ⟨gb134, 3, none⟩) (Kd.R_mono HO_3.out (fun k_ hk => (⟨hk, hk⟩ : _ ∧ k_ ≠ gb134))) (fun _ hk => hk.2) (.int .i64 (wrap64 (((rd_T72 x3_1 (ji6)).f1) + (wrap64 ((wrap64 (((rd_T61 l0 x10_1).f0) - ((rd_T72 x3_1 (ji6)).f0.f0))) * t138)))))) (fun _ hk => hk.1))); (case aS => exact (below_size (by repeat (first | (with_reducible first | exact HB.out | apply below_alloc | apply pw_below_drewN | apply below_drew1 | refine below_set ?_ GE133.out | refine below_set ?_ GE134.out) | exact HB.out)))); (case aL => have := LMc10.out; omega); intro v140 w22 ho hb hg hat; rw [← Ny139.out] at ho; have n0_ := Aside0.mk (blk_grown (g := gb133) (o := .cells #[.int .i64 ((rd_T61 l0 x10_1).f0), .int .i64 ((rd_T61 l0 x10_1).f1), .int .i64 ((rd_T61 l0 x10_1).f2)] 61 (0, 0)) (by (with_reducible repeat (first | refine blk_drewN ?_ _ | refine blk_drew ?_ | refine blk_alloc ?_ _)); refine blk_far ?_ NB133_134.out _; (with_reducible repeat (first | refine blk_drewN ?_ _ | refine blk_drew ?_ | refine blk_alloc ?_ _)); exact BK133.out) hg (Kd.R_ne HO_3.out BK133.out (by decide))); have n1_ := Aside0.mk (blk_grown (g := gb134) (o := .cells #[.int .i64 ((rd_T61 l0 x10_1).f0), .int .i64 ((rd_T61 l0 x10_1).f1), .int .i64 ((rd_T61 l0 x10_1).f2), .int .i64 (wrap64 (((rd_T72 x3_1 (ji6)).f1) + (wrap64 ((wrap64 (((rd_T61 l0 x10_1).f0) - ((rd_T72 x3_1 (ji6)).f0.f0))) * t138))))] 72 (0, 0)) (by (with_reducible repeat (first | refine blk_drewN ?_ _ | refine blk_drew ?_ | refine blk_alloc ?_ _)); refine blk_put (cs := #[.int .i64 ((rd_T61 l0 x10_1).f0), .int .i64 ((rd_T61 l0 x10_1).f1), .int .i64 ((rd_T61 l0 x10_1).f2), .int .i64 0]) ?_ 3 _ rfl; (with_reducible repeat (first | refine blk_drewN ?_ _ | refine blk_drew ?_ | refine blk_alloc ?_ _)); exact BK134.out) hg (Kd.R_away HO_3.out (fun _ hk => hk))); have n2_ := Aside0.mk (hb); have n3_ := Aside0.mk (ho); clear BK133; clear BK134; clear HB; clear HO_3; have BK133 := n0_; have BK134 := n1_; have HB := n2_; have HO141 := n3_; clear n0_ n1_ n2_ n3_; clear ho hb hg hat))
                 go_roundg k1
                 case measure => have := HK1.out; omega
                 case rel => exact ⟨(y139), (wrap64 (x10_1 + 1)), (by first | rfl | (simp; done) | (simp [*]; done)), H', ⟨by have := HK1.out; omega⟩, ⟨by (with_reducible repeat (first | apply Kd.R_alloc | apply Kd.R_drewN | apply Kd.R_drew)); exact Kd.R_mono HO141.out (fun _ hk => trivial)⟩, ⟨by repeat (first | (with_reducible first | exact HB.out | apply below_alloc | apply pw_below_drewN | apply below_drew1 | refine below_set ?_ GE133.out | refine below_set ?_ GE134.out) | exact HB.out)⟩⟩
               · rw [if_neg c10] at H
                 exact absurd H (by simp)
             · rw [if_neg c8] at H
               exact absurd H (by simp)
           · rw [if_neg c7] at H
             exact absurd H (by simp)
         · rw [if_neg c5] at H
           have c5b0 : decide (0 ≤ (wrap64 ((x3_1.length : Int) - 1))) = false := decide_eq_false c5
           clear c5
           by_cases c23 : x3_1.length < 4398046511104
           · rw [if_pos c23] at H
             have LMc23 := Aside0.mk c23
             clear c23
             obtain ⟨y142, hy142⟩ : ∃ y_ : List (S72), y_ = (x3_1 ++ [(⟨(⟨(rd_T61 l0 x10_1).f0, (rd_T61 l0 x10_1).f1, (rd_T61 l0 x10_1).f2⟩ : S61), 0⟩ : S72)]) := ⟨_, rfl⟩
             replace H : (tempo_meters.l0 k1 y142 l0 (l0.length : Int) (wrap64 (x10_1 + 1))) = some r := by first | (rw [hy142]; with_reducible exact H) | (have H2_ := (Option.bind_some _ _).symm.trans H; rw [hy142]; with_reducible exact H2_) | (have H2_ := (Option.bind_some _ _).symm.trans H; with_reducible exact H2_) | with_reducible exact H | (rw [hy142]; exact H) | exact H
             have Ny142 := Aside0.mk hy142
             clear hy142
             have H' := Aside0.mk H
             clear H
             have p132 : 0 ≤ (x10_1 : Int) := of_decide_eq_true (by first | (with_reducible assumption) | assumption)
             have q132 : x10_1 < (l0.length : Int) := of_decide_eq_true (by first | (with_reducible assumption) | assumption)
             obtain ⟨ad132, e132, hx132_0, hx132_1, hx132_2⟩ := at_T61 HR0.out x10_1 p132 q132
             cases e132
             replace hx132_0 := (HB.out.cell (World.block_lt_of_cell? w _ hx132_0)).trans hx132_0
             replace hx132_1 := (HB.out.cell (World.block_lt_of_cell? w _ hx132_1)).trans hx132_1
             replace hx132_2 := (HB.out.cell (World.block_lt_of_cell? w _ hx132_2)).trans hx132_2
             replace p132 := eq_true p132
             replace q132 := eq_true q132
             go_wp2_with (first | ((with_reducible refine gate_dst (N := 5) rfl ?_); refine box_event ?hg (N := 5) ?hd (cs := #[.int .i64 0, .int .i64 0, .int .i64 0]) (t := 61) ?hr ?_; (case hd => rfl); (case hg => rfl); (case hr => first | (go_simp; done) | (go_simp; rfl)); intro gb133 hg w24 hbox hb; have n0_ := Aside0.mk (Kd.R_below (by (with_reducible repeat (first | apply Kd.R_alloc | apply Kd.R_drewN | apply Kd.R_drew)); exact HO_3.out) hb); have n1_ := Aside0.mk (below_step (by repeat (first | (with_reducible first | exact HB.out | apply below_alloc | apply pw_below_drewN | apply below_drew1) | exact HB.out)) hb); have n2_ := Aside0.mk (hbox); have n3_ := Aside0.mk ((by rw [hg]; exact (below_size (by repeat (first | (with_reducible first | exact HB.out | apply below_alloc | apply pw_below_drewN | apply below_drew1) | exact HB.out))) : w.heap.size ≤ gb133)); have n4_ := Aside0.mk ((by rw [hg]; exact (below_size (by repeat (first | (with_reducible first | exact HB.out | apply below_alloc | apply pw_below_drewN | apply below_drew1) | exact HB.out))) : w.heap.size ≤ gb133)); clear HO_3; clear HB; have HO_3 := n0_; have HB := n1_; have BK133 := n2_; have GW133 := n3_; have GE133 := n4_; clear n0_ n1_ n2_ n3_ n4_; clear hb hbox hg; have hcz25_0 : w24.cell? ⟨gb133, 0, none⟩ = some (.int .i64 0) := (blk_cell BK133.out 0).trans rfl; have hcz25_1 : w24.cell? ⟨gb133, 1, none⟩ = some (.int .i64 0) := (blk_cell BK133.out 1).trans rfl; have hcz25_2 : w24.cell? ⟨gb133, 2, none⟩ = some (.int .i64 0) := (blk_cell BK133.out 2).trans rfl; have hfz25_0 := blk_frozen BK133.out 0; have hfz25_1 := blk_frozen BK133.out 1; have hfz25_2 := blk_frozen BK133.out 2) | ((with_reducible refine gate_dst (N := 6) rfl ?_); refine box_event ?hg (N := 6) ?hd (cs := #[.int .i64 0, .int .i64 0, .int .i64 0, .int .i64 0]) (t := 72) ?hr ?_; (case hd => rfl); (case hg => rfl); (case hr => first | (go_simp; done) | (go_simp; rfl)); intro gb134 hg w26 hbox hb; have n0_ := Aside0.mk (Kd.R_below (Kd.R_elderB (by (with_reducible repeat (first | apply Kd.R_alloc | apply Kd.R_drewN | apply Kd.R_drew)); exact (Kd.R_mono (Kd.R_far (p := ⟨gb133, 2, none⟩) (Kd.R_far (p := ⟨gb133, 1, none⟩) (Kd.R_far (p := ⟨gb133, 0, none⟩) (Kd.R_types HO_3.out BK133.out (by decide)) (fun _ hk => hk.2) (.int .i64 ((rd_T61 l0 x10_1).f0))) (fun _ hk => hk.2) (.int .i64 ((rd_T61 l0 x10_1).f1))) (fun _ hk => hk.2) (.int .i64 ((rd_T61 l0 x10_1).f2))) (fun _ h_ => h_.1))) gb134 (Nat.le_of_eq hg.symm)) hb); have n1_ := Aside0.mk (blk_below (g := gb133) (o := .cells #[.int .i64 ((rd_T61 l0 x10_1).f0), .int .i64 ((rd_T61 l0 x10_1).f1), .int .i64 ((rd_T61 l0 x10_1).f2)] 61 (0, 0)) (by (with_reducible repeat (first | refine blk_drewN ?_ _ | refine blk_drew ?_ | refine blk_alloc ?_ _)); refine blk_put (cs := #[.int .i64 ((rd_T61 l0 x10_1).f0), .int .i64 ((rd_T61 l0 x10_1).f1), .int .i64 0]) ?_ 2 _ rfl; (with_reducible repeat (first | refine blk_drewN ?_ _ | refine blk_drew ?_ | refine blk_alloc ?_ _)); refine blk_put (cs := #[.int .i64 ((rd_T61 l0 x10_1).f0), .int .i64 0, .int .i64 0]) ?_ 1 _ rfl; (with_reducible repeat (first | refine blk_drewN ?_ _ | refine blk_drew ?_ | refine blk_alloc ?_ _)); refine blk_put (cs := #[.int .i64 0, .int .i64 0, .int .i64 0]) ?_ 0 _ rfl; (with_reducible repeat (first | refine blk_drewN ?_ _ | refine blk_drew ?_ | refine blk_alloc ?_ _)); exact BK133.out) hb); have n2_ := Aside0.mk (below_step (by repeat (first | (with_reducible first | exact HB.out | apply below_alloc | apply pw_below_drewN | apply below_drew1 | refine below_set ?_ GE133.out) | exact HB.out)) hb); have n3_ := Aside0.mk (hbox); have n4_ := Aside0.mk ((by rw [hg]; exact (below_size (by repeat (first | (with_reducible first | exact HB.out | apply below_alloc | apply pw_below_drewN | apply below_drew1 | refine below_set ?_ GE133.out) | exact HB.out))) : w.heap.size ≤ gb134)); have n5_ := Aside0.mk ((by rw [hg]; exact (below_size (by repeat (first | (with_reducible first | exact HB.out | apply below_alloc | apply pw_below_drewN | apply below_drew1 | refine below_set ?_ GE133.out) | exact HB.out))) : w.heap.size ≤ gb134)); have n6_ := Aside0.mk ((by rw [hg]; exact Nat.ne_of_lt (blk_lt (g := gb133) (o := .cells #[.int .i64 ((rd_T61 l0 x10_1).f0), .int .i64 ((rd_T61 l0 x10_1).f1), .int .i64 ((rd_T61 l0 x10_1).f2)] 61 (0, 0)) (by (with_reducible repeat (first | refine blk_drewN ?_ _ | refine blk_drew ?_ | refine blk_alloc ?_ _)); refine blk_put (cs := #[.int .i64 ((rd_T61 l0 x10_1).f0), .int .i64 ((rd_T61 l0 x10_1).f1), .int .i64 0]) ?_ 2 _ rfl; (with_reducible repeat (first | refine blk_drewN ?_ _ | refine blk_drew ?_ | refine blk_alloc ?_ _)); refine blk_put (cs := #[.int .i64 ((rd_T61 l0 x10_1).f0), .int .i64 0, .int .i64 0]) ?_ 1 _ rfl; (with_reducible repeat (first | refine blk_drewN ?_ _ | refine blk_drew ?_ | refine blk_alloc ?_ _)); refine blk_put (cs := #[.int .i64 0, .int .i64 0, .int .i64 0]) ?_ 0 _ rfl; (with_reducible repeat (first | refine blk_drewN ?_ _ | refine blk_drew ?_ | refine blk_alloc ?_ _)); exact BK133.out)) : gb133 ≠ gb134)); have n7_ := Aside0.mk ((by rw [hg]; exact Nat.ne_of_gt (blk_lt (g := gb133) (o := .cells #[.int .i64 ((rd_T61 l0 x10_1).f0), .int .i64 ((rd_T61 l0 x10_1).f1), .int .i64 ((rd_T61 l0 x10_1).f2)] 61 (0, 0)) (by (with_reducible repeat (first | refine blk_drewN ?_ _ | refine blk_drew ?_ | refine blk_alloc ?_ _)); refine blk_put (cs := #[.int .i64 ((rd_T61 l0 x10_1).f0), .int .i64 ((rd_T61 l0 x10_1).f1), .int .i64 0]) ?_ 2 _ rfl; (with_reducible repeat (first | refine blk_drewN ?_ _ | refine blk_drew ?_ | refine blk_alloc ?_ _)); refine blk_put (cs := #[.int .i64 ((rd_T61 l0 x10_1).f0), .int .i64 0, .int .i64 0]) ?_ 1 _ rfl; (with_reducible repeat (first | refine blk_drewN ?_ _ | refine blk_drew ?_ | refine blk_alloc ?_ _)); refine blk_put (cs := #[.int .i64 0, .int .i64 0, .int .i64 0]) ?_ 0 _ rfl; (with_reducible repeat (first | refine blk_drewN ?_ _ | refine blk_drew ?_ | refine blk_alloc ?_ _)); exact BK133.out)) : gb134 ≠ gb133)); clear HO_3; clear BK133; clear HB; have HO_3 := n0_; have BK133 := n1_; have HB := n2_; have BK134 := n3_; have GW134 := n4_; have GE134 := n5_; have NB133_134 := n6_; have NB134_133 := n7_; clear n0_ n1_ n2_ n3_ n4_ n5_ n6_ n7_; clear hb hbox hg; have hnb27 := NB134_133.out; have hnc27 := NB133_134.out; have hcz28_0 : w26.cell? ⟨gb134, 0, none⟩ = some (.int .i64 0) := (blk_cell BK134.out 0).trans rfl; have hcz28_1 : w26.cell? ⟨gb134, 1, none⟩ = some (.int .i64 0) := (blk_cell BK134.out 1).trans rfl; have hcz28_2 : w26.cell? ⟨gb134, 2, none⟩ = some (.int .i64 0) := (blk_cell BK134.out 2).trans rfl; have hcz28_3 : w26.cell? ⟨gb134, 3, none⟩ = some (.int .i64 0) := (blk_cell BK134.out 3).trans rfl; have hfz28_0 := blk_frozen BK134.out 0; have hfz28_1 := blk_frozen BK134.out 1; have hfz28_2 := blk_frozen BK134.out 2; have hfz28_3 := blk_frozen BK134.out 3; obtain ⟨Ao29, co29, eo29⟩ := Kd.R_slice HO_3.out; subst eo29) | ((with_reducible refine gate_builtin (b := .append) (xs := #[.tmp 43, .tmp 45]) rfl ?_); at_builtin; refine Kd.R_append k72 (w0 := w) w.heap.size rfl (.tmp 43) (.tmp 45) 74 72 (.agg #[(.int .i64 0), (.int .i64 0), (.int .i64 0), (.int .i64 0)]) 32 rfl Try.underlying74 info72 rfl (by decide) (by omega) (.slice Ao29 x3_1.length co29) x3_1 (⟨(⟨(rd_T61 l0 x10_1).f0, (rd_T61 l0 x10_1).f1, (rd_T61 l0 x10_1).f2⟩ : S61), 0⟩ : S72) [.int .i64 ((rd_T61 l0 x10_1).f0), .int .i64 ((rd_T61 l0 x10_1).f1), .int .i64 ((rd_T61 l0 x10_1).f2), .int .i64 0] (fun k_ => k_ ≠ gb134) (fun _ => False) rfl (by first | (go_simp; done) | (go_simp; rfl)) ?aP (fun _ hk => hk.elim) ?aF ?aO ?aB ?aS ?aL ?_; (case aP => exact k72_mkM _ _ _ (⟨(⟨(rd_T61 l0 x10_1).f0, (rd_T61 l0 x10_1).f1, (rd_T61 l0 x10_1).f2⟩ : S61), 0⟩ : S72)); (case aB => exact (by repeat (first | (with_reducible first | exact HB.out | apply below_alloc | apply pw_below_drewN | apply below_drew1 | refine below_set ?_ GE133.out | refine below_set ?_ GE134.out) | exact HB.out))); (case aF => exact (fun k_ hk => Kd.freshB (g := gb134) (o := .cells #[.int .i64 ((rd_T61 l0 x10_1).f0), .int .i64 ((rd_T61 l0 x10_1).f1), .int .i64 ((rd_T61 l0 x10_1).f2), .int .i64 0] 72 (0, 0)) (by (with_reducible repeat (first | refine blk_drewN ?_ _ | refine blk_drew ?_ | refine blk_alloc ?_ _)); refine blk_put (cs := #[.int .i64 ((rd_T61 l0 x10_1).f0), .int .i64 ((rd_T61 l0 x10_1).f1), .int .i64 ((rd_T61 l0 x10_1).f2), .int .i64 0]) ?_ 3 _ rfl; (with_reducible repeat (first | refine blk_drewN ?_ _ | refine blk_drew ?_ | refine blk_alloc ?_ _)); refine blk_put (cs := #[.int .i64 ((rd_T61 l0 x10_1).f0), .int .i64 ((rd_T61 l0 x10_1).f1), .int .i64 0, .int .i64 0]) ?_ 2 _ rfl; (with_reducible repeat (first | refine blk_drewN ?_ _ | refine blk_drew ?_ | refine blk_alloc ?_ _)); refine blk_put (cs := #[.int .i64 ((rd_T61 l0 x10_1).f0), .int .i64 0, .int .i64 0, .int .i64 0]) ?_ 1 _ rfl; (with_reducible repeat (first | refine blk_drewN ?_ _ | refine blk_drew ?_ | refine blk_alloc ?_ _)); refine blk_put (cs := #[.int .i64 0, .int .i64 0, .int .i64 0, .int .i64 0]) ?_ 0 _ rfl; (with_reducible repeat (first | refine blk_drewN ?_ _ | refine blk_drew ?_ | refine blk_alloc ?_ _)); exact BK134.out) k_ hk)); (case aO => exact (by (with_reducible repeat (first | apply Kd.R_alloc | apply Kd.R_drewN | apply Kd.R_drew)); exact Kd.R_mono (Kd.R_far (p := ⟨gb134, 3, none⟩) (Kd.R_far (p := ⟨gb134, 2, none⟩) (Kd.R_far (p := ⟨gb134, 1, none⟩) (Kd.R_far (p := ⟨gb134, 0, none⟩) (Kd.R_mono HO_3.out (fun k_ hk => (⟨hk, hk.2⟩ : _ ∧ k_ ≠ gb134))) (fun _ hk => hk.2) (.int .i64 ((rd_T61 l0 x10_1).f0))) (fun _ hk => hk.2) (.int .i64 ((rd_T61 l0 x10_1).f1))) (fun _ hk => hk.2) (.int .i64 ((rd_T61 l0 x10_1).f2))) (fun _ hk => hk.2) (.int .i64 0)) (fun _ hk => hk.1.2))); (case aS => exact (below_size (by repeat (first | (with_reducible first | exact HB.out | apply below_alloc | apply pw_below_drewN | apply below_drew1 | refine below_set ?_ GE133.out | refine below_set ?_ GE134.out) | exact HB.out)))); (case aL => have := LMc23.out; omega); intro v143 w30 ho hb hg hat; rw [← Ny142.out] at ho; have n0_ := Aside0.mk (blk_grown (g := gb133) (o := .cells #[.int .i64 ((rd_T61 l0 x10_1).f0), .int .i64 ((rd_T61 l0 x10_1).f1), .int .i64 ((rd_T61 l0 x10_1).f2)] 61 (0, 0)) (by (with_reducible repeat (first | refine blk_drewN ?_ _ | refine blk_drew ?_ | refine blk_alloc ?_ _)); refine blk_far ?_ NB133_134.out _; (with_reducible repeat (first | refine blk_drewN ?_ _ | refine blk_drew ?_ | refine blk_alloc ?_ _)); refine blk_far ?_ NB133_134.out _; (with_reducible repeat (first | refine blk_drewN ?_ _ | refine blk_drew ?_ | refine blk_alloc ?_ _)); refine blk_far ?_ NB133_134.out _; (with_reducible repeat (first | refine blk_drewN ?_ _ | refine blk_drew ?_ | refine blk_alloc ?_ _)); refine blk_far ?_ NB133_134.out _; (with_reducible repeat (first | refine blk_drewN ?_ _ | refine blk_drew ?_ | refine blk_alloc ?_ _)); exact BK133.out) hg (Kd.R_ne HO_3.out BK133.out (by decide))); have n1_ := Aside0.mk (blk_grown (g := gb134) (o := .cells #[.int .i64 ((rd_T61 l0 x10_1).f0), .int .i64 ((rd_T61 l0 x10_1).f1), .int .i64 ((rd_T61 l0 x10_1).f2), .int .i64 0] 72 (0, 0)) (by (with_reducible repeat (first | refine blk_drewN ?_ _ | refine blk_drew ?_ | refine blk_alloc ?_ _)); refine blk_put (cs := #[.int .i64 ((rd_T61 l0 x10_1).f0), .int .i64 ((rd_T61 l0 x10_1).f1), .int .i64 ((rd_T61 l0 x10_1).f2), .int .i64 0]) ?_ 3 _ rfl; (with_reducible repeat (first | refine blk_drewN ?_ _ | refine blk_drew ?_ | refine blk_alloc ?_ _)); refine blk_put (cs := #[.int .i64 ((rd_T61 l0 x10_1).f0), .int .i64 ((rd_T61 l0 x10_1).f1), .int .i64 0, .int .i64 0]) ?_ 2 _ rfl; (with_reducible repeat (first | refine blk_drewN ?_ _ | refine blk_drew ?_ | refine blk_alloc ?_ _)); refine blk_put (cs := #[.int .i64 ((rd_T61 l0 x10_1).f0), .int .i64 0, .int .i64 0, .int .i64 0]) ?_ 1 _ rfl; (with_reducible repeat (first | refine blk_drewN ?_ _ | refine blk_drew ?_ | refine blk_alloc ?_ _)); refine blk_put (cs := #[.int .i64 0, .int .i64 0, .int .i64 0, .int .i64 0]) ?_ 0 _ rfl; (with_reducible repeat (first | refine blk_drewN ?_ _ | refine blk_drew ?_ | refine blk_alloc ?_ _)); exact BK134.out) hg (Kd.R_away HO_3.out (fun _ hk => hk.2))); have n2_ := Aside0.mk (hb); have n3_ := Aside0.mk (ho); clear BK133; clear BK134; clear HB; clear HO_3; have BK133 := n0_; have BK134 := n1_; have HB := n2_; have HO144 := n3_; clear n0_ n1_ n2_ n3_; clear ho hb hg hat))
             go_roundg k1
             case measure => have := HK1.out; omega
             case rel => exact ⟨(y142), (wrap64 (x10_1 + 1)), (by first | rfl | (simp; done) | (simp [*]; done)), H', ⟨by have := HK1.out; omega⟩, ⟨by (with_reducible repeat (first | apply Kd.R_alloc | apply Kd.R_drewN | apply Kd.R_drew)); exact Kd.R_mono HO144.out (fun _ hk => trivial)⟩, ⟨by repeat (first | (with_reducible first | exact HB.out | apply below_alloc | apply pw_below_drewN | apply below_drew1 | refine below_set ?_ GE133.out | refine below_set ?_ GE134.out) | exact HB.out)⟩⟩
           · rw [if_neg c23] at H
             exact absurd H (by simp)
       · rw [if_neg c4] at H
         exact absurd H (by simp)
     · rw [if_neg c3] at H
       exact absurd H (by simp)
   · rw [if_neg c2] at H
     have c2b0 : decide (x10_1 < (l0.length : Int)) = false := decide_eq_false c2
     clear c2
     obtain rfl := Option.some.inj H
     go_wp2
     go_ret
     exact ⟨_, by first | rfl | (simp [errW_none, errW_some] <;> rfl) | (simp [*, errW_none, errW_some] <;> rfl), by (with_reducible repeat (first | apply Kd.R_alloc | apply Kd.R_drewN | apply Kd.R_drew)); exact HO_3.out, by repeat (first | (with_reducible first | exact HB.out | apply below_alloc | apply pw_below_drewN | apply below_drew1) | exact HB.out)⟩
end Go.Proofs.Ytomlfbmfdoallaa.PA

namespace Go.Proofs.Ytomlfbmfdoallaa.PA
open Go.RowKit Go.Proofs.YtomlfbmfdoallaaW.PrintWords Go.Proofs.YtomlfbmfdoallaaW.PrintLast Go.Proofs.YtomlfbmfdoallaaW.PrintMore
set_option linter.unusedVariables false
set_option linter.unusedSimpArgs false
theorem enters48 : ∀ args w, (callFunc 48 args).run Try.prog w = .ok (.enter 48 args) w := Go.Proofs.enters_of Try.func48 (by kernel_rfl) rfl
theorem enters69 : ∀ args w, (callFunc 69 args).run Try.prog w = .ok (.enter 69 args) w := Go.Proofs.enters_of Try.func69 (by kernel_rfl) rfl
theorem Blk.call {W W1 W' : World} {b : Nat} {cs : Array Value} {t : TypeId} (h : Blk W b cs t) (hb : Below W1.heap.size W1 W') (e : W1.heap = W.heap) : Blk W' b cs t := by
 have := hb.block b (by rw [e]; exact h.lt)
 rw [e] at this
 exact h.same this
theorem Below.call_ {B : Nat} {w W W1 W' : World} (h : Below B w W) (hB : B ≤ W.heap.size) (hb : Below W1.heap.size W1 W') (e : W1.heap = W.heap ∧ W1.os = W.os ∧ W1.tape = W.tape ∧ W1.output = W.output) : Below B w W' :=
 ⟨hb.os.trans (e.2.1.trans h.os), hb.tape.trans (e.2.2.1.trans h.tape), hb.output.trans (e.2.2.2.trans h.output), Nat.le_trans h.size (by rw [← e.1]; exact hb.size), fun k hk => by have := hb.block k (by rw [e.1]; omega); rw [this, e.1]; exact h.block k hk⟩
theorem set3' (W : World) (b : Nat) (cs : Array Value) (t : TypeId) (v0 v1 v2 : Value) (h : Blk W b cs t) (h3 : cs.size = 3) :
 Blk (((W.setCell ⟨b, 0, none⟩ v0).setCell ⟨b, 1, none⟩ v1).setCell ⟨b, 2, none⟩ v2) b #[v0, v1, v2] t := by
 have := ((h.set 0 v0).set 1 v1).set 2 v2
 obtain ⟨l⟩ := cs
 match l, h3 with
 | [a, b, c], _ => exact this
theorem place1_calls (x : S72) (b : Nat) (at_ : Int) (W : World) (hb : W.cell? ⟨b, 0, none⟩ = some (.int .i64 at_)) :
 Calls Try.prog 48 #[.agg (c72 x), .pointer (some ⟨b, 0, none⟩)] W fun e w' => e = .returned (.bool (decide (x.f1 ≤ at_))) ∧ Below W.heap.size W w' := by
 have l1 : b < W.heap.size := World.block_lt_of_cell? _ _ hb
 unfold c72
 go_enter Try.func48, Try.ntmps48
 go_wp2
 go_ret
 exact ⟨rfl, (Below.refl _ _).alloc (Nat.le_refl _) _⟩
theorem bar1_calls (x : S72) (b : Nat) (n : Int) (W : World) (hb : W.cell? ⟨b, 0, none⟩ = some (.int .i64 n)) :
 Calls Try.prog 69 #[.agg (c72 x), .pointer (some ⟨b, 0, none⟩)] W fun e w' => e = .returned (.bool (decide (x.f0.f0 ≤ n))) ∧ Below W.heap.size W w' := by
 have l1 : b < W.heap.size := World.block_lt_of_cell? _ _ hb
 unfold c72
 go_enter Try.func69, Try.ntmps69
 go_wp2
 go_ret
 exact ⟨rfl, (Below.refl _ _).alloc (Nat.le_refl _) _⟩
def okM (m : S72) (n : Int) : Bool := decide (0 ≤ m.f0.f0) && decide (m.f0.f0 ≤ 1000000000) && decide (1 ≤ m.f0.f1) && decide (m.f0.f1 ≤ 32) && decide (1 ≤ m.f0.f2) && decide (m.f0.f2 ≤ 10000) && decide (0 ≤ m.f1) && decide (m.f1 ≤ 1000000000000000) && decide (0 ≤ n) && decide (n ≤ 1000000000)
def tempo_bar.f (k : Nat) (l0 : List S61) (a1 : Int) : Option (Int × Int × Int × Int × Int) :=
 (tempo_meters.f k l0).bind fun ms => if ms.length = 0 then none else (fun m : S72 => if okM m a1 = true then some (m.f0.f0, m.f0.f1, m.f0.f2, m.f1, m.f1 + (a1 - m.f0.f0) * (m.f0.f1 * m.f0.f2)) else none) (lastOr (fun x => decide (x.f0.f0 ≤ a1)) (rd_T72 ms 0) ms)
theorem tempo_bar.mono : ∀ a0 a1 k, LeO (tempo_bar.f k a0 a1) (tempo_bar.f (k + 1) a0 a1) := by
 intro a0 a1 k
 unfold tempo_bar.f
 exact LeO.bind (tempo_meters.mono _ _) (fun _ => LeO.refl _)
set_option maxRecDepth 100000 in
set_option maxHeartbeats 2000000 in
theorem tempo_bar.calls (k : Nat) (A0 : Option Addr) (c0 : Nat) (l0 : List (S61)) (a1 : Int) (r1 r2 r3 r4 r5 : Int) (w : World) (hr0 : Kd.C k61 w A0 l0.length l0) (hc0 : l0.length ≤ c0) (h : tempo_bar.f k l0 a1 = some (r1, r2, r3, r4, r5)) :
 Calls Try.prog 52 #[.slice A0 l0.length c0, .int .i64 a1] w fun e w' => e = .returned (.tuple #[.agg #[.int .i64 r1, .int .i64 r2, .int .i64 r3, .int .i64 r4], .int .i64 r5]) ∧ Below w.heap.size w w' := by
 unfold tempo_bar.f at h
 obtain ⟨ms, hms, h'⟩ := Option.bind_eq_some_iff.mp h
 clear h
 split at h'
 · cases h'
 rename_i hne
 dsimp only at h'
 have HM := fun w1 (hb : Below w.heap.size w w1) => Lib.hid (tempo_meters.calls k A0 c0 l0 ms w1 (Kd.C_below hr0 hb) hc0 hms)
 clear hr0 hms
 have hmf : ∀ (fn : Fn) (first cap : Array Value) (w : World), (Instr.makeFunc fn first cap).run Try.prog w = .ok (.func fn first cap) w := fun _ _ _ _ => rfl
 go_enter Try.func52, Try.ntmps52
 go_wp2_with (fail)
 obtain ⟨W0, hW0⟩ : ∃ W0, W0 = (w.alloc (.cells #[.int .i64 a1] 3)).alloc (.cells #[.int .i64 0, .int .i64 0, .int .i64 0, .int .i64 0] 72) := ⟨_, rfl⟩
 have k0 : Blk W0 w.heap.size #[.int .i64 a1] 3 := by rw [hW0]; exact (Blk.new w _ _).alloc _
 have k1 : Blk W0 (w.heap.size + 1) #[.int .i64 0, .int .i64 0, .int .i64 0, .int .i64 0] 72 := by rw [hW0]; have := Blk.new (w.alloc (.cells #[.int .i64 a1] 3)) #[.int .i64 0, .int .i64 0, .int .i64 0, .int .i64 0] 72; rw [World.size_alloc] at this; exact this
 have hb0 : Below w.heap.size w W0 := by rw [hW0]; exact ((Below.refl _ w).alloc (Nat.le_refl _) _).alloc (by simp) _
 rw [← hW0]
 clear hW0
 refine (HM W0 hb0).out.mono ?_
 rintro e w1 ⟨v0, rfl, hR, hb1⟩
 obtain ⟨A2, c2, rfl, hc2, hC2⟩ := Kd.R_reads hR
 clear hR
 replace k0 := k0.below_ hb1
 replace k1 := k1.below_ hb1
 replace hb0 := hb0.trans (hb1.mono hb0.size)
 clear hb1
 go_wp2_with (fail)
 refine (last_calls (fun x => decide (x.f0.f0 ≤ a1)) 69 #[.pointer (some ⟨w.heap.size, 0, none⟩)] enters69 A2 c2 ms w1 (by omega) (fun W x hW => bar1_calls x _ a1 W ((hW.cell (p := ⟨w.heap.size, 0, none⟩) k0.lt).trans (k0.cell 0 rfl))) hC2).mono ?_
 clear hC2
 generalize lastOr (fun x => decide (x.f0.f0 ≤ a1)) (rd_T72 ms 0) ms = m at h'
 split at h'
 · rename_i hok
   simp only [okM, Bool.and_eq_true, decide_eq_true_eq] at hok
   obtain ⟨⟨⟨⟨⟨⟨⟨⟨⟨o1, o2⟩, o3⟩, o4⟩, o5⟩, o6⟩, o7⟩, o8⟩, o9⟩, o10⟩ := hok
   simp only [Option.some.injEq, Prod.mk.injEq] at h'
   obtain ⟨rfl, rfl, rfl, rfl, rfl⟩ := h'
   unfold c72
   rintro e w2 ⟨rfl, hb2⟩
   replace k0 := k0.below_ hb2
   replace k1 := k1.below_ hb2
   replace hb0 := hb0.trans (hb2.mono hb0.size)
   clear hb2
   go_wp2_with (fail)
   have hne1 : ¬ w2.heap.size = w.heap.size + 1 := by have := k1.lt; omega
   have hne2 : ¬ w.heap.size + 1 = w2.heap.size := by have := k1.lt; omega
   have k6 := Blk.new w2 #[.int .i64 m.f0.f0, .int .i64 m.f0.f1, .int .i64 m.f0.f2, .int .i64 m.f1] 72
   have hb3 := hb0.alloc hb0.size (.cells #[.int .i64 m.f0.f0, .int .i64 m.f0.f1, .int .i64 m.f0.f2, .int .i64 m.f1] 72)
   replace k0 := k0.alloc (.cells #[.int .i64 m.f0.f0, .int .i64 m.f0.f1, .int .i64 m.f0.f2, .int .i64 m.f1] 72)
   replace k1 := k1.alloc (.cells #[.int .i64 m.f0.f0, .int .i64 m.f0.f1, .int .i64 m.f0.f2, .int .i64 m.f1] 72)
   generalize w2.alloc (.cells #[.int .i64 m.f0.f0, .int .i64 m.f0.f1, .int .i64 m.f0.f2, .int .i64 m.f1] 72) = W3 at k0 k1 k6 hb3 ⊢
   generalize w2.heap.size = b6 at k6 hne1 hne2 ⊢
   have g0 : W3.cell? ⟨w.heap.size, 0, none⟩ = some (.int .i64 a1) := k0.cell 0 rfl
   have g1 : W3.cell? ⟨b6, 0, none⟩ = some (.int .i64 m.f0.f0) := k6.cell 0 rfl
   have g2 : W3.cell? ⟨b6, 1, none⟩ = some (.int .i64 m.f0.f1) := k6.cell 1 rfl
   have g3 : W3.cell? ⟨b6, 2, none⟩ = some (.int .i64 m.f0.f2) := k6.cell 2 rfl
   have g4 : W3.cell? ⟨b6, 3, none⟩ = some (.int .i64 m.f1) := k6.cell 3 rfl
   have v1 := mulb (by omega : 0 ≤ m.f0.f1) o4 (by omega : 0 ≤ m.f0.f2) o6
   have v2 : -320000000000000 ≤ (a1 - m.f0.f0) * (m.f0.f1 * m.f0.f2) ∧ (a1 - m.f0.f0) * (m.f0.f1 * m.f0.f2) ≤ 320000000000000 := by
    have e1 := mulb o9 o10 v1.1 v1.2
    have e2 := mulb o1 o2 v1.1 v1.2
    rw [Int.sub_mul]; omega
   have hl : tempo_metered_long.f m.f0.f0 m.f0.f1 m.f0.f2 m.f1 = some (m.f0.f1 * m.f0.f2) := by unfold tempo_metered_long.f; rw [w64 (by omega) (by omega)]
   have HL := fun w => Lib.hid (tempo_metered_long.calls m.f0.f0 m.f0.f1 m.f0.f2 m.f1 _ w hl)
   clear hl
   generalize hlg : m.f0.f1 * m.f0.f2 = lg at v1 v2 HL
   have HLG := Aside0.mk hlg
   clear hlg
   have u1 : IntKind.i64.wrap (a1 - m.f0.f0) = a1 - m.f0.f0 := (i64_w _).trans (w64 (by omega) (by omega))
   have u2 : IntKind.i64.wrap ((a1 - m.f0.f0) * lg) = (a1 - m.f0.f0) * lg := (i64_w _).trans (w64 (by omega) (by omega))
   have u3 : IntKind.i64.wrap (m.f1 + (a1 - m.f0.f0) * lg) = m.f1 + (a1 - m.f0.f0) * lg := (i64_w _).trans (w64 (by omega) (by omega))
   clear hb0 HM
   go_region_held3 (fun w' => w'.cell? ⟨w.heap.size, 0, none⟩ = some (.int .i64 a1) ∧ w'.cell? ⟨b6, 0, none⟩ = some (.int .i64 m.f0.f0) ∧ w'.cell? ⟨b6, 1, none⟩ = some (.int .i64 m.f0.f1) ∧ w'.cell? ⟨b6, 2, none⟩ = some (.int .i64 m.f0.f2) ∧ w'.cell? ⟨b6, 3, none⟩ = some (.int .i64 m.f1)) (simp [go_sem, *])
    (first | (go_at_call 49; refine (HL _).out.mono ?_; rintro e w' ⟨rfl, hb4⟩; have y0 := (k0.drew.below_ hb4).cell 0 rfl; have y1 := (k6.drew.below_ hb4).cell 0 rfl; have y2 := (k6.drew.below_ hb4).cell 1 rfl; have y3 := (k6.drew.below_ hb4).cell 2 rfl; have y4 := (k6.drew.below_ hb4).cell 3 rfl; have x0 := (k1.drew.below_ hb4).cell 0 (v := .int .i64 0) rfl; have x1 := (k1.drew.below_ hb4).cell 1 (v := .int .i64 0) rfl; have x2 := (k1.drew.below_ hb4).cell 2 (v := .int .i64 0) rfl; have x3 := (k1.drew.below_ hb4).cell 3 (v := .int .i64 0) rfl; have z0 := (k1.drew.below_ hb4).frozen 0; have z1 := (k1.drew.below_ hb4).frozen 1; have z2 := (k1.drew.below_ hb4).frozen 2; have z3 := (k1.drew.below_ hb4).frozen 3))
   clear u1 u2 u3
   go_wp2
   have s1 := set4' _ _ _ _ (.int .i64 m.f0.f0) (.int .i64 m.f0.f1) (.int .i64 m.f0.f2) (.int .i64 m.f1) (k1.drew.below_ hb4) rfl
   have p0 := s1.cell 0 (v := .int .i64 m.f0.f0) rfl
   have p1 := s1.cell 1 (v := .int .i64 m.f0.f1) rfl
   have p2 := s1.cell 2 (v := .int .i64 m.f0.f2) rfl
   have p3 := s1.cell 3 (v := .int .i64 m.f1) rfl
   refine bodyPost_ret (v := .tuple #[.agg #[.int .i64 m.f0.f0, .int .i64 m.f0.f1, .int .i64 m.f0.f2, .int .i64 m.f1], .int .i64 (m.f1 + (a1 - m.f0.f0) * lg)]) (by simp [results, Try.results52, go_sem, p0, p1, p2, p3]) rfl ⟨by rw [HLG.out], ?_⟩
   have hb5 : Below w.heap.size w w' := hb3.drew.trans (hb4.mono (by have := hb3.size; simp; omega))
   exact (((hb5.setCell (by show _ ≤ w.heap.size + 1; omega) _).setCell (by show _ ≤ w.heap.size + 1; omega) _).setCell (by show _ ≤ w.heap.size + 1; omega) _).setCell (by show _ ≤ w.heap.size + 1; omega) _
 · cases h'
def tempo_Place.f (k : Nat) (l0 : List S61) (a1 : Int) : Option (Int × Int × Int × Int) :=
 (tempo_ValidMeter.f k l0).bind fun v => if v = true then (if 0 ≤ a1 ∧ a1 ≤ 1000000000 then ((tempo_meters.f k l0).bind fun ms => if ms.length = 0 then none else
  (fun m : S72 => if okM m a1 = true ∧ m.f1 ≤ a1 then some (m.f0.f0 + (a1 - m.f1) / (m.f0.f1 * m.f0.f2), (a1 - m.f1) % (m.f0.f1 * m.f0.f2) / m.f0.f2, (a1 - m.f1) % m.f0.f2, 0) else none) (lastOr (fun x => decide (x.f1 ≤ a1)) (rd_T72 ms 0) ms)) else some (0, 0, 0, 7)) else some (0, 0, 0, 1)
theorem tempo_Place.mono : ∀ a0 a1 k, LeO (tempo_Place.f k a0 a1) (tempo_Place.f (k + 1) a0 a1) := by
 intro a0 a1 k
 unfold tempo_Place.f
 exact LeO.bind (tempo_ValidMeter.mono _ _) (fun _ => LeO.ite (LeO.ite (LeO.bind (tempo_meters.mono _ _) (fun _ => LeO.refl _)) (LeO.refl _)) (LeO.refl _))
set_option maxRecDepth 100000 in
set_option maxHeartbeats 2000000 in
theorem tempo_Place.calls (k : Nat) (A0 : Option Addr) (c0 : Nat) (l0 : List (S61)) (a1 : Int) (r1 r2 r3 r4 : Int) (w : World) (hr0 : Kd.C k61 w A0 l0.length l0) (hc0 : l0.length ≤ c0) (h : tempo_Place.f k l0 a1 = some (r1, r2, r3, r4)) :
 Calls Try.prog 16 #[.slice A0 l0.length c0, .int .i64 a1] w fun e w' => e = .returned (.tuple #[.agg #[.int .i64 r1, .int .i64 r2, .int .i64 r3], .int .i64 r4]) ∧ Below w.heap.size w w' := by
 unfold tempo_Place.f at h
 obtain ⟨v, hv, h'⟩ := Option.bind_eq_some_iff.mp h
 clear h
 have HV := fun w1 (hb : Below w.heap.size w w1) => Lib.hid (tempo_ValidMeter.calls k A0 c0 l0 v w1 (Kd.C_below hr0 hb) hc0 hv)
 clear hv
 have hmf : ∀ (fn : Fn) (first cap : Array Value) (w : World), (Instr.makeFunc fn first cap).run Try.prog w = .ok (.func fn first cap) w := fun _ _ _ _ => rfl
 obtain ⟨W0, hW0⟩ : ∃ W0, W0 = (w.alloc (.cells #[.int .i64 a1] 3)).alloc (.cells #[.int .i64 0, .int .i64 0, .int .i64 0] 37) := ⟨_, rfl⟩
 have k0 : Blk W0 w.heap.size #[.int .i64 a1] 3 := by rw [hW0]; exact (Blk.new w _ _).alloc _
 have k1 : Blk W0 (w.heap.size + 1) #[.int .i64 0, .int .i64 0, .int .i64 0] 37 := by rw [hW0]; have := Blk.new (w.alloc (.cells #[.int .i64 a1] 3)) #[.int .i64 0, .int .i64 0, .int .i64 0] 37; rw [World.size_alloc] at this; exact this
 have hb0 : Below w.heap.size w W0 := by rw [hW0]; exact ((Below.refl _ w).alloc (Nat.le_refl _) _).alloc (by simp) _
 have HW0 := Aside0.mk hW0
 clear hW0
 cases v with
 | false =>
  simp only [Bool.false_eq_true, if_false, Option.some.injEq, Prod.mk.injEq] at h'
  obtain ⟨rfl, rfl, rfl, rfl⟩ := h'
  go_enter Try.func16, Try.ntmps16
  go_wp2_with (fail)
  rw [← HW0.out]
  refine (HV W0 hb0).out.mono ?_
  rintro e w1 ⟨rfl, hb1⟩
  replace k1 := k1.below_ hb1
  replace hb0 := hb0.trans (hb1.mono hb0.size)
  clear hb1 k0
  have x0 := k1.cell 0 (v := .int .i64 0) rfl
  have x1 := k1.cell 1 (v := .int .i64 0) rfl
  have x2 := k1.cell 2 (v := .int .i64 0) rfl
  have z0 := k1.frozen 0
  have z1 := k1.frozen 1
  have z2 := k1.frozen 2
  go_wp2_with (fail)
  have s1 := set3' _ _ _ _ (.int .i64 0) (.int .i64 0) (.int .i64 0) k1 rfl
  have p0 := s1.cell 0 (v := .int .i64 0) rfl
  have p1 := s1.cell 1 (v := .int .i64 0) rfl
  have p2 := s1.cell 2 (v := .int .i64 0) rfl
  refine bodyPost_ret (v := .tuple #[.agg #[.int .i64 0, .int .i64 0, .int .i64 0], .int .i64 1]) (by simp [results, Try.results16, go_sem, p0, p1, p2]) rfl ⟨rfl, ?_⟩
  exact ((hb0.setCell (by show _ ≤ w.heap.size + 1; omega) _).setCell (by show _ ≤ w.heap.size + 1; omega) _).setCell (by show _ ≤ w.heap.size + 1; omega) _
 | true =>
  simp only [if_true] at h'
  have hw43 : ∀ w1, Calls Try.prog 43 #[.int .i64 a1, .int .i64 0, .int .i64 1000000000] w1 fun e w' => e = .returned (.bool (decide (0 ≤ a1) && decide (a1 ≤ 1000000000))) ∧ Drawn0 w1 w' := fun w1 => tempo_within.calls a1 0 1000000000 _ w1 (tempo_within.eq _ _ _)
  by_cases hin : 0 ≤ a1 ∧ a1 ≤ 1000000000
  · rw [if_pos hin] at h'
    rw [show (decide (0 ≤ a1) && decide (a1 ≤ 1000000000)) = true by simp [hin]] at hw43
    have HW43 := fun w => Lib.hid (hw43 w)
    clear hw43
    obtain ⟨i1, i2⟩ := hin
    obtain ⟨ms, hms, h'⟩ := Option.bind_eq_some_iff.mp h'
    split at h'
    · cases h'
    rename_i hne
    have HM := fun w1 (hb : Below w.heap.size w w1) => Lib.hid (tempo_meters.calls k A0 c0 l0 ms w1 (Kd.C_below hr0 hb) hc0 hms)
    clear hr0 hms
    go_enter Try.func16, Try.ntmps16
    go_wp2_with (fail)
    rw [← HW0.out]
    refine (HV W0 hb0).out.mono ?_
    rintro e w1 ⟨rfl, hb1⟩
    replace k0 := k0.below_ hb1
    replace k1 := k1.below_ hb1
    replace hb0 := hb0.trans (hb1.mono hb0.size)
    clear hb1
    have g0 : w1.cell? ⟨w.heap.size, 0, none⟩ = some (.int .i64 a1) := k0.cell 0 rfl
    go_wp2_with (fail)
    refine (HW43 _).out.mono ?_
    rintro e w2 ⟨rfl, ⟨nd, rfl⟩⟩
    replace k0 := k0.drewN nd
    replace k1 := k1.drewN nd
    replace hb0 : Below w.heap.size w (w1.drewN nd) := pw_below_drewN hb0 nd
    clear g0
    generalize w1.drewN nd = w2 at k0 k1 hb0 ⊢
    go_wp2_with (fail)
    refine (HM w2 hb0).out.mono ?_
    rintro e w3 ⟨v0, rfl, hR, hb1⟩
    obtain ⟨A2, c2, rfl, hc2, hC2⟩ := Kd.R_reads hR
    clear hR
    replace k0 := k0.below_ hb1
    replace k1 := k1.below_ hb1
    replace hb0 := hb0.trans (hb1.mono hb0.size)
    clear hb1
    go_wp2_with (fail)
    refine (last_calls (fun x => decide (x.f1 ≤ a1)) 48 #[.pointer (some ⟨w.heap.size, 0, none⟩)] enters48 A2 c2 ms w3 (by omega) (fun W x hW => place1_calls x _ a1 W ((hW.cell (p := ⟨w.heap.size, 0, none⟩) k0.lt).trans (k0.cell 0 rfl))) hC2).mono ?_
    clear hC2
    generalize lastOr (fun x => decide (x.f1 ≤ a1)) (rd_T72 ms 0) ms = m at h'
    split at h'
    · rename_i hok
      obtain ⟨hok, hle⟩ := hok
      simp only [okM, Bool.and_eq_true, decide_eq_true_eq] at hok
      obtain ⟨⟨⟨⟨⟨⟨⟨⟨⟨o1, o2⟩, o3⟩, o4⟩, o5⟩, o6⟩, o7⟩, o8⟩, o9⟩, o10⟩ := hok
      simp only [Option.some.injEq, Prod.mk.injEq] at h'
      obtain ⟨rfl, rfl, rfl, rfl⟩ := h'
      unfold c72
      rintro e w4 ⟨rfl, hb2⟩
      replace k0 := k0.below_ hb2
      replace k1 := k1.below_ hb2
      replace hb0 := hb0.trans (hb2.mono hb0.size)
      clear hb2
      have g0 : w4.cell? ⟨w.heap.size, 0, none⟩ = some (.int .i64 a1) := k0.cell 0 rfl
      have g0lt := k0.lt
      go_wp2_with (fail)
      clear g0
      have hne1 : ¬ w4.heap.size = w.heap.size + 1 := by have := k1.lt; omega
      have hne2 : ¬ w.heap.size + 1 = w4.heap.size := by have := k1.lt; omega
      have k6 := Blk.new w4 #[.int .i64 m.f0.f0, .int .i64 m.f0.f1, .int .i64 m.f0.f2, .int .i64 m.f1] 72
      have hb3 := hb0.alloc hb0.size (.cells #[.int .i64 m.f0.f0, .int .i64 m.f0.f1, .int .i64 m.f0.f2, .int .i64 m.f1] 72)
      replace k1 := k1.alloc (.cells #[.int .i64 m.f0.f0, .int .i64 m.f0.f1, .int .i64 m.f0.f2, .int .i64 m.f1] 72)
      generalize w4.alloc (.cells #[.int .i64 m.f0.f0, .int .i64 m.f0.f1, .int .i64 m.f0.f2, .int .i64 m.f1] 72) = W3 at k1 k6 hb3 ⊢
      generalize w4.heap.size = b6 at k6 hne1 hne2 ⊢
      have g1 : W3.cell? ⟨b6, 0, none⟩ = some (.int .i64 m.f0.f0) := k6.cell 0 rfl
      have g2 : W3.cell? ⟨b6, 1, none⟩ = some (.int .i64 m.f0.f1) := k6.cell 1 rfl
      have g3 : W3.cell? ⟨b6, 2, none⟩ = some (.int .i64 m.f0.f2) := k6.cell 2 rfl
      have g4 : W3.cell? ⟨b6, 3, none⟩ = some (.int .i64 m.f1) := k6.cell 3 rfl
      have v1 := mulb (by omega : 0 ≤ m.f0.f1) o4 (by omega : 0 ≤ m.f0.f2) o6
      have v3 : 1 ≤ m.f0.f1 * m.f0.f2 := by
       have := Int.mul_le_mul o3 o5 (by omega) (by omega)
       omega
      have hl : tempo_metered_long.f m.f0.f0 m.f0.f1 m.f0.f2 m.f1 = some (m.f0.f1 * m.f0.f2) := by unfold tempo_metered_long.f; rw [w64 (by omega) (by omega)]
      have HL := fun w => Lib.hid (tempo_metered_long.calls m.f0.f0 m.f0.f1 m.f0.f2 m.f1 _ w hl)
      clear hl
      generalize hlg : m.f0.f1 * m.f0.f2 = lg at v1 v3 HL
      have HLG := Aside0.mk hlg
      clear hlg
      have e0 : 0 ≤ a1 - m.f1 := by omega
      have u1 : IntKind.i64.wrap ((a1 - m.f1).tdiv lg) = (a1 - m.f1) / lg := by
       rw [Int.tdiv_eq_ediv_of_nonneg e0, i64_w]
       have h1 : 0 ≤ (a1 - m.f1) / lg := Int.ediv_nonneg e0 (by omega)
       have h2 : (a1 - m.f1) / lg ≤ a1 - m.f1 := Int.ediv_le_self _ e0
       exact w64 (by omega) (by omega)
      have u2 : IntKind.i64.wrap (m.f0.f0 + (a1 - m.f1) / lg) = m.f0.f0 + (a1 - m.f1) / lg := by
       rw [i64_w]
       have h1 : 0 ≤ (a1 - m.f1) / lg := Int.ediv_nonneg e0 (by omega)
       have h2 : (a1 - m.f1) / lg ≤ a1 - m.f1 := Int.ediv_le_self _ e0
       exact w64 (by omega) (by omega)
      have u3 : (a1 - m.f1).tmod lg = (a1 - m.f1) % lg := Int.tmod_eq_emod_of_nonneg e0
      have u4 : IntKind.i64.wrap (((a1 - m.f1) % lg).tdiv m.f0.f2) = (a1 - m.f1) % lg / m.f0.f2 := by
       have h0 : 0 ≤ (a1 - m.f1) % lg := Int.emod_nonneg _ (by omega)
       have h3 : (a1 - m.f1) % lg < lg := Int.emod_lt_of_pos _ (by omega)
       rw [Int.tdiv_eq_ediv_of_nonneg h0, i64_w]
       have h1 : 0 ≤ (a1 - m.f1) % lg / m.f0.f2 := Int.ediv_nonneg h0 (by omega)
       have h2 : (a1 - m.f1) % lg / m.f0.f2 ≤ (a1 - m.f1) % lg := Int.ediv_le_self _ h0
       exact w64 (by omega) (by omega)
      have u5 : (a1 - m.f1).tmod m.f0.f2 = (a1 - m.f1) % m.f0.f2 := Int.tmod_eq_emod_of_nonneg e0
      have u6 : ¬ lg = 0 := by omega
      have u7 : ¬ m.f0.f2 = 0 := by omega
      have u8 : (lg == 0) = false := beq_eq_false_iff_ne.2 u6
      have u9 : (m.f0.f2 == 0) = false := beq_eq_false_iff_ne.2 u7
      clear hb0 HM
      go_region_held3 (fun w' => w'.cell? ⟨b6, 0, none⟩ = some (.int .i64 m.f0.f0) ∧ w'.cell? ⟨b6, 1, none⟩ = some (.int .i64 m.f0.f1) ∧ w'.cell? ⟨b6, 2, none⟩ = some (.int .i64 m.f0.f2) ∧ w'.cell? ⟨b6, 3, none⟩ = some (.int .i64 m.f1)) (simp [go_sem, *])
       (first | (go_at_call 49; refine (HL _).out.mono ?_; rintro e w' ⟨rfl, hb4⟩; have hb3' := Below.call_ hb3 hb3.size hb4 ⟨rfl, rfl, rfl, rfl⟩; have k1' := Blk.call k1 hb4 rfl; have k6' := Blk.call k6 hb4 rfl; clear hb3 k1 k6 hb4; have hb3 := hb3'; have k1 := k1'; have k6 := k6'; clear hb3' k1' k6'; have y1 := k6.cell 0 (v := .int .i64 m.f0.f0) rfl; have y2 := k6.cell 1 (v := .int .i64 m.f0.f1) rfl; have y3 := k6.cell 2 (v := .int .i64 m.f0.f2) rfl; have y4 := k6.cell 3 (v := .int .i64 m.f1) rfl; have x0 := k1.cell 0 (v := .int .i64 0) rfl; have x1 := k1.cell 1 (v := .int .i64 0) rfl; have x2 := k1.cell 2 (v := .int .i64 0) rfl; have z0 := k1.frozen 0; have z1 := k1.frozen 1; have z2 := k1.frozen 2))
      clear u1 u2 u3 u4 u5 u6 u7 u8 u9
      go_wp2
      have s1 := set3' _ _ _ _ (.int .i64 (m.f0.f0 + (a1 - m.f1) / lg)) (.int .i64 ((a1 - m.f1) % lg / m.f0.f2)) (.int .i64 ((a1 - m.f1) % m.f0.f2)) k1 rfl
      have p0 := s1.cell 0 (v := .int .i64 (m.f0.f0 + (a1 - m.f1) / lg)) rfl
      have p1 := s1.cell 1 (v := .int .i64 ((a1 - m.f1) % lg / m.f0.f2)) rfl
      have p2 := s1.cell 2 (v := .int .i64 ((a1 - m.f1) % m.f0.f2)) rfl
      refine bodyPost_ret (v := .tuple #[.agg #[.int .i64 (m.f0.f0 + (a1 - m.f1) / lg), .int .i64 ((a1 - m.f1) % lg / m.f0.f2), .int .i64 ((a1 - m.f1) % m.f0.f2)], .int .i64 0]) (by simp [results, Try.results16, go_sem, p0, p1, p2]) rfl ⟨by rw [HLG.out], ?_⟩
      exact ((hb3.setCell (by show _ ≤ w.heap.size + 1; omega) _).setCell (by show _ ≤ w.heap.size + 1; omega) _).setCell (by show _ ≤ w.heap.size + 1; omega) _
    · cases h'
  · rw [if_neg hin] at h'
    rw [show (decide (0 ≤ a1) && decide (a1 ≤ 1000000000)) = false by by_cases h : 0 ≤ a1 <;> simp_all] at hw43
    have HW43 := fun w => Lib.hid (hw43 w)
    clear hw43 hr0
    simp only [Option.some.injEq, Prod.mk.injEq] at h'
    obtain ⟨rfl, rfl, rfl, rfl⟩ := h'
    go_enter Try.func16, Try.ntmps16
    go_wp2_with (fail)
    rw [← HW0.out]
    refine (HV W0 hb0).out.mono ?_
    rintro e w1 ⟨rfl, hb1⟩
    replace k0 := k0.below_ hb1
    replace k1 := k1.below_ hb1
    replace hb0 := hb0.trans (hb1.mono hb0.size)
    clear hb1
    have g0 : w1.cell? ⟨w.heap.size, 0, none⟩ = some (.int .i64 a1) := k0.cell 0 rfl
    go_wp2_with (fail)
    refine (HW43 _).out.mono ?_
    rintro e w2 ⟨rfl, ⟨nd, rfl⟩⟩
    replace k1 := k1.drewN nd
    replace hb0 : Below w.heap.size w (w1.drewN nd) := pw_below_drewN hb0 nd
    clear g0 k0
    generalize w1.drewN nd = w2 at k1 hb0 ⊢
    have x0 := k1.cell 0 (v := .int .i64 0) rfl
    have x1 := k1.cell 1 (v := .int .i64 0) rfl
    have x2 := k1.cell 2 (v := .int .i64 0) rfl
    have z0 := k1.frozen 0
    have z1 := k1.frozen 1
    have z2 := k1.frozen 2
    go_wp2_with (fail)
    have s1 := set3' _ _ _ _ (.int .i64 0) (.int .i64 0) (.int .i64 0) k1 rfl
    have p0 := s1.cell 0 (v := .int .i64 0) rfl
    have p1 := s1.cell 1 (v := .int .i64 0) rfl
    have p2 := s1.cell 2 (v := .int .i64 0) rfl
    refine bodyPost_ret (v := .tuple #[.agg #[.int .i64 0, .int .i64 0, .int .i64 0], .int .i64 7]) (by simp [results, Try.results16, go_sem, p0, p1, p2]) rfl ⟨rfl, ?_⟩
    exact ((hb0.setCell (by show _ ≤ w.heap.size + 1; omega) _).setCell (by show _ ≤ w.heap.size + 1; omega) _).setCell (by show _ ≤ w.heap.size + 1; omega) _
end Go.Proofs.Ytomlfbmfdoallaa.PA

namespace Go.Proofs.Ytomlfbmfdoallaa.PA
open Go.RowKit Go.Proofs.YtomlfbmfdoallaaW.PrintWords Go.Proofs.YtomlfbmfdoallaaW.PrintLast Go.Proofs.YtomlfbmfdoallaaW.PrintMore
attribute [local go_sem] max2_int min2_int max_two min_two max_three min_three max_four min_four
set_option linter.unusedVariables false
set_option linter.unusedSimpArgs false
end Go.Proofs.Ytomlfbmfdoallaa.PA

namespace Go.Proofs.Ytomlfbmfdoallaa.PA
open Go.RowKit Go.Proofs.YtomlfbmfdoallaaW.PrintWords Go.Proofs.YtomlfbmfdoallaaW.PrintLast Go.Proofs.YtomlfbmfdoallaaW.PrintMore
attribute [local go_sem] max2_int min2_int max_two min_two max_three min_three max_four min_four
set_option linter.unusedVariables false
set_option linter.unusedSimpArgs false
attribute [local go_sem high] eqA37
def continuolaw30_awake.f (k : Nat)  : Option (Bool) := (tempo_Frame.f k (([(⟨0, 131072, 0⟩ : S27), (⟨10, 196608, 0⟩ : S27)] : List (S27))) 5 12).bind fun bt148 => (if bt148.1 = 31 then (if bt148.2 = 0 then ((tempo_Place.f k (([(⟨0, 4, 10⟩ : S61)] : List (S61))) 95).bind fun bt153 => (if bt153.2.2.2 = 0 then (some (bt153.1 == 2 && (bt153.2.1 == 1 && (bt153.2.2.1 == 5)))) else (some false))) else (some false)) else (some false))
theorem continuolaw30_awake.mono : ∀ k, LeO (continuolaw30_awake.f k ) (continuolaw30_awake.f (k + 1) ) := by
 intro  k
 unfold continuolaw30_awake.f
 repeat' first
  | (with_reducible exact tempo_Frame.mono _ _ _ _)
  | (with_reducible exact tempo_Place.mono _ _ _)
  | (with_reducible exact LeO.refl _)
  | (with_reducible exact LeO.none _)
  | (with_reducible refine LeO.ite ?_ ?_)
  | (with_reducible refine LeO.bind ?_ (fun _ => ?_))
  | exact tempo_Frame.mono _ _ _ _
  | exact tempo_Place.mono _ _ _
  | exact LeO.none _
  | refine LeO.ite ?_ ?_
  | refine LeO.bind ?_ (fun _ => ?_)
set_option maxHeartbeats 8000000 in
set_option maxRecDepth 100000 in
theorem continuolaw30_awake.calls (k : Nat)  (r : Bool) (w : World) (h : continuolaw30_awake.f k  = some r) :
 Calls Try.prog 9 #[] w fun e w' => e = .returned (.bool r) ∧ Below w.heap.size w w' := by
 have hu27 := Try.underlying27
 have hu61 := Try.underlying61
 have hu37 := Try.underlying37
 have HB := Aside0.mk (Below.refl w.heap.size w)
 have H : ((tempo_Frame.f k (([(⟨0, 131072, 0⟩ : S27), (⟨10, 196608, 0⟩ : S27)] : List (S27))) 5 12).bind fun bt148 => (if bt148.1 = 31 then (if bt148.2 = 0 then ((tempo_Place.f k (([(⟨0, 4, 10⟩ : S61)] : List (S61))) 95).bind fun bt153 => (if bt153.2.2.2 = 0 then (some (bt153.1 == 2 && (bt153.2.1 == 1 && (bt153.2.2.1 == 5)))) else (some false))) else (some false)) else (some false))) = some r := h
 clear h
 obtain ⟨y145, hy145⟩ : ∃ y_ : List (S27), y_ = (([(⟨0, 131072, 0⟩ : S27), (⟨10, 196608, 0⟩ : S27)] : List (S27))) := ⟨_, rfl⟩
 replace H : ((tempo_Frame.f k y145 5 12).bind fun bt148 => (if bt148.1 = 31 then (if bt148.2 = 0 then ((tempo_Place.f k (([(⟨0, 4, 10⟩ : S61)] : List (S61))) 95).bind fun bt153 => (if bt153.2.2.2 = 0 then (some (bt153.1 == 2 && (bt153.2.1 == 1 && (bt153.2.2.1 == 5)))) else (some false))) else (some false)) else (some false))) = some r := by first | (rw [hy145]; with_reducible exact H) | (have H2_ := (Option.bind_some _ _).symm.trans H; rw [hy145]; with_reducible exact H2_) | (have H2_ := (Option.bind_some _ _).symm.trans H; with_reducible exact H2_) | with_reducible exact H | (rw [hy145]; exact H) | exact H
 have Ny145 := Aside0.mk hy145
 clear hy145
 replace H := Option.bind_eq_some_iff.mp H
 obtain ⟨⟨t148, t149⟩, A10, H⟩ := H
 replace H : (if t148 = 31 then (if t149 = 0 then ((tempo_Place.f k (([(⟨0, 4, 10⟩ : S61)] : List (S61))) 95).bind fun bt153 => (if bt153.2.2.2 = 0 then (some (bt153.1 == 2 && (bt153.2.1 == 1 && (bt153.2.2.1 == 5)))) else (some false))) else (some false)) else (some false)) = some r := H
 have A1 := Aside0.mk A10
 clear A10
 by_cases c2 : t148 = 31
 · rw [if_pos c2] at H
   have c2b0 : (t148 == 31) = true := beq_iff_eq.mpr c2
   have c2b1 : (t148 != 31) = false := bne_eq_false_iff_eq.mpr c2
   clear c2
   by_cases c3 : t149 = 0
   · rw [if_pos c3] at H
     have c3b0 : (t149 == 0) = true := beq_iff_eq.mpr c3
     have c3b1 : (t149 != 0) = false := bne_eq_false_iff_eq.mpr c3
     clear c3
     obtain ⟨y150, hy150⟩ : ∃ y_ : List (S61), y_ = (([(⟨0, 4, 10⟩ : S61)] : List (S61))) := ⟨_, rfl⟩
     replace H : ((tempo_Place.f k y150 95).bind fun bt153 => (if bt153.2.2.2 = 0 then (some (bt153.1 == 2 && (bt153.2.1 == 1 && (bt153.2.2.1 == 5)))) else (some false))) = some r := by first | (rw [hy150]; with_reducible exact H) | (have H2_ := (Option.bind_some _ _).symm.trans H; rw [hy150]; with_reducible exact H2_) | (have H2_ := (Option.bind_some _ _).symm.trans H; with_reducible exact H2_) | with_reducible exact H | (rw [hy150]; exact H) | exact H
     have Ny150 := Aside0.mk hy150
     clear hy150
     replace H := Option.bind_eq_some_iff.mp H
     obtain ⟨⟨t153, t154, t155, t156⟩, A40, H⟩ := H
     replace H : (if t156 = 0 then (some (t153 == 2 && (t154 == 1 && (t155 == 5)))) else (some false)) = some r := H
     have A4 := Aside0.mk A40
     clear A40
     by_cases c5 : t156 = 0
     · rw [if_pos c5] at H
       have c5b0 : (t156 == 0) = true := beq_iff_eq.mpr c5
       have c5b1 : (t156 != 0) = false := bne_eq_false_iff_eq.mpr c5
       clear c5
       obtain rfl := Option.some.inj H
       go_enter Try.func9, Try.ntmps9
       go_wp2_with (first | ((with_reducible refine gate_dst (N := 7) rfl ?_); refine Kd.R_lit k27 _ 27 ?hg (N := 7) ?hd (xs := ([(⟨0, 131072, 0⟩ : S27), (⟨10, 196608, 0⟩ : S27)] : List (S27))) (inner := [.int .i64 0, .int .i64 131072, .int .i64 0, .int .i64 10, .int .i64 196608, .int .i64 0]) (ok := fun _ => True) (okp := fun _ => True) ?hr ?hp (fun _ hk => hk) trivial (Below.refl _ _) (Nat.le_refl _) (by simp) ?_; (case hd => rfl); (case hg => rfl); (case hr => first | (go_simp; done) | (go_simp; rfl)); (case hp => exact (Reps.c3 (show Kd.M k27 _ _ _ (⟨0, 131072, 0⟩ : S27) [.int .i64 0, .int .i64 131072, .int .i64 0] from (k27_mkM _ _ _ (⟨0, 131072, 0⟩ : S27) )) (Reps.c3 (show Kd.M k27 _ _ _ (⟨10, 196608, 0⟩ : S27) [.int .i64 10, .int .i64 196608, .int .i64 0] from (k27_mkM _ _ _ (⟨10, 196608, 0⟩ : S27) )) (Reps.none _ _)))); intro v146 w6 ho7 hb hg_ hnew_; clear hg_ hnew_; (first | rw [← Ny145.out] at ho7 | (simp only [Int.reduceToNat] at ho7; rw [← Ny145.out] at ho7)); have n0_ := Aside0.mk (Kd.R_lower ho7 (below_size (by repeat (first | (with_reducible first | exact HB.out | apply below_alloc | apply pw_below_drewN | apply below_drew1) | exact HB.out)))); have n1_ := Aside0.mk (below_step (by repeat (first | (with_reducible first | exact HB.out | apply below_alloc | apply pw_below_drewN | apply below_drew1) | exact HB.out)) hb); clear HB; have HO147 := n0_; have HB := n1_; clear n0_ n1_; clear hb ho7; obtain ⟨Ao8, co8, eo8⟩ := Kd.R_slice HO147.out; subst eo8) | ((with_reducible refine gate_callee (f := 13) rfl ?_); refine goesL_ (some 10) rfl rfl Try.func13 (by kernel_rfl) rfl #[.slice Ao8 y145.length co8, .int .i64 5, .int .i64 12] rfl (by (try simp only [List.map_toArray, List.map_cons, List.map_nil]); first | done | rfl | (simp only [List.length_drop, List.length_take]; rfl)) ?_; (with_reducible refine (tempo_Frame.calls k _ _ y145 5 12 t148 t149 _ ?side1 ?side2 A1.out).mono ?_); (case side1 => repeat (first | exact (Kd.R_reads' HO147.out).2.2 | (with_reducible refine Kd.C_alloc ?_ _) | (with_reducible refine Kd.C_drewN ?_ _) | (with_reducible refine Kd.C_drew ?_))); (case side2 => exact (Kd.R_reads' HO147.out).2.1); rintro e w9 ⟨rfl, hb⟩; refine ⟨_, rfl, ?_⟩; have n0_ := Aside0.mk (Kd.R_below (by (with_reducible repeat (first | apply Kd.R_alloc | apply Kd.R_drewN | apply Kd.R_drew)); exact HO147.out) hb); have n1_ := Aside0.mk (below_step (by repeat (first | (with_reducible first | exact HB.out | apply below_alloc | apply pw_below_drewN | apply below_drew1) | exact HB.out)) hb); clear HO147; clear HB; have HO147 := n0_; have HB := n1_; clear n0_ n1_; (try clear hb); (try clear hb2); (try clear hk); (try clear hi)) | ((with_reducible refine gate_dst (N := 21) rfl ?_); refine Kd.R_lit k61 _ 61 ?hg (N := 21) ?hd (xs := ([(⟨0, 4, 10⟩ : S61)] : List (S61))) (inner := [.int .i64 0, .int .i64 4, .int .i64 10]) (ok := fun _ => True) (okp := fun _ => True) ?hr ?hp (fun _ hk => hk) trivial (Below.refl _ _) (Nat.le_refl _) (by simp) ?_; (case hd => rfl); (case hg => rfl); (case hr => first | (go_simp; done) | (go_simp; rfl)); (case hp => exact (Reps.c3 (show Kd.M k61 _ _ _ (⟨0, 4, 10⟩ : S61) [.int .i64 0, .int .i64 4, .int .i64 10] from (k61_mkM _ _ _ (⟨0, 4, 10⟩ : S61) )) (Reps.none _ _))); intro v151 w10 ho11 hb hg_ hnew_; clear hg_ hnew_; (first | rw [← Ny150.out] at ho11 | (simp only [Int.reduceToNat] at ho11; rw [← Ny150.out] at ho11)); have n0_ := Aside0.mk (Kd.R_below (by (with_reducible repeat (first | apply Kd.R_alloc | apply Kd.R_drewN | apply Kd.R_drew)); exact HO147.out) hb); have n1_ := Aside0.mk (Kd.R_lower ho11 (below_size (by repeat (first | (with_reducible first | exact HB.out | apply below_alloc | apply pw_below_drewN | apply below_drew1) | exact HB.out)))); have n2_ := Aside0.mk (below_step (by repeat (first | (with_reducible first | exact HB.out | apply below_alloc | apply pw_below_drewN | apply below_drew1) | exact HB.out)) hb); clear HO147; clear HB; have HO147 := n0_; have HO152 := n1_; have HB := n2_; clear n0_ n1_ n2_; clear hb ho11; obtain ⟨Ao12, co12, eo12⟩ := Kd.R_slice HO152.out; subst eo12) | ((with_reducible refine gate_callee (f := 16) rfl ?_); refine goesL_ (some 22) rfl rfl Try.func16 (by kernel_rfl) rfl #[.slice Ao12 y150.length co12, .int .i64 95] rfl (by (try simp only [List.map_toArray, List.map_cons, List.map_nil]); first | done | rfl | (simp only [List.length_drop, List.length_take]; rfl)) ?_; (with_reducible refine (tempo_Place.calls k _ _ y150 95 t153 t154 t155 t156 _ ?side1 ?side2 A4.out).mono ?_); (case side1 => repeat (first | exact (Kd.R_reads' HO152.out).2.2 | (with_reducible refine Kd.C_alloc ?_ _) | (with_reducible refine Kd.C_drewN ?_ _) | (with_reducible refine Kd.C_drew ?_))); (case side2 => exact (Kd.R_reads' HO152.out).2.1); rintro e w13 ⟨rfl, hb⟩; refine ⟨_, rfl, ?_⟩; have n0_ := Aside0.mk (Kd.R_below (by (with_reducible repeat (first | apply Kd.R_alloc | apply Kd.R_drewN | apply Kd.R_drew)); exact HO147.out) hb); have n1_ := Aside0.mk (Kd.R_below (by (with_reducible repeat (first | apply Kd.R_alloc | apply Kd.R_drewN | apply Kd.R_drew)); exact HO152.out) hb); have n2_ := Aside0.mk (below_step (by repeat (first | (with_reducible first | exact HB.out | apply below_alloc | apply pw_below_drewN | apply below_drew1) | exact HB.out)) hb); clear HO147; clear HO152; clear HB; have HO147 := n0_; have HO152 := n1_; have HB := n2_; clear n0_ n1_ n2_; (try clear hb); (try clear hb2); (try clear hk); (try clear hi)) | ((with_reducible refine gate_dst (N := 4) rfl ?_); refine box_event ?hg (N := 4) ?hd (cs := #[.int .i64 0, .int .i64 0, .int .i64 0]) (t := 37) ?hr ?_; (case hd => rfl); (case hg => rfl); (case hr => first | (go_simp; done) | (go_simp; rfl)); intro gb157 hg w14 hbox hb; have n0_ := Aside0.mk (Kd.R_below (by (with_reducible repeat (first | apply Kd.R_alloc | apply Kd.R_drewN | apply Kd.R_drew)); exact HO147.out) hb); have n1_ := Aside0.mk (Kd.R_below (by (with_reducible repeat (first | apply Kd.R_alloc | apply Kd.R_drewN | apply Kd.R_drew)); exact HO152.out) hb); have n2_ := Aside0.mk (below_step (by repeat (first | (with_reducible first | exact HB.out | apply below_alloc | apply pw_below_drewN | apply below_drew1) | exact HB.out)) hb); have n3_ := Aside0.mk (hbox); have n4_ := Aside0.mk ((by rw [hg]; exact (below_size (by repeat (first | (with_reducible first | exact HB.out | apply below_alloc | apply pw_below_drewN | apply below_drew1) | exact HB.out))) : w.heap.size ≤ gb157)); have n5_ := Aside0.mk ((by rw [hg]; exact (below_size (by repeat (first | (with_reducible first | exact HB.out | apply below_alloc | apply pw_below_drewN | apply below_drew1) | exact HB.out))) : w.heap.size ≤ gb157)); clear HO147; clear HO152; clear HB; have HO147 := n0_; have HO152 := n1_; have HB := n2_; have BK157 := n3_; have GW157 := n4_; have GE157 := n5_; clear n0_ n1_ n2_ n3_ n4_ n5_; clear hb hbox hg; have hcz15_0 : w14.cell? ⟨gb157, 0, none⟩ = some (.int .i64 0) := (blk_cell BK157.out 0).trans rfl; have hcz15_1 : w14.cell? ⟨gb157, 1, none⟩ = some (.int .i64 0) := (blk_cell BK157.out 1).trans rfl; have hcz15_2 : w14.cell? ⟨gb157, 2, none⟩ = some (.int .i64 0) := (blk_cell BK157.out 2).trans rfl; have hfz15_0 := blk_frozen BK157.out 0; have hfz15_1 := blk_frozen BK157.out 1; have hfz15_2 := blk_frozen BK157.out 2))
       go_ret
       exact ⟨by first | rfl | (simp [errW_none, errW_some] <;> rfl) | (simp [*, errW_none, errW_some] <;> rfl), by repeat (first | (with_reducible first | exact HB.out | apply below_alloc | apply pw_below_drewN | apply below_drew1 | refine below_set ?_ GE157.out) | exact HB.out)⟩
     · rw [if_neg c5] at H
       have c5b0 : (t156 == 0) = false := beq_eq_false_iff_ne.mpr c5
       have c5b1 : (t156 != 0) = true := bne_iff_ne.mpr c5
       obtain rfl := Option.some.inj H
       go_enter Try.func9, Try.ntmps9
       go_wp2_with (first | ((with_reducible refine gate_dst (N := 7) rfl ?_); refine Kd.R_lit k27 _ 27 ?hg (N := 7) ?hd (xs := ([(⟨0, 131072, 0⟩ : S27), (⟨10, 196608, 0⟩ : S27)] : List (S27))) (inner := [.int .i64 0, .int .i64 131072, .int .i64 0, .int .i64 10, .int .i64 196608, .int .i64 0]) (ok := fun _ => True) (okp := fun _ => True) ?hr ?hp (fun _ hk => hk) trivial (Below.refl _ _) (Nat.le_refl _) (by simp) ?_; (case hd => rfl); (case hg => rfl); (case hr => first | (go_simp; done) | (go_simp; rfl)); (case hp => exact (Reps.c3 (show Kd.M k27 _ _ _ (⟨0, 131072, 0⟩ : S27) [.int .i64 0, .int .i64 131072, .int .i64 0] from (k27_mkM _ _ _ (⟨0, 131072, 0⟩ : S27) )) (Reps.c3 (show Kd.M k27 _ _ _ (⟨10, 196608, 0⟩ : S27) [.int .i64 10, .int .i64 196608, .int .i64 0] from (k27_mkM _ _ _ (⟨10, 196608, 0⟩ : S27) )) (Reps.none _ _)))); intro v146 w16 ho17 hb hg_ hnew_; clear hg_ hnew_; (first | rw [← Ny145.out] at ho17 | (simp only [Int.reduceToNat] at ho17; rw [← Ny145.out] at ho17)); have n0_ := Aside0.mk (Kd.R_lower ho17 (below_size (by repeat (first | (with_reducible first | exact HB.out | apply below_alloc | apply pw_below_drewN | apply below_drew1) | exact HB.out)))); have n1_ := Aside0.mk (below_step (by repeat (first | (with_reducible first | exact HB.out | apply below_alloc | apply pw_below_drewN | apply below_drew1) | exact HB.out)) hb); clear HB; have HO147 := n0_; have HB := n1_; clear n0_ n1_; clear hb ho17; obtain ⟨Ao18, co18, eo18⟩ := Kd.R_slice HO147.out; subst eo18) | ((with_reducible refine gate_callee (f := 13) rfl ?_); refine goesL_ (some 10) rfl rfl Try.func13 (by kernel_rfl) rfl #[.slice Ao18 y145.length co18, .int .i64 5, .int .i64 12] rfl (by (try simp only [List.map_toArray, List.map_cons, List.map_nil]); first | done | rfl | (simp only [List.length_drop, List.length_take]; rfl)) ?_; (with_reducible refine (tempo_Frame.calls k _ _ y145 5 12 t148 t149 _ ?side1 ?side2 A1.out).mono ?_); (case side1 => repeat (first | exact (Kd.R_reads' HO147.out).2.2 | (with_reducible refine Kd.C_alloc ?_ _) | (with_reducible refine Kd.C_drewN ?_ _) | (with_reducible refine Kd.C_drew ?_))); (case side2 => exact (Kd.R_reads' HO147.out).2.1); rintro e w19 ⟨rfl, hb⟩; refine ⟨_, rfl, ?_⟩; have n0_ := Aside0.mk (Kd.R_below (by (with_reducible repeat (first | apply Kd.R_alloc | apply Kd.R_drewN | apply Kd.R_drew)); exact HO147.out) hb); have n1_ := Aside0.mk (below_step (by repeat (first | (with_reducible first | exact HB.out | apply below_alloc | apply pw_below_drewN | apply below_drew1) | exact HB.out)) hb); clear HO147; clear HB; have HO147 := n0_; have HB := n1_; clear n0_ n1_; (try clear hb); (try clear hb2); (try clear hk); (try clear hi)) | ((with_reducible refine gate_dst (N := 21) rfl ?_); refine Kd.R_lit k61 _ 61 ?hg (N := 21) ?hd (xs := ([(⟨0, 4, 10⟩ : S61)] : List (S61))) (inner := [.int .i64 0, .int .i64 4, .int .i64 10]) (ok := fun _ => True) (okp := fun _ => True) ?hr ?hp (fun _ hk => hk) trivial (Below.refl _ _) (Nat.le_refl _) (by simp) ?_; (case hd => rfl); (case hg => rfl); (case hr => first | (go_simp; done) | (go_simp; rfl)); (case hp => exact (Reps.c3 (show Kd.M k61 _ _ _ (⟨0, 4, 10⟩ : S61) [.int .i64 0, .int .i64 4, .int .i64 10] from (k61_mkM _ _ _ (⟨0, 4, 10⟩ : S61) )) (Reps.none _ _))); intro v151 w20 ho21 hb hg_ hnew_; clear hg_ hnew_; (first | rw [← Ny150.out] at ho21 | (simp only [Int.reduceToNat] at ho21; rw [← Ny150.out] at ho21)); have n0_ := Aside0.mk (Kd.R_below (by (with_reducible repeat (first | apply Kd.R_alloc | apply Kd.R_drewN | apply Kd.R_drew)); exact HO147.out) hb); have n1_ := Aside0.mk (Kd.R_lower ho21 (below_size (by repeat (first | (with_reducible first | exact HB.out | apply below_alloc | apply pw_below_drewN | apply below_drew1) | exact HB.out)))); have n2_ := Aside0.mk (below_step (by repeat (first | (with_reducible first | exact HB.out | apply below_alloc | apply pw_below_drewN | apply below_drew1) | exact HB.out)) hb); clear HO147; clear HB; have HO147 := n0_; have HO152 := n1_; have HB := n2_; clear n0_ n1_ n2_; clear hb ho21; obtain ⟨Ao22, co22, eo22⟩ := Kd.R_slice HO152.out; subst eo22) | ((with_reducible refine gate_callee (f := 16) rfl ?_); refine goesL_ (some 22) rfl rfl Try.func16 (by kernel_rfl) rfl #[.slice Ao22 y150.length co22, .int .i64 95] rfl (by (try simp only [List.map_toArray, List.map_cons, List.map_nil]); first | done | rfl | (simp only [List.length_drop, List.length_take]; rfl)) ?_; (with_reducible refine (tempo_Place.calls k _ _ y150 95 t153 t154 t155 t156 _ ?side1 ?side2 A4.out).mono ?_); (case side1 => repeat (first | exact (Kd.R_reads' HO152.out).2.2 | (with_reducible refine Kd.C_alloc ?_ _) | (with_reducible refine Kd.C_drewN ?_ _) | (with_reducible refine Kd.C_drew ?_))); (case side2 => exact (Kd.R_reads' HO152.out).2.1); rintro e w23 ⟨rfl, hb⟩; refine ⟨_, rfl, ?_⟩; have n0_ := Aside0.mk (Kd.R_below (by (with_reducible repeat (first | apply Kd.R_alloc | apply Kd.R_drewN | apply Kd.R_drew)); exact HO147.out) hb); have n1_ := Aside0.mk (Kd.R_below (by (with_reducible repeat (first | apply Kd.R_alloc | apply Kd.R_drewN | apply Kd.R_drew)); exact HO152.out) hb); have n2_ := Aside0.mk (below_step (by repeat (first | (with_reducible first | exact HB.out | apply below_alloc | apply pw_below_drewN | apply below_drew1) | exact HB.out)) hb); clear HO147; clear HO152; clear HB; have HO147 := n0_; have HO152 := n1_; have HB := n2_; clear n0_ n1_ n2_; (try clear hb); (try clear hb2); (try clear hk); (try clear hi)) | ((with_reducible refine gate_dst (N := 4) rfl ?_); refine box_event ?hg (N := 4) ?hd (cs := #[.int .i64 0, .int .i64 0, .int .i64 0]) (t := 37) ?hr ?_; (case hd => rfl); (case hg => rfl); (case hr => first | (go_simp; done) | (go_simp; rfl)); intro gb157 hg w24 hbox hb; have n0_ := Aside0.mk (Kd.R_below (by (with_reducible repeat (first | apply Kd.R_alloc | apply Kd.R_drewN | apply Kd.R_drew)); exact HO147.out) hb); have n1_ := Aside0.mk (Kd.R_below (by (with_reducible repeat (first | apply Kd.R_alloc | apply Kd.R_drewN | apply Kd.R_drew)); exact HO152.out) hb); have n2_ := Aside0.mk (below_step (by repeat (first | (with_reducible first | exact HB.out | apply below_alloc | apply pw_below_drewN | apply below_drew1) | exact HB.out)) hb); have n3_ := Aside0.mk (hbox); have n4_ := Aside0.mk ((by rw [hg]; exact (below_size (by repeat (first | (with_reducible first | exact HB.out | apply below_alloc | apply pw_below_drewN | apply below_drew1) | exact HB.out))) : w.heap.size ≤ gb157)); have n5_ := Aside0.mk ((by rw [hg]; exact (below_size (by repeat (first | (with_reducible first | exact HB.out | apply below_alloc | apply pw_below_drewN | apply below_drew1) | exact HB.out))) : w.heap.size ≤ gb157)); clear HO147; clear HO152; clear HB; have HO147 := n0_; have HO152 := n1_; have HB := n2_; have BK157 := n3_; have GW157 := n4_; have GE157 := n5_; clear n0_ n1_ n2_ n3_ n4_ n5_; clear hb hbox hg; have hcz25_0 : w24.cell? ⟨gb157, 0, none⟩ = some (.int .i64 0) := (blk_cell BK157.out 0).trans rfl; have hcz25_1 : w24.cell? ⟨gb157, 1, none⟩ = some (.int .i64 0) := (blk_cell BK157.out 1).trans rfl; have hcz25_2 : w24.cell? ⟨gb157, 2, none⟩ = some (.int .i64 0) := (blk_cell BK157.out 2).trans rfl; have hfz25_0 := blk_frozen BK157.out 0; have hfz25_1 := blk_frozen BK157.out 1; have hfz25_2 := blk_frozen BK157.out 2))
       go_ret
       exact ⟨by first | rfl | (simp [errW_none, errW_some] <;> rfl) | (simp [*, errW_none, errW_some] <;> rfl), by repeat (first | (with_reducible first | exact HB.out | apply below_alloc | apply pw_below_drewN | apply below_drew1 | refine below_set ?_ GE157.out) | exact HB.out)⟩
   · rw [if_neg c3] at H
     have c3b0 : (t149 == 0) = false := beq_eq_false_iff_ne.mpr c3
     have c3b1 : (t149 != 0) = true := bne_iff_ne.mpr c3
     obtain rfl := Option.some.inj H
     go_enter Try.func9, Try.ntmps9
     go_wp2_with (first | ((with_reducible refine gate_dst (N := 7) rfl ?_); refine Kd.R_lit k27 _ 27 ?hg (N := 7) ?hd (xs := ([(⟨0, 131072, 0⟩ : S27), (⟨10, 196608, 0⟩ : S27)] : List (S27))) (inner := [.int .i64 0, .int .i64 131072, .int .i64 0, .int .i64 10, .int .i64 196608, .int .i64 0]) (ok := fun _ => True) (okp := fun _ => True) ?hr ?hp (fun _ hk => hk) trivial (Below.refl _ _) (Nat.le_refl _) (by simp) ?_; (case hd => rfl); (case hg => rfl); (case hr => first | (go_simp; done) | (go_simp; rfl)); (case hp => exact (Reps.c3 (show Kd.M k27 _ _ _ (⟨0, 131072, 0⟩ : S27) [.int .i64 0, .int .i64 131072, .int .i64 0] from (k27_mkM _ _ _ (⟨0, 131072, 0⟩ : S27) )) (Reps.c3 (show Kd.M k27 _ _ _ (⟨10, 196608, 0⟩ : S27) [.int .i64 10, .int .i64 196608, .int .i64 0] from (k27_mkM _ _ _ (⟨10, 196608, 0⟩ : S27) )) (Reps.none _ _)))); intro v146 w26 ho27 hb hg_ hnew_; clear hg_ hnew_; (first | rw [← Ny145.out] at ho27 | (simp only [Int.reduceToNat] at ho27; rw [← Ny145.out] at ho27)); have n0_ := Aside0.mk (Kd.R_lower ho27 (below_size (by repeat (first | (with_reducible first | exact HB.out | apply below_alloc | apply pw_below_drewN | apply below_drew1) | exact HB.out)))); have n1_ := Aside0.mk (below_step (by repeat (first | (with_reducible first | exact HB.out | apply below_alloc | apply pw_below_drewN | apply below_drew1) | exact HB.out)) hb); clear HB; have HO147 := n0_; have HB := n1_; clear n0_ n1_; clear hb ho27; obtain ⟨Ao28, co28, eo28⟩ := Kd.R_slice HO147.out; subst eo28) | ((with_reducible refine gate_callee (f := 13) rfl ?_); refine goesL_ (some 10) rfl rfl Try.func13 (by kernel_rfl) rfl #[.slice Ao28 y145.length co28, .int .i64 5, .int .i64 12] rfl (by (try simp only [List.map_toArray, List.map_cons, List.map_nil]); first | done | rfl | (simp only [List.length_drop, List.length_take]; rfl)) ?_; (with_reducible refine (tempo_Frame.calls k _ _ y145 5 12 t148 t149 _ ?side1 ?side2 A1.out).mono ?_); (case side1 => repeat (first | exact (Kd.R_reads' HO147.out).2.2 | (with_reducible refine Kd.C_alloc ?_ _) | (with_reducible refine Kd.C_drewN ?_ _) | (with_reducible refine Kd.C_drew ?_))); (case side2 => exact (Kd.R_reads' HO147.out).2.1); rintro e w29 ⟨rfl, hb⟩; refine ⟨_, rfl, ?_⟩; have n0_ := Aside0.mk (Kd.R_below (by (with_reducible repeat (first | apply Kd.R_alloc | apply Kd.R_drewN | apply Kd.R_drew)); exact HO147.out) hb); have n1_ := Aside0.mk (below_step (by repeat (first | (with_reducible first | exact HB.out | apply below_alloc | apply pw_below_drewN | apply below_drew1) | exact HB.out)) hb); clear HO147; clear HB; have HO147 := n0_; have HB := n1_; clear n0_ n1_; (try clear hb); (try clear hb2); (try clear hk); (try clear hi)))
     go_ret
     exact ⟨by first | rfl | (simp [errW_none, errW_some] <;> rfl) | (simp [*, errW_none, errW_some] <;> rfl), by repeat (first | (with_reducible first | exact HB.out | apply below_alloc | apply pw_below_drewN | apply below_drew1) | exact HB.out)⟩
 · rw [if_neg c2] at H
   have c2b0 : (t148 == 31) = false := beq_eq_false_iff_ne.mpr c2
   have c2b1 : (t148 != 31) = true := bne_iff_ne.mpr c2
   obtain rfl := Option.some.inj H
   go_enter Try.func9, Try.ntmps9
   go_wp2_with (first | ((with_reducible refine gate_dst (N := 7) rfl ?_); refine Kd.R_lit k27 _ 27 ?hg (N := 7) ?hd (xs := ([(⟨0, 131072, 0⟩ : S27), (⟨10, 196608, 0⟩ : S27)] : List (S27))) (inner := [.int .i64 0, .int .i64 131072, .int .i64 0, .int .i64 10, .int .i64 196608, .int .i64 0]) (ok := fun _ => True) (okp := fun _ => True) ?hr ?hp (fun _ hk => hk) trivial (Below.refl _ _) (Nat.le_refl _) (by simp) ?_; (case hd => rfl); (case hg => rfl); (case hr => first | (go_simp; done) | (go_simp; rfl)); (case hp => exact (Reps.c3 (show Kd.M k27 _ _ _ (⟨0, 131072, 0⟩ : S27) [.int .i64 0, .int .i64 131072, .int .i64 0] from (k27_mkM _ _ _ (⟨0, 131072, 0⟩ : S27) )) (Reps.c3 (show Kd.M k27 _ _ _ (⟨10, 196608, 0⟩ : S27) [.int .i64 10, .int .i64 196608, .int .i64 0] from (k27_mkM _ _ _ (⟨10, 196608, 0⟩ : S27) )) (Reps.none _ _)))); intro v146 w30 ho31 hb hg_ hnew_; clear hg_ hnew_; (first | rw [← Ny145.out] at ho31 | (simp only [Int.reduceToNat] at ho31; rw [← Ny145.out] at ho31)); have n0_ := Aside0.mk (Kd.R_lower ho31 (below_size (by repeat (first | (with_reducible first | exact HB.out | apply below_alloc | apply pw_below_drewN | apply below_drew1) | exact HB.out)))); have n1_ := Aside0.mk (below_step (by repeat (first | (with_reducible first | exact HB.out | apply below_alloc | apply pw_below_drewN | apply below_drew1) | exact HB.out)) hb); clear HB; have HO147 := n0_; have HB := n1_; clear n0_ n1_; clear hb ho31; obtain ⟨Ao32, co32, eo32⟩ := Kd.R_slice HO147.out; subst eo32) | ((with_reducible refine gate_callee (f := 13) rfl ?_); refine goesL_ (some 10) rfl rfl Try.func13 (by kernel_rfl) rfl #[.slice Ao32 y145.length co32, .int .i64 5, .int .i64 12] rfl (by (try simp only [List.map_toArray, List.map_cons, List.map_nil]); first | done | rfl | (simp only [List.length_drop, List.length_take]; rfl)) ?_; (with_reducible refine (tempo_Frame.calls k _ _ y145 5 12 t148 t149 _ ?side1 ?side2 A1.out).mono ?_); (case side1 => repeat (first | exact (Kd.R_reads' HO147.out).2.2 | (with_reducible refine Kd.C_alloc ?_ _) | (with_reducible refine Kd.C_drewN ?_ _) | (with_reducible refine Kd.C_drew ?_))); (case side2 => exact (Kd.R_reads' HO147.out).2.1); rintro e w33 ⟨rfl, hb⟩; refine ⟨_, rfl, ?_⟩; have n0_ := Aside0.mk (Kd.R_below (by (with_reducible repeat (first | apply Kd.R_alloc | apply Kd.R_drewN | apply Kd.R_drew)); exact HO147.out) hb); have n1_ := Aside0.mk (below_step (by repeat (first | (with_reducible first | exact HB.out | apply below_alloc | apply pw_below_drewN | apply below_drew1) | exact HB.out)) hb); clear HO147; clear HB; have HO147 := n0_; have HB := n1_; clear n0_ n1_; (try clear hb); (try clear hb2); (try clear hk); (try clear hi)))
   go_ret
   exact ⟨by first | rfl | (simp [errW_none, errW_some] <;> rfl) | (simp [*, errW_none, errW_some] <;> rfl), by repeat (first | (with_reducible first | exact HB.out | apply below_alloc | apply pw_below_drewN | apply below_drew1) | exact HB.out)⟩
end Go.Proofs.Ytomlfbmfdoallaa.PA

namespace Go.Proofs.Ytomlfbmfdoallaa.PA
open Go.RowKit Go.Proofs.YtomlfbmfdoallaaW.PrintWords Go.Proofs.YtomlfbmfdoallaaW.PrintLast Go.Proofs.YtomlfbmfdoallaaW.PrintMore
attribute [local go_sem] max2_int min2_int max_two min_two max_three min_three max_four min_four
set_option linter.unusedVariables false
set_option linter.unusedSimpArgs false
def continuolaw30_long.f (l0 : List (S27)) (l1 : List (S61)) (l2 : List (S56)) : Option (Bool) := if (l0.length : Int) > 60 then (some true) else (if (l1.length : Int) > 60 then (some true) else (some (decide ((l2.length : Int) > 120))))
set_option maxHeartbeats 8000000 in
set_option maxRecDepth 100000 in
theorem continuolaw30_long.calls (A0 : Option Addr) (c0 : Nat) (l0 : List (S27)) (A1 : Option Addr) (c1 : Nat) (l1 : List (S61)) (A2 : Option Addr) (c2 : Nat) (l2 : List (S56)) (r : Bool) (w : World) (hr0 : Kd.C k27 w A0 l0.length l0) (hc0 : l0.length ≤ c0) (hr1 : Kd.C k61 w A1 l1.length l1) (hc1 : l1.length ≤ c1) (hr2 : Kd.C k56 w A2 l2.length l2) (hc2 : l2.length ≤ c2) (h : continuolaw30_long.f l0 l1 l2 = some r) :
 Calls Try.prog 10 #[.slice A0 l0.length c0, .slice A1 l1.length c1, .slice A2 l2.length c2] w fun e w' => e = .returned (.bool r) ∧ Drawn0 w w' := by
 have HR0 := Aside0.mk hr0
 have HC0 := Aside0.mk hc0
 clear hr0 hc0
 have HR1 := Aside0.mk hr1
 have HC1 := Aside0.mk hc1
 clear hr1 hc1
 have HR2 := Aside0.mk hr2
 have HC2 := Aside0.mk hc2
 clear hr2 hc2
 have H : (if (l0.length : Int) > 60 then (some true) else (if (l1.length : Int) > 60 then (some true) else (some (decide ((l2.length : Int) > 120))))) = some r := h
 clear h
 by_cases c4 : (l0.length : Int) > 60
 · rw [if_pos c4] at H
   have c4b0 : decide (60 < (l0.length : Int)) = true := decide_eq_true c4
   have c4b1 : decide (60 < l0.length) = true := decide_eq_true (by omega)
   clear c4
   obtain rfl := Option.some.inj H
   go_enter Try.func10, Try.ntmps10
   go_wp2
   go_ret
   exact ⟨by first | rfl | (simp; done) | (simp [*]; done), by repeat (first | exact Drawn0.refl _ | apply Drawn0.step)⟩
 · rw [if_neg c4] at H
   have c4b0 : decide (60 < (l0.length : Int)) = false := decide_eq_false c4
   have c4b1 : decide (60 < l0.length) = false := decide_eq_false (by omega)
   clear c4
   by_cases c5 : (l1.length : Int) > 60
   · rw [if_pos c5] at H
     have c5b0 : decide (60 < (l1.length : Int)) = true := decide_eq_true c5
     have c5b1 : decide (60 < l1.length) = true := decide_eq_true (by omega)
     clear c5
     obtain rfl := Option.some.inj H
     go_enter Try.func10, Try.ntmps10
     go_wp2
     go_ret
     exact ⟨by first | rfl | (simp; done) | (simp [*]; done), by repeat (first | exact Drawn0.refl _ | apply Drawn0.step)⟩
   · rw [if_neg c5] at H
     have c5b0 : decide (60 < (l1.length : Int)) = false := decide_eq_false c5
     have c5b1 : decide (60 < l1.length) = false := decide_eq_false (by omega)
     clear c5
     obtain rfl := Option.some.inj H
     go_enter Try.func10, Try.ntmps10
     go_wp2
     go_ret
     exact ⟨by first | rfl | (simp; done) | (simp [*]; done), by repeat (first | exact Drawn0.refl _ | apply Drawn0.step)⟩
end Go.Proofs.Ytomlfbmfdoallaa.PA

namespace Go.Proofs.Ytomlfbmfdoallaa.PA
open Go.RowKit Go.Proofs.YtomlfbmfdoallaaW.PrintWords Go.Proofs.YtomlfbmfdoallaaW.PrintLast Go.Proofs.YtomlfbmfdoallaaW.PrintMore
attribute [local go_sem] max2_int min2_int max_two min_two max_three min_three max_four min_four
set_option linter.unusedVariables false
set_option linter.unusedSimpArgs false
mutual
def continuoref30_Valid.j0 : Nat → List (S27) → Bool → Option (Bool)
 | 0, _, _ => none
 | k + 1, x0, x19 => if x19 = true then (some false) else (continuoref30_Valid.l0 k x0 0)
def continuoref30_Valid.l0 : Nat → List (S27) → Int → Option (Bool)
 | 0, _, _ => none
 | k + 1, x0, x3 => if x3 < (x0.length : Int) then (if 0 ≤ x3 then (if ((rd_T27 x0 x3).f0) < 0 then (continuoref30_Valid.j2 k x0 x3 true ((rd_T27 x0 x3).f0) ((rd_T27 x0 x3).f1) ((rd_T27 x0 x3).f2)) else (if ((rd_T27 x0 x3).f0) > 1000000000 then (continuoref30_Valid.j2 k x0 x3 true ((rd_T27 x0 x3).f0) ((rd_T27 x0 x3).f1) ((rd_T27 x0 x3).f2)) else (if x3 > 0 then (if 0 ≤ (wrap64 (x3 - 1)) then (if (wrap64 (x3 - 1)) < (x0.length : Int) then (if ((rd_T27 x0 x3).f0) ≤ ((rd_T27 x0 (wrap64 (x3 - 1))).f0) then (continuoref30_Valid.j2 k x0 x3 true ((rd_T27 x0 x3).f0) ((rd_T27 x0 x3).f1) ((rd_T27 x0 x3).f2)) else (if ((rd_T27 x0 x3).f1) < 1 then (continuoref30_Valid.j2 k x0 x3 true ((rd_T27 x0 x3).f0) ((rd_T27 x0 x3).f1) ((rd_T27 x0 x3).f2)) else (if ((rd_T27 x0 x3).f1) > 67108864 then (continuoref30_Valid.j2 k x0 x3 true ((rd_T27 x0 x3).f0) ((rd_T27 x0 x3).f1) ((rd_T27 x0 x3).f2)) else (if ((rd_T27 x0 x3).f2) < 0 then (continuoref30_Valid.j2 k x0 x3 true ((rd_T27 x0 x3).f0) ((rd_T27 x0 x3).f1) ((rd_T27 x0 x3).f2)) else (continuoref30_Valid.j2 k x0 x3 (decide (((rd_T27 x0 x3).f2) > 1)) ((rd_T27 x0 x3).f0) ((rd_T27 x0 x3).f1) ((rd_T27 x0 x3).f2)))))) else (none)) else (none)) else (if ((rd_T27 x0 x3).f1) < 1 then (continuoref30_Valid.j2 k x0 x3 true ((rd_T27 x0 x3).f0) ((rd_T27 x0 x3).f1) ((rd_T27 x0 x3).f2)) else (if ((rd_T27 x0 x3).f1) > 67108864 then (continuoref30_Valid.j2 k x0 x3 true ((rd_T27 x0 x3).f0) ((rd_T27 x0 x3).f1) ((rd_T27 x0 x3).f2)) else (if ((rd_T27 x0 x3).f2) < 0 then (continuoref30_Valid.j2 k x0 x3 true ((rd_T27 x0 x3).f0) ((rd_T27 x0 x3).f1) ((rd_T27 x0 x3).f2)) else (continuoref30_Valid.j2 k x0 x3 (decide (((rd_T27 x0 x3).f2) > 1)) ((rd_T27 x0 x3).f0) ((rd_T27 x0 x3).f1) ((rd_T27 x0 x3).f2)))))))) else (none)) else (some true)
def continuoref30_Valid.j2 : Nat → List (S27) → Int → Bool → Int → Int → Int → Option (Bool)
 | 0, _, _, _, _, _, _ => none
 | k + 1, x0, x3, x72, x161000, x161001, x161002 => if x72 = true then (some false) else (if x161002 = 1 then (if x3 = (wrap64 ((x0.length : Int) - 1)) then (some false) else (if 0 ≤ (wrap64 (x3 + 1)) then (if (wrap64 (x3 + 1)) < (x0.length : Int) then (if (wrap64 (((rd_T27 x0 (wrap64 (x3 + 1))).f0) - x161000)) > 10000 then (some false) else (continuoref30_Valid.l0 k x0 (wrap64 (x3 + 1)))) else (none)) else (none))) else (continuoref30_Valid.l0 k x0 (wrap64 (x3 + 1))))
end
def continuoref30_Valid.f (k : Nat) (l0 : List (S27)) : Option (Bool) := if (l0.length : Int) < 1 then (continuoref30_Valid.j0 k l0 true) else (if (l0.length : Int) > 50 then (continuoref30_Valid.j0 k l0 true) else (if 0 < (l0.length : Int) then (continuoref30_Valid.j0 k l0 (((rd_T27 l0 0).f0) != 0)) else (none)))
theorem continuoref30_Valid.mono_l : ∀ k, (∀ y0 y1, LeO (continuoref30_Valid.j0 k y0 y1) (continuoref30_Valid.j0 (k + 1) y0 y1)) ∧ (∀ y0 y1, LeO (continuoref30_Valid.l0 k y0 y1) (continuoref30_Valid.l0 (k + 1) y0 y1)) ∧ (∀ y0 y1 y2 y3 y4 y5, LeO (continuoref30_Valid.j2 k y0 y1 y2 y3 y4 y5) (continuoref30_Valid.j2 (k + 1) y0 y1 y2 y3 y4 y5))
 | 0 => ⟨fun _ _ r h => by simp [continuoref30_Valid.j0] at h, fun _ _ r h => by simp [continuoref30_Valid.l0] at h, fun _ _ _ _ _ _ r h => by simp [continuoref30_Valid.j2] at h⟩
 | k + 1 => by
  obtain ⟨ih0, ih1, ih2⟩ := continuoref30_Valid.mono_l k
  refine ⟨?_, ?_, ?_⟩
  · intro y0 y1
    unfold continuoref30_Valid.j0
    repeat' first
    | (with_reducible exact ih0 _ _)
    | (with_reducible exact ih1 _ _)
    | (with_reducible exact ih2 _ _ _ _ _ _)
    | (with_reducible exact LeO.refl _)
    | (with_reducible exact LeO.none _)
    | (with_reducible refine LeO.ite ?_ ?_)
    | (with_reducible refine LeO.bind ?_ (fun _ => ?_))
    | exact ih0 _ _
    | exact ih1 _ _
    | exact ih2 _ _ _ _ _ _
    | exact LeO.none _
    | refine LeO.ite ?_ ?_
    | refine LeO.bind ?_ (fun _ => ?_)
  · intro y0 y1
    unfold continuoref30_Valid.l0
    repeat' first
    | (with_reducible exact ih0 _ _)
    | (with_reducible exact ih1 _ _)
    | (with_reducible exact ih2 _ _ _ _ _ _)
    | (with_reducible exact LeO.refl _)
    | (with_reducible exact LeO.none _)
    | (with_reducible refine LeO.ite ?_ ?_)
    | (with_reducible refine LeO.bind ?_ (fun _ => ?_))
    | exact ih0 _ _
    | exact ih1 _ _
    | exact ih2 _ _ _ _ _ _
    | exact LeO.none _
    | refine LeO.ite ?_ ?_
    | refine LeO.bind ?_ (fun _ => ?_)
  · intro y0 y1 y2 y3 y4 y5
    unfold continuoref30_Valid.j2
    repeat' first
    | (with_reducible exact ih0 _ _)
    | (with_reducible exact ih1 _ _)
    | (with_reducible exact ih2 _ _ _ _ _ _)
    | (with_reducible exact LeO.refl _)
    | (with_reducible exact LeO.none _)
    | (with_reducible refine LeO.ite ?_ ?_)
    | (with_reducible refine LeO.bind ?_ (fun _ => ?_))
    | exact ih0 _ _
    | exact ih1 _ _
    | exact ih2 _ _ _ _ _ _
    | exact LeO.none _
    | refine LeO.ite ?_ ?_
    | refine LeO.bind ?_ (fun _ => ?_)
theorem continuoref30_Valid.mono : ∀ a0 k, LeO (continuoref30_Valid.f k a0) (continuoref30_Valid.f (k + 1) a0) := by
 intro a0 k
 obtain ⟨ih0, ih1, ih2⟩ := continuoref30_Valid.mono_l k
 unfold continuoref30_Valid.f
 repeat' first
  | (with_reducible exact ih0 _ _)
  | (with_reducible exact ih1 _ _)
  | (with_reducible exact ih2 _ _ _ _ _ _)
  | (with_reducible exact LeO.refl _)
  | (with_reducible exact LeO.none _)
  | (with_reducible refine LeO.ite ?_ ?_)
  | (with_reducible refine LeO.bind ?_ (fun _ => ?_))
  | exact ih0 _ _
  | exact ih1 _ _
  | exact ih2 _ _ _ _ _ _
  | exact LeO.none _
  | refine LeO.ite ?_ ?_
  | refine LeO.bind ?_ (fun _ => ?_)
set_option maxHeartbeats 8000000 in
set_option maxRecDepth 100000 in
theorem continuoref30_Valid.calls (k : Nat) (A0 : Option Addr) (c0 : Nat) (l0 : List (S27)) (r : Bool) (w : World) (hr0 : Kd.C k27 w A0 l0.length l0) (hc0 : l0.length ≤ c0) (h : continuoref30_Valid.f k l0 = some r) :
 Calls Try.prog 11 #[.slice A0 l0.length c0] w fun e w' => e = .returned (.bool r) ∧ Below w.heap.size w w' := by
 have hu27 := Try.underlying27
 have HR0 := Aside0.mk hr0
 have HC0 := Aside0.mk hc0
 clear hr0 hc0
 have HB := Aside0.mk (Below.refl w.heap.size w)
 have H : (if (l0.length : Int) < 1 then (continuoref30_Valid.j0 k l0 true) else (if (l0.length : Int) > 50 then (continuoref30_Valid.j0 k l0 true) else (if 0 < (l0.length : Int) then (continuoref30_Valid.j0 k l0 (((rd_T27 l0 0).f0) != 0)) else (none)))) = some r := h
 clear h
 have HC2 := Aside0.mk H
 clear H
 go_enter Try.func11, Try.ntmps11
 go_upto_region 1 with (fail)
 repeat (go_quiet (fail); go_upto_region 1 with (fail))
 go_cut [19] (fun v19 wc => ∃ (kq : Nat) (x19_1 : Bool), v19 = .bool x19_1 ∧ Aside0 (continuoref30_Valid.j0 kq l0 x19_1 = some r) ∧ Aside0 (kq ≤ k) ∧ Aside0 (Below w.heap.size w wc))
 case first =>
  have H := HC2.out
  clear HC2
  by_cases c3 : (l0.length : Int) < 1
  · rw [if_pos c3] at H
    have c3b0 : decide ((l0.length : Int) < 1) = true := decide_eq_true c3
    have c3b1 : decide (l0.length < 1) = true := decide_eq_true (by omega)
    clear c3
    (first | rw [c3b0] | (simp only [i64_w, i32_w]; rw [c3b0]) | skip)
    have H' := Aside0.mk H
    clear H
    go_wp2
    repeat (go_quiet (fail); try go_wp2)
    go_meet
    case rel => exact ⟨_, (true), (by first | rfl | (simp; done) | (simp [*]; done)), H', ⟨by first | omega | exact Nat.le_refl _⟩, ⟨by repeat (first | (with_reducible first | exact HB.out | apply below_alloc | apply pw_below_drewN | apply below_drew1) | exact HB.out)⟩⟩
  · rw [if_neg c3] at H
    have c3b0 : decide ((l0.length : Int) < 1) = false := decide_eq_false c3
    have c3b1 : decide (l0.length < 1) = false := decide_eq_false (by omega)
    clear c3
    (first | rw [c3b0] | (simp only [i64_w, i32_w]; rw [c3b0]) | skip)
    by_cases c4 : (l0.length : Int) > 50
    · rw [if_pos c4] at H
      have c4b0 : decide (50 < (l0.length : Int)) = true := decide_eq_true c4
      have c4b1 : decide (50 < l0.length) = true := decide_eq_true (by omega)
      clear c4
      have H' := Aside0.mk H
      clear H
      go_wp2
      repeat (go_quiet (fail); try go_wp2)
      go_meet
      case rel => exact ⟨_, (true), (by first | rfl | (simp; done) | (simp [*]; done)), H', ⟨by first | omega | exact Nat.le_refl _⟩, ⟨by repeat (first | (with_reducible first | exact HB.out | apply below_alloc | apply pw_below_drewN | apply below_drew1) | exact HB.out)⟩⟩
    · rw [if_neg c4] at H
      have c4b0 : decide (50 < (l0.length : Int)) = false := decide_eq_false c4
      have c4b1 : decide (50 < l0.length) = false := decide_eq_false (by omega)
      clear c4
      by_cases c5 : 0 < (l0.length : Int)
      · rw [if_pos c5] at H
        have c5b0 : decide (0 < (l0.length : Int)) = true := decide_eq_true c5
        have c5b1 : decide (0 < l0.length) = true := decide_eq_true (by omega)
        clear c5
        have H' := Aside0.mk H
        clear H
        have p158 : 0 ≤ (0 : Int) := (by omega)
        have q158 : 0 < (l0.length : Int) := of_decide_eq_true (by first | (with_reducible assumption) | assumption)
        obtain ⟨ad158, e158, hx158_0, hx158_1, hx158_2⟩ := at_T27 HR0.out 0 p158 q158
        cases e158
        have qi158 : (0 < l0.length) = True := eq_true (by omega)
        (try rw [show ((0 : Int)).toNat = 0 from rfl] at hx158_0)
        (try rw [show 0 * 3 = 0 from rfl] at hx158_0)
        (try rw [Addr.add_zero'] at hx158_0)
        (try rw [show ((0 : Int)).toNat = 0 from rfl] at hx158_1)
        (try rw [show 0 * 3 = 0 from rfl] at hx158_1)
        (try rw [Addr.add_zero'] at hx158_1)
        (try rw [show ((0 : Int)).toNat = 0 from rfl] at hx158_2)
        (try rw [show 0 * 3 = 0 from rfl] at hx158_2)
        (try rw [Addr.add_zero'] at hx158_2)
        replace hx158_0 := (HB.out.cell (World.block_lt_of_cell? w _ hx158_0)).trans hx158_0
        replace hx158_1 := (HB.out.cell (World.block_lt_of_cell? w _ hx158_1)).trans hx158_1
        replace hx158_2 := (HB.out.cell (World.block_lt_of_cell? w _ hx158_2)).trans hx158_2
        replace p158 := eq_true p158
        replace q158 := eq_true q158
        go_wp2
        repeat (go_quiet (fail); try go_wp2)
        go_meet
        case rel => exact ⟨_, ((((rd_T27 l0 0).f0) != 0)), (by first | rfl | (simp; done) | (simp [*]; done)), H', ⟨by first | omega | exact Nat.le_refl _⟩, ⟨by repeat (first | (with_reducible first | exact HB.out | apply below_alloc | apply pw_below_drewN | apply below_drew1) | exact HB.out)⟩⟩
      · rw [if_neg c5] at H
        exact absurd H (by simp)
 case rest =>
  clear HC2
  try clear c1
  try clear p1
  try clear q1
  try clear hx1
  try clear qi1
  try clear p2
  try clear c3
  try clear c3b0
  try clear c3b1
  try clear c4
  try clear c4b0
  try clear c4b1
  try clear c5
  try clear c5b0
  try clear c5b1
  try clear hx158_0
  try clear hx158_1
  try clear hx158_2
  try clear p158
  try clear q158
  obtain ⟨kq, x19_1, rfl, HA, HJ1, HB⟩ := hcut
  cases kq with
  | zero => exact absurd HA.out (by simp [continuoref30_Valid.j0])
  | succ kj1 =>
   have H := HA.out
   clear HA
   simp only [continuoref30_Valid.j0] at H
   by_cases c6 : x19_1 = true
   · subst c6
     have H1 : (some false) = some r := by rw [if_pos rfl] at H; exact H
     clear H
     have H := H1
     clear H1
     obtain rfl := Option.some.inj H
     go_wp2
     repeat (go_quiet (fail); try go_wp2)
     go_ret
     exact ⟨by first | rfl | (simp [errW_none, errW_some] <;> rfl) | (simp [*, errW_none, errW_some] <;> rfl), by repeat (first | (with_reducible first | exact HB.out | apply below_alloc | apply pw_below_drewN | apply below_drew1) | exact HB.out)⟩
   · replace c6 := Bool.eq_false_iff.mpr c6
     subst c6
     have H1 : (continuoref30_Valid.l0 kj1 l0 0) = some r := by rw [if_neg (show ¬ (false = true) by decide)] at H; exact H
     clear H
     have H := H1
     clear H1
     have H' := Aside0.mk H
     clear H
     go_wp2
     repeat (go_quiet (fail); try go_wp2)
     go_loopg [3] kj1 (fun kq v3 w' => ∃ (x3_2 : Int), v3 = .int .i64 x3_2 ∧ Aside0 (continuoref30_Valid.l0 kq l0 x3_2 = some r) ∧ Aside0 (kq ≤ kj1) ∧ Aside0 (Below w.heap.size w w'))
     case atStart => exact ⟨(0), (by first | rfl | (simp; done) | (simp [*]; done)), H', ⟨Nat.le_refl _⟩, ⟨by repeat (first | (with_reducible first | exact HB.out | apply below_alloc | apply pw_below_drewN | apply below_drew1) | exact HB.out)⟩⟩
     case round =>
      clear H'
      try clear c1
      try clear p1
      try clear q1
      try clear hx1
      try clear qi1
      try clear p2
      try clear c3
      try clear c3b0
      try clear c3b1
      try clear c4
      try clear c4b0
      try clear c4b1
      try clear c5
      try clear c5b0
      try clear c5b1
      try clear c6
      try clear hx158_0
      try clear hx158_1
      try clear hx158_2
      try clear p1
      try clear p158
      try clear p2
      try clear q1
      try clear q158
      obtain ⟨x3_2, rfl, HA, HK2, HB⟩ := hrel
      cases gk with
      | zero => exact absurd HA.out (by simp [continuoref30_Valid.l0])
      | succ k2 =>
       have H := HA.out
       clear HA
       simp only [continuoref30_Valid.l0] at H
       by_cases c7 : x3_2 < (l0.length : Int)
       · rw [if_pos c7] at H
         have c7b0 : decide (x3_2 < (l0.length : Int)) = true := decide_eq_true c7
         clear c7
         by_cases c8 : 0 ≤ x3_2
         · rw [if_pos c8] at H
           have c8b0 : decide (0 ≤ x3_2) = true := decide_eq_true c8
           clear c8
           have HC9 := Aside0.mk H
           clear H
           have p159 : 0 ≤ (x3_2 : Int) := of_decide_eq_true (by first | (with_reducible assumption) | assumption)
           have q159 : x3_2 < (l0.length : Int) := of_decide_eq_true (by first | (with_reducible assumption) | assumption)
           obtain ⟨ad159, e159, hx159_0, hx159_1, hx159_2⟩ := at_T27 HR0.out x3_2 p159 q159
           cases e159
           replace hx159_0 := (HB.out.cell (World.block_lt_of_cell? w _ hx159_0)).trans hx159_0
           replace hx159_1 := (HB.out.cell (World.block_lt_of_cell? w _ hx159_1)).trans hx159_1
           replace hx159_2 := (HB.out.cell (World.block_lt_of_cell? w _ hx159_2)).trans hx159_2
           replace p159 := eq_true p159
           replace q159 := eq_true q159
           go_upto_region 7 with (first | ((with_reducible refine gate_dst (N := 4) rfl ?_); (try (refine gate_guard (by rfl) ?_; dsimp only)); refine box_event ?hg (N := 4) ?hd (cs := #[.int .i64 0, .int .i64 0, .int .i64 0]) (t := 27) ?hr ?_; (case hd => rfl); (case hg => rfl); (case hr => first | (go_simp; done) | (go_simp; rfl)); intro gb160 hg w10 hbox hb; have n0_ := Aside0.mk (below_step (by repeat (first | (with_reducible first | exact HB.out | apply below_alloc | apply pw_below_drewN | apply below_drew1) | exact HB.out)) hb); have n1_ := Aside0.mk (hbox); have n2_ := Aside0.mk ((by rw [hg]; exact (below_size (by repeat (first | (with_reducible first | exact HB.out | apply below_alloc | apply pw_below_drewN | apply below_drew1) | exact HB.out))) : w.heap.size ≤ gb160)); have n3_ := Aside0.mk ((by rw [hg]; exact (below_size (by repeat (first | (with_reducible first | exact HB.out | apply below_alloc | apply pw_below_drewN | apply below_drew1) | exact HB.out))) : w.heap.size ≤ gb160)); clear HB; have HB := n0_; have BK160 := n1_; have GW160 := n2_; have GE160 := n3_; clear n0_ n1_ n2_ n3_; clear hb hbox hg; have hcz11_0 : w10.cell? ⟨gb160, 0, none⟩ = some (.int .i64 0) := (blk_cell BK160.out 0).trans rfl; have hcz11_1 : w10.cell? ⟨gb160, 1, none⟩ = some (.int .i64 0) := (blk_cell BK160.out 1).trans rfl; have hcz11_2 : w10.cell? ⟨gb160, 2, none⟩ = some (.int .i64 0) := (blk_cell BK160.out 2).trans rfl; have hfz11_0 := blk_frozen BK160.out 0; have hfz11_1 := blk_frozen BK160.out 1; have hfz11_2 := blk_frozen BK160.out 2))
           repeat (go_quiet (first | ((with_reducible refine gate_dst (N := 4) rfl ?_); (try (refine gate_guard (by rfl) ?_; dsimp only)); refine box_event ?hg (N := 4) ?hd (cs := #[.int .i64 0, .int .i64 0, .int .i64 0]) (t := 27) ?hr ?_; (case hd => rfl); (case hg => rfl); (case hr => first | (go_simp; done) | (go_simp; rfl)); intro gb160 hg w10 hbox hb; have n0_ := Aside0.mk (below_step (by repeat (first | (with_reducible first | exact HB.out | apply below_alloc | apply pw_below_drewN | apply below_drew1) | exact HB.out)) hb); have n1_ := Aside0.mk (hbox); have n2_ := Aside0.mk ((by rw [hg]; exact (below_size (by repeat (first | (with_reducible first | exact HB.out | apply below_alloc | apply pw_below_drewN | apply below_drew1) | exact HB.out))) : w.heap.size ≤ gb160)); have n3_ := Aside0.mk ((by rw [hg]; exact (below_size (by repeat (first | (with_reducible first | exact HB.out | apply below_alloc | apply pw_below_drewN | apply below_drew1) | exact HB.out))) : w.heap.size ≤ gb160)); clear HB; have HB := n0_; have BK160 := n1_; have GW160 := n2_; have GE160 := n3_; clear n0_ n1_ n2_ n3_; clear hb hbox hg; have hcz11_0 : w10.cell? ⟨gb160, 0, none⟩ = some (.int .i64 0) := (blk_cell BK160.out 0).trans rfl; have hcz11_1 : w10.cell? ⟨gb160, 1, none⟩ = some (.int .i64 0) := (blk_cell BK160.out 1).trans rfl; have hcz11_2 : w10.cell? ⟨gb160, 2, none⟩ = some (.int .i64 0) := (blk_cell BK160.out 2).trans rfl; have hfz11_0 := blk_frozen BK160.out 0; have hfz11_1 := blk_frozen BK160.out 1; have hfz11_2 := blk_frozen BK160.out 2)); go_upto_region 7 with (first | ((with_reducible refine gate_dst (N := 4) rfl ?_); (try (refine gate_guard (by rfl) ?_; dsimp only)); refine box_event ?hg (N := 4) ?hd (cs := #[.int .i64 0, .int .i64 0, .int .i64 0]) (t := 27) ?hr ?_; (case hd => rfl); (case hg => rfl); (case hr => first | (go_simp; done) | (go_simp; rfl)); intro gb160 hg w10 hbox hb; have n0_ := Aside0.mk (below_step (by repeat (first | (with_reducible first | exact HB.out | apply below_alloc | apply pw_below_drewN | apply below_drew1) | exact HB.out)) hb); have n1_ := Aside0.mk (hbox); have n2_ := Aside0.mk ((by rw [hg]; exact (below_size (by repeat (first | (with_reducible first | exact HB.out | apply below_alloc | apply pw_below_drewN | apply below_drew1) | exact HB.out))) : w.heap.size ≤ gb160)); have n3_ := Aside0.mk ((by rw [hg]; exact (below_size (by repeat (first | (with_reducible first | exact HB.out | apply below_alloc | apply pw_below_drewN | apply below_drew1) | exact HB.out))) : w.heap.size ≤ gb160)); clear HB; have HB := n0_; have BK160 := n1_; have GW160 := n2_; have GE160 := n3_; clear n0_ n1_ n2_ n3_; clear hb hbox hg; have hcz11_0 : w10.cell? ⟨gb160, 0, none⟩ = some (.int .i64 0) := (blk_cell BK160.out 0).trans rfl; have hcz11_1 : w10.cell? ⟨gb160, 1, none⟩ = some (.int .i64 0) := (blk_cell BK160.out 1).trans rfl; have hcz11_2 : w10.cell? ⟨gb160, 2, none⟩ = some (.int .i64 0) := (blk_cell BK160.out 2).trans rfl; have hfz11_0 := blk_frozen BK160.out 0; have hfz11_1 := blk_frozen BK160.out 1; have hfz11_2 := blk_frozen BK160.out 2)))
           (try simp only [Act.put, List.setIfInBounds_toArray, List.set_cons_zero, List.set_cons_succ])
           go_cut [72] (fun v72 wc => ∃ (kq : Nat) (x72_8 : Bool), v72 = .bool x72_8 ∧ Aside0 (continuoref30_Valid.j2 kq l0 x3_2 x72_8 ((rd_T27 l0 x3_2).f0) ((rd_T27 l0 x3_2).f1) ((rd_T27 l0 x3_2).f2) = some r) ∧ Aside0 (kq ≤ k2) ∧ Aside0 (wc.heap[gb160]? = some (.cells #[.int .i64 ((rd_T27 l0 x3_2).f0), .int .i64 ((rd_T27 l0 x3_2).f1), .int .i64 ((rd_T27 l0 x3_2).f2)] 27 (0, 0))) ∧ Aside0 (Below w.heap.size w wc))
           case first =>
            have H := HC9.out
            clear HC9
            by_cases c12 : ((rd_T27 l0 x3_2).f0) < 0
            · rw [if_pos c12] at H
              have c12b0 : decide (((rd_T27 l0 x3_2).f0) < 0) = true := decide_eq_true c12
              clear c12
              (first | rw [c12b0] | (simp only [i64_w, i32_w]; rw [c12b0]) | skip)
              have H' := Aside0.mk H
              clear H
              have hcz13_0 : w10.cell? ⟨gb160, 0, none⟩ = some (.int .i64 0) := (blk_cell BK160.out 0).trans rfl
              have hcz13_1 : w10.cell? ⟨gb160, 1, none⟩ = some (.int .i64 0) := (blk_cell BK160.out 1).trans rfl
              have hcz13_2 : w10.cell? ⟨gb160, 2, none⟩ = some (.int .i64 0) := (blk_cell BK160.out 2).trans rfl
              have hfz13_0 := blk_frozen BK160.out 0
              have hfz13_1 := blk_frozen BK160.out 1
              have hfz13_2 := blk_frozen BK160.out 2
              go_wp2
              repeat (go_quiet (fail); try go_wp2)
              go_meet
              case rel => exact ⟨_, (true), (by first | rfl | (simp; done) | (simp [*]; done)), H', ⟨by have := HJ1.out; have := HK2.out; first | omega | exact Nat.le_refl _⟩, ⟨by (with_reducible repeat (first | refine blk_drewN ?_ _ | refine blk_drew ?_ | refine blk_alloc ?_ _)); refine blk_put (cs := #[.int .i64 ((rd_T27 l0 x3_2).f0), .int .i64 ((rd_T27 l0 x3_2).f1), .int .i64 0]) ?_ 2 _ rfl; (with_reducible repeat (first | refine blk_drewN ?_ _ | refine blk_drew ?_ | refine blk_alloc ?_ _)); refine blk_put (cs := #[.int .i64 ((rd_T27 l0 x3_2).f0), .int .i64 0, .int .i64 0]) ?_ 1 _ rfl; (with_reducible repeat (first | refine blk_drewN ?_ _ | refine blk_drew ?_ | refine blk_alloc ?_ _)); refine blk_put (cs := #[.int .i64 0, .int .i64 0, .int .i64 0]) ?_ 0 _ rfl; (with_reducible repeat (first | refine blk_drewN ?_ _ | refine blk_drew ?_ | refine blk_alloc ?_ _)); exact BK160.out⟩, ⟨by repeat (first | (with_reducible first | exact HB.out | apply below_alloc | apply pw_below_drewN | apply below_drew1 | refine below_set ?_ GE160.out) | exact HB.out)⟩⟩
            · rw [if_neg c12] at H
              have c12b0 : decide (((rd_T27 l0 x3_2).f0) < 0) = false := decide_eq_false c12
              clear c12
              (first | rw [c12b0] | (simp only [i64_w, i32_w]; rw [c12b0]) | skip)
              by_cases c14 : ((rd_T27 l0 x3_2).f0) > 1000000000
              · rw [if_pos c14] at H
                have c14b0 : decide (1000000000 < ((rd_T27 l0 x3_2).f0)) = true := decide_eq_true c14
                clear c14
                have H' := Aside0.mk H
                clear H
                have hcz15_0 : w10.cell? ⟨gb160, 0, none⟩ = some (.int .i64 0) := (blk_cell BK160.out 0).trans rfl
                have hcz15_1 : w10.cell? ⟨gb160, 1, none⟩ = some (.int .i64 0) := (blk_cell BK160.out 1).trans rfl
                have hcz15_2 : w10.cell? ⟨gb160, 2, none⟩ = some (.int .i64 0) := (blk_cell BK160.out 2).trans rfl
                have hfz15_0 := blk_frozen BK160.out 0
                have hfz15_1 := blk_frozen BK160.out 1
                have hfz15_2 := blk_frozen BK160.out 2
                go_wp2
                repeat (go_quiet (fail); try go_wp2)
                go_meet
                case rel => exact ⟨_, (true), (by first | rfl | (simp; done) | (simp [*]; done)), H', ⟨by have := HJ1.out; have := HK2.out; first | omega | exact Nat.le_refl _⟩, ⟨by (with_reducible repeat (first | refine blk_drewN ?_ _ | refine blk_drew ?_ | refine blk_alloc ?_ _)); refine blk_put (cs := #[.int .i64 ((rd_T27 l0 x3_2).f0), .int .i64 ((rd_T27 l0 x3_2).f1), .int .i64 0]) ?_ 2 _ rfl; (with_reducible repeat (first | refine blk_drewN ?_ _ | refine blk_drew ?_ | refine blk_alloc ?_ _)); refine blk_put (cs := #[.int .i64 ((rd_T27 l0 x3_2).f0), .int .i64 0, .int .i64 0]) ?_ 1 _ rfl; (with_reducible repeat (first | refine blk_drewN ?_ _ | refine blk_drew ?_ | refine blk_alloc ?_ _)); refine blk_put (cs := #[.int .i64 0, .int .i64 0, .int .i64 0]) ?_ 0 _ rfl; (with_reducible repeat (first | refine blk_drewN ?_ _ | refine blk_drew ?_ | refine blk_alloc ?_ _)); exact BK160.out⟩, ⟨by repeat (first | (with_reducible first | exact HB.out | apply below_alloc | apply pw_below_drewN | apply below_drew1 | refine below_set ?_ GE160.out) | exact HB.out)⟩⟩
              · rw [if_neg c14] at H
                have c14b0 : decide (1000000000 < ((rd_T27 l0 x3_2).f0)) = false := decide_eq_false c14
                clear c14
                by_cases c16 : x3_2 > 0
                · rw [if_pos c16] at H
                  have c16b0 : decide (0 < x3_2) = true := decide_eq_true c16
                  clear c16
                  obtain ⟨ji17, hji17⟩ : ∃ j_ : Int, (wrap64 (x3_2 - 1)) = j_ := ⟨_, rfl⟩
                  replace H : (if 0 ≤ (ji17) then (if (ji17) < (l0.length : Int) then (if ((rd_T27 l0 x3_2).f0) ≤ ((rd_T27 l0 (ji17)).f0) then (continuoref30_Valid.j2 k2 l0 x3_2 true ((rd_T27 l0 x3_2).f0) ((rd_T27 l0 x3_2).f1) ((rd_T27 l0 x3_2).f2)) else (if ((rd_T27 l0 x3_2).f1) < 1 then (continuoref30_Valid.j2 k2 l0 x3_2 true ((rd_T27 l0 x3_2).f0) ((rd_T27 l0 x3_2).f1) ((rd_T27 l0 x3_2).f2)) else (if ((rd_T27 l0 x3_2).f1) > 67108864 then (continuoref30_Valid.j2 k2 l0 x3_2 true ((rd_T27 l0 x3_2).f0) ((rd_T27 l0 x3_2).f1) ((rd_T27 l0 x3_2).f2)) else (if ((rd_T27 l0 x3_2).f2) < 0 then (continuoref30_Valid.j2 k2 l0 x3_2 true ((rd_T27 l0 x3_2).f0) ((rd_T27 l0 x3_2).f1) ((rd_T27 l0 x3_2).f2)) else (continuoref30_Valid.j2 k2 l0 x3_2 (decide (((rd_T27 l0 x3_2).f2) > 1)) ((rd_T27 l0 x3_2).f0) ((rd_T27 l0 x3_2).f1) ((rd_T27 l0 x3_2).f2)))))) else (none)) else (none)) = some r := by first | (rw [hji17] at H; exact H) | (simp only [hji17] at H ⊢; exact H)
                  have hji17w : (IntKind.i64.wrap (x3_2 - 1)) = ji17 := (i64_w _).trans hji17
                  by_cases c18 : 0 ≤ (ji17)
                  · rw [if_pos c18] at H
                    have c18b0 : decide (0 ≤ (ji17)) = true := decide_eq_true c18
                    clear c18
                    by_cases c19 : (ji17) < (l0.length : Int)
                    · rw [if_pos c19] at H
                      have c19b0 : decide ((ji17) < (l0.length : Int)) = true := decide_eq_true c19
                      clear c19
                      by_cases c20 : ((rd_T27 l0 x3_2).f0) ≤ ((rd_T27 l0 (ji17)).f0)
                      · rw [if_pos c20] at H
                        have c20b0 : decide (((rd_T27 l0 x3_2).f0) ≤ ((rd_T27 l0 (ji17)).f0)) = true := decide_eq_true c20
                        clear c20
                        have H' := Aside0.mk H
                        clear H
                        have hcz21_0 : w10.cell? ⟨gb160, 0, none⟩ = some (.int .i64 0) := (blk_cell BK160.out 0).trans rfl
                        have hcz21_1 : w10.cell? ⟨gb160, 1, none⟩ = some (.int .i64 0) := (blk_cell BK160.out 1).trans rfl
                        have hcz21_2 : w10.cell? ⟨gb160, 2, none⟩ = some (.int .i64 0) := (blk_cell BK160.out 2).trans rfl
                        have hfz21_0 := blk_frozen BK160.out 0
                        have hfz21_1 := blk_frozen BK160.out 1
                        have hfz21_2 := blk_frozen BK160.out 2
                        have p161 : 0 ≤ ((ji17) : Int) := of_decide_eq_true (by first | (with_reducible assumption) | assumption)
                        have q161 : (ji17) < (l0.length : Int) := of_decide_eq_true (by first | (with_reducible assumption) | assumption)
                        obtain ⟨ad161, e161, hx161_0, hx161_1, hx161_2⟩ := at_T27 HR0.out (ji17) p161 q161
                        obtain rfl : ad159 = ad161 := (by injection e161)
                        have hn161_0 : ad159.block ≠ gb160 := Nat.ne_of_lt (Nat.lt_of_lt_of_le (by have := World.block_lt_of_cell? _ _ hx161_0; first | rwa [add_block] at this | exact this) GW160.out)
                        have hn161_1 : ad159.block ≠ gb160 := Nat.ne_of_lt (Nat.lt_of_lt_of_le (by have := World.block_lt_of_cell? _ _ hx161_0; first | rwa [add_block] at this | exact this) GW160.out)
                        have hn161_2 : ad159.block ≠ gb160 := Nat.ne_of_lt (Nat.lt_of_lt_of_le (by have := World.block_lt_of_cell? _ _ hx161_0; first | rwa [add_block] at this | exact this) GW160.out)
                        replace hx161_0 := (HB.out.cell (World.block_lt_of_cell? w _ hx161_0)).trans hx161_0
                        replace hx161_1 := (HB.out.cell (World.block_lt_of_cell? w _ hx161_1)).trans hx161_1
                        replace hx161_2 := (HB.out.cell (World.block_lt_of_cell? w _ hx161_2)).trans hx161_2
                        replace hx161_0 := (cell_far (p := ⟨gb160, 0, none⟩) (by first | (rw [add_block]; exact hn161_0) | (show (Addr.add _ _).block ≠ _; rw [add_block]; exact hn161_0) | exact hn161_0) (.int .i64 ((rd_T27 l0 x3_2).f0))).trans hx161_0
                        replace hx161_1 := (cell_far (p := ⟨gb160, 0, none⟩) (by first | (rw [add_block]; exact hn161_0) | (show (Addr.add _ _).block ≠ _; rw [add_block]; exact hn161_0) | exact hn161_0) (.int .i64 ((rd_T27 l0 x3_2).f0))).trans hx161_1
                        replace hx161_2 := (cell_far (p := ⟨gb160, 0, none⟩) (by first | (rw [add_block]; exact hn161_0) | (show (Addr.add _ _).block ≠ _; rw [add_block]; exact hn161_0) | exact hn161_0) (.int .i64 ((rd_T27 l0 x3_2).f0))).trans hx161_2
                        replace hx161_0 := (cell_far (p := ⟨gb160, 1, none⟩) (by first | (rw [add_block]; exact hn161_1) | (show (Addr.add _ _).block ≠ _; rw [add_block]; exact hn161_1) | exact hn161_1) (.int .i64 ((rd_T27 l0 x3_2).f1))).trans hx161_0
                        replace hx161_1 := (cell_far (p := ⟨gb160, 1, none⟩) (by first | (rw [add_block]; exact hn161_1) | (show (Addr.add _ _).block ≠ _; rw [add_block]; exact hn161_1) | exact hn161_1) (.int .i64 ((rd_T27 l0 x3_2).f1))).trans hx161_1
                        replace hx161_2 := (cell_far (p := ⟨gb160, 1, none⟩) (by first | (rw [add_block]; exact hn161_1) | (show (Addr.add _ _).block ≠ _; rw [add_block]; exact hn161_1) | exact hn161_1) (.int .i64 ((rd_T27 l0 x3_2).f1))).trans hx161_2
                        replace hx161_0 := (cell_far (p := ⟨gb160, 2, none⟩) (by first | (rw [add_block]; exact hn161_2) | (show (Addr.add _ _).block ≠ _; rw [add_block]; exact hn161_2) | exact hn161_2) (.int .i64 ((rd_T27 l0 x3_2).f2))).trans hx161_0
                        replace hx161_1 := (cell_far (p := ⟨gb160, 2, none⟩) (by first | (rw [add_block]; exact hn161_2) | (show (Addr.add _ _).block ≠ _; rw [add_block]; exact hn161_2) | exact hn161_2) (.int .i64 ((rd_T27 l0 x3_2).f2))).trans hx161_1
                        replace hx161_2 := (cell_far (p := ⟨gb160, 2, none⟩) (by first | (rw [add_block]; exact hn161_2) | (show (Addr.add _ _).block ≠ _; rw [add_block]; exact hn161_2) | exact hn161_2) (.int .i64 ((rd_T27 l0 x3_2).f2))).trans hx161_2
                        (try have hy161_0 := fun (n_ : Nat) => (show (((((w10.drewN n_).setCell ⟨gb160, 0, none⟩ (.int .i64 ((rd_T27 l0 x3_2).f0))).setCell ⟨gb160, 1, none⟩ (.int .i64 ((rd_T27 l0 x3_2).f1))).setCell ⟨gb160, 2, none⟩ (.int .i64 ((rd_T27 l0 x3_2).f2)))).cell? _ = some _ from hx161_0))
                        (try have hy161_1 := fun (n_ : Nat) => (show (((((w10.drewN n_).setCell ⟨gb160, 0, none⟩ (.int .i64 ((rd_T27 l0 x3_2).f0))).setCell ⟨gb160, 1, none⟩ (.int .i64 ((rd_T27 l0 x3_2).f1))).setCell ⟨gb160, 2, none⟩ (.int .i64 ((rd_T27 l0 x3_2).f2)))).cell? _ = some _ from hx161_1))
                        (try have hy161_2 := fun (n_ : Nat) => (show (((((w10.drewN n_).setCell ⟨gb160, 0, none⟩ (.int .i64 ((rd_T27 l0 x3_2).f0))).setCell ⟨gb160, 1, none⟩ (.int .i64 ((rd_T27 l0 x3_2).f1))).setCell ⟨gb160, 2, none⟩ (.int .i64 ((rd_T27 l0 x3_2).f2)))).cell? _ = some _ from hx161_2))
                        clear hn161_0
                        clear hn161_1
                        clear hn161_2
                        replace p161 := eq_true p161
                        replace q161 := eq_true q161
                        go_wp2
                        repeat (go_quiet (fail); try go_wp2)
                        go_meet
                        case rel => exact ⟨_, (true), (by first | rfl | (simp; done) | (simp [*]; done)), H', ⟨by have := HJ1.out; have := HK2.out; first | omega | exact Nat.le_refl _⟩, ⟨by (with_reducible repeat (first | refine blk_drewN ?_ _ | refine blk_drew ?_ | refine blk_alloc ?_ _)); refine blk_put (cs := #[.int .i64 ((rd_T27 l0 x3_2).f0), .int .i64 ((rd_T27 l0 x3_2).f1), .int .i64 0]) ?_ 2 _ rfl; (with_reducible repeat (first | refine blk_drewN ?_ _ | refine blk_drew ?_ | refine blk_alloc ?_ _)); refine blk_put (cs := #[.int .i64 ((rd_T27 l0 x3_2).f0), .int .i64 0, .int .i64 0]) ?_ 1 _ rfl; (with_reducible repeat (first | refine blk_drewN ?_ _ | refine blk_drew ?_ | refine blk_alloc ?_ _)); refine blk_put (cs := #[.int .i64 0, .int .i64 0, .int .i64 0]) ?_ 0 _ rfl; (with_reducible repeat (first | refine blk_drewN ?_ _ | refine blk_drew ?_ | refine blk_alloc ?_ _)); exact BK160.out⟩, ⟨by repeat (first | (with_reducible first | exact HB.out | apply below_alloc | apply pw_below_drewN | apply below_drew1 | refine below_set ?_ GE160.out) | exact HB.out)⟩⟩
                      · rw [if_neg c20] at H
                        have c20b0 : decide (((rd_T27 l0 x3_2).f0) ≤ ((rd_T27 l0 (ji17)).f0)) = false := decide_eq_false c20
                        clear c20
                        by_cases c22 : ((rd_T27 l0 x3_2).f1) < 1
                        · rw [if_pos c22] at H
                          have c22b0 : decide (((rd_T27 l0 x3_2).f1) < 1) = true := decide_eq_true c22
                          clear c22
                          have H' := Aside0.mk H
                          clear H
                          have hcz23_0 : w10.cell? ⟨gb160, 0, none⟩ = some (.int .i64 0) := (blk_cell BK160.out 0).trans rfl
                          have hcz23_1 : w10.cell? ⟨gb160, 1, none⟩ = some (.int .i64 0) := (blk_cell BK160.out 1).trans rfl
                          have hcz23_2 : w10.cell? ⟨gb160, 2, none⟩ = some (.int .i64 0) := (blk_cell BK160.out 2).trans rfl
                          have hfz23_0 := blk_frozen BK160.out 0
                          have hfz23_1 := blk_frozen BK160.out 1
                          have hfz23_2 := blk_frozen BK160.out 2
                          have p161 : 0 ≤ ((ji17) : Int) := of_decide_eq_true (by first | (with_reducible assumption) | assumption)
                          have q161 : (ji17) < (l0.length : Int) := of_decide_eq_true (by first | (with_reducible assumption) | assumption)
                          obtain ⟨ad161, e161, hx161_0, hx161_1, hx161_2⟩ := at_T27 HR0.out (ji17) p161 q161
                          obtain rfl : ad159 = ad161 := (by injection e161)
                          have hn161_0 : ad159.block ≠ gb160 := Nat.ne_of_lt (Nat.lt_of_lt_of_le (by have := World.block_lt_of_cell? _ _ hx161_0; first | rwa [add_block] at this | exact this) GW160.out)
                          have hn161_1 : ad159.block ≠ gb160 := Nat.ne_of_lt (Nat.lt_of_lt_of_le (by have := World.block_lt_of_cell? _ _ hx161_0; first | rwa [add_block] at this | exact this) GW160.out)
                          have hn161_2 : ad159.block ≠ gb160 := Nat.ne_of_lt (Nat.lt_of_lt_of_le (by have := World.block_lt_of_cell? _ _ hx161_0; first | rwa [add_block] at this | exact this) GW160.out)
                          replace hx161_0 := (HB.out.cell (World.block_lt_of_cell? w _ hx161_0)).trans hx161_0
                          replace hx161_1 := (HB.out.cell (World.block_lt_of_cell? w _ hx161_1)).trans hx161_1
                          replace hx161_2 := (HB.out.cell (World.block_lt_of_cell? w _ hx161_2)).trans hx161_2
                          replace hx161_0 := (cell_far (p := ⟨gb160, 0, none⟩) (by first | (rw [add_block]; exact hn161_0) | (show (Addr.add _ _).block ≠ _; rw [add_block]; exact hn161_0) | exact hn161_0) (.int .i64 ((rd_T27 l0 x3_2).f0))).trans hx161_0
                          replace hx161_1 := (cell_far (p := ⟨gb160, 0, none⟩) (by first | (rw [add_block]; exact hn161_0) | (show (Addr.add _ _).block ≠ _; rw [add_block]; exact hn161_0) | exact hn161_0) (.int .i64 ((rd_T27 l0 x3_2).f0))).trans hx161_1
                          replace hx161_2 := (cell_far (p := ⟨gb160, 0, none⟩) (by first | (rw [add_block]; exact hn161_0) | (show (Addr.add _ _).block ≠ _; rw [add_block]; exact hn161_0) | exact hn161_0) (.int .i64 ((rd_T27 l0 x3_2).f0))).trans hx161_2
                          replace hx161_0 := (cell_far (p := ⟨gb160, 1, none⟩) (by first | (rw [add_block]; exact hn161_1) | (show (Addr.add _ _).block ≠ _; rw [add_block]; exact hn161_1) | exact hn161_1) (.int .i64 ((rd_T27 l0 x3_2).f1))).trans hx161_0
                          replace hx161_1 := (cell_far (p := ⟨gb160, 1, none⟩) (by first | (rw [add_block]; exact hn161_1) | (show (Addr.add _ _).block ≠ _; rw [add_block]; exact hn161_1) | exact hn161_1) (.int .i64 ((rd_T27 l0 x3_2).f1))).trans hx161_1
                          replace hx161_2 := (cell_far (p := ⟨gb160, 1, none⟩) (by first | (rw [add_block]; exact hn161_1) | (show (Addr.add _ _).block ≠ _; rw [add_block]; exact hn161_1) | exact hn161_1) (.int .i64 ((rd_T27 l0 x3_2).f1))).trans hx161_2
                          replace hx161_0 := (cell_far (p := ⟨gb160, 2, none⟩) (by first | (rw [add_block]; exact hn161_2) | (show (Addr.add _ _).block ≠ _; rw [add_block]; exact hn161_2) | exact hn161_2) (.int .i64 ((rd_T27 l0 x3_2).f2))).trans hx161_0
                          replace hx161_1 := (cell_far (p := ⟨gb160, 2, none⟩) (by first | (rw [add_block]; exact hn161_2) | (show (Addr.add _ _).block ≠ _; rw [add_block]; exact hn161_2) | exact hn161_2) (.int .i64 ((rd_T27 l0 x3_2).f2))).trans hx161_1
                          replace hx161_2 := (cell_far (p := ⟨gb160, 2, none⟩) (by first | (rw [add_block]; exact hn161_2) | (show (Addr.add _ _).block ≠ _; rw [add_block]; exact hn161_2) | exact hn161_2) (.int .i64 ((rd_T27 l0 x3_2).f2))).trans hx161_2
                          (try have hy161_0 := fun (n_ : Nat) => (show (((((w10.drewN n_).setCell ⟨gb160, 0, none⟩ (.int .i64 ((rd_T27 l0 x3_2).f0))).setCell ⟨gb160, 1, none⟩ (.int .i64 ((rd_T27 l0 x3_2).f1))).setCell ⟨gb160, 2, none⟩ (.int .i64 ((rd_T27 l0 x3_2).f2)))).cell? _ = some _ from hx161_0))
                          (try have hy161_1 := fun (n_ : Nat) => (show (((((w10.drewN n_).setCell ⟨gb160, 0, none⟩ (.int .i64 ((rd_T27 l0 x3_2).f0))).setCell ⟨gb160, 1, none⟩ (.int .i64 ((rd_T27 l0 x3_2).f1))).setCell ⟨gb160, 2, none⟩ (.int .i64 ((rd_T27 l0 x3_2).f2)))).cell? _ = some _ from hx161_1))
                          (try have hy161_2 := fun (n_ : Nat) => (show (((((w10.drewN n_).setCell ⟨gb160, 0, none⟩ (.int .i64 ((rd_T27 l0 x3_2).f0))).setCell ⟨gb160, 1, none⟩ (.int .i64 ((rd_T27 l0 x3_2).f1))).setCell ⟨gb160, 2, none⟩ (.int .i64 ((rd_T27 l0 x3_2).f2)))).cell? _ = some _ from hx161_2))
                          clear hn161_0
                          clear hn161_1
                          clear hn161_2
                          replace p161 := eq_true p161
                          replace q161 := eq_true q161
                          go_wp2
                          repeat (go_quiet (fail); try go_wp2)
                          go_meet
                          case rel => exact ⟨_, (true), (by first | rfl | (simp; done) | (simp [*]; done)), H', ⟨by have := HJ1.out; have := HK2.out; first | omega | exact Nat.le_refl _⟩, ⟨by (with_reducible repeat (first | refine blk_drewN ?_ _ | refine blk_drew ?_ | refine blk_alloc ?_ _)); refine blk_put (cs := #[.int .i64 ((rd_T27 l0 x3_2).f0), .int .i64 ((rd_T27 l0 x3_2).f1), .int .i64 0]) ?_ 2 _ rfl; (with_reducible repeat (first | refine blk_drewN ?_ _ | refine blk_drew ?_ | refine blk_alloc ?_ _)); refine blk_put (cs := #[.int .i64 ((rd_T27 l0 x3_2).f0), .int .i64 0, .int .i64 0]) ?_ 1 _ rfl; (with_reducible repeat (first | refine blk_drewN ?_ _ | refine blk_drew ?_ | refine blk_alloc ?_ _)); refine blk_put (cs := #[.int .i64 0, .int .i64 0, .int .i64 0]) ?_ 0 _ rfl; (with_reducible repeat (first | refine blk_drewN ?_ _ | refine blk_drew ?_ | refine blk_alloc ?_ _)); exact BK160.out⟩, ⟨by repeat (first | (with_reducible first | exact HB.out | apply below_alloc | apply pw_below_drewN | apply below_drew1 | refine below_set ?_ GE160.out) | exact HB.out)⟩⟩
                        · rw [if_neg c22] at H
                          have c22b0 : decide (((rd_T27 l0 x3_2).f1) < 1) = false := decide_eq_false c22
                          clear c22
                          by_cases c24 : ((rd_T27 l0 x3_2).f1) > 67108864
                          · rw [if_pos c24] at H
                            have c24b0 : decide (67108864 < ((rd_T27 l0 x3_2).f1)) = true := decide_eq_true c24
                            clear c24
                            have H' := Aside0.mk H
                            clear H
                            have hcz25_0 : w10.cell? ⟨gb160, 0, none⟩ = some (.int .i64 0) := (blk_cell BK160.out 0).trans rfl
                            have hcz25_1 : w10.cell? ⟨gb160, 1, none⟩ = some (.int .i64 0) := (blk_cell BK160.out 1).trans rfl
                            have hcz25_2 : w10.cell? ⟨gb160, 2, none⟩ = some (.int .i64 0) := (blk_cell BK160.out 2).trans rfl
                            have hfz25_0 := blk_frozen BK160.out 0
                            have hfz25_1 := blk_frozen BK160.out 1
                            have hfz25_2 := blk_frozen BK160.out 2
                            have p161 : 0 ≤ ((ji17) : Int) := of_decide_eq_true (by first | (with_reducible assumption) | assumption)
                            have q161 : (ji17) < (l0.length : Int) := of_decide_eq_true (by first | (with_reducible assumption) | assumption)
                            obtain ⟨ad161, e161, hx161_0, hx161_1, hx161_2⟩ := at_T27 HR0.out (ji17) p161 q161
                            obtain rfl : ad159 = ad161 := (by injection e161)
                            have hn161_0 : ad159.block ≠ gb160 := Nat.ne_of_lt (Nat.lt_of_lt_of_le (by have := World.block_lt_of_cell? _ _ hx161_0; first | rwa [add_block] at this | exact this) GW160.out)
                            have hn161_1 : ad159.block ≠ gb160 := Nat.ne_of_lt (Nat.lt_of_lt_of_le (by have := World.block_lt_of_cell? _ _ hx161_0; first | rwa [add_block] at this | exact this) GW160.out)
                            have hn161_2 : ad159.block ≠ gb160 := Nat.ne_of_lt (Nat.lt_of_lt_of_le (by have := World.block_lt_of_cell? _ _ hx161_0; first | rwa [add_block] at this | exact this) GW160.out)
                            replace hx161_0 := (HB.out.cell (World.block_lt_of_cell? w _ hx161_0)).trans hx161_0
                            replace hx161_1 := (HB.out.cell (World.block_lt_of_cell? w _ hx161_1)).trans hx161_1
                            replace hx161_2 := (HB.out.cell (World.block_lt_of_cell? w _ hx161_2)).trans hx161_2
                            replace hx161_0 := (cell_far (p := ⟨gb160, 0, none⟩) (by first | (rw [add_block]; exact hn161_0) | (show (Addr.add _ _).block ≠ _; rw [add_block]; exact hn161_0) | exact hn161_0) (.int .i64 ((rd_T27 l0 x3_2).f0))).trans hx161_0
                            replace hx161_1 := (cell_far (p := ⟨gb160, 0, none⟩) (by first | (rw [add_block]; exact hn161_0) | (show (Addr.add _ _).block ≠ _; rw [add_block]; exact hn161_0) | exact hn161_0) (.int .i64 ((rd_T27 l0 x3_2).f0))).trans hx161_1
                            replace hx161_2 := (cell_far (p := ⟨gb160, 0, none⟩) (by first | (rw [add_block]; exact hn161_0) | (show (Addr.add _ _).block ≠ _; rw [add_block]; exact hn161_0) | exact hn161_0) (.int .i64 ((rd_T27 l0 x3_2).f0))).trans hx161_2
                            replace hx161_0 := (cell_far (p := ⟨gb160, 1, none⟩) (by first | (rw [add_block]; exact hn161_1) | (show (Addr.add _ _).block ≠ _; rw [add_block]; exact hn161_1) | exact hn161_1) (.int .i64 ((rd_T27 l0 x3_2).f1))).trans hx161_0
                            replace hx161_1 := (cell_far (p := ⟨gb160, 1, none⟩) (by first | (rw [add_block]; exact hn161_1) | (show (Addr.add _ _).block ≠ _; rw [add_block]; exact hn161_1) | exact hn161_1) (.int .i64 ((rd_T27 l0 x3_2).f1))).trans hx161_1
                            replace hx161_2 := (cell_far (p := ⟨gb160, 1, none⟩) (by first | (rw [add_block]; exact hn161_1) | (show (Addr.add _ _).block ≠ _; rw [add_block]; exact hn161_1) | exact hn161_1) (.int .i64 ((rd_T27 l0 x3_2).f1))).trans hx161_2
                            replace hx161_0 := (cell_far (p := ⟨gb160, 2, none⟩) (by first | (rw [add_block]; exact hn161_2) | (show (Addr.add _ _).block ≠ _; rw [add_block]; exact hn161_2) | exact hn161_2) (.int .i64 ((rd_T27 l0 x3_2).f2))).trans hx161_0
                            replace hx161_1 := (cell_far (p := ⟨gb160, 2, none⟩) (by first | (rw [add_block]; exact hn161_2) | (show (Addr.add _ _).block ≠ _; rw [add_block]; exact hn161_2) | exact hn161_2) (.int .i64 ((rd_T27 l0 x3_2).f2))).trans hx161_1
                            replace hx161_2 := (cell_far (p := ⟨gb160, 2, none⟩) (by first | (rw [add_block]; exact hn161_2) | (show (Addr.add _ _).block ≠ _; rw [add_block]; exact hn161_2) | exact hn161_2) (.int .i64 ((rd_T27 l0 x3_2).f2))).trans hx161_2
                            (try have hy161_0 := fun (n_ : Nat) => (show (((((w10.drewN n_).setCell ⟨gb160, 0, none⟩ (.int .i64 ((rd_T27 l0 x3_2).f0))).setCell ⟨gb160, 1, none⟩ (.int .i64 ((rd_T27 l0 x3_2).f1))).setCell ⟨gb160, 2, none⟩ (.int .i64 ((rd_T27 l0 x3_2).f2)))).cell? _ = some _ from hx161_0))
                            (try have hy161_1 := fun (n_ : Nat) => (show (((((w10.drewN n_).setCell ⟨gb160, 0, none⟩ (.int .i64 ((rd_T27 l0 x3_2).f0))).setCell ⟨gb160, 1, none⟩ (.int .i64 ((rd_T27 l0 x3_2).f1))).setCell ⟨gb160, 2, none⟩ (.int .i64 ((rd_T27 l0 x3_2).f2)))).cell? _ = some _ from hx161_1))
                            (try have hy161_2 := fun (n_ : Nat) => (show (((((w10.drewN n_).setCell ⟨gb160, 0, none⟩ (.int .i64 ((rd_T27 l0 x3_2).f0))).setCell ⟨gb160, 1, none⟩ (.int .i64 ((rd_T27 l0 x3_2).f1))).setCell ⟨gb160, 2, none⟩ (.int .i64 ((rd_T27 l0 x3_2).f2)))).cell? _ = some _ from hx161_2))
                            clear hn161_0
                            clear hn161_1
                            clear hn161_2
                            replace p161 := eq_true p161
                            replace q161 := eq_true q161
                            go_wp2
                            repeat (go_quiet (fail); try go_wp2)
                            go_meet
                            case rel => exact ⟨_, (true), (by first | rfl | (simp; done) | (simp [*]; done)), H', ⟨by have := HJ1.out; have := HK2.out; first | omega | exact Nat.le_refl _⟩, ⟨by (with_reducible repeat (first | refine blk_drewN ?_ _ | refine blk_drew ?_ | refine blk_alloc ?_ _)); refine blk_put (cs := #[.int .i64 ((rd_T27 l0 x3_2).f0), .int .i64 ((rd_T27 l0 x3_2).f1), .int .i64 0]) ?_ 2 _ rfl; (with_reducible repeat (first | refine blk_drewN ?_ _ | refine blk_drew ?_ | refine blk_alloc ?_ _)); refine blk_put (cs := #[.int .i64 ((rd_T27 l0 x3_2).f0), .int .i64 0, .int .i64 0]) ?_ 1 _ rfl; (with_reducible repeat (first | refine blk_drewN ?_ _ | refine blk_drew ?_ | refine blk_alloc ?_ _)); refine blk_put (cs := #[.int .i64 0, .int .i64 0, .int .i64 0]) ?_ 0 _ rfl; (with_reducible repeat (first | refine blk_drewN ?_ _ | refine blk_drew ?_ | refine blk_alloc ?_ _)); exact BK160.out⟩, ⟨by repeat (first | (with_reducible first | exact HB.out | apply below_alloc | apply pw_below_drewN | apply below_drew1 | refine below_set ?_ GE160.out) | exact HB.out)⟩⟩
                          · rw [if_neg c24] at H
                            have c24b0 : decide (67108864 < ((rd_T27 l0 x3_2).f1)) = false := decide_eq_false c24
                            clear c24
                            by_cases c26 : ((rd_T27 l0 x3_2).f2) < 0
                            · rw [if_pos c26] at H
                              have c26b0 : decide (((rd_T27 l0 x3_2).f2) < 0) = true := decide_eq_true c26
                              clear c26
                              have H' := Aside0.mk H
                              clear H
                              have hcz27_0 : w10.cell? ⟨gb160, 0, none⟩ = some (.int .i64 0) := (blk_cell BK160.out 0).trans rfl
                              have hcz27_1 : w10.cell? ⟨gb160, 1, none⟩ = some (.int .i64 0) := (blk_cell BK160.out 1).trans rfl
                              have hcz27_2 : w10.cell? ⟨gb160, 2, none⟩ = some (.int .i64 0) := (blk_cell BK160.out 2).trans rfl
                              have hfz27_0 := blk_frozen BK160.out 0
                              have hfz27_1 := blk_frozen BK160.out 1
                              have hfz27_2 := blk_frozen BK160.out 2
                              have p161 : 0 ≤ ((ji17) : Int) := of_decide_eq_true (by first | (with_reducible assumption) | assumption)
                              have q161 : (ji17) < (l0.length : Int) := of_decide_eq_true (by first | (with_reducible assumption) | assumption)
                              obtain ⟨ad161, e161, hx161_0, hx161_1, hx161_2⟩ := at_T27 HR0.out (ji17) p161 q161
                              obtain rfl : ad159 = ad161 := (by injection e161)
                              have hn161_0 : ad159.block ≠ gb160 := Nat.ne_of_lt (Nat.lt_of_lt_of_le (by have := World.block_lt_of_cell? _ _ hx161_0; first | rwa [add_block] at this | exact this) GW160.out)
                              have hn161_1 : ad159.block ≠ gb160 := Nat.ne_of_lt (Nat.lt_of_lt_of_le (by have := World.block_lt_of_cell? _ _ hx161_0; first | rwa [add_block] at this | exact this) GW160.out)
                              have hn161_2 : ad159.block ≠ gb160 := Nat.ne_of_lt (Nat.lt_of_lt_of_le (by have := World.block_lt_of_cell? _ _ hx161_0; first | rwa [add_block] at this | exact this) GW160.out)
                              replace hx161_0 := (HB.out.cell (World.block_lt_of_cell? w _ hx161_0)).trans hx161_0
                              replace hx161_1 := (HB.out.cell (World.block_lt_of_cell? w _ hx161_1)).trans hx161_1
                              replace hx161_2 := (HB.out.cell (World.block_lt_of_cell? w _ hx161_2)).trans hx161_2
                              replace hx161_0 := (cell_far (p := ⟨gb160, 0, none⟩) (by first | (rw [add_block]; exact hn161_0) | (show (Addr.add _ _).block ≠ _; rw [add_block]; exact hn161_0) | exact hn161_0) (.int .i64 ((rd_T27 l0 x3_2).f0))).trans hx161_0
                              replace hx161_1 := (cell_far (p := ⟨gb160, 0, none⟩) (by first | (rw [add_block]; exact hn161_0) | (show (Addr.add _ _).block ≠ _; rw [add_block]; exact hn161_0) | exact hn161_0) (.int .i64 ((rd_T27 l0 x3_2).f0))).trans hx161_1
                              replace hx161_2 := (cell_far (p := ⟨gb160, 0, none⟩) (by first | (rw [add_block]; exact hn161_0) | (show (Addr.add _ _).block ≠ _; rw [add_block]; exact hn161_0) | exact hn161_0) (.int .i64 ((rd_T27 l0 x3_2).f0))).trans hx161_2
                              replace hx161_0 := (cell_far (p := ⟨gb160, 1, none⟩) (by first | (rw [add_block]; exact hn161_1) | (show (Addr.add _ _).block ≠ _; rw [add_block]; exact hn161_1) | exact hn161_1) (.int .i64 ((rd_T27 l0 x3_2).f1))).trans hx161_0
                              replace hx161_1 := (cell_far (p := ⟨gb160, 1, none⟩) (by first | (rw [add_block]; exact hn161_1) | (show (Addr.add _ _).block ≠ _; rw [add_block]; exact hn161_1) | exact hn161_1) (.int .i64 ((rd_T27 l0 x3_2).f1))).trans hx161_1
                              replace hx161_2 := (cell_far (p := ⟨gb160, 1, none⟩) (by first | (rw [add_block]; exact hn161_1) | (show (Addr.add _ _).block ≠ _; rw [add_block]; exact hn161_1) | exact hn161_1) (.int .i64 ((rd_T27 l0 x3_2).f1))).trans hx161_2
                              replace hx161_0 := (cell_far (p := ⟨gb160, 2, none⟩) (by first | (rw [add_block]; exact hn161_2) | (show (Addr.add _ _).block ≠ _; rw [add_block]; exact hn161_2) | exact hn161_2) (.int .i64 ((rd_T27 l0 x3_2).f2))).trans hx161_0
                              replace hx161_1 := (cell_far (p := ⟨gb160, 2, none⟩) (by first | (rw [add_block]; exact hn161_2) | (show (Addr.add _ _).block ≠ _; rw [add_block]; exact hn161_2) | exact hn161_2) (.int .i64 ((rd_T27 l0 x3_2).f2))).trans hx161_1
                              replace hx161_2 := (cell_far (p := ⟨gb160, 2, none⟩) (by first | (rw [add_block]; exact hn161_2) | (show (Addr.add _ _).block ≠ _; rw [add_block]; exact hn161_2) | exact hn161_2) (.int .i64 ((rd_T27 l0 x3_2).f2))).trans hx161_2
                              (try have hy161_0 := fun (n_ : Nat) => (show (((((w10.drewN n_).setCell ⟨gb160, 0, none⟩ (.int .i64 ((rd_T27 l0 x3_2).f0))).setCell ⟨gb160, 1, none⟩ (.int .i64 ((rd_T27 l0 x3_2).f1))).setCell ⟨gb160, 2, none⟩ (.int .i64 ((rd_T27 l0 x3_2).f2)))).cell? _ = some _ from hx161_0))
                              (try have hy161_1 := fun (n_ : Nat) => (show (((((w10.drewN n_).setCell ⟨gb160, 0, none⟩ (.int .i64 ((rd_T27 l0 x3_2).f0))).setCell ⟨gb160, 1, none⟩ (.int .i64 ((rd_T27 l0 x3_2).f1))).setCell ⟨gb160, 2, none⟩ (.int .i64 ((rd_T27 l0 x3_2).f2)))).cell? _ = some _ from hx161_1))
                              (try have hy161_2 := fun (n_ : Nat) => (show (((((w10.drewN n_).setCell ⟨gb160, 0, none⟩ (.int .i64 ((rd_T27 l0 x3_2).f0))).setCell ⟨gb160, 1, none⟩ (.int .i64 ((rd_T27 l0 x3_2).f1))).setCell ⟨gb160, 2, none⟩ (.int .i64 ((rd_T27 l0 x3_2).f2)))).cell? _ = some _ from hx161_2))
                              clear hn161_0
                              clear hn161_1
                              clear hn161_2
                              replace p161 := eq_true p161
                              replace q161 := eq_true q161
                              go_wp2
                              repeat (go_quiet (fail); try go_wp2)
                              go_meet
                              case rel => exact ⟨_, (true), (by first | rfl | (simp; done) | (simp [*]; done)), H', ⟨by have := HJ1.out; have := HK2.out; first | omega | exact Nat.le_refl _⟩, ⟨by (with_reducible repeat (first | refine blk_drewN ?_ _ | refine blk_drew ?_ | refine blk_alloc ?_ _)); refine blk_put (cs := #[.int .i64 ((rd_T27 l0 x3_2).f0), .int .i64 ((rd_T27 l0 x3_2).f1), .int .i64 0]) ?_ 2 _ rfl; (with_reducible repeat (first | refine blk_drewN ?_ _ | refine blk_drew ?_ | refine blk_alloc ?_ _)); refine blk_put (cs := #[.int .i64 ((rd_T27 l0 x3_2).f0), .int .i64 0, .int .i64 0]) ?_ 1 _ rfl; (with_reducible repeat (first | refine blk_drewN ?_ _ | refine blk_drew ?_ | refine blk_alloc ?_ _)); refine blk_put (cs := #[.int .i64 0, .int .i64 0, .int .i64 0]) ?_ 0 _ rfl; (with_reducible repeat (first | refine blk_drewN ?_ _ | refine blk_drew ?_ | refine blk_alloc ?_ _)); exact BK160.out⟩, ⟨by repeat (first | (with_reducible first | exact HB.out | apply below_alloc | apply pw_below_drewN | apply below_drew1 | refine below_set ?_ GE160.out) | exact HB.out)⟩⟩
                            · rw [if_neg c26] at H
                              have c26b0 : decide (((rd_T27 l0 x3_2).f2) < 0) = false := decide_eq_false c26
                              clear c26
                              have H' := Aside0.mk H
                              clear H
                              have hcz28_0 : w10.cell? ⟨gb160, 0, none⟩ = some (.int .i64 0) := (blk_cell BK160.out 0).trans rfl
                              have hcz28_1 : w10.cell? ⟨gb160, 1, none⟩ = some (.int .i64 0) := (blk_cell BK160.out 1).trans rfl
                              have hcz28_2 : w10.cell? ⟨gb160, 2, none⟩ = some (.int .i64 0) := (blk_cell BK160.out 2).trans rfl
                              have hfz28_0 := blk_frozen BK160.out 0
                              have hfz28_1 := blk_frozen BK160.out 1
                              have hfz28_2 := blk_frozen BK160.out 2
                              have p161 : 0 ≤ ((ji17) : Int) := of_decide_eq_true (by first | (with_reducible assumption) | assumption)
                              have q161 : (ji17) < (l0.length : Int) := of_decide_eq_true (by first | (with_reducible assumption) | assumption)
                              obtain ⟨ad161, e161, hx161_0, hx161_1, hx161_2⟩ := at_T27 HR0.out (ji17) p161 q161
                              obtain rfl : ad159 = ad161 := (by injection e161)
                              have hn161_0 : ad159.block ≠ gb160 := Nat.ne_of_lt (Nat.lt_of_lt_of_le (by have := World.block_lt_of_cell? _ _ hx161_0; first | rwa [add_block] at this | exact this) GW160.out)
                              have hn161_1 : ad159.block ≠ gb160 := Nat.ne_of_lt (Nat.lt_of_lt_of_le (by have := World.block_lt_of_cell? _ _ hx161_0; first | rwa [add_block] at this | exact this) GW160.out)
                              have hn161_2 : ad159.block ≠ gb160 := Nat.ne_of_lt (Nat.lt_of_lt_of_le (by have := World.block_lt_of_cell? _ _ hx161_0; first | rwa [add_block] at this | exact this) GW160.out)
                              replace hx161_0 := (HB.out.cell (World.block_lt_of_cell? w _ hx161_0)).trans hx161_0
                              replace hx161_1 := (HB.out.cell (World.block_lt_of_cell? w _ hx161_1)).trans hx161_1
                              replace hx161_2 := (HB.out.cell (World.block_lt_of_cell? w _ hx161_2)).trans hx161_2
                              replace hx161_0 := (cell_far (p := ⟨gb160, 0, none⟩) (by first | (rw [add_block]; exact hn161_0) | (show (Addr.add _ _).block ≠ _; rw [add_block]; exact hn161_0) | exact hn161_0) (.int .i64 ((rd_T27 l0 x3_2).f0))).trans hx161_0
                              replace hx161_1 := (cell_far (p := ⟨gb160, 0, none⟩) (by first | (rw [add_block]; exact hn161_0) | (show (Addr.add _ _).block ≠ _; rw [add_block]; exact hn161_0) | exact hn161_0) (.int .i64 ((rd_T27 l0 x3_2).f0))).trans hx161_1
                              replace hx161_2 := (cell_far (p := ⟨gb160, 0, none⟩) (by first | (rw [add_block]; exact hn161_0) | (show (Addr.add _ _).block ≠ _; rw [add_block]; exact hn161_0) | exact hn161_0) (.int .i64 ((rd_T27 l0 x3_2).f0))).trans hx161_2
                              replace hx161_0 := (cell_far (p := ⟨gb160, 1, none⟩) (by first | (rw [add_block]; exact hn161_1) | (show (Addr.add _ _).block ≠ _; rw [add_block]; exact hn161_1) | exact hn161_1) (.int .i64 ((rd_T27 l0 x3_2).f1))).trans hx161_0
                              replace hx161_1 := (cell_far (p := ⟨gb160, 1, none⟩) (by first | (rw [add_block]; exact hn161_1) | (show (Addr.add _ _).block ≠ _; rw [add_block]; exact hn161_1) | exact hn161_1) (.int .i64 ((rd_T27 l0 x3_2).f1))).trans hx161_1
                              replace hx161_2 := (cell_far (p := ⟨gb160, 1, none⟩) (by first | (rw [add_block]; exact hn161_1) | (show (Addr.add _ _).block ≠ _; rw [add_block]; exact hn161_1) | exact hn161_1) (.int .i64 ((rd_T27 l0 x3_2).f1))).trans hx161_2
                              replace hx161_0 := (cell_far (p := ⟨gb160, 2, none⟩) (by first | (rw [add_block]; exact hn161_2) | (show (Addr.add _ _).block ≠ _; rw [add_block]; exact hn161_2) | exact hn161_2) (.int .i64 ((rd_T27 l0 x3_2).f2))).trans hx161_0
                              replace hx161_1 := (cell_far (p := ⟨gb160, 2, none⟩) (by first | (rw [add_block]; exact hn161_2) | (show (Addr.add _ _).block ≠ _; rw [add_block]; exact hn161_2) | exact hn161_2) (.int .i64 ((rd_T27 l0 x3_2).f2))).trans hx161_1
                              replace hx161_2 := (cell_far (p := ⟨gb160, 2, none⟩) (by first | (rw [add_block]; exact hn161_2) | (show (Addr.add _ _).block ≠ _; rw [add_block]; exact hn161_2) | exact hn161_2) (.int .i64 ((rd_T27 l0 x3_2).f2))).trans hx161_2
                              (try have hy161_0 := fun (n_ : Nat) => (show (((((w10.drewN n_).setCell ⟨gb160, 0, none⟩ (.int .i64 ((rd_T27 l0 x3_2).f0))).setCell ⟨gb160, 1, none⟩ (.int .i64 ((rd_T27 l0 x3_2).f1))).setCell ⟨gb160, 2, none⟩ (.int .i64 ((rd_T27 l0 x3_2).f2)))).cell? _ = some _ from hx161_0))
                              (try have hy161_1 := fun (n_ : Nat) => (show (((((w10.drewN n_).setCell ⟨gb160, 0, none⟩ (.int .i64 ((rd_T27 l0 x3_2).f0))).setCell ⟨gb160, 1, none⟩ (.int .i64 ((rd_T27 l0 x3_2).f1))).setCell ⟨gb160, 2, none⟩ (.int .i64 ((rd_T27 l0 x3_2).f2)))).cell? _ = some _ from hx161_1))
                              (try have hy161_2 := fun (n_ : Nat) => (show (((((w10.drewN n_).setCell ⟨gb160, 0, none⟩ (.int .i64 ((rd_T27 l0 x3_2).f0))).setCell ⟨gb160, 1, none⟩ (.int .i64 ((rd_T27 l0 x3_2).f1))).setCell ⟨gb160, 2, none⟩ (.int .i64 ((rd_T27 l0 x3_2).f2)))).cell? _ = some _ from hx161_2))
                              clear hn161_0
                              clear hn161_1
                              clear hn161_2
                              replace p161 := eq_true p161
                              replace q161 := eq_true q161
                              go_wp2
                              repeat (go_quiet (fail); try go_wp2)
                              go_meet
                              case rel => exact ⟨_, (decide (((rd_T27 l0 x3_2).f2) > 1)), (by first | rfl | (simp; done) | (simp [*]; done)), H', ⟨by have := HJ1.out; have := HK2.out; first | omega | exact Nat.le_refl _⟩, ⟨by (with_reducible repeat (first | refine blk_drewN ?_ _ | refine blk_drew ?_ | refine blk_alloc ?_ _)); refine blk_put (cs := #[.int .i64 ((rd_T27 l0 x3_2).f0), .int .i64 ((rd_T27 l0 x3_2).f1), .int .i64 0]) ?_ 2 _ rfl; (with_reducible repeat (first | refine blk_drewN ?_ _ | refine blk_drew ?_ | refine blk_alloc ?_ _)); refine blk_put (cs := #[.int .i64 ((rd_T27 l0 x3_2).f0), .int .i64 0, .int .i64 0]) ?_ 1 _ rfl; (with_reducible repeat (first | refine blk_drewN ?_ _ | refine blk_drew ?_ | refine blk_alloc ?_ _)); refine blk_put (cs := #[.int .i64 0, .int .i64 0, .int .i64 0]) ?_ 0 _ rfl; (with_reducible repeat (first | refine blk_drewN ?_ _ | refine blk_drew ?_ | refine blk_alloc ?_ _)); exact BK160.out⟩, ⟨by repeat (first | (with_reducible first | exact HB.out | apply below_alloc | apply pw_below_drewN | apply below_drew1 | refine below_set ?_ GE160.out) | exact HB.out)⟩⟩
                    · rw [if_neg c19] at H
                      exact absurd H (by simp)
                  · rw [if_neg c18] at H
                    exact absurd H (by simp)
                · rw [if_neg c16] at H
                  have c16b0 : decide (0 < x3_2) = false := decide_eq_false c16
                  clear c16
                  by_cases c29 : ((rd_T27 l0 x3_2).f1) < 1
                  · rw [if_pos c29] at H
                    have c29b0 : decide (((rd_T27 l0 x3_2).f1) < 1) = true := decide_eq_true c29
                    clear c29
                    have H' := Aside0.mk H
                    clear H
                    have hcz30_0 : w10.cell? ⟨gb160, 0, none⟩ = some (.int .i64 0) := (blk_cell BK160.out 0).trans rfl
                    have hcz30_1 : w10.cell? ⟨gb160, 1, none⟩ = some (.int .i64 0) := (blk_cell BK160.out 1).trans rfl
                    have hcz30_2 : w10.cell? ⟨gb160, 2, none⟩ = some (.int .i64 0) := (blk_cell BK160.out 2).trans rfl
                    have hfz30_0 := blk_frozen BK160.out 0
                    have hfz30_1 := blk_frozen BK160.out 1
                    have hfz30_2 := blk_frozen BK160.out 2
                    go_wp2
                    repeat (go_quiet (fail); try go_wp2)
                    go_meet
                    case rel => exact ⟨_, (true), (by first | rfl | (simp; done) | (simp [*]; done)), H', ⟨by have := HJ1.out; have := HK2.out; first | omega | exact Nat.le_refl _⟩, ⟨by (with_reducible repeat (first | refine blk_drewN ?_ _ | refine blk_drew ?_ | refine blk_alloc ?_ _)); refine blk_put (cs := #[.int .i64 ((rd_T27 l0 x3_2).f0), .int .i64 ((rd_T27 l0 x3_2).f1), .int .i64 0]) ?_ 2 _ rfl; (with_reducible repeat (first | refine blk_drewN ?_ _ | refine blk_drew ?_ | refine blk_alloc ?_ _)); refine blk_put (cs := #[.int .i64 ((rd_T27 l0 x3_2).f0), .int .i64 0, .int .i64 0]) ?_ 1 _ rfl; (with_reducible repeat (first | refine blk_drewN ?_ _ | refine blk_drew ?_ | refine blk_alloc ?_ _)); refine blk_put (cs := #[.int .i64 0, .int .i64 0, .int .i64 0]) ?_ 0 _ rfl; (with_reducible repeat (first | refine blk_drewN ?_ _ | refine blk_drew ?_ | refine blk_alloc ?_ _)); exact BK160.out⟩, ⟨by repeat (first | (with_reducible first | exact HB.out | apply below_alloc | apply pw_below_drewN | apply below_drew1 | refine below_set ?_ GE160.out) | exact HB.out)⟩⟩
                  · rw [if_neg c29] at H
                    have c29b0 : decide (((rd_T27 l0 x3_2).f1) < 1) = false := decide_eq_false c29
                    clear c29
                    by_cases c31 : ((rd_T27 l0 x3_2).f1) > 67108864
                    · rw [if_pos c31] at H
                      have c31b0 : decide (67108864 < ((rd_T27 l0 x3_2).f1)) = true := decide_eq_true c31
                      clear c31
                      have H' := Aside0.mk H
                      clear H
                      have hcz32_0 : w10.cell? ⟨gb160, 0, none⟩ = some (.int .i64 0) := (blk_cell BK160.out 0).trans rfl
                      have hcz32_1 : w10.cell? ⟨gb160, 1, none⟩ = some (.int .i64 0) := (blk_cell BK160.out 1).trans rfl
                      have hcz32_2 : w10.cell? ⟨gb160, 2, none⟩ = some (.int .i64 0) := (blk_cell BK160.out 2).trans rfl
                      have hfz32_0 := blk_frozen BK160.out 0
                      have hfz32_1 := blk_frozen BK160.out 1
                      have hfz32_2 := blk_frozen BK160.out 2
                      go_wp2
                      repeat (go_quiet (fail); try go_wp2)
                      go_meet
                      case rel => exact ⟨_, (true), (by first | rfl | (simp; done) | (simp [*]; done)), H', ⟨by have := HJ1.out; have := HK2.out; first | omega | exact Nat.le_refl _⟩, ⟨by (with_reducible repeat (first | refine blk_drewN ?_ _ | refine blk_drew ?_ | refine blk_alloc ?_ _)); refine blk_put (cs := #[.int .i64 ((rd_T27 l0 x3_2).f0), .int .i64 ((rd_T27 l0 x3_2).f1), .int .i64 0]) ?_ 2 _ rfl; (with_reducible repeat (first | refine blk_drewN ?_ _ | refine blk_drew ?_ | refine blk_alloc ?_ _)); refine blk_put (cs := #[.int .i64 ((rd_T27 l0 x3_2).f0), .int .i64 0, .int .i64 0]) ?_ 1 _ rfl; (with_reducible repeat (first | refine blk_drewN ?_ _ | refine blk_drew ?_ | refine blk_alloc ?_ _)); refine blk_put (cs := #[.int .i64 0, .int .i64 0, .int .i64 0]) ?_ 0 _ rfl; (with_reducible repeat (first | refine blk_drewN ?_ _ | refine blk_drew ?_ | refine blk_alloc ?_ _)); exact BK160.out⟩, ⟨by repeat (first | (with_reducible first | exact HB.out | apply below_alloc | apply pw_below_drewN | apply below_drew1 | refine below_set ?_ GE160.out) | exact HB.out)⟩⟩
                    · rw [if_neg c31] at H
                      have c31b0 : decide (67108864 < ((rd_T27 l0 x3_2).f1)) = false := decide_eq_false c31
                      clear c31
                      by_cases c33 : ((rd_T27 l0 x3_2).f2) < 0
                      · rw [if_pos c33] at H
                        have c33b0 : decide (((rd_T27 l0 x3_2).f2) < 0) = true := decide_eq_true c33
                        clear c33
                        have H' := Aside0.mk H
                        clear H
                        have hcz34_0 : w10.cell? ⟨gb160, 0, none⟩ = some (.int .i64 0) := (blk_cell BK160.out 0).trans rfl
                        have hcz34_1 : w10.cell? ⟨gb160, 1, none⟩ = some (.int .i64 0) := (blk_cell BK160.out 1).trans rfl
                        have hcz34_2 : w10.cell? ⟨gb160, 2, none⟩ = some (.int .i64 0) := (blk_cell BK160.out 2).trans rfl
                        have hfz34_0 := blk_frozen BK160.out 0
                        have hfz34_1 := blk_frozen BK160.out 1
                        have hfz34_2 := blk_frozen BK160.out 2
                        go_wp2
                        repeat (go_quiet (fail); try go_wp2)
                        go_meet
                        case rel => exact ⟨_, (true), (by first | rfl | (simp; done) | (simp [*]; done)), H', ⟨by have := HJ1.out; have := HK2.out; first | omega | exact Nat.le_refl _⟩, ⟨by (with_reducible repeat (first | refine blk_drewN ?_ _ | refine blk_drew ?_ | refine blk_alloc ?_ _)); refine blk_put (cs := #[.int .i64 ((rd_T27 l0 x3_2).f0), .int .i64 ((rd_T27 l0 x3_2).f1), .int .i64 0]) ?_ 2 _ rfl; (with_reducible repeat (first | refine blk_drewN ?_ _ | refine blk_drew ?_ | refine blk_alloc ?_ _)); refine blk_put (cs := #[.int .i64 ((rd_T27 l0 x3_2).f0), .int .i64 0, .int .i64 0]) ?_ 1 _ rfl; (with_reducible repeat (first | refine blk_drewN ?_ _ | refine blk_drew ?_ | refine blk_alloc ?_ _)); refine blk_put (cs := #[.int .i64 0, .int .i64 0, .int .i64 0]) ?_ 0 _ rfl; (with_reducible repeat (first | refine blk_drewN ?_ _ | refine blk_drew ?_ | refine blk_alloc ?_ _)); exact BK160.out⟩, ⟨by repeat (first | (with_reducible first | exact HB.out | apply below_alloc | apply pw_below_drewN | apply below_drew1 | refine below_set ?_ GE160.out) | exact HB.out)⟩⟩
                      · rw [if_neg c33] at H
                        have c33b0 : decide (((rd_T27 l0 x3_2).f2) < 0) = false := decide_eq_false c33
                        clear c33
                        have H' := Aside0.mk H
                        clear H
                        have hcz35_0 : w10.cell? ⟨gb160, 0, none⟩ = some (.int .i64 0) := (blk_cell BK160.out 0).trans rfl
                        have hcz35_1 : w10.cell? ⟨gb160, 1, none⟩ = some (.int .i64 0) := (blk_cell BK160.out 1).trans rfl
                        have hcz35_2 : w10.cell? ⟨gb160, 2, none⟩ = some (.int .i64 0) := (blk_cell BK160.out 2).trans rfl
                        have hfz35_0 := blk_frozen BK160.out 0
                        have hfz35_1 := blk_frozen BK160.out 1
                        have hfz35_2 := blk_frozen BK160.out 2
                        go_wp2
                        repeat (go_quiet (fail); try go_wp2)
                        go_meet
                        case rel => exact ⟨_, (decide (((rd_T27 l0 x3_2).f2) > 1)), (by first | rfl | (simp; done) | (simp [*]; done)), H', ⟨by have := HJ1.out; have := HK2.out; first | omega | exact Nat.le_refl _⟩, ⟨by (with_reducible repeat (first | refine blk_drewN ?_ _ | refine blk_drew ?_ | refine blk_alloc ?_ _)); refine blk_put (cs := #[.int .i64 ((rd_T27 l0 x3_2).f0), .int .i64 ((rd_T27 l0 x3_2).f1), .int .i64 0]) ?_ 2 _ rfl; (with_reducible repeat (first | refine blk_drewN ?_ _ | refine blk_drew ?_ | refine blk_alloc ?_ _)); refine blk_put (cs := #[.int .i64 ((rd_T27 l0 x3_2).f0), .int .i64 0, .int .i64 0]) ?_ 1 _ rfl; (with_reducible repeat (first | refine blk_drewN ?_ _ | refine blk_drew ?_ | refine blk_alloc ?_ _)); refine blk_put (cs := #[.int .i64 0, .int .i64 0, .int .i64 0]) ?_ 0 _ rfl; (with_reducible repeat (first | refine blk_drewN ?_ _ | refine blk_drew ?_ | refine blk_alloc ?_ _)); exact BK160.out⟩, ⟨by repeat (first | (with_reducible first | exact HB.out | apply below_alloc | apply pw_below_drewN | apply below_drew1 | refine below_set ?_ GE160.out) | exact HB.out)⟩⟩
           case rest =>
            clear HC9
            try clear c1
            try clear p1
            try clear q1
            try clear hx1
            try clear qi1
            try clear c2
            try clear p2
            try clear c3
            try clear c3b0
            try clear c3b1
            try clear c4
            try clear c4b0
            try clear c4b1
            try clear c5
            try clear c5b0
            try clear c5b1
            try clear c6
            try clear p6
            try clear c7
            try clear c7b0
            try clear c8
            try clear c8b0
            try clear c11
            try clear c12
            try clear c12b0
            try clear c14
            try clear c14b0
            try clear p15
            try clear q15
            try clear hx15
            try clear qi15
            try clear c16
            try clear c16b0
            try clear p16
            try clear q16
            try clear hx16
            try clear c18
            try clear c18b0
            try clear c19
            try clear c19b0
            try clear c20
            try clear c20b0
            try clear c22
            try clear c22b0
            try clear c24
            try clear c24b0
            try clear c26
            try clear c26b0
            try clear c29
            try clear c29b0
            try clear c31
            try clear c31b0
            try clear c33
            try clear c33b0
            try clear hcz11_0
            try clear hcz11_1
            try clear hcz11_2
            try clear hcz13_0
            try clear hcz13_1
            try clear hcz13_2
            try clear hcz15_0
            try clear hcz15_1
            try clear hcz15_2
            try clear hcz21_0
            try clear hcz21_1
            try clear hcz21_2
            try clear hcz23_0
            try clear hcz23_1
            try clear hcz23_2
            try clear hcz25_0
            try clear hcz25_1
            try clear hcz25_2
            try clear hcz27_0
            try clear hcz27_1
            try clear hcz27_2
            try clear hcz28_0
            try clear hcz28_1
            try clear hcz28_2
            try clear hcz30_0
            try clear hcz30_1
            try clear hcz30_2
            try clear hcz32_0
            try clear hcz32_1
            try clear hcz32_2
            try clear hcz34_0
            try clear hcz34_1
            try clear hcz34_2
            try clear hcz35_0
            try clear hcz35_1
            try clear hcz35_2
            try clear hfz11_0
            try clear hfz11_1
            try clear hfz11_2
            try clear hfz13_0
            try clear hfz13_1
            try clear hfz13_2
            try clear hfz15_0
            try clear hfz15_1
            try clear hfz15_2
            try clear hfz21_0
            try clear hfz21_1
            try clear hfz21_2
            try clear hfz23_0
            try clear hfz23_1
            try clear hfz23_2
            try clear hfz25_0
            try clear hfz25_1
            try clear hfz25_2
            try clear hfz27_0
            try clear hfz27_1
            try clear hfz27_2
            try clear hfz28_0
            try clear hfz28_1
            try clear hfz28_2
            try clear hfz30_0
            try clear hfz30_1
            try clear hfz30_2
            try clear hfz32_0
            try clear hfz32_1
            try clear hfz32_2
            try clear hfz34_0
            try clear hfz34_1
            try clear hfz34_2
            try clear hfz35_0
            try clear hfz35_1
            try clear hfz35_2
            try clear hx158_0
            try clear hx158_1
            try clear hx158_2
            try clear hx159_0
            try clear hx159_1
            try clear hx159_2
            try clear hx161_0
            try clear hx161_1
            try clear hx161_2
            try clear p1
            try clear p158
            try clear p159
            try clear p161
            try clear p2
            try clear q1
            try clear q158
            try clear q159
            try clear q161
            obtain ⟨kq, x72_8, rfl, HA, HJ8, BK160, HB⟩ := hcut
            cases kq with
            | zero => exact absurd HA.out (by simp [continuoref30_Valid.j2])
            | succ kj8 =>
             have H := HA.out
             clear HA
             simp only [continuoref30_Valid.j2] at H
             by_cases c36 : x72_8 = true
             · subst c36
               have H1 : (some false) = some r := by rw [if_pos rfl] at H; exact H
               clear H
               have H := H1
               clear H1
               obtain rfl := Option.some.inj H
               go_wp2
               repeat (go_quiet (fail); try go_wp2)
               go_ret
               exact ⟨by first | rfl | (simp [errW_none, errW_some] <;> rfl) | (simp [*, errW_none, errW_some] <;> rfl), by repeat (first | (with_reducible first | exact HB.out | apply below_alloc | apply pw_below_drewN | apply below_drew1 | refine below_set ?_ GE160.out) | exact HB.out)⟩
             · replace c36 := Bool.eq_false_iff.mpr c36
               subst c36
               have H1 : (if ((rd_T27 l0 x3_2).f2) = 1 then (if x3_2 = (wrap64 ((l0.length : Int) - 1)) then (some false) else (if 0 ≤ (wrap64 (x3_2 + 1)) then (if (wrap64 (x3_2 + 1)) < (l0.length : Int) then (if (wrap64 (((rd_T27 l0 (wrap64 (x3_2 + 1))).f0) - ((rd_T27 l0 x3_2).f0))) > 10000 then (some false) else (continuoref30_Valid.l0 kj8 l0 (wrap64 (x3_2 + 1)))) else (none)) else (none))) else (continuoref30_Valid.l0 kj8 l0 (wrap64 (x3_2 + 1)))) = some r := by rw [if_neg (show ¬ (false = true) by decide)] at H; exact H
               clear H
               have H := H1
               clear H1
               by_cases c37 : ((rd_T27 l0 x3_2).f2) = 1
               · rw [if_pos c37] at H
                 have c37b0 : (((rd_T27 l0 x3_2).f2) == 1) = true := beq_iff_eq.mpr c37
                 have c37b1 : (((rd_T27 l0 x3_2).f2) != 1) = false := bne_eq_false_iff_eq.mpr c37
                 clear c37
                 by_cases c38 : x3_2 = (wrap64 ((l0.length : Int) - 1))
                 · rw [if_pos c38] at H
                   have c38b0 : (x3_2 == (wrap64 ((l0.length : Int) - 1))) = true := beq_iff_eq.mpr c38
                   have c38b1 : (x3_2 != (wrap64 ((l0.length : Int) - 1))) = false := bne_eq_false_iff_eq.mpr c38
                   clear c38
                   obtain rfl := Option.some.inj H
                   have hcz39_0 : wc.cell? ⟨gb160, 0, none⟩ = some (.int .i64 ((rd_T27 l0 x3_2).f0)) := (blk_cell BK160.out 0).trans rfl
                   have hcz39_1 : wc.cell? ⟨gb160, 1, none⟩ = some (.int .i64 ((rd_T27 l0 x3_2).f1)) := (blk_cell BK160.out 1).trans rfl
                   have hcz39_2 : wc.cell? ⟨gb160, 2, none⟩ = some (.int .i64 ((rd_T27 l0 x3_2).f2)) := (blk_cell BK160.out 2).trans rfl
                   have hfz39_0 := blk_frozen BK160.out 0
                   have hfz39_1 := blk_frozen BK160.out 1
                   have hfz39_2 := blk_frozen BK160.out 2
                   go_wp2
                   repeat (go_quiet (fail); try go_wp2)
                   go_ret
                   exact ⟨by first | rfl | (simp [errW_none, errW_some] <;> rfl) | (simp [*, errW_none, errW_some] <;> rfl), by repeat (first | (with_reducible first | exact HB.out | apply below_alloc | apply pw_below_drewN | apply below_drew1 | refine below_set ?_ GE160.out) | exact HB.out)⟩
                 · rw [if_neg c38] at H
                   have c38b0 : (x3_2 == (wrap64 ((l0.length : Int) - 1))) = false := beq_eq_false_iff_ne.mpr c38
                   have c38b1 : (x3_2 != (wrap64 ((l0.length : Int) - 1))) = true := bne_iff_ne.mpr c38
                   obtain ⟨ji40, hji40⟩ : ∃ j_ : Int, (wrap64 (x3_2 + 1)) = j_ := ⟨_, rfl⟩
                   replace H : (if 0 ≤ (ji40) then (if (ji40) < (l0.length : Int) then (if (wrap64 (((rd_T27 l0 (ji40)).f0) - ((rd_T27 l0 x3_2).f0))) > 10000 then (some false) else (continuoref30_Valid.l0 kj8 l0 ji40)) else (none)) else (none)) = some r := by first | (rw [hji40] at H; exact H) | (simp only [hji40] at H ⊢; exact H)
                   have hji40w : (IntKind.i64.wrap (x3_2 + 1)) = ji40 := (i64_w _).trans hji40
                   by_cases c41 : 0 ≤ (ji40)
                   · rw [if_pos c41] at H
                     have c41b0 : decide (0 ≤ (ji40)) = true := decide_eq_true c41
                     clear c41
                     by_cases c42 : (ji40) < (l0.length : Int)
                     · rw [if_pos c42] at H
                       have c42b0 : decide ((ji40) < (l0.length : Int)) = true := decide_eq_true c42
                       clear c42
                       by_cases c43 : (wrap64 (((rd_T27 l0 (ji40)).f0) - ((rd_T27 l0 x3_2).f0))) > 10000
                       · rw [if_pos c43] at H
                         have c43b0 : decide (10000 < (wrap64 (((rd_T27 l0 (ji40)).f0) - ((rd_T27 l0 x3_2).f0)))) = true := decide_eq_true c43
                         clear c43
                         obtain rfl := Option.some.inj H
                         have hcz44_0 : wc.cell? ⟨gb160, 0, none⟩ = some (.int .i64 ((rd_T27 l0 x3_2).f0)) := (blk_cell BK160.out 0).trans rfl
                         have hcz44_1 : wc.cell? ⟨gb160, 1, none⟩ = some (.int .i64 ((rd_T27 l0 x3_2).f1)) := (blk_cell BK160.out 1).trans rfl
                         have hcz44_2 : wc.cell? ⟨gb160, 2, none⟩ = some (.int .i64 ((rd_T27 l0 x3_2).f2)) := (blk_cell BK160.out 2).trans rfl
                         have hfz44_0 := blk_frozen BK160.out 0
                         have hfz44_1 := blk_frozen BK160.out 1
                         have hfz44_2 := blk_frozen BK160.out 2
                         have p162 : 0 ≤ ((ji40) : Int) := of_decide_eq_true (by first | (with_reducible assumption) | assumption)
                         have q162 : (ji40) < (l0.length : Int) := of_decide_eq_true (by first | (with_reducible assumption) | assumption)
                         obtain ⟨ad162, e162, hx162_0, hx162_1, hx162_2⟩ := at_T27 HR0.out (ji40) p162 q162
                         obtain rfl : ad159 = ad162 := (by injection e162)
                         replace hx162_0 := (HB.out.cell (World.block_lt_of_cell? w _ hx162_0)).trans hx162_0
                         replace hx162_1 := (HB.out.cell (World.block_lt_of_cell? w _ hx162_1)).trans hx162_1
                         replace hx162_2 := (HB.out.cell (World.block_lt_of_cell? w _ hx162_2)).trans hx162_2
                         replace p162 := eq_true p162
                         replace q162 := eq_true q162
                         go_wp2
                         repeat (go_quiet (fail); try go_wp2)
                         go_ret
                         exact ⟨by first | rfl | (simp [errW_none, errW_some] <;> rfl) | (simp only [← hji40]; first | rfl | (simp [errW_none, errW_some] <;> rfl)) | (simp [*, errW_none, errW_some] <;> rfl), by repeat (first | (with_reducible first | exact HB.out | apply below_alloc | apply pw_below_drewN | apply below_drew1 | refine below_set ?_ GE160.out) | exact HB.out)⟩
                       · rw [if_neg c43] at H
                         have c43b0 : decide (10000 < (wrap64 (((rd_T27 l0 (ji40)).f0) - ((rd_T27 l0 x3_2).f0)))) = false := decide_eq_false c43
                         clear c43
                         have H' := Aside0.mk H
                         clear H
                         have hcz45_0 : wc.cell? ⟨gb160, 0, none⟩ = some (.int .i64 ((rd_T27 l0 x3_2).f0)) := (blk_cell BK160.out 0).trans rfl
                         have hcz45_1 : wc.cell? ⟨gb160, 1, none⟩ = some (.int .i64 ((rd_T27 l0 x3_2).f1)) := (blk_cell BK160.out 1).trans rfl
                         have hcz45_2 : wc.cell? ⟨gb160, 2, none⟩ = some (.int .i64 ((rd_T27 l0 x3_2).f2)) := (blk_cell BK160.out 2).trans rfl
                         have hfz45_0 := blk_frozen BK160.out 0
                         have hfz45_1 := blk_frozen BK160.out 1
                         have hfz45_2 := blk_frozen BK160.out 2
                         have p162 : 0 ≤ ((ji40) : Int) := of_decide_eq_true (by first | (with_reducible assumption) | assumption)
                         have q162 : (ji40) < (l0.length : Int) := of_decide_eq_true (by first | (with_reducible assumption) | assumption)
                         obtain ⟨ad162, e162, hx162_0, hx162_1, hx162_2⟩ := at_T27 HR0.out (ji40) p162 q162
                         obtain rfl : ad159 = ad162 := (by injection e162)
                         replace hx162_0 := (HB.out.cell (World.block_lt_of_cell? w _ hx162_0)).trans hx162_0
                         replace hx162_1 := (HB.out.cell (World.block_lt_of_cell? w _ hx162_1)).trans hx162_1
                         replace hx162_2 := (HB.out.cell (World.block_lt_of_cell? w _ hx162_2)).trans hx162_2
                         replace p162 := eq_true p162
                         replace q162 := eq_true q162
                         go_wp2
                         repeat (go_quiet (fail); try go_wp2)
                         go_roundg kj8
                         case measure => have := HJ1.out; have := HK2.out; have := HJ8.out; omega
                         case rel => exact ⟨(ji40), (by first | rfl | (simp; done) | (simp only [← hji40] <;> (first | rfl | simp)) | (simp [*]; done)), H', ⟨by have := HJ1.out; have := HK2.out; have := HJ8.out; omega⟩, ⟨by repeat (first | (with_reducible first | exact HB.out | apply below_alloc | apply pw_below_drewN | apply below_drew1 | refine below_set ?_ GE160.out) | exact HB.out)⟩⟩
                     · rw [if_neg c42] at H
                       exact absurd H (by simp)
                   · rw [if_neg c41] at H
                     exact absurd H (by simp)
               · rw [if_neg c37] at H
                 have c37b0 : (((rd_T27 l0 x3_2).f2) == 1) = false := beq_eq_false_iff_ne.mpr c37
                 have c37b1 : (((rd_T27 l0 x3_2).f2) != 1) = true := bne_iff_ne.mpr c37
                 have H' := Aside0.mk H
                 clear H
                 have hcz46_0 : wc.cell? ⟨gb160, 0, none⟩ = some (.int .i64 ((rd_T27 l0 x3_2).f0)) := (blk_cell BK160.out 0).trans rfl
                 have hcz46_1 : wc.cell? ⟨gb160, 1, none⟩ = some (.int .i64 ((rd_T27 l0 x3_2).f1)) := (blk_cell BK160.out 1).trans rfl
                 have hcz46_2 : wc.cell? ⟨gb160, 2, none⟩ = some (.int .i64 ((rd_T27 l0 x3_2).f2)) := (blk_cell BK160.out 2).trans rfl
                 have hfz46_0 := blk_frozen BK160.out 0
                 have hfz46_1 := blk_frozen BK160.out 1
                 have hfz46_2 := blk_frozen BK160.out 2
                 go_wp2
                 repeat (go_quiet (fail); try go_wp2)
                 go_roundg kj8
                 case measure => have := HJ1.out; have := HK2.out; have := HJ8.out; omega
                 case rel => exact ⟨(wrap64 (x3_2 + 1)), (by first | rfl | (simp; done) | (simp [*]; done)), H', ⟨by have := HJ1.out; have := HK2.out; have := HJ8.out; omega⟩, ⟨by repeat (first | (with_reducible first | exact HB.out | apply below_alloc | apply pw_below_drewN | apply below_drew1 | refine below_set ?_ GE160.out) | exact HB.out)⟩⟩
         · rw [if_neg c8] at H
           exact absurd H (by simp)
       · rw [if_neg c7] at H
         have c7b0 : decide (x3_2 < (l0.length : Int)) = false := decide_eq_false c7
         clear c7
         obtain rfl := Option.some.inj H
         go_wp2
         repeat (go_quiet (fail); try go_wp2)
         go_ret
         exact ⟨by first | rfl | (simp [errW_none, errW_some] <;> rfl) | (simp [*, errW_none, errW_some] <;> rfl), by repeat (first | (with_reducible first | exact HB.out | apply below_alloc | apply pw_below_drewN | apply below_drew1) | exact HB.out)⟩
end Go.Proofs.Ytomlfbmfdoallaa.PA

namespace Go.Proofs.Ytomlfbmfdoallaa.PA
open Go.RowKit Go.Shelf Go.Proofs.YtomlfbmfdoallaaW.PrintWords Go.Proofs.YtomlfbmfdoallaaW.PrintLast Go.Proofs.YtomlfbmfdoallaaW.PrintMore
set_option linter.unusedVariables false
set_option linter.unusedSimpArgs false
def PredD {α : Type} (g : Nat) (lb : Array Value) (enc : α → Value) (p : α → Bool) (D : α → Prop) (w : World) : Prop :=
 ∀ (W : World) (x : α), D x → Below w.heap.size w W → Calls Try.prog g (#[enc x] ++ lb) W fun e w' => e = .returned (.bool (p x)) ∧ Below W.heap.size W w'
def bs (p : Int → Bool) (lo hi : Int) : Int :=
 if lo < hi then (if p (lo + (hi - lo + 1) / 2) = true then bs p (lo + (hi - lo + 1) / 2) hi else bs p lo (lo + (hi - lo + 1) / 2 - 1)) else lo
termination_by (hi - lo).toNat
decreasing_by all_goals omega
set_option maxRecDepth 100000 in
set_option maxHeartbeats 2000000 in
theorem greatest_calls (p : Int → Bool) (g : Nat) (lb : Array Value) (eg : ∀ args w, (callFunc g args).run Try.prog w = .ok (.enter g args) w) (lo hi : Int) (w : World) (h0 : 0 ≤ lo) (h1 : lo ≤ hi) (h2 : hi ≤ 1000000000)
 (hp : PredD g lb (fun x => .int .i64 x) p (fun x => 0 ≤ x ∧ x ≤ 1000000000) w) :
 Calls Try.prog 71 #[.int .i64 lo, .int .i64 hi, .func (.func g) #[] lb] w fun e w' => e = .returned (.int .i64 (bs p lo hi)) ∧ Below w.heap.size w w' := by
 have HP := Aside0.mk hp
 clear hp
 go_enter Try.func71, Try.ntmps71
 go_wp2
 go_loopg [0, 1] (hi - lo).toNat (fun gg v0 v1 wr => ∃ a b : Int, 0 ≤ a ∧ a ≤ b ∧ b ≤ 1000000000 ∧ (b - a).toNat ≤ gg ∧ v0 = .int .i64 a ∧ v1 = .int .i64 b ∧ Aside0 (Below w.heap.size w wr) ∧ Aside0 (bs p lo hi = bs p a b))
 case atStart => exact ⟨lo, hi, h0, h1, h2, Nat.le_refl _, rfl, rfl, ⟨Below.refl _ w⟩, ⟨rfl⟩⟩
 case round =>
  obtain ⟨a, b, ha, hab, hb, hg, rfl, rfl, BW, AI⟩ := hrel
  by_cases hlt : a < b
  · have m0 : a + 1 ≤ a + (b - a + 1) / 2 := by omega
    have m1 : a + (b - a + 1) / 2 ≤ b := by omega
    have hcall := HP.out wr (a + (b - a + 1) / 2) ⟨by omega, by omega⟩ BW.out
    cases hq : p (a + (b - a + 1) / 2) with
    | true =>
     rw [hq] at hcall
     have HQ := Aside0.mk hq
     clear hq
     go_wp2_with (go_at_fn g; refine hcall.mono ?_; rintro e w' ⟨rfl, hb'⟩)
     go_roundg (b - (a + (b - a + 1) / 2)).toNat
     case measure => omega
     case rel => exact ⟨a + (b - a + 1) / 2, b, by omega, m1, hb, Nat.le_refl _, rfl, rfl, ⟨BW.out.trans (hb'.mono BW.out.size)⟩, ⟨by rw [AI.out, bs, if_pos hlt, if_pos HQ.out]⟩⟩
    | false =>
     rw [hq] at hcall
     have HQ := Aside0.mk hq
     clear hq
     go_wp2_with (go_at_fn g; refine hcall.mono ?_; rintro e w' ⟨rfl, hb'⟩)
     go_roundg (a + (b - a + 1) / 2 - 1 - a).toNat
     case measure => omega
     case rel => exact ⟨a, a + (b - a + 1) / 2 - 1, ha, by omega, by omega, Nat.le_refl _, rfl, rfl, ⟨BW.out.trans (hb'.mono BW.out.size)⟩, ⟨by rw [AI.out, bs, if_pos hlt, if_neg (by rw [HQ.out]; simp)]⟩⟩
  · go_wp2
    go_ret
    exact ⟨ret_int (by rw [AI.out, bs, if_neg (by omega)]), BW.out⟩
theorem enters72 : ∀ args w, (callFunc 72 args).run Try.prog w = .ok (.enter 72 args) w := Go.Proofs.enters_of Try.func72 (by kernel_rfl) rfl
set_option maxRecDepth 100000 in
set_option maxHeartbeats 2000000 in
theorem tick1_calls (A : Option Addr) (c : Nat) (l : List S27) (start at_ x : Int) (b1 b2 b3 : Nat) (W : World) (hok : mapOkB l = true) (hs0 : 0 ≤ start) (hs1 : start ≤ 1000000000) (hx0 : 0 ≤ x) (hx1 : x ≤ 1000000000) (hr : Kd.C k27 W A l.length l) (hc : l.length ≤ c)
 (k1 : W.cell? ⟨b1, 0, none⟩ = some (.slice A l.length c)) (k2 : W.cell? ⟨b2, 0, none⟩ = some (.int .i64 start)) (k3 : W.cell? ⟨b3, 0, none⟩ = some (.int .i64 at_)) :
 Calls Try.prog 72 #[.int .i64 x, .pointer (some ⟨b1, 0, none⟩), .pointer (some ⟨b2, 0, none⟩), .pointer (some ⟨b3, 0, none⟩)] W fun e w' => e = .returned (.bool (decide (fr l start x ≤ at_))) ∧ Below W.heap.size W w' := by
 have l1 : b1 < W.heap.size := World.block_lt_of_cell? _ _ k1
 have l2 : b2 < W.heap.size := World.block_lt_of_cell? _ _ k2
 have l3 : b3 < W.heap.size := World.block_lt_of_cell? _ _ k3
 have HR := Aside0.mk hr
 clear hr
 have hf : tempo_frame.f l start x = some (fr l start x) := by unfold tempo_frame.f; rw [if_pos ⟨hok, hs0, hs1, hx0, hx1⟩]
 generalize hv : fr l start x = v at hf ⊢
 have HC := Aside0.mk hf
 clear hf hv hok
 go_enter Try.func72, Try.ntmps72
 go_wp2_with (fail)
 go_region_held3 (fun w' => w'.cell? ⟨b1, 0, none⟩ = some (.slice A l.length c) ∧ w'.cell? ⟨b2, 0, none⟩ = some (.int .i64 start) ∧ w'.cell? ⟨b3, 0, none⟩ = some (.int .i64 at_)) (simp [go_sem, *])
  (first | (go_at_call 42; refine (tempo_frame.calls _ _ l start x v _ (Kd.C_drew HR.out) hc HC.out).mono ?_; rintro e w' ⟨rfl, hb2⟩; have hc2 : ∀ b o, b < W.heap.size → w'.cell? ⟨b, o, none⟩ = W.cell? ⟨b, o, none⟩ := fun b o h => hb2.cell (p := ⟨b, o, none⟩) h))
 go_wp2
 go_ret
 exact ⟨rfl, (below_drew (Below.refl _ _)).trans hb2⟩
def tempo_tick.f (l0 : List S27) (a1 : Int) (a2 : Int) : Option Int :=
 if mapOkB l0 = true ∧ 0 ≤ a1 ∧ a1 ≤ 1000000000 then some (bs (fun n => decide (fr l0 a1 n ≤ a2)) 0 1000000000) else none
set_option maxRecDepth 100000 in
set_option maxHeartbeats 2000000 in
theorem tempo_tick.calls (A0 : Option Addr) (c0 : Nat) (l0 : List (S27)) (a1 : Int) (a2 : Int) (r : Int) (w : World) (hr0 : Kd.C k27 w A0 l0.length l0) (hc0 : l0.length ≤ c0) (h : tempo_tick.f l0 a1 a2 = some r) :
 Calls Try.prog 54 #[.slice A0 l0.length c0, .int .i64 a1, .int .i64 a2] w fun e w' => e = .returned (.int .i64 r) ∧ Below w.heap.size w w' := by
 unfold tempo_tick.f at h
 split at h
 · rename_i hg
   obtain ⟨hok, hs0, hs1⟩ := hg
   obtain rfl := Option.some.inj h
   clear h
   have HG := fun W (hW : Below w.heap.size w W) b1 b2 b3 k1 k2 k3 x hx => tick1_calls A0 c0 l0 a1 a2 x b1 b2 b3 W hok hs0 hs1 (And.left hx) (And.right hx) (Kd.C_below hr0 hW) hc0 k1 k2 k3
   have HG' := Lib.hid HG
   clear HG hok hr0
   generalize hp : (fun n => decide (fr l0 a1 n ≤ a2)) = p
   have hmf : ∀ (fn : Fn) (first cap : Array Value) (w : World), (Instr.makeFunc fn first cap).run Try.prog w = .ok (.func fn first cap) w := fun _ _ _ _ => rfl
   go_enter Try.func54, Try.ntmps54
   go_wp2_with (fail)
   have c1 : ∀ W, Below (w.heap.size + 1 + 1 + 1) (((w.alloc (.cells #[.slice A0 l0.length c0] 22)).alloc (.cells #[.int .i64 a1] 3)).alloc (.cells #[.int .i64 a2] 3)) W → W.cell? ⟨w.heap.size, 0, none⟩ = some (.slice A0 l0.length c0) ∧ W.cell? ⟨w.heap.size + 1, 0, none⟩ = some (.int .i64 a1) ∧ W.cell? ⟨w.heap.size + 1 + 1, 0, none⟩ = some (.int .i64 a2) := by
    intro W hW
    have e1 := (hW.cell (p := ⟨w.heap.size, 0, none⟩) (by show w.heap.size < _; omega))
    have e2 := (hW.cell (p := ⟨w.heap.size + 1, 0, none⟩) (by show w.heap.size + 1 < _; omega))
    have e3 := (hW.cell (p := ⟨w.heap.size + 1 + 1, 0, none⟩) (by show w.heap.size + 1 + 1 < _; omega))
    rw [e1, e2, e3]
    refine ⟨?_, ?_, ?_⟩ <;> go_simp
   refine (greatest_calls p 72 #[.pointer (some ⟨w.heap.size, 0, none⟩), .pointer (some ⟨w.heap.size + 1, 0, none⟩), .pointer (some ⟨w.heap.size + 1 + 1, 0, none⟩)] enters72 0 1000000000 _ (by omega) (by omega) (by omega) ?_).mono ?_
   · intro W x hx hW
     have hW' : Below (w.heap.size + 1 + 1 + 1) (((w.alloc (.cells #[.slice A0 l0.length c0] 22)).alloc (.cells #[.int .i64 a1] 3)).alloc (.cells #[.int .i64 a2] 3)) W := hW.mono (by simp)
     obtain ⟨k1, k2, k3⟩ := c1 W hW'
     have := HG'.out W (((((Below.refl _ w).alloc (Nat.le_refl _) _).alloc (by simp) _).alloc (by simp; omega) _).trans (hW'.mono (by omega))) _ _ _ k1 k2 k3 x hx
     rw [← hp]
     exact this
   · have HP := Aside0.mk hp
     clear hp
     rintro e w1 ⟨rfl, hb⟩
     go_wp2
     go_ret
     exact ⟨rfl, ((((Below.refl _ w).alloc (Nat.le_refl _) _).alloc (by simp) _).alloc (by simp; omega) _).trans (hb.mono (by simp; omega))⟩
 · cases h
def tempo_Period.f (k : Nat) (l0 : List S27) (a1 : Int) : Option (Int × Int) :=
 (tempo_asked.f k l0 [a1]).bind fun e => if e = 0 then (if mapOkB l0 = true ∧ 0 ≤ a1 ∧ a1 ≤ 1000000000 then some (per l0 a1, 0) else none) else some (0, e)
end Go.Proofs.Ytomlfbmfdoallaa.PA

namespace Go.Proofs.Ytomlfbmfdoallaa.PA
open Go.RowKit Go.Proofs.YtomlfbmfdoallaaW.PrintWords Go.Proofs.YtomlfbmfdoallaaW.PrintLast Go.Proofs.YtomlfbmfdoallaaW.PrintMore
set_option linter.unusedVariables false
set_option linter.unusedSimpArgs false
theorem method_evenp : ∀ p w, (method 244 104 (.agg #[.int .i64 p]) "continuo/tempo.period").run Try.prog w = .ok (117, .agg #[.int .i64 p]) w := fun _ _ => by kernel_rfl
theorem method_changingp : ∀ p q l w, (method 244 106 (.agg #[.int .i64 p, .int .i64 q, .int .i64 l]) "continuo/tempo.period").run Try.prog w = .ok (119, .agg #[.int .i64 p, .int .i64 q, .int .i64 l]) w := fun _ _ _ _ => by kernel_rfl
theorem evenp_calls (p n : Int) (w : World) : Calls Try.prog 117 #[.agg #[.int .i64 p], .int .i64 n] w fun e w' => e = .returned (.int .i64 p) ∧ Below w.heap.size w w' := tempo_even_period.calls p n p w rfl
theorem Kd_one (W : World) (b : Nat) (x : Int) (h : W.cell? ⟨b, 0, none⟩ = some (.int .i64 x)) : Kd.C (Kd.int .i64) W (some ⟨b, 0, none⟩) 1 [x] := by
 refine ⟨rfl, by omega, fun _ => ⟨_, rfl, fun j p hj => ?_⟩⟩
 match j with
 | 0 =>
  simp at hj
  subst hj
  refine ⟨[.int .i64 x], rfl, rfl, fun i u hi => ?_⟩
  match i with
  | 0 =>
   simp at hi
   subst hi
   simpa [Addr.add] using h
  | i + 1 => simp at hi
 | j + 1 => simp at hj
theorem tempo_Period.mono : ∀ a0 a1 k, LeO (tempo_Period.f k a0 a1) (tempo_Period.f (k + 1) a0 a1) := by
 intro a0 a1 k
 unfold tempo_Period.f
 exact LeO.bind (tempo_asked.mono _ _ _) (fun _ => LeO.refl _)
set_option maxRecDepth 100000 in
set_option maxHeartbeats 2000000 in
theorem tempo_Period.calls (k : Nat) (A0 : Option Addr) (c0 : Nat) (l0 : List (S27)) (a1 : Int) (r1 r2 : Int) (w : World) (hr0 : Kd.C k27 w A0 l0.length l0) (hc0 : l0.length ≤ c0) (h : tempo_Period.f k l0 a1 = some (r1, r2)) :
 Calls Try.prog 12 #[.slice A0 l0.length c0, .int .i64 a1] w fun e w' => e = .returned (.tuple #[.int .i64 r1, .int .i64 r2]) ∧ Below w.heap.size w w' := by
 unfold tempo_Period.f at h
 obtain ⟨e, he, h'⟩ := Option.bind_eq_some_iff.mp h
 clear h
 have k0 := Blk.new w #[.int .i64 a1] 3
 have hb0 := (Below.refl _ w).alloc (Nat.le_refl _) (.cells #[.int .i64 a1] 3)
 have HA := Lib.hid (tempo_asked.calls k A0 c0 l0 (some ⟨w.heap.size, 0, none⟩) 1 [a1] e (w.alloc (.cells #[.int .i64 a1] 3)) (Kd.C_below hr0 hb0) hc0 (Kd_one _ _ _ (k0.cell 0 rfl)) (by simp) he)
 clear he k0
 by_cases h0 : e = 0
 · subst h0
   rw [if_pos rfl] at h'
   have hg : mapOkB l0 = true ∧ 0 ≤ a1 ∧ a1 ≤ 1000000000 := by
    apply Classical.byContradiction
    intro hn
    rw [if_neg hn] at h'
    cases h'
   rw [if_pos hg] at h'
   obtain ⟨hok, t0, t1⟩ := hg
   rw [mapOkB_iff] at hok
   simp only [Option.some.injEq, Prod.mk.injEq] at h'
   obtain ⟨rfl, rfl⟩ := h'
   obtain ⟨x, p1, p2, p3, p4, p5, p6, p7, p8⟩ := pick_spec a1 t1 l0 0 hok.2.2.2 (by intro e; subst e; have := hok.1; simp at this) (fun t e => by rw [hok.2.2.1 t e]; exact t0)
   have HO := fun w1 (hb : Below w.heap.size w w1) => of_calls A0 c0 l0 0 a1 w1 hok (by omega) (by omega) (Kd.C_below hr0 hb)
   rw [p1] at HO
   have HO' := Lib.hid HO
   clear HO hr0 p1 p2 hok
   rw [← p3]
   clear p3
   obtain ⟨c, tk, fm, fn⟩ := x
   dsimp only [prtCells] at HO' p4 p5 p6 p7 p8 ⊢
   cases c with
   | even p =>
    dsimp only [Crv.val] at HO'
    have hme := method_evenp p
    have HC := fun w => Lib.hid (evenp_calls p (a1 - tk) w)
    go_enter Try.func12, Try.ntmps12
    go_wp2_with (fail)
    refine HA.out.mono ?_
    rintro e w1 ⟨rfl, hb1⟩
    replace hb0 := hb0.trans (hb1.mono hb0.size)
    clear hb1
    go_wp2_with (fail)
    refine (HO'.out _ hb0).mono ?_
    rintro e w2 ⟨rfl, hb1⟩
    replace hb0 := hb0.trans (hb1.mono hb0.size)
    clear hb1
    go_wp2_with (fail)
    refine (HC _).out.mono ?_
    rintro e w3 ⟨rfl, hb1⟩
    have hb2 : Below w.heap.size w w3 := (hb0.alloc hb0.size _).trans (hb1.mono (by have := hb0.size; simp; omega))
    clear hb1
    go_wp2_with (fail)
    go_ret2
    exact ⟨rfl, hb2⟩
   | changing p q L =>
    dsimp only [Crv.val] at HO'
    obtain ⟨g1, g2, g3, g4, g5, g6, g7, g8⟩ := p4
    have hme := method_changingp p q L
    have HC := fun w => Lib.hid (tempo_changing_period.calls p q L (a1 - tk) _ w (changing_period_eq p q L (a1 - tk) g7 g8 g5 g6 g1 g2 g3 g4))
    go_enter Try.func12, Try.ntmps12
    go_wp2_with (fail)
    refine HA.out.mono ?_
    rintro e w1 ⟨rfl, hb1⟩
    replace hb0 := hb0.trans (hb1.mono hb0.size)
    clear hb1
    go_wp2_with (fail)
    refine (HO'.out _ hb0).mono ?_
    rintro e w2 ⟨rfl, hb1⟩
    replace hb0 := hb0.trans (hb1.mono hb0.size)
    clear hb1
    go_wp2_with (fail)
    refine (HC _).out.mono ?_
    rintro e w3 ⟨rfl, hb1⟩
    have hb2 : Below w.heap.size w w3 := (hb0.alloc hb0.size _).trans (hb1.mono (by have := hb0.size; simp; omega))
    clear hb1
    go_wp2_with (fail)
    go_ret2
    exact ⟨rfl, hb2⟩
 · rw [if_neg h0] at h'
   simp only [Option.some.injEq, Prod.mk.injEq] at h'
   obtain ⟨rfl, rfl⟩ := h'
   have h1 : (e != 0) = true := by simpa using h0
   clear hr0
   go_enter Try.func12, Try.ntmps12
   go_wp2_with (fail)
   refine HA.out.mono ?_
   rintro e w1 ⟨rfl, hb1⟩
   replace hb0 := hb0.trans (hb1.mono hb0.size)
   clear hb1
   go_wp2_with (fail)
   go_ret2
   exact ⟨rfl, hb0⟩
end Go.Proofs.Ytomlfbmfdoallaa.PA

namespace Go.Proofs.Ytomlfbmfdoallaa.PA
open Go.RowKit Go.Proofs.YtomlfbmfdoallaaW.PrintWords Go.Proofs.YtomlfbmfdoallaaW.PrintLast Go.Proofs.YtomlfbmfdoallaaW.PrintMore
attribute [local go_sem] max2_int min2_int max_two min_two max_three min_three max_four min_four
set_option linter.unusedVariables false
set_option linter.unusedSimpArgs false
end Go.Proofs.Ytomlfbmfdoallaa.PA

namespace Go.Proofs.Ytomlfbmfdoallaa.PA
open Go.RowKit Go.Proofs.YtomlfbmfdoallaaW.PrintWords Go.Proofs.YtomlfbmfdoallaaW.PrintLast Go.Proofs.YtomlfbmfdoallaaW.PrintMore
attribute [local go_sem] max2_int min2_int max_two min_two max_three min_three max_four min_four
set_option linter.unusedVariables false
set_option linter.unusedSimpArgs false
mutual
def continuolaw30_TempoSums.j0 : Nat → List (S27) → Int → Bool → Option (Bool)
 | 0, _, _, _ => none
 | k + 1, x0, x1, x25 => if x25 = true then (some true) else (continuolaw30_TempoSums.l0 k x0 x1 0 0)
def continuolaw30_TempoSums.l0 : Nat → List (S27) → Int → Int → Int → Option (Bool)
 | 0, _, _, _, _ => none
 | k + 1, x0, x1, x5, x6 => if x6 < (x0.length : Int) then (if 0 ≤ x6 then (if ((rd_T27 x0 x6).f2) = 0 then (continuolaw30_TempoSums.l0 k x0 x1 x5 (wrap64 (x6 + 1))) else (some true)) else (none)) else (continuolaw30_TempoSums.l1 k x0 x1 x5 0)
def continuolaw30_TempoSums.l1 : Nat → List (S27) → Int → Int → Int → Option (Bool)
 | 0, _, _, _, _ => none
 | k + 1, x0, x1, x5, x7 => if x7 < x1 then ((tempo_Period.f k x0 x7).bind fun bt167 => (if bt167.2 = 0 then (continuolaw30_TempoSums.l1 k x0 x1 (wrap64 (x5 + bt167.1)) (wrap64 (x7 + 1))) else (some false))) else ((tempo_Frame.f k x0 0 x1).bind fun bt169 => (if bt169.2 = 0 then (if (wrap64 ((wrap64 (bt169.1 * 65536)) - x5)) ≤ (wrap64 (65536 * (x0.length : Int))) then (some (decide ((wrap64 (-(wrap64 ((wrap64 (bt169.1 * 65536)) - x5)))) ≤ (wrap64 (65536 * (x0.length : Int)))))) else (some false)) else (if x1 < 0 then (some true) else (some (decide ((wrap64 ((wrap64 ((wrap64 (Int.tdiv x5 65536)) + (x0.length : Int))) + 1)) > 1000000000))))))
end
def continuolaw30_TempoSums.f (k : Nat) (l0 : List (S27)) (a1 : Int) : Option (Bool) := (continuolaw30_awake.f k).bind fun t163 => (if t163 = true then ((continuolaw30_long.f l0 ([] : List (S61)) ([] : List (S56))).bind fun t164 => (if t164 = true then (continuolaw30_TempoSums.j0 k l0 a1 true) else (if a1 > 3000 then (continuolaw30_TempoSums.j0 k l0 a1 true) else ((continuoref30_Valid.f k l0).bind fun t165 => (continuolaw30_TempoSums.j0 k l0 a1 (!t165)))))) else (some false))
theorem continuolaw30_TempoSums.mono_l : ∀ k, (∀ y0 y1 y2, LeO (continuolaw30_TempoSums.j0 k y0 y1 y2) (continuolaw30_TempoSums.j0 (k + 1) y0 y1 y2)) ∧ (∀ y0 y1 y2 y3, LeO (continuolaw30_TempoSums.l0 k y0 y1 y2 y3) (continuolaw30_TempoSums.l0 (k + 1) y0 y1 y2 y3)) ∧ (∀ y0 y1 y2 y3, LeO (continuolaw30_TempoSums.l1 k y0 y1 y2 y3) (continuolaw30_TempoSums.l1 (k + 1) y0 y1 y2 y3))
 | 0 => ⟨fun _ _ _ r h => by simp [continuolaw30_TempoSums.j0] at h, fun _ _ _ _ r h => by simp [continuolaw30_TempoSums.l0] at h, fun _ _ _ _ r h => by simp [continuolaw30_TempoSums.l1] at h⟩
 | k + 1 => by
  obtain ⟨ih0, ih1, ih2⟩ := continuolaw30_TempoSums.mono_l k
  refine ⟨?_, ?_, ?_⟩
  · intro y0 y1 y2
    unfold continuolaw30_TempoSums.j0
    repeat' first
    | (with_reducible exact ih0 _ _ _)
    | (with_reducible exact ih1 _ _ _ _)
    | (with_reducible exact ih2 _ _ _ _)
    | (with_reducible exact continuolaw30_awake.mono _)
    | (with_reducible exact continuoref30_Valid.mono _ _)
    | (with_reducible exact tempo_Frame.mono _ _ _ _)
    | (with_reducible exact tempo_Period.mono _ _ _)
    | (with_reducible exact LeO.refl _)
    | (with_reducible exact LeO.none _)
    | (with_reducible refine LeO.ite ?_ ?_)
    | (with_reducible refine LeO.bind ?_ (fun _ => ?_))
    | exact ih0 _ _ _
    | exact ih1 _ _ _ _
    | exact ih2 _ _ _ _
    | exact continuolaw30_awake.mono _
    | exact continuoref30_Valid.mono _ _
    | exact tempo_Frame.mono _ _ _ _
    | exact tempo_Period.mono _ _ _
    | exact LeO.none _
    | refine LeO.ite ?_ ?_
    | refine LeO.bind ?_ (fun _ => ?_)
  · intro y0 y1 y2 y3
    unfold continuolaw30_TempoSums.l0
    repeat' first
    | (with_reducible exact ih0 _ _ _)
    | (with_reducible exact ih1 _ _ _ _)
    | (with_reducible exact ih2 _ _ _ _)
    | (with_reducible exact continuolaw30_awake.mono _)
    | (with_reducible exact continuoref30_Valid.mono _ _)
    | (with_reducible exact tempo_Frame.mono _ _ _ _)
    | (with_reducible exact tempo_Period.mono _ _ _)
    | (with_reducible exact LeO.refl _)
    | (with_reducible exact LeO.none _)
    | (with_reducible refine LeO.ite ?_ ?_)
    | (with_reducible refine LeO.bind ?_ (fun _ => ?_))
    | exact ih0 _ _ _
    | exact ih1 _ _ _ _
    | exact ih2 _ _ _ _
    | exact continuolaw30_awake.mono _
    | exact continuoref30_Valid.mono _ _
    | exact tempo_Frame.mono _ _ _ _
    | exact tempo_Period.mono _ _ _
    | exact LeO.none _
    | refine LeO.ite ?_ ?_
    | refine LeO.bind ?_ (fun _ => ?_)
  · intro y0 y1 y2 y3
    unfold continuolaw30_TempoSums.l1
    repeat' first
    | (with_reducible exact ih0 _ _ _)
    | (with_reducible exact ih1 _ _ _ _)
    | (with_reducible exact ih2 _ _ _ _)
    | (with_reducible exact continuolaw30_awake.mono _)
    | (with_reducible exact continuoref30_Valid.mono _ _)
    | (with_reducible exact tempo_Frame.mono _ _ _ _)
    | (with_reducible exact tempo_Period.mono _ _ _)
    | (with_reducible exact LeO.refl _)
    | (with_reducible exact LeO.none _)
    | (with_reducible refine LeO.ite ?_ ?_)
    | (with_reducible refine LeO.bind ?_ (fun _ => ?_))
    | exact ih0 _ _ _
    | exact ih1 _ _ _ _
    | exact ih2 _ _ _ _
    | exact continuolaw30_awake.mono _
    | exact continuoref30_Valid.mono _ _
    | exact tempo_Frame.mono _ _ _ _
    | exact tempo_Period.mono _ _ _
    | exact LeO.none _
    | refine LeO.ite ?_ ?_
    | refine LeO.bind ?_ (fun _ => ?_)
theorem continuolaw30_TempoSums.mono : ∀ a0 a1 k, LeO (continuolaw30_TempoSums.f k a0 a1) (continuolaw30_TempoSums.f (k + 1) a0 a1) := by
 intro a0 a1 k
 obtain ⟨ih0, ih1, ih2⟩ := continuolaw30_TempoSums.mono_l k
 unfold continuolaw30_TempoSums.f
 repeat' first
  | (with_reducible exact ih0 _ _ _)
  | (with_reducible exact ih1 _ _ _ _)
  | (with_reducible exact ih2 _ _ _ _)
  | (with_reducible exact continuolaw30_awake.mono _)
  | (with_reducible exact continuoref30_Valid.mono _ _)
  | (with_reducible exact tempo_Frame.mono _ _ _ _)
  | (with_reducible exact tempo_Period.mono _ _ _)
  | (with_reducible exact LeO.refl _)
  | (with_reducible exact LeO.none _)
  | (with_reducible refine LeO.ite ?_ ?_)
  | (with_reducible refine LeO.bind ?_ (fun _ => ?_))
  | exact ih0 _ _ _
  | exact ih1 _ _ _ _
  | exact ih2 _ _ _ _
  | exact continuolaw30_awake.mono _
  | exact continuoref30_Valid.mono _ _
  | exact tempo_Frame.mono _ _ _ _
  | exact tempo_Period.mono _ _ _
  | exact LeO.none _
  | refine LeO.ite ?_ ?_
  | refine LeO.bind ?_ (fun _ => ?_)
set_option maxHeartbeats 8000000 in
set_option maxRecDepth 100000 in
theorem continuolaw30_TempoSums.calls (k : Nat) (A0 : Option Addr) (c0 : Nat) (l0 : List (S27)) (a1 : Int) (r : Bool) (w : World) (hr0 : Kd.C k27 w A0 l0.length l0) (hc0 : l0.length ≤ c0) (h : continuolaw30_TempoSums.f k l0 a1 = some r) :
 Calls Try.prog 3 #[.slice A0 l0.length c0, .int .i64 a1] w fun e w' => e = .returned (.bool r) ∧ Below w.heap.size w w' := by
 have HR0 := Aside0.mk hr0
 have HC0 := Aside0.mk hc0
 clear hr0 hc0
 have HB := Aside0.mk (Below.refl w.heap.size w)
 have H : ((continuolaw30_awake.f k).bind fun t163 => (if t163 = true then ((continuolaw30_long.f l0 ([] : List (S61)) ([] : List (S56))).bind fun t164 => (if t164 = true then (continuolaw30_TempoSums.j0 k l0 a1 true) else (if a1 > 3000 then (continuolaw30_TempoSums.j0 k l0 a1 true) else ((continuoref30_Valid.f k l0).bind fun t165 => (continuolaw30_TempoSums.j0 k l0 a1 (!t165)))))) else (some false))) = some r := h
 clear h
 replace H := Option.bind_eq_some_iff.mp H
 obtain ⟨t163, A30, H⟩ := H
 replace H : (if t163 = true then ((continuolaw30_long.f l0 ([] : List (S61)) ([] : List (S56))).bind fun t164 => (if t164 = true then (continuolaw30_TempoSums.j0 k l0 a1 true) else (if a1 > 3000 then (continuolaw30_TempoSums.j0 k l0 a1 true) else ((continuoref30_Valid.f k l0).bind fun t165 => (continuolaw30_TempoSums.j0 k l0 a1 (!t165)))))) else (some false)) = some r := H
 have A3 := Aside0.mk A30
 clear A30
 by_cases c4 : t163 = true
 · subst c4
   have H1 : ((continuolaw30_long.f l0 ([] : List (S61)) ([] : List (S56))).bind fun t164 => (if t164 = true then (continuolaw30_TempoSums.j0 k l0 a1 true) else (if a1 > 3000 then (continuolaw30_TempoSums.j0 k l0 a1 true) else ((continuoref30_Valid.f k l0).bind fun t165 => (continuolaw30_TempoSums.j0 k l0 a1 (!t165)))))) = some r := by rw [if_pos rfl] at H; exact H
   clear H
   have H := H1
   clear H1
   have HC5 := Aside0.mk H
   clear H
   go_enter Try.func3, Try.ntmps3
   go_upto_region 3 with (first | ((with_reducible refine gate_callee (f := 9) rfl ?_); refine goesL_ (some 13) rfl rfl Try.func9 (by kernel_rfl) rfl #[] rfl (by (try simp only [List.map_toArray, List.map_cons, List.map_nil]); first | done | rfl | (simp only [List.length_drop, List.length_take]; rfl)) ?_; (with_reducible refine (continuolaw30_awake.calls k  true _ A3.out).mono ?_); rintro e w6 ⟨rfl, hb⟩; refine ⟨_, rfl, ?_⟩; have n0_ := Aside0.mk (below_step (by repeat (first | (with_reducible first | exact HB.out | apply below_alloc | apply pw_below_drewN | apply below_drew1) | exact HB.out)) hb); clear HB; have HB := n0_; clear n0_; (try clear hb); (try clear hb2); (try clear hk); (try clear hi)))
   (try simp only [Act.put, List.setIfInBounds_toArray, List.set_cons_zero, List.set_cons_succ])
   go_cut [25] (fun v25 wc => ∃ (kq : Nat) (x25_4 : Bool), v25 = .bool x25_4 ∧ Aside0 (continuolaw30_TempoSums.j0 kq l0 a1 x25_4 = some r) ∧ Aside0 (kq ≤ k) ∧ Aside0 (Below w.heap.size w wc))
   case first =>
    have H := HC5.out
    clear HC5
    replace H := Option.bind_eq_some_iff.mp H
    obtain ⟨t164, A70, H⟩ := H
    replace H : (if t164 = true then (continuolaw30_TempoSums.j0 k l0 a1 true) else (if a1 > 3000 then (continuolaw30_TempoSums.j0 k l0 a1 true) else ((continuoref30_Valid.f k l0).bind fun t165 => (continuolaw30_TempoSums.j0 k l0 a1 (!t165))))) = some r := H
    have A7 := Aside0.mk A70
    clear A70
    by_cases c8 : t164 = true
    · subst c8
      have H1 : (continuolaw30_TempoSums.j0 k l0 a1 true) = some r := by rw [if_pos rfl] at H; exact H
      clear H
      have H := H1
      clear H1
      have H' := Aside0.mk H
      clear H
      go_wp2_with (first | ((with_reducible refine gate_callee (f := 10) rfl ?_); refine goesL_ (some 16) rfl rfl Try.func10 (by kernel_rfl) rfl #[.slice A0 l0.length c0, .slice none 0 0, .slice none 0 0] rfl (by (try simp only [List.map_toArray, List.map_cons, List.map_nil]); first | done | rfl | (simp only [List.length_drop, List.length_take]; rfl)) ?_; (refine (continuolaw30_long.calls _ _ l0 _ _ ([] : List (S61)) _ _ ([] : List (S56)) true _ ?side1 ?side2 ?side3 ?side4 ?side5 ?side6 A7.out).mono ?_); (case side1 => repeat (first | exact (Kd.C_below HR0.out HB.out) | (with_reducible refine Kd.C_alloc ?_ _) | (with_reducible refine Kd.C_drewN ?_ _) | (with_reducible refine Kd.C_drew ?_))); (case side2 => exact HC0.out); (case side3 => exact Kd.C_nil _ _); (case side4 => exact Nat.le_refl _); (case side5 => exact Kd.C_nil _ _); (case side6 => exact Nat.le_refl _); rintro e w' ⟨rfl, ⟨nd, rfl⟩⟩; refine ⟨_, rfl, ?_⟩))
      go_meet
      case rel => exact ⟨_, (true), (by first | rfl | (simp; done) | (simp [*]; done)), H', ⟨by first | omega | exact Nat.le_refl _⟩, ⟨by repeat (first | (with_reducible first | exact HB.out | apply below_alloc | apply pw_below_drewN | apply below_drew1) | exact HB.out)⟩⟩
    · replace c8 := Bool.eq_false_iff.mpr c8
      subst c8
      have H1 : (if a1 > 3000 then (continuolaw30_TempoSums.j0 k l0 a1 true) else ((continuoref30_Valid.f k l0).bind fun t165 => (continuolaw30_TempoSums.j0 k l0 a1 (!t165)))) = some r := by rw [if_neg (show ¬ (false = true) by decide)] at H; exact H
      clear H
      have H := H1
      clear H1
      by_cases c9 : a1 > 3000
      · rw [if_pos c9] at H
        have c9b0 : decide (3000 < a1) = true := decide_eq_true c9
        clear c9
        (first | rw [c9b0] | (simp only [i64_w, i32_w]; rw [c9b0]) | skip)
        have H' := Aside0.mk H
        clear H
        go_wp2_with (first | ((with_reducible refine gate_callee (f := 10) rfl ?_); refine goesL_ (some 16) rfl rfl Try.func10 (by kernel_rfl) rfl #[.slice A0 l0.length c0, .slice none 0 0, .slice none 0 0] rfl (by (try simp only [List.map_toArray, List.map_cons, List.map_nil]); first | done | rfl | (simp only [List.length_drop, List.length_take]; rfl)) ?_; (refine (continuolaw30_long.calls _ _ l0 _ _ ([] : List (S61)) _ _ ([] : List (S56)) false _ ?side1 ?side2 ?side3 ?side4 ?side5 ?side6 A7.out).mono ?_); (case side1 => repeat (first | exact (Kd.C_below HR0.out HB.out) | (with_reducible refine Kd.C_alloc ?_ _) | (with_reducible refine Kd.C_drewN ?_ _) | (with_reducible refine Kd.C_drew ?_))); (case side2 => exact HC0.out); (case side3 => exact Kd.C_nil _ _); (case side4 => exact Nat.le_refl _); (case side5 => exact Kd.C_nil _ _); (case side6 => exact Nat.le_refl _); rintro e w' ⟨rfl, ⟨nd, rfl⟩⟩; refine ⟨_, rfl, ?_⟩))
        go_meet
        case rel => exact ⟨_, (true), (by first | rfl | (simp; done) | (simp [*]; done)), H', ⟨by first | omega | exact Nat.le_refl _⟩, ⟨by repeat (first | (with_reducible first | exact HB.out | apply below_alloc | apply pw_below_drewN | apply below_drew1) | exact HB.out)⟩⟩
      · rw [if_neg c9] at H
        have c9b0 : decide (3000 < a1) = false := decide_eq_false c9
        clear c9
        (first | rw [c9b0] | (simp only [i64_w, i32_w]; rw [c9b0]) | skip)
        replace H := Option.bind_eq_some_iff.mp H
        obtain ⟨t165, A100, H⟩ := H
        replace H : (continuolaw30_TempoSums.j0 k l0 a1 (!t165)) = some r := H
        have A10 := Aside0.mk A100
        clear A100
        have H' := Aside0.mk H
        clear H
        go_wp2_with (first | ((with_reducible refine gate_callee (f := 10) rfl ?_); refine goesL_ (some 16) rfl rfl Try.func10 (by kernel_rfl) rfl #[.slice A0 l0.length c0, .slice none 0 0, .slice none 0 0] rfl (by (try simp only [List.map_toArray, List.map_cons, List.map_nil]); first | done | rfl | (simp only [List.length_drop, List.length_take]; rfl)) ?_; (refine (continuolaw30_long.calls _ _ l0 _ _ ([] : List (S61)) _ _ ([] : List (S56)) false _ ?side1 ?side2 ?side3 ?side4 ?side5 ?side6 A7.out).mono ?_); (case side1 => repeat (first | exact (Kd.C_below HR0.out HB.out) | (with_reducible refine Kd.C_alloc ?_ _) | (with_reducible refine Kd.C_drewN ?_ _) | (with_reducible refine Kd.C_drew ?_))); (case side2 => exact HC0.out); (case side3 => exact Kd.C_nil _ _); (case side4 => exact Nat.le_refl _); (case side5 => exact Kd.C_nil _ _); (case side6 => exact Nat.le_refl _); rintro e w' ⟨rfl, ⟨nd, rfl⟩⟩; refine ⟨_, rfl, ?_⟩) | (go_at_call 11; (with_reducible refine (continuoref30_Valid.calls k _ _ l0 t165 _ ?side1 ?side2 A10.out).mono ?_); (case side1 => repeat (first | exact (Kd.C_below HR0.out (by repeat (first | (with_reducible first | exact HB.out | apply below_alloc | apply pw_below_drewN | apply below_drew1) | exact HB.out))) | (with_reducible refine Kd.C_alloc ?_ _) | (with_reducible refine Kd.C_drewN ?_ _) | (with_reducible refine Kd.C_drew ?_))); (case side2 => exact HC0.out); rintro e w11 ⟨rfl, hb⟩; have n0_ := Aside0.mk (below_step (by repeat (first | (with_reducible first | exact HB.out | apply below_alloc | apply pw_below_drewN | apply below_drew1) | exact HB.out)) hb); clear HB; have HB := n0_; clear n0_; (try clear hb); (try clear hb2); (try clear hk); (try clear hi)))
        go_meet
        case rel => exact ⟨_, (!t165), (by first | rfl | (simp; done) | (simp [*]; done)), H', ⟨by first | omega | exact Nat.le_refl _⟩, ⟨by repeat (first | (with_reducible first | exact HB.out | apply below_alloc | apply pw_below_drewN | apply below_drew1) | exact HB.out)⟩⟩
   case rest =>
    clear HC5
    try clear c1
    try clear p2
    try clear c3
    try clear c4
    try clear c8
    try clear c9
    try clear c9b0
    try clear c10
    obtain ⟨kq, x25_4, rfl, HA, HJ4, HB⟩ := hcut
    cases kq with
    | zero => exact absurd HA.out (by simp [continuolaw30_TempoSums.j0])
    | succ kj4 =>
     have H := HA.out
     clear HA
     simp only [continuolaw30_TempoSums.j0] at H
     by_cases c12 : x25_4 = true
     · subst c12
       have H1 : (some true) = some r := by rw [if_pos rfl] at H; exact H
       clear H
       have H := H1
       clear H1
       obtain rfl := Option.some.inj H
       go_wp2
       go_ret
       exact ⟨by first | rfl | (simp [errW_none, errW_some] <;> rfl) | (simp [*, errW_none, errW_some] <;> rfl), by repeat (first | (with_reducible first | exact HB.out | apply below_alloc | apply pw_below_drewN | apply below_drew1) | exact HB.out)⟩
     · replace c12 := Bool.eq_false_iff.mpr c12
       subst c12
       have H1 : (continuolaw30_TempoSums.l0 kj4 l0 a1 0 0) = some r := by rw [if_neg (show ¬ (false = true) by decide)] at H; exact H
       clear H
       have H := H1
       clear H1
       have H' := Aside0.mk H
       clear H
       go_wp2
       go_loopg [6] kj4 (fun kq v6 w' => ∃ (x6_2 : Int), v6 = .int .i64 x6_2 ∧ Aside0 (continuolaw30_TempoSums.l0 kq l0 a1 0 x6_2 = some r) ∧ Aside0 (kq ≤ kj4) ∧ Aside0 (Below w.heap.size w w'))
       case atStart => exact ⟨(0), (by first | rfl | (simp; done) | (simp [*]; done)), H', ⟨Nat.le_refl _⟩, ⟨by repeat (first | (with_reducible first | exact HB.out | apply below_alloc | apply pw_below_drewN | apply below_drew1) | exact HB.out)⟩⟩
       case round =>
        clear H'
        try clear c1
        try clear p2
        try clear c3
        try clear c4
        try clear c8
        try clear c9
        try clear c9b0
        try clear c10
        try clear c12
        try clear p2
        obtain ⟨x6_2, rfl, HA, HK2, HB⟩ := hrel
        cases gk with
        | zero => exact absurd HA.out (by simp [continuolaw30_TempoSums.l0])
        | succ k2 =>
         have H := HA.out
         clear HA
         simp only [continuolaw30_TempoSums.l0] at H
         by_cases c13 : x6_2 < (l0.length : Int)
         · rw [if_pos c13] at H
           have c13b0 : decide (x6_2 < (l0.length : Int)) = true := decide_eq_true c13
           clear c13
           by_cases c14 : 0 ≤ x6_2
           · rw [if_pos c14] at H
             have c14b0 : decide (0 ≤ x6_2) = true := decide_eq_true c14
             clear c14
             by_cases c15 : ((rd_T27 l0 x6_2).f2) = 0
             · rw [if_pos c15] at H
               have c15b0 : (((rd_T27 l0 x6_2).f2) == 0) = true := beq_iff_eq.mpr c15
               have c15b1 : (((rd_T27 l0 x6_2).f2) != 0) = false := bne_eq_false_iff_eq.mpr c15
               clear c15
               have H' := Aside0.mk H
               clear H
               have p166 : 0 ≤ (x6_2 : Int) := of_decide_eq_true (by first | (with_reducible assumption) | assumption)
               have q166 : x6_2 < (l0.length : Int) := of_decide_eq_true (by first | (with_reducible assumption) | assumption)
               obtain ⟨ad166, e166, hx166_0, hx166_1, hx166_2⟩ := at_T27 HR0.out x6_2 p166 q166
               cases e166
               replace hx166_0 := (HB.out.cell (World.block_lt_of_cell? w _ hx166_0)).trans hx166_0
               replace hx166_1 := (HB.out.cell (World.block_lt_of_cell? w _ hx166_1)).trans hx166_1
               replace hx166_2 := (HB.out.cell (World.block_lt_of_cell? w _ hx166_2)).trans hx166_2
               replace p166 := eq_true p166
               replace q166 := eq_true q166
               go_wp2
               go_roundg k2
               case measure => have := HJ4.out; have := HK2.out; omega
               case rel => exact ⟨(wrap64 (x6_2 + 1)), (by first | rfl | (simp; done) | (simp [*]; done)), H', ⟨by have := HJ4.out; have := HK2.out; omega⟩, ⟨by repeat (first | (with_reducible first | exact HB.out | apply below_alloc | apply pw_below_drewN | apply below_drew1) | exact HB.out)⟩⟩
             · rw [if_neg c15] at H
               have c15b0 : (((rd_T27 l0 x6_2).f2) == 0) = false := beq_eq_false_iff_ne.mpr c15
               have c15b1 : (((rd_T27 l0 x6_2).f2) != 0) = true := bne_iff_ne.mpr c15
               obtain rfl := Option.some.inj H
               have p166 : 0 ≤ (x6_2 : Int) := of_decide_eq_true (by first | (with_reducible assumption) | assumption)
               have q166 : x6_2 < (l0.length : Int) := of_decide_eq_true (by first | (with_reducible assumption) | assumption)
               obtain ⟨ad166, e166, hx166_0, hx166_1, hx166_2⟩ := at_T27 HR0.out x6_2 p166 q166
               cases e166
               replace hx166_0 := (HB.out.cell (World.block_lt_of_cell? w _ hx166_0)).trans hx166_0
               replace hx166_1 := (HB.out.cell (World.block_lt_of_cell? w _ hx166_1)).trans hx166_1
               replace hx166_2 := (HB.out.cell (World.block_lt_of_cell? w _ hx166_2)).trans hx166_2
               replace p166 := eq_true p166
               replace q166 := eq_true q166
               go_wp2
               go_ret
               exact ⟨by first | rfl | (simp [errW_none, errW_some] <;> rfl) | (simp [*, errW_none, errW_some] <;> rfl), by repeat (first | (with_reducible first | exact HB.out | apply below_alloc | apply pw_below_drewN | apply below_drew1) | exact HB.out)⟩
           · rw [if_neg c14] at H
             exact absurd H (by simp)
         · rw [if_neg c13] at H
           have c13b0 : decide (x6_2 < (l0.length : Int)) = false := decide_eq_false c13
           clear c13
           have H' := Aside0.mk H
           clear H
           go_wp2
           go_loopg [5, 7] k2 (fun kq v5 v7 w' => ∃ (x5_3 : Int) (x7_3 : Int), v5 = .int .i64 x5_3 ∧ v7 = .int .i64 x7_3 ∧ Aside0 (continuolaw30_TempoSums.l1 kq l0 a1 x5_3 x7_3 = some r) ∧ Aside0 (kq ≤ k2) ∧ Aside0 (Below w.heap.size w w'))
           case atStart => exact ⟨(0), (0), (by first | rfl | (simp; done) | (simp [*]; done)), (by first | rfl | (simp; done) | (simp [*]; done)), H', ⟨Nat.le_refl _⟩, ⟨by repeat (first | (with_reducible first | exact HB.out | apply below_alloc | apply pw_below_drewN | apply below_drew1) | exact HB.out)⟩⟩
           case round =>
            clear H'
            try clear c1
            try clear p1
            try clear q1
            try clear hx1
            try clear p2
            try clear c3
            try clear c4
            try clear p6
            try clear c8
            try clear c9
            try clear c9b0
            try clear c10
            try clear c12
            try clear c13
            try clear c13b0
            try clear c14
            try clear c14b0
            try clear c15
            try clear c15b0
            try clear c15b1
            try clear hx166_0
            try clear hx166_1
            try clear hx166_2
            try clear p166
            try clear p2
            try clear q166
            obtain ⟨x5_3, x7_3, rfl, rfl, HA, HK3, HB⟩ := hrel
            cases gk with
            | zero => exact absurd HA.out (by simp [continuolaw30_TempoSums.l1])
            | succ k3 =>
             have H := HA.out
             clear HA
             simp only [continuolaw30_TempoSums.l1] at H
             by_cases c16 : x7_3 < a1
             · rw [if_pos c16] at H
               have c16b0 : decide (x7_3 < a1) = true := decide_eq_true c16
               clear c16
               replace H := Option.bind_eq_some_iff.mp H
               obtain ⟨⟨t167, t168⟩, A170, H⟩ := H
               replace H : (if t168 = 0 then (continuolaw30_TempoSums.l1 k3 l0 a1 (wrap64 (x5_3 + t167)) (wrap64 (x7_3 + 1))) else (some false)) = some r := H
               have A17 := Aside0.mk A170
               clear A170
               by_cases c18 : t168 = 0
               · rw [if_pos c18] at H
                 have c18b0 : (t168 == 0) = true := beq_iff_eq.mpr c18
                 have c18b1 : (t168 != 0) = false := bne_eq_false_iff_eq.mpr c18
                 clear c18
                 have H' := Aside0.mk H
                 clear H
                 go_wp2_with (first | ((with_reducible refine gate_callee (f := 12) rfl ?_); refine goesL_ (some 46) rfl rfl Try.func12 (by kernel_rfl) rfl #[.slice A0 l0.length c0, .int .i64 x7_3] rfl (by (try simp only [List.map_toArray, List.map_cons, List.map_nil]); first | done | rfl | (simp only [List.length_drop, List.length_take]; rfl)) ?_; (with_reducible refine (tempo_Period.calls k3 _ _ l0 x7_3 t167 t168 _ ?side1 ?side2 A17.out).mono ?_); (case side1 => repeat (first | exact (Kd.C_below HR0.out HB.out) | (with_reducible refine Kd.C_alloc ?_ _) | (with_reducible refine Kd.C_drewN ?_ _) | (with_reducible refine Kd.C_drew ?_))); (case side2 => exact HC0.out); rintro e w19 ⟨rfl, hb⟩; refine ⟨_, rfl, ?_⟩; have n0_ := Aside0.mk (below_step (by repeat (first | (with_reducible first | exact HB.out | apply below_alloc | apply pw_below_drewN | apply below_drew1) | exact HB.out)) hb); clear HB; have HB := n0_; clear n0_; (try clear hb); (try clear hb2); (try clear hk); (try clear hi)))
                 go_roundg k3
                 case measure => have := HJ4.out; have := HK2.out; have := HK3.out; omega
                 case rel => exact ⟨(wrap64 (x5_3 + t167)), (wrap64 (x7_3 + 1)), (by first | rfl | (simp; done) | (simp [*]; done)), (by first | rfl | (simp; done) | (simp [*]; done)), H', ⟨by have := HJ4.out; have := HK2.out; have := HK3.out; omega⟩, ⟨by repeat (first | (with_reducible first | exact HB.out | apply below_alloc | apply pw_below_drewN | apply below_drew1) | exact HB.out)⟩⟩
               · rw [if_neg c18] at H
                 have c18b0 : (t168 == 0) = false := beq_eq_false_iff_ne.mpr c18
                 have c18b1 : (t168 != 0) = true := bne_iff_ne.mpr c18
                 obtain rfl := Option.some.inj H
                 go_wp2_with (first | ((with_reducible refine gate_callee (f := 12) rfl ?_); refine goesL_ (some 46) rfl rfl Try.func12 (by kernel_rfl) rfl #[.slice A0 l0.length c0, .int .i64 x7_3] rfl (by (try simp only [List.map_toArray, List.map_cons, List.map_nil]); first | done | rfl | (simp only [List.length_drop, List.length_take]; rfl)) ?_; (with_reducible refine (tempo_Period.calls k3 _ _ l0 x7_3 t167 t168 _ ?side1 ?side2 A17.out).mono ?_); (case side1 => repeat (first | exact (Kd.C_below HR0.out HB.out) | (with_reducible refine Kd.C_alloc ?_ _) | (with_reducible refine Kd.C_drewN ?_ _) | (with_reducible refine Kd.C_drew ?_))); (case side2 => exact HC0.out); rintro e w20 ⟨rfl, hb⟩; refine ⟨_, rfl, ?_⟩; have n0_ := Aside0.mk (below_step (by repeat (first | (with_reducible first | exact HB.out | apply below_alloc | apply pw_below_drewN | apply below_drew1) | exact HB.out)) hb); clear HB; have HB := n0_; clear n0_; (try clear hb); (try clear hb2); (try clear hk); (try clear hi)))
                 go_ret
                 exact ⟨by first | rfl | (simp [errW_none, errW_some] <;> rfl) | (simp [*, errW_none, errW_some] <;> rfl), by repeat (first | (with_reducible first | exact HB.out | apply below_alloc | apply pw_below_drewN | apply below_drew1) | exact HB.out)⟩
             · rw [if_neg c16] at H
               have c16b0 : decide (x7_3 < a1) = false := decide_eq_false c16
               clear c16
               replace H := Option.bind_eq_some_iff.mp H
               obtain ⟨⟨t169, t170⟩, A210, H⟩ := H
               replace H : (if t170 = 0 then (if (wrap64 ((wrap64 (t169 * 65536)) - x5_3)) ≤ (wrap64 (65536 * (l0.length : Int))) then (some (decide ((wrap64 (-(wrap64 ((wrap64 (t169 * 65536)) - x5_3)))) ≤ (wrap64 (65536 * (l0.length : Int)))))) else (some false)) else (if a1 < 0 then (some true) else (some (decide ((wrap64 ((wrap64 ((wrap64 (Int.tdiv x5_3 65536)) + (l0.length : Int))) + 1)) > 1000000000))))) = some r := H
               have A21 := Aside0.mk A210
               clear A210
               by_cases c22 : t170 = 0
               · rw [if_pos c22] at H
                 have c22b0 : (t170 == 0) = true := beq_iff_eq.mpr c22
                 have c22b1 : (t170 != 0) = false := bne_eq_false_iff_eq.mpr c22
                 clear c22
                 by_cases c23 : (wrap64 ((wrap64 (t169 * 65536)) - x5_3)) ≤ (wrap64 (65536 * (l0.length : Int)))
                 · rw [if_pos c23] at H
                   have c23b0 : decide ((wrap64 ((wrap64 (t169 * 65536)) - x5_3)) ≤ (wrap64 (65536 * (l0.length : Int)))) = true := decide_eq_true c23
                   clear c23
                   obtain rfl := Option.some.inj H
                   go_wp2_with (first | ((with_reducible refine gate_callee (f := 13) rfl ?_); refine goesL_ (some 57) rfl rfl Try.func13 (by kernel_rfl) rfl #[.slice A0 l0.length c0, .int .i64 0, .int .i64 a1] rfl (by (try simp only [List.map_toArray, List.map_cons, List.map_nil]); first | done | rfl | (simp only [List.length_drop, List.length_take]; rfl)) ?_; (with_reducible refine (tempo_Frame.calls k3 _ _ l0 0 a1 t169 t170 _ ?side1 ?side2 A21.out).mono ?_); (case side1 => repeat (first | exact (Kd.C_below HR0.out HB.out) | (with_reducible refine Kd.C_alloc ?_ _) | (with_reducible refine Kd.C_drewN ?_ _) | (with_reducible refine Kd.C_drew ?_))); (case side2 => exact HC0.out); rintro e w24 ⟨rfl, hb⟩; refine ⟨_, rfl, ?_⟩; have n0_ := Aside0.mk (below_step (by repeat (first | (with_reducible first | exact HB.out | apply below_alloc | apply pw_below_drewN | apply below_drew1) | exact HB.out)) hb); clear HB; have HB := n0_; clear n0_; (try clear hb); (try clear hb2); (try clear hk); (try clear hi)))
                   go_ret
                   exact ⟨by first | rfl | (simp [errW_none, errW_some] <;> rfl) | (simp [*, errW_none, errW_some] <;> rfl), by repeat (first | (with_reducible first | exact HB.out | apply below_alloc | apply pw_below_drewN | apply below_drew1) | exact HB.out)⟩
                 · rw [if_neg c23] at H
                   have c23b0 : decide ((wrap64 ((wrap64 (t169 * 65536)) - x5_3)) ≤ (wrap64 (65536 * (l0.length : Int)))) = false := decide_eq_false c23
                   clear c23
                   obtain rfl := Option.some.inj H
                   go_wp2_with (first | ((with_reducible refine gate_callee (f := 13) rfl ?_); refine goesL_ (some 57) rfl rfl Try.func13 (by kernel_rfl) rfl #[.slice A0 l0.length c0, .int .i64 0, .int .i64 a1] rfl (by (try simp only [List.map_toArray, List.map_cons, List.map_nil]); first | done | rfl | (simp only [List.length_drop, List.length_take]; rfl)) ?_; (with_reducible refine (tempo_Frame.calls k3 _ _ l0 0 a1 t169 t170 _ ?side1 ?side2 A21.out).mono ?_); (case side1 => repeat (first | exact (Kd.C_below HR0.out HB.out) | (with_reducible refine Kd.C_alloc ?_ _) | (with_reducible refine Kd.C_drewN ?_ _) | (with_reducible refine Kd.C_drew ?_))); (case side2 => exact HC0.out); rintro e w25 ⟨rfl, hb⟩; refine ⟨_, rfl, ?_⟩; have n0_ := Aside0.mk (below_step (by repeat (first | (with_reducible first | exact HB.out | apply below_alloc | apply pw_below_drewN | apply below_drew1) | exact HB.out)) hb); clear HB; have HB := n0_; clear n0_; (try clear hb); (try clear hb2); (try clear hk); (try clear hi)))
                   go_ret
                   exact ⟨by first | rfl | (simp [errW_none, errW_some] <;> rfl) | (simp [*, errW_none, errW_some] <;> rfl), by repeat (first | (with_reducible first | exact HB.out | apply below_alloc | apply pw_below_drewN | apply below_drew1) | exact HB.out)⟩
               · rw [if_neg c22] at H
                 have c22b0 : (t170 == 0) = false := beq_eq_false_iff_ne.mpr c22
                 have c22b1 : (t170 != 0) = true := bne_iff_ne.mpr c22
                 by_cases c26 : a1 < 0
                 · rw [if_pos c26] at H
                   have c26b0 : decide (a1 < 0) = true := decide_eq_true c26
                   clear c26
                   obtain rfl := Option.some.inj H
                   go_wp2_with (first | ((with_reducible refine gate_callee (f := 13) rfl ?_); refine goesL_ (some 57) rfl rfl Try.func13 (by kernel_rfl) rfl #[.slice A0 l0.length c0, .int .i64 0, .int .i64 a1] rfl (by (try simp only [List.map_toArray, List.map_cons, List.map_nil]); first | done | rfl | (simp only [List.length_drop, List.length_take]; rfl)) ?_; (with_reducible refine (tempo_Frame.calls k3 _ _ l0 0 a1 t169 t170 _ ?side1 ?side2 A21.out).mono ?_); (case side1 => repeat (first | exact (Kd.C_below HR0.out HB.out) | (with_reducible refine Kd.C_alloc ?_ _) | (with_reducible refine Kd.C_drewN ?_ _) | (with_reducible refine Kd.C_drew ?_))); (case side2 => exact HC0.out); rintro e w27 ⟨rfl, hb⟩; refine ⟨_, rfl, ?_⟩; have n0_ := Aside0.mk (below_step (by repeat (first | (with_reducible first | exact HB.out | apply below_alloc | apply pw_below_drewN | apply below_drew1) | exact HB.out)) hb); clear HB; have HB := n0_; clear n0_; (try clear hb); (try clear hb2); (try clear hk); (try clear hi)))
                   go_ret
                   exact ⟨by first | rfl | (simp [errW_none, errW_some] <;> rfl) | (simp [*, errW_none, errW_some] <;> rfl), by repeat (first | (with_reducible first | exact HB.out | apply below_alloc | apply pw_below_drewN | apply below_drew1) | exact HB.out)⟩
                 · rw [if_neg c26] at H
                   have c26b0 : decide (a1 < 0) = false := decide_eq_false c26
                   clear c26
                   obtain rfl := Option.some.inj H
                   go_wp2_with (first | ((with_reducible refine gate_callee (f := 13) rfl ?_); refine goesL_ (some 57) rfl rfl Try.func13 (by kernel_rfl) rfl #[.slice A0 l0.length c0, .int .i64 0, .int .i64 a1] rfl (by (try simp only [List.map_toArray, List.map_cons, List.map_nil]); first | done | rfl | (simp only [List.length_drop, List.length_take]; rfl)) ?_; (with_reducible refine (tempo_Frame.calls k3 _ _ l0 0 a1 t169 t170 _ ?side1 ?side2 A21.out).mono ?_); (case side1 => repeat (first | exact (Kd.C_below HR0.out HB.out) | (with_reducible refine Kd.C_alloc ?_ _) | (with_reducible refine Kd.C_drewN ?_ _) | (with_reducible refine Kd.C_drew ?_))); (case side2 => exact HC0.out); rintro e w28 ⟨rfl, hb⟩; refine ⟨_, rfl, ?_⟩; have n0_ := Aside0.mk (below_step (by repeat (first | (with_reducible first | exact HB.out | apply below_alloc | apply pw_below_drewN | apply below_drew1) | exact HB.out)) hb); clear HB; have HB := n0_; clear n0_; (try clear hb); (try clear hb2); (try clear hk); (try clear hi)))
                   go_ret
                   exact ⟨by first | rfl | (simp [errW_none, errW_some] <;> rfl) | (simp [*, errW_none, errW_some] <;> rfl), by repeat (first | (with_reducible first | exact HB.out | apply below_alloc | apply pw_below_drewN | apply below_drew1) | exact HB.out)⟩
 · replace c4 := Bool.eq_false_iff.mpr c4
   subst c4
   have H1 : (some false) = some r := by rw [if_neg (show ¬ (false = true) by decide)] at H; exact H
   clear H
   have H := H1
   clear H1
   obtain rfl := Option.some.inj H
   go_enter Try.func3, Try.ntmps3
   go_wp2_with (first | ((with_reducible refine gate_callee (f := 9) rfl ?_); refine goesL_ (some 13) rfl rfl Try.func9 (by kernel_rfl) rfl #[] rfl (by (try simp only [List.map_toArray, List.map_cons, List.map_nil]); first | done | rfl | (simp only [List.length_drop, List.length_take]; rfl)) ?_; (with_reducible refine (continuolaw30_awake.calls k  false _ A3.out).mono ?_); rintro e w29 ⟨rfl, hb⟩; refine ⟨_, rfl, ?_⟩; have n0_ := Aside0.mk (below_step (by repeat (first | (with_reducible first | exact HB.out | apply below_alloc | apply pw_below_drewN | apply below_drew1) | exact HB.out)) hb); clear HB; have HB := n0_; clear n0_; (try clear hb); (try clear hb2); (try clear hk); (try clear hi)))
   go_ret
   exact ⟨by first | rfl | (simp [errW_none, errW_some] <;> rfl) | (simp [*, errW_none, errW_some] <;> rfl), by repeat (first | (with_reducible first | exact HB.out | apply below_alloc | apply pw_below_drewN | apply below_drew1) | exact HB.out)⟩
end Go.Proofs.Ytomlfbmfdoallaa.PA

namespace Go.Proofs.Ytomlfbmfdoallaa.PA
open Go.RowKit Go.Proofs.YtomlfbmfdoallaaW.PrintWords Go.Proofs.YtomlfbmfdoallaaW.PrintLast Go.Proofs.YtomlfbmfdoallaaW.PrintMore
attribute [local go_sem] max2_int min2_int max_two min_two max_three min_three max_four min_four
set_option linter.unusedVariables false
set_option linter.unusedSimpArgs false
def continuoref30_at.l0 : Nat → List (S27) → Int → Int → Option (Int)
 | 0, _, _, _ => none
 | k + 1, x0, x1, x5 => if (wrap64 (x5 + 1)) < (x0.length : Int) then (if 0 ≤ (wrap64 (x5 + 1)) then (if ((rd_T27 x0 (wrap64 (x5 + 1))).f0) ≤ x1 then (continuoref30_at.l0 k x0 x1 (wrap64 (x5 + 1))) else (some x5)) else (none)) else (some x5)
def continuoref30_at.f (k : Nat) (l0 : List (S27)) (a1 : Int) : Option (Int) := continuoref30_at.l0 k l0 a1 0
theorem continuoref30_at.mono_l : ∀ k, (∀ y0 y1 y2, LeO (continuoref30_at.l0 k y0 y1 y2) (continuoref30_at.l0 (k + 1) y0 y1 y2))
 | 0 => fun _ _ _ r h => by simp [continuoref30_at.l0] at h
 | k + 1 => by
  have ih0 := continuoref30_at.mono_l k
  · intro y0 y1 y2
    unfold continuoref30_at.l0
    repeat' first
    | (with_reducible exact ih0 _ _ _)
    | (with_reducible exact LeO.refl _)
    | (with_reducible exact LeO.none _)
    | (with_reducible refine LeO.ite ?_ ?_)
    | (with_reducible refine LeO.bind ?_ (fun _ => ?_))
    | exact ih0 _ _ _
    | exact LeO.none _
    | refine LeO.ite ?_ ?_
    | refine LeO.bind ?_ (fun _ => ?_)
theorem continuoref30_at.mono : ∀ a0 a1 k, LeO (continuoref30_at.f k a0 a1) (continuoref30_at.f (k + 1) a0 a1) := by
 intro a0 a1 k
 have ih0 := continuoref30_at.mono_l k
 unfold continuoref30_at.f
 repeat' first
  | (with_reducible exact ih0 _ _ _)
  | (with_reducible exact LeO.refl _)
  | (with_reducible exact LeO.none _)
  | (with_reducible refine LeO.ite ?_ ?_)
  | (with_reducible refine LeO.bind ?_ (fun _ => ?_))
  | exact ih0 _ _ _
  | exact LeO.none _
  | refine LeO.ite ?_ ?_
  | refine LeO.bind ?_ (fun _ => ?_)
set_option maxHeartbeats 8000000 in
set_option maxRecDepth 100000 in
theorem continuoref30_at.calls (k : Nat) (A0 : Option Addr) (c0 : Nat) (l0 : List (S27)) (a1 : Int) (r : Int) (w : World) (hr0 : Kd.C k27 w A0 l0.length l0) (hc0 : l0.length ≤ c0) (h : continuoref30_at.f k l0 a1 = some r) :
 Calls Try.prog 56 #[.slice A0 l0.length c0, .int .i64 a1] w fun e w' => e = .returned (.int .i64 r) ∧ Drawn0 w w' := by
 have HR0 := Aside0.mk hr0
 have HC0 := Aside0.mk hc0
 clear hr0 hc0
 have H : (continuoref30_at.l0 k l0 a1 0) = some r := h
 clear h
 have H' := Aside0.mk H
 clear H
 go_enter Try.func56, Try.ntmps56
 go_wp2
 go_loopg [5] k (fun kq v5 w' => ∃ (x5_1 : Int), v5 = .int .i64 x5_1 ∧ Aside0 (continuoref30_at.l0 kq l0 a1 x5_1 = some r) ∧ Aside0 (kq ≤ k) ∧ Drawn0 w w')
 case atStart => exact ⟨(0), (by first | rfl | (simp; done) | (simp [*]; done)), H', ⟨Nat.le_refl _⟩, by repeat (first | exact Drawn0.refl _ | apply Drawn0.step)⟩
 case round =>
  clear H'
  try clear p2
  obtain ⟨x5_1, rfl, HA, HK1, ⟨m1, rfl⟩⟩ := hrel
  cases gk with
  | zero => exact absurd HA.out (by simp [continuoref30_at.l0])
  | succ k1 =>
   have H := HA.out
   clear HA
   simp only [continuoref30_at.l0] at H
   by_cases c3 : (wrap64 (x5_1 + 1)) < (l0.length : Int)
   · rw [if_pos c3] at H
     have c3b0 : decide ((wrap64 (x5_1 + 1)) < (l0.length : Int)) = true := decide_eq_true c3
     clear c3
     obtain ⟨ji4, hji4⟩ : ∃ j_ : Int, (wrap64 (x5_1 + 1)) = j_ := ⟨_, rfl⟩
     replace H : (if 0 ≤ (ji4) then (if ((rd_T27 l0 (ji4)).f0) ≤ a1 then (continuoref30_at.l0 k1 l0 a1 ji4) else (some x5_1)) else (none)) = some r := by first | (rw [hji4] at H; exact H) | (simp only [hji4] at H ⊢; exact H)
     (try rw [hji4] at c3b0)
     have hji4w : (IntKind.i64.wrap (x5_1 + 1)) = ji4 := (i64_w _).trans hji4
     by_cases c5 : 0 ≤ (ji4)
     · rw [if_pos c5] at H
       have c5b0 : decide (0 ≤ (ji4)) = true := decide_eq_true c5
       clear c5
       by_cases c6 : ((rd_T27 l0 (ji4)).f0) ≤ a1
       · rw [if_pos c6] at H
         have c6b0 : decide (((rd_T27 l0 (ji4)).f0) ≤ a1) = true := decide_eq_true c6
         clear c6
         have H' := Aside0.mk H
         clear H
         have p268 : 0 ≤ ((ji4) : Int) := of_decide_eq_true (by first | (with_reducible assumption) | assumption)
         have q268 : (ji4) < (l0.length : Int) := of_decide_eq_true (by first | (with_reducible assumption) | assumption)
         obtain ⟨ad268, e268, hx268_0, hx268_1, hx268_2⟩ := at_T27 HR0.out (ji4) p268 q268
         cases e268
         replace p268 := eq_true p268
         replace q268 := eq_true q268
         go_wp2
         go_roundg k1
         case measure => have := HK1.out; omega
         case rel => exact ⟨(ji4), (by first | rfl | (simp; done) | (simp only [← hji4] <;> (first | rfl | simp)) | (simp [*]; done)), H', ⟨by have := HK1.out; omega⟩, by repeat (first | exact Drawn0.refl _ | apply Drawn0.step)⟩
       · rw [if_neg c6] at H
         have c6b0 : decide (((rd_T27 l0 (ji4)).f0) ≤ a1) = false := decide_eq_false c6
         clear c6
         obtain rfl := Option.some.inj H
         have p268 : 0 ≤ ((ji4) : Int) := of_decide_eq_true (by first | (with_reducible assumption) | assumption)
         have q268 : (ji4) < (l0.length : Int) := of_decide_eq_true (by first | (with_reducible assumption) | assumption)
         obtain ⟨ad268, e268, hx268_0, hx268_1, hx268_2⟩ := at_T27 HR0.out (ji4) p268 q268
         cases e268
         replace p268 := eq_true p268
         replace q268 := eq_true q268
         go_wp2
         go_ret
         exact ⟨by first | rfl | (simp; done) | (simp only [← hji4] <;> (first | rfl | simp)) | (simp [*]; done), by repeat (first | exact Drawn0.refl _ | apply Drawn0.step)⟩
     · rw [if_neg c5] at H
       exact absurd H (by simp)
   · rw [if_neg c3] at H
     have c3b0 : decide ((wrap64 (x5_1 + 1)) < (l0.length : Int)) = false := decide_eq_false c3
     clear c3
     obtain rfl := Option.some.inj H
     go_wp2
     go_ret
     exact ⟨by first | rfl | (simp; done) | (simp [*]; done), by repeat (first | exact Drawn0.refl _ | apply Drawn0.step)⟩
end Go.Proofs.Ytomlfbmfdoallaa.PA

namespace Go.Proofs.Ytomlfbmfdoallaa.PA
open Go.RowKit Go.Proofs.YtomlfbmfdoallaaW.PrintWords Go.Proofs.YtomlfbmfdoallaaW.PrintLast Go.Proofs.YtomlfbmfdoallaaW.PrintMore
attribute [local go_sem] max2_int min2_int max_two min_two max_three min_three max_four min_four
set_option linter.unusedVariables false
set_option linter.unusedSimpArgs false
def continuoref30_Rounded.f (a0 : Int) (a1 : Int) : Option (Int) := if a0 < 0 then (if (wrap64 (2 * a1)) = 0 then (none) else (some (wrap64 (-(wrap64 (Int.tdiv (wrap64 ((wrap64 ((wrap64 (-a0)) * 2)) + a1)) (wrap64 (2 * a1)))))))) else (if (wrap64 (2 * a1)) = 0 then (none) else (some (wrap64 (Int.tdiv (wrap64 ((wrap64 (a0 * 2)) + a1)) (wrap64 (2 * a1))))))
set_option maxHeartbeats 8000000 in
set_option maxRecDepth 100000 in
theorem continuoref30_Rounded.calls (a0 : Int) (a1 : Int) (r : Int) (w : World) (h : continuoref30_Rounded.f a0 a1 = some r) :
 Calls Try.prog 45 #[.int .i64 a0, .int .i64 a1] w fun e w' => e = .returned (.int .i64 r) ∧ Drawn0 w w' := by
 have H : (if a0 < 0 then (if (wrap64 (2 * a1)) = 0 then (none) else (some (wrap64 (-(wrap64 (Int.tdiv (wrap64 ((wrap64 ((wrap64 (-a0)) * 2)) + a1)) (wrap64 (2 * a1)))))))) else (if (wrap64 (2 * a1)) = 0 then (none) else (some (wrap64 (Int.tdiv (wrap64 ((wrap64 (a0 * 2)) + a1)) (wrap64 (2 * a1))))))) = some r := h
 clear h
 by_cases c3 : a0 < 0
 · rw [if_pos c3] at H
   have c3b0 : decide (a0 < 0) = true := decide_eq_true c3
   clear c3
   by_cases c4 : (wrap64 (2 * a1)) = 0
   · rw [if_pos c4] at H
     exact absurd H (by simp)
   · rw [if_neg c4] at H
     have c4b0 : ((wrap64 (2 * a1)) == 0) = false := beq_eq_false_iff_ne.mpr c4
     have c4b1 : ((wrap64 (2 * a1)) != 0) = true := bne_iff_ne.mpr c4
     obtain rfl := Option.some.inj H
     go_enter Try.func45, Try.ntmps45
     go_wp2
     go_ret
     exact ⟨by first | rfl | (simp; done) | (simp [*]; done), by repeat (first | exact Drawn0.refl _ | apply Drawn0.step)⟩
 · rw [if_neg c3] at H
   have c3b0 : decide (a0 < 0) = false := decide_eq_false c3
   clear c3
   by_cases c5 : (wrap64 (2 * a1)) = 0
   · rw [if_pos c5] at H
     exact absurd H (by simp)
   · rw [if_neg c5] at H
     have c5b0 : ((wrap64 (2 * a1)) == 0) = false := beq_eq_false_iff_ne.mpr c5
     have c5b1 : ((wrap64 (2 * a1)) != 0) = true := bne_iff_ne.mpr c5
     obtain rfl := Option.some.inj H
     go_enter Try.func45, Try.ntmps45
     go_wp2
     go_ret
     exact ⟨by first | rfl | (simp; done) | (simp [*]; done), by repeat (first | exact Drawn0.refl _ | apply Drawn0.step)⟩
end Go.Proofs.Ytomlfbmfdoallaa.PA
