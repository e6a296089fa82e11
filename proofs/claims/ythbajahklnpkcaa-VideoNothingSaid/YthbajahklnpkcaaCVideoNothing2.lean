/- VideoNothing -/
import Derived.Test.YthbajahklnpkcaaCVideoNothing1
import Derived.Deep.RegionHeld3
import Derived.Lib.LazyBuf
import Derived.BigQuiet
import Derived.Test.YthbajahklnpkcaaRows
import Derived.WalkKit
import Derived.ProofKit
import Derived.OpenShut
import Derived.ShutString
import Derived.ChangeOld
import Derived.Below
import Derived.SizedLaws
import Derived.Lib.SmallJoins
import Derived.ChangeSlices
namespace Go.Proofs.Ythbajahklnpkcaa.PA
open Go.RowKit Go.Proofs.YthbajahklnpkcaaW.PrintWords Go.Proofs.YthbajahklnpkcaaW.PrintLast Go.Proofs.YthbajahklnpkcaaW.PrintMore
attribute [local go_sem] max2_int min2_int max_two min_two max_three min_three max_four min_four
set_option linter.unusedVariables false
set_option linter.unusedSimpArgs false
def video_plane_at.f (a0_0 : Int) (a0_1 : Int) (a0_2 : Int) (a0_3 : Int) (a1 : Int) (a2 : Int) (a3 : Int) : Option (Int) := if a1 = 0 then (some (wrap64 ((wrap64 ((wrap64 (a3 * a0_0)) + a2)) * a0_2))) else (some (wrap64 ((wrap64 ((wrap64 ((wrap64 ((wrap64 ((wrap64 ((wrap64 ((wrap64 (Int.tdiv a3 4)) * (wrap64 (Int.tdiv (wrap64 ((wrap64 (a0_0 + 4)) - 1)) 4)))) + (wrap64 (Int.tdiv a2 4)))) * 4)) * 4)) + (wrap64 ((Int.tmod a3 4) * 4)))) + (Int.tmod a2 4))) * a0_2)))
set_option maxHeartbeats 8000000 in
set_option maxRecDepth 100000 in
theorem video_plane_at.calls (a0_0 : Int) (a0_1 : Int) (a0_2 : Int) (a0_3 : Int) (a1 : Int) (a2 : Int) (a3 : Int) (r : Int) (w : World) (h : video_plane_at.f a0_0 a0_1 a0_2 a0_3 a1 a2 a3 = some r) :
 Calls Try.prog 133 #[.agg #[.int .i64 a0_0, .int .i64 a0_1, .int .i64 a0_2, .int .i64 a0_3], .int .i64 a1, .int .i64 a2, .int .i64 a3] w fun e w' => e = .returned (.int .i64 r) ∧ Below w.heap.size w w' := by
 have hu154 := Try.underlying154
 have HB := Aside0.mk (Below.refl w.heap.size w)
 have H : (if a1 = 0 then (some (wrap64 ((wrap64 ((wrap64 (a3 * a0_0)) + a2)) * a0_2))) else (some (wrap64 ((wrap64 ((wrap64 ((wrap64 ((wrap64 ((wrap64 ((wrap64 ((wrap64 (Int.tdiv a3 4)) * (wrap64 (Int.tdiv (wrap64 ((wrap64 (a0_0 + 4)) - 1)) 4)))) + (wrap64 (Int.tdiv a2 4)))) * 4)) * 4)) + (wrap64 ((Int.tmod a3 4) * 4)))) + (Int.tmod a2 4))) * a0_2)))) = some r := h
 clear h
 by_cases c5 : a1 = 0
 · rw [if_pos c5] at H
   have c5b0 : (a1 == 0) = true := beq_iff_eq.mpr c5
   have c5b1 : (a1 != 0) = false := bne_eq_false_iff_eq.mpr c5
   clear c5
   obtain rfl := Option.some.inj H
   go_enter Try.func133, Try.ntmps133
   go_wp2_with (first | ((with_reducible refine gate_dst (N := 4) rfl ?_); refine box_event ?hg (N := 4) ?hd (cs := #[.int .i64 a0_0, .int .i64 a0_1, .int .i64 a0_2, .int .i64 a0_3]) (t := 154) ?hr ?_; (case hd => rfl); (case hg => rfl); (case hr => first | (go_simp; done) | (go_simp; rfl)); intro gb241 hg w6 hbox hb; have n0_ := Aside0.mk (below_step (by repeat (first | (with_reducible first | exact HB.out | apply below_alloc | apply pw_below_drewN | apply below_drew1) | exact HB.out)) hb); have n1_ := Aside0.mk (hbox); have n2_ := Aside0.mk ((by rw [hg]; exact (below_size (by repeat (first | (with_reducible first | exact HB.out | apply below_alloc | apply pw_below_drewN | apply below_drew1) | exact HB.out))) : w.heap.size ≤ gb241)); have n3_ := Aside0.mk ((by rw [hg]; exact (below_size (by repeat (first | (with_reducible first | exact HB.out | apply below_alloc | apply pw_below_drewN | apply below_drew1) | exact HB.out))) : w.heap.size ≤ gb241)); clear HB; have HB := n0_; have BK241 := n1_; have GW241 := n2_; have GE241 := n3_; clear n0_ n1_ n2_ n3_; clear hb hbox hg; have hcz7_0 : w6.cell? ⟨gb241, 0, none⟩ = some (.int .i64 a0_0) := (blk_cell BK241.out 0).trans rfl; have hcz7_1 : w6.cell? ⟨gb241, 1, none⟩ = some (.int .i64 a0_1) := (blk_cell BK241.out 1).trans rfl; have hcz7_2 : w6.cell? ⟨gb241, 2, none⟩ = some (.int .i64 a0_2) := (blk_cell BK241.out 2).trans rfl; have hcz7_3 : w6.cell? ⟨gb241, 3, none⟩ = some (.int .i64 a0_3) := (blk_cell BK241.out 3).trans rfl; have hfz7_0 := blk_frozen BK241.out 0; have hfz7_1 := blk_frozen BK241.out 1; have hfz7_2 := blk_frozen BK241.out 2; have hfz7_3 := blk_frozen BK241.out 3))
   go_ret
   exact ⟨by first | rfl | (simp [errW_none, errW_some] <;> rfl) | (simp [*, errW_none, errW_some] <;> rfl), by repeat (first | (with_reducible first | exact HB.out | apply below_alloc | apply pw_below_drewN | apply below_drew1 | refine below_set ?_ GE241.out) | exact HB.out)⟩
 · rw [if_neg c5] at H
   have c5b0 : (a1 == 0) = false := beq_eq_false_iff_ne.mpr c5
   have c5b1 : (a1 != 0) = true := bne_iff_ne.mpr c5
   obtain rfl := Option.some.inj H
   go_enter Try.func133, Try.ntmps133
   go_wp2_with (first | ((with_reducible refine gate_dst (N := 4) rfl ?_); refine box_event ?hg (N := 4) ?hd (cs := #[.int .i64 a0_0, .int .i64 a0_1, .int .i64 a0_2, .int .i64 a0_3]) (t := 154) ?hr ?_; (case hd => rfl); (case hg => rfl); (case hr => first | (go_simp; done) | (go_simp; rfl)); intro gb241 hg w8 hbox hb; have n0_ := Aside0.mk (below_step (by repeat (first | (with_reducible first | exact HB.out | apply below_alloc | apply pw_below_drewN | apply below_drew1) | exact HB.out)) hb); have n1_ := Aside0.mk (hbox); have n2_ := Aside0.mk ((by rw [hg]; exact (below_size (by repeat (first | (with_reducible first | exact HB.out | apply below_alloc | apply pw_below_drewN | apply below_drew1) | exact HB.out))) : w.heap.size ≤ gb241)); have n3_ := Aside0.mk ((by rw [hg]; exact (below_size (by repeat (first | (with_reducible first | exact HB.out | apply below_alloc | apply pw_below_drewN | apply below_drew1) | exact HB.out))) : w.heap.size ≤ gb241)); clear HB; have HB := n0_; have BK241 := n1_; have GW241 := n2_; have GE241 := n3_; clear n0_ n1_ n2_ n3_; clear hb hbox hg; have hcz9_0 : w8.cell? ⟨gb241, 0, none⟩ = some (.int .i64 a0_0) := (blk_cell BK241.out 0).trans rfl; have hcz9_1 : w8.cell? ⟨gb241, 1, none⟩ = some (.int .i64 a0_1) := (blk_cell BK241.out 1).trans rfl; have hcz9_2 : w8.cell? ⟨gb241, 2, none⟩ = some (.int .i64 a0_2) := (blk_cell BK241.out 2).trans rfl; have hcz9_3 : w8.cell? ⟨gb241, 3, none⟩ = some (.int .i64 a0_3) := (blk_cell BK241.out 3).trans rfl; have hfz9_0 := blk_frozen BK241.out 0; have hfz9_1 := blk_frozen BK241.out 1; have hfz9_2 := blk_frozen BK241.out 2; have hfz9_3 := blk_frozen BK241.out 3))
   go_ret
   exact ⟨by first | rfl | (simp [errW_none, errW_some] <;> rfl) | (simp [*, errW_none, errW_some] <;> rfl), by repeat (first | (with_reducible first | exact HB.out | apply below_alloc | apply pw_below_drewN | apply below_drew1 | refine below_set ?_ GE241.out) | exact HB.out)⟩
end Go.Proofs.Ythbajahklnpkcaa.PA

namespace Go.Proofs.Ythbajahklnpkcaa.PA
open Go.RowKit Go.Shelf Go.Proofs.YthbajahklnpkcaaW.PrintWords Go.Proofs.YthbajahklnpkcaaW.PrintLast Go.Proofs.YthbajahklnpkcaaW.PrintMore
set_option linter.unusedVariables false
set_option linter.unusedSimpArgs false
def packN (n : Int) : Int := if n = 1 then 1 else if n = 2 then 3 else 4
theorem idx1 (w : World) : (Instr.index 170 (.agg #[.nilIface, .iface 167 (.agg #[.int .i64 1]), .iface 167 (.agg #[.int .i64 3]), .iface 167 (.agg #[.int .i64 4]), .iface 169 (.agg #[])]) (.int .i64 1)).run Try.prog w = .ok (.iface 167 (.agg #[.int .i64 1])) w := by kernel_rfl
theorem idx2 (w : World) : (Instr.index 170 (.agg #[.nilIface, .iface 167 (.agg #[.int .i64 1]), .iface 167 (.agg #[.int .i64 3]), .iface 167 (.agg #[.int .i64 4]), .iface 169 (.agg #[])]) (.int .i64 2)).run Try.prog w = .ok (.iface 167 (.agg #[.int .i64 3])) w := by kernel_rfl
theorem idx3 (w : World) : (Instr.index 170 (.agg #[.nilIface, .iface 167 (.agg #[.int .i64 1]), .iface 167 (.agg #[.int .i64 3]), .iface 167 (.agg #[.int .i64 4]), .iface 169 (.agg #[])]) (.int .i64 3)).run Try.prog w = .ok (.iface 167 (.agg #[.int .i64 4])) w := by kernel_rfl
set_option maxRecDepth 100000 in
theorem of_calls (n : Int) (h1 : 1 ≤ n) (h3 : n ≤ 3) (w : World) : Calls Try.prog 131 #[.int .i64 n] w fun e w' => e = .returned (.iface 167 (.agg #[.int .i64 (packN n)])) ∧ w' = w := by
 rcases (show n = 1 ∨ n = 2 ∨ n = 3 by omega) with rfl | rfl | rfl
 · have hid := idx1 w
   go_enter Try.func131, Try.ntmps131
   go_wp2
   go_ret
   exact ⟨rfl, rfl⟩
 · have hid := idx2 w
   go_enter Try.func131, Try.ntmps131
   go_wp2
   go_ret
   exact ⟨rfl, rfl⟩
 · have hid := idx3 w
   go_enter Try.func131, Try.ntmps131
   go_wp2
   go_ret
   exact ⟨rfl, rfl⟩
set_option maxRecDepth 100000 in
theorem planes_calls (b x y : Int) (w : World) : Calls Try.prog 179 #[.agg #[.int .i64 b], .int .i64 x, .int .i64 y] w fun e w' => e = .returned (.slice (some ⟨w.heap.size + 1, 0, none⟩) 1 1) ∧ Blk w' (w.heap.size + 1) #[.int .i64 x, .int .i64 y, .int .i64 b, .int .i64 1] 154 ∧ Below w.heap.size w w' ∧ w'.heap.size = w.heap.size + 2 := by
 have HB := Blk.new w #[.int .i64 b] 167
 have g0 := HB.cell 0 (v := .int .i64 b) rfl
 go_enter Try.func179, Try.ntmps179
 go_wp2
 go_ret
 refine ⟨rfl, ?_, ((Below.refl _ w).alloc (Nat.le_refl _) _).alloc (by simp) _, by simp⟩
 have := Blk.new (w.alloc (.cells #[.int .i64 b] 167)) #[.int .i64 x, .int .i64 y, .int .i64 b, .int .i64 1] 154
 rw [World.size_alloc] at this
 exact this
def szP (m w h b : Int) : Int := if m = 0 then w * h * b else (w + 3) / 4 * ((h + 3) / 4) * 4 * 4 * b
theorem mul_bd {a b : Int} {A B : Int} (h1 : 0 ≤ a) (h2 : a ≤ A) (h3 : 0 ≤ b) (h4 : b ≤ B) : 0 ≤ a * b ∧ a * b ≤ A * B := ⟨Int.mul_nonneg h1 h3, Int.mul_le_mul h2 h4 h3 (Int.le_trans h1 h2)⟩
theorem szP_eq (m w h b : Int) (hw0 : 0 ≤ w) (hw1 : w ≤ 64) (hh0 : 0 ≤ h) (hh1 : h ≤ 64) (hb0 : 0 ≤ b) (hb1 : b ≤ 4) : video_plane_size.f w h b 1 m = some (szP m w h b) ∧ 0 ≤ szP m w h b ∧ szP m w h b ≤ 16384 := by
 unfold video_plane_size.f szP
 split
 · obtain ⟨a1, a2⟩ := mul_bd hw0 hw1 hh0 hh1
   obtain ⟨a3, a4⟩ := mul_bd a1 a2 hb0 hb1
   rw [w64 (x := w * h) (by omega) (by omega), w64 (x := w * h * b) (by omega) (by omega)]
   exact ⟨rfl, a3, by omega⟩
 · rw [w64 (x := w + 4) (by omega) (by omega), w64 (x := w + 4 - 1) (by omega) (by omega), w64 (x := h + 4) (by omega) (by omega), w64 (x := h + 4 - 1) (by omega) (by omega)]
   rw [Int.tdiv_eq_ediv_of_nonneg (show 0 ≤ w + 4 - 1 by omega), Int.tdiv_eq_ediv_of_nonneg (show 0 ≤ h + 4 - 1 by omega)]
   rw [show w + 4 - 1 = w + 3 by omega, show h + 4 - 1 = h + 3 by omega]
   obtain ⟨a1, a2⟩ := mul_bd (a := (w + 3) / 4) (A := 16) (by omega) (by omega) (b := (h + 3) / 4) (B := 16) (by omega) (by omega)
   rw [w64 (x := (w + 3) / 4) (by omega) (by omega), w64 (x := (h + 3) / 4) (by omega) (by omega)]
   generalize (w + 3) / 4 * ((h + 3) / 4) = q at a1 a2 ⊢
   rw [w64 (x := q) (by omega) (by omega), w64 (x := q * 4) (by omega) (by omega), w64 (x := q * 4 * 4) (by omega) (by omega)]
   obtain ⟨a3, a4⟩ := mul_bd (a := q * 4 * 4) (A := 4096) (by omega) (by omega) hb0 hb1
   rw [w64 (x := q * 4 * 4 * b) (by omega) (by omega)]
   exact ⟨rfl, a3, by omega⟩
theorem method_packed : ∀ (b : Int) w, (method 311 167 (.agg #[.int .i64 b]) "continuo/video.planes").run Try.prog w = .ok (179, .agg #[.int .i64 b]) w := fun _ _ => by kernel_rfl
def video_size.f (a0 a1 a2 a3 : Int) : Option Int := if 1 ≤ a0 ∧ a0 ≤ 3 ∧ 0 ≤ a2 ∧ a2 ≤ 64 ∧ 0 ≤ a3 ∧ a3 ≤ 64 then some (szP a1 a2 a3 (packN a0)) else none
set_option maxRecDepth 100000 in
set_option maxHeartbeats 4000000 in
theorem video_size.calls (a0 a1 a2 a3 : Int) (r : Int) (w : World) (h : video_size.f a0 a1 a2 a3 = some r) :
 Calls Try.prog 84 #[.int .i64 a0, .int .i64 a1, .int .i64 a2, .int .i64 a3] w fun e w' => e = .returned (.int .i64 r) ∧ Below w.heap.size w w' := by
 unfold video_size.f at h
 split at h
 · rename_i hg
   obtain ⟨g1, g2, g3, g4, g5, g6⟩ := hg
   obtain rfl := Option.some.inj h
   clear h
   have hp : 0 ≤ packN a0 ∧ packN a0 ≤ 4 := by unfold packN; split <;> (try split) <;> omega
   obtain ⟨hs, s0, s1⟩ := szP_eq a1 a2 a3 (packN a0) g3 g4 g5 g6 hp.1 hp.2
   have HO := Aside0.mk (of_calls a0 g1 g2 w)
   have hmp := method_packed (packN a0)
   generalize packN a0 = b at hs HO hmp s0 s1 ⊢
   have HPl := Aside0.mk (planes_calls b a2 a3 w)
   have HSz := fun w' => Aside0.mk (video_plane_size.calls a2 a3 b 1 a1 _ w' hs)
   generalize szP a1 a2 a3 b = z at HSz s0 s1 ⊢
   clear hs hp
   have hz : wrap64 (0 + z) = z := by rw [Int.zero_add]; exact w64 (by omega) (by omega)
   go_enter Try.func84, Try.ntmps84
   go_wp2_with (first | (go_at_call 131; refine HO.out.mono ?_; rintro e w1 ⟨rfl, rfl⟩) | (go_at_call 179; refine HPl.out.mono ?_; rintro e w2 ⟨rfl, hk2, hb2, hs2⟩))
   have HK2 := Aside0.mk hk2
   have HB2 := Aside0.mk hb2
   clear hk2 hb2
   go_loopw [9, 11, 18] (fun s9 s11 s18 wr => ∃ i : Nat, i ≤ 1 ∧ s18 = .int .i64 i ∧ s9 = .int .i64 (if i = 0 then 0 else z) ∧ Aside0 (Below w2.heap.size w2 wr))
    (fun s9 s11 s18 wr => 1 - (match s18 with | .int _ x => x.toNat | _ => 0))
   case atStart => exact ⟨0, by omega, rfl, rfl, ⟨Below.refl _ _⟩⟩
   case round =>
    obtain ⟨i, hi, rfl, rfl, HB⟩ := hrel
    rcases (show i = 0 ∨ i = 1 by omega) with rfl | rfl
    · have hk := HK2.out.below_ HB.out
      have c0 := hk.cell 0 (v := .int .i64 a2) rfl
      have c1 := hk.cell 1 (v := .int .i64 a3) rfl
      have c2 := hk.cell 2 (v := .int .i64 b) rfl
      have c3 := hk.cell 3 (v := .int .i64 1) rfl
      have hx := Blk.new wr #[.int .i64 a2, .int .i64 a3, .int .i64 b, .int .i64 1] 154
      have d0 := hx.cell 0 (v := .int .i64 a2) rfl
      have d1 := hx.cell 1 (v := .int .i64 a3) rfl
      have d2 := hx.cell 2 (v := .int .i64 b) rfl
      have d3 := hx.cell 3 (v := .int .i64 1) rfl
      go_wp2_with (first | (go_at_call 132; refine (HSz _).out.mono ?_; rintro e w4 ⟨rfl, hb4⟩))
      go_roundw
      case rel => exact ⟨1, by omega, by go_num, by first | rfl | simp, ⟨(HB.out.alloc HB.out.size _).trans (hb4.mono (by have := HB.out.size; simp; omega))⟩⟩
      case measure => simp
    · go_wp2
      go_ret
      exact ⟨by first | rfl | simp, HB2.out.trans (HB.out.mono HB2.out.size)⟩
 · cases h
end Go.Proofs.Ythbajahklnpkcaa.PA

namespace Go.Proofs.Ythbajahklnpkcaa.PA
open Go.RowKit Go.Shelf Go.Proofs.YthbajahklnpkcaaW.PrintWords Go.Proofs.YthbajahklnpkcaaW.PrintLast Go.Proofs.YthbajahklnpkcaaW.PrintMore
set_option linter.unusedVariables false
set_option linter.unusedSimpArgs false
theorem mk16 (W : World) : (Instr.makeSlice 103 (.int .i64 16) (.int .i64 16)).run Try.prog W = .ok (.slice (some ⟨W.heap.size, 0, none⟩) 16 16) (W.alloc (.cells #[.int .u8 0, .int .u8 0, .int .u8 0, .int .u8 0, .int .u8 0, .int .u8 0, .int .u8 0, .int .u8 0, .int .u8 0, .int .u8 0, .int .u8 0, .int .u8 0, .int .u8 0, .int .u8 0, .int .u8 0, .int .u8 0] 5)) := by kernel_rfl
theorem size5 (w : World) : (Go.sizeOf 5).run Try.prog w = .ok 1 w := by kernel_rfl
def iOf : Value → Int
 | .int _ x => x
 | _ => 0
def outK : Nat → Array Value
 | 0 => #[.int .u8 0, .int .u8 0, .int .u8 0, .int .u8 0, .int .u8 0, .int .u8 0, .int .u8 0, .int .u8 0, .int .u8 0, .int .u8 0, .int .u8 0, .int .u8 0, .int .u8 0, .int .u8 0, .int .u8 0, .int .u8 0]
 | 1 => #[.int .u8 97, .int .u8 0, .int .u8 0, .int .u8 0, .int .u8 0, .int .u8 0, .int .u8 0, .int .u8 0, .int .u8 0, .int .u8 0, .int .u8 0, .int .u8 0, .int .u8 0, .int .u8 0, .int .u8 0, .int .u8 0]
 | 2 => #[.int .u8 97, .int .u8 98, .int .u8 0, .int .u8 0, .int .u8 0, .int .u8 0, .int .u8 0, .int .u8 0, .int .u8 0, .int .u8 0, .int .u8 0, .int .u8 0, .int .u8 0, .int .u8 0, .int .u8 0, .int .u8 0]
 | 3 => #[.int .u8 97, .int .u8 98, .int .u8 0, .int .u8 0, .int .u8 99, .int .u8 0, .int .u8 0, .int .u8 0, .int .u8 0, .int .u8 0, .int .u8 0, .int .u8 0, .int .u8 0, .int .u8 0, .int .u8 0, .int .u8 0]
 | _ => #[.int .u8 97, .int .u8 98, .int .u8 0, .int .u8 0, .int .u8 99, .int .u8 100, .int .u8 0, .int .u8 0, .int .u8 0, .int .u8 0, .int .u8 0, .int .u8 0, .int .u8 0, .int .u8 0, .int .u8 0, .int .u8 0]
structure TS (n0 ob pb : Nat) (w : World) (k : Nat) (W : World) : Prop where
 p : Blk W n0 #[.int .i64 1, .int .i64 0, .int .i64 2, .int .i64 2, .string ⟨#[97, 98, 99, 100]⟩] 49
 r : Blk W (n0 + 1) #[.int .i64 0, .int .i64 0, .int .i64 0, .int .i64 0, .string ⟨#[]⟩] 49
 o : Blk W ob (outK k) 5
 q : Blk W pb #[.int .i64 2, .int .i64 2, .int .i64 1, .int .i64 1] 154
 b : Below w.heap.size w W
theorem TS.bel {n0 ob pb k : Nat} {w W W' : World} (h : TS n0 ob pb w k W) (hb : Below W.heap.size W W') : TS n0 ob pb w k W' :=
 ⟨h.p.below_ hb, h.r.below_ hb, h.o.below_ hb, h.q.below_ hb, h.b.trans (hb.mono h.b.size)⟩
theorem TS.put {n0 ob pb k k' pos : Nat} {w W : World} {v : Value} (h : TS n0 ob pb w k W) (h1 : n0 + 1 < ob) (h2 : ob < pb) (h3 : w.heap.size ≤ ob) (e : (outK k).setIfInBounds pos v = outK k') : TS n0 ob pb w k' (W.setCell ⟨ob, pos, none⟩ v) :=
 ⟨h.p.other (a := ⟨ob, pos, none⟩) v (by show n0 ≠ ob; omega), h.r.other (a := ⟨ob, pos, none⟩) v (by show n0 + 1 ≠ ob; omega), e ▸ h.o.set pos v, h.q.other (a := ⟨ob, pos, none⟩) v (by show pb ≠ ob; omega), h.b.setCell (p := ⟨ob, pos, none⟩) h3 _⟩
set_option maxRecDepth 100000 in
set_option maxHeartbeats 8000000 in
theorem turned_awake (w : World) : Calls Try.prog 87 #[.agg #[.int .i64 1, .int .i64 0, .int .i64 2, .int .i64 2, .string ⟨#[97, 98, 99, 100]⟩], .int .i64 1] w fun e w' => e = .returned (.agg #[.int .i64 1, .int .i64 1, .int .i64 2, .int .i64 2, .string ⟨#[97, 98, 0, 0, 99, 100, 0, 0, 0, 0, 0, 0, 0, 0, 0, 0]⟩]) ∧ Below w.heap.size w w' := by
 have HB := Blk.new w #[.int .i64 1, .int .i64 0, .int .i64 2, .int .i64 2, .string ⟨#[97, 98, 99, 100]⟩] 49
 have HZ := fun w' => Aside0.mk (video_size.calls 1 1 2 2 16 w' (by decide))
 have b0 := (HB.alloc (.cells #[.int .i64 0, .int .i64 0, .int .i64 0, .int .i64 0, .string ⟨#[]⟩] 49)).cell 0 (v := .int .i64 1) rfl
 have b1 := (HB.alloc (.cells #[.int .i64 0, .int .i64 0, .int .i64 0, .int .i64 0, .string ⟨#[]⟩] 49)).cell 1 (v := .int .i64 0) rfl
 have b2 := (HB.alloc (.cells #[.int .i64 0, .int .i64 0, .int .i64 0, .int .i64 0, .string ⟨#[]⟩] 49)).cell 2 (v := .int .i64 2) rfl
 have b3 := (HB.alloc (.cells #[.int .i64 0, .int .i64 0, .int .i64 0, .int .i64 0, .string ⟨#[]⟩] 49)).cell 3 (v := .int .i64 2) rfl
 have hmk := mk16
 go_enter Try.func87, Try.ntmps87
 go_wp2_with (first | (go_at_call 84; refine (HZ _).out.mono ?_; rintro e w1 ⟨rfl, hb1⟩))
 have HP1 := (HB.alloc (.cells #[.int .i64 0, .int .i64 0, .int .i64 0, .int .i64 0, .string ⟨#[]⟩] 49)).below_ hb1
 have HR1 := (Blk.new (w.alloc (.cells #[.int .i64 1, .int .i64 0, .int .i64 2, .int .i64 2, .string ⟨#[97, 98, 99, 100]⟩] 49)) #[.int .i64 0, .int .i64 0, .int .i64 0, .int .i64 0, .string ⟨#[]⟩] 49).below_ hb1
 rw [World.size_alloc] at HR1
 have hB1 : Below w.heap.size w w1 := ((((Below.refl _ w).alloc (Nat.le_refl _) _).alloc (by simp) _)).trans (hb1.mono (by simp; omega))
 have hs1 : w.heap.size + 2 ≤ w1.heap.size := by have := hb1.size; simpa using this
 obtain ⟨w2, hw2⟩ : ∃ w2, w1.alloc (.cells #[.int .u8 0, .int .u8 0, .int .u8 0, .int .u8 0, .int .u8 0, .int .u8 0, .int .u8 0, .int .u8 0, .int .u8 0, .int .u8 0, .int .u8 0, .int .u8 0, .int .u8 0, .int .u8 0, .int .u8 0, .int .u8 0] 5) = w2 := ⟨_, rfl⟩
 obtain ⟨ob, hob⟩ : ∃ ob, w1.heap.size = ob := ⟨_, rfl⟩
 have HP2 := HP1.alloc (.cells #[.int .u8 0, .int .u8 0, .int .u8 0, .int .u8 0, .int .u8 0, .int .u8 0, .int .u8 0, .int .u8 0, .int .u8 0, .int .u8 0, .int .u8 0, .int .u8 0, .int .u8 0, .int .u8 0, .int .u8 0, .int .u8 0] 5)
 have HR2 := HR1.alloc (.cells #[.int .u8 0, .int .u8 0, .int .u8 0, .int .u8 0, .int .u8 0, .int .u8 0, .int .u8 0, .int .u8 0, .int .u8 0, .int .u8 0, .int .u8 0, .int .u8 0, .int .u8 0, .int .u8 0, .int .u8 0, .int .u8 0] 5)
 have HO2 : Blk (w1.alloc (.cells #[.int .u8 0, .int .u8 0, .int .u8 0, .int .u8 0, .int .u8 0, .int .u8 0, .int .u8 0, .int .u8 0, .int .u8 0, .int .u8 0, .int .u8 0, .int .u8 0, .int .u8 0, .int .u8 0, .int .u8 0, .int .u8 0] 5)) w1.heap.size (outK 0) 5 := Blk.new w1 _ 5
 have HB2 := hB1.alloc hB1.size (.cells #[.int .u8 0, .int .u8 0, .int .u8 0, .int .u8 0, .int .u8 0, .int .u8 0, .int .u8 0, .int .u8 0, .int .u8 0, .int .u8 0, .int .u8 0, .int .u8 0, .int .u8 0, .int .u8 0, .int .u8 0, .int .u8 0] 5)
 have hs2 : ob < w2.heap.size := by rw [← hw2, ← hob]; simp
 rw [hw2, hob]
 rw [hw2] at HP2 HR2 HO2 HB2
 rw [hob] at HO2 hs1
 have hno : w.heap.size + 1 < ob := by omega
 clear hw2 hob HP1 HR1 hB1 hb1 b0 b1 b2 b3 HB HZ hmk
 have b0 := HP2.cell 0 (v := .int .i64 1) rfl
 have b2 := HP2.cell 2 (v := .int .i64 2) rfl
 have b3 := HP2.cell 3 (v := .int .i64 2) rfl
 have HP := Aside0.mk HP2
 have HR := Aside0.mk HR2
 have HO := Aside0.mk HO2
 have HBw := Aside0.mk HB2
 clear HP2 HR2 HO2 HB2
 have HOF := fun w' => Aside0.mk (of_calls 1 (by decide) (by decide) w')
 rw [show packN 1 = 1 from rfl] at HOF
 have hmp := method_packed 1
 have HPL := fun w' => Aside0.mk (planes_calls 1 2 2 w')
 go_region_held3 (fun W' => W'.cell? ⟨w.heap.size, 0, none⟩ = some (.int .i64 1) ∧ W'.cell? ⟨w.heap.size, 2, none⟩ = some (.int .i64 2) ∧ W'.cell? ⟨w.heap.size, 3, none⟩ = some (.int .i64 2))
  (first | exact ⟨b0, b2, b3⟩ | exact ⟨(hb3.cell (p := ⟨w.heap.size, 0, none⟩) hP0).trans b0, (hb3.cell (p := ⟨w.heap.size, 2, none⟩) hP0).trans b2, (hb3.cell (p := ⟨w.heap.size, 3, none⟩) hP0).trans b3⟩)
  (first
   | (go_at_call 131; refine (HOF _).out.mono ?_; rintro e w' ⟨rfl, rfl⟩)
   | (go_at_call 179; refine (HPL _).out.mono ?_; rintro e w' ⟨rfl, hk3, hb3, hs3⟩; have hP0 := HP.out.lt))
 have hb3 : Below w2.heap.size w2 w' := (below_drew1 (Below.refl _ w2)).trans hb3
 have HT := Aside0.mk (show TS w.heap.size ob (w2.heap.size + 1) w 0 w' from ⟨HP.out.below_ hb3, HR.out.below_ hb3, HO.out.below_ hb3, hk3, HBw.out.trans (hb3.mono HBw.out.size)⟩)
 obtain ⟨pb, hpb⟩ : ∃ pb, w2.heap.size + 1 = pb := ⟨_, rfl⟩
 rw [hpb] at HT ⊢
 have hobp : ob < pb := by omega
 clear hk3 hb3 hs3 hpb HP HR HO HBw HPL HOF hmp b0 b2 b3 hs2 hP0
 go_wp2
 go_loopw [6, 7, 9, 10, 11, 30] (fun s6 s7 s9 s10 s11 s30 wr => ∃ i : Int, 0 ≤ i ∧ i ≤ 1 ∧ s30 = .int .i64 i ∧ (∃ y, s6 = .int .i64 y) ∧ (∃ y, s7 = .int .i64 y) ∧ (i = 0 → s6 = .int .i64 0 ∧ s7 = .int .i64 0) ∧ Aside0 (TS w.heap.size ob pb w (4 * i.toNat) wr))
  (fun s6 s7 s9 s10 s11 s30 wr => 1 - (iOf s30).toNat)
 case atStart => exact ⟨0, by omega, by omega, rfl, ⟨_, rfl⟩, ⟨_, rfl⟩, fun _ => ⟨rfl, rfl⟩, HT⟩
 case round =>
  obtain ⟨i, hi0, hi, rfl, ⟨y6, rfl⟩, ⟨y7, rfl⟩, h67, HT1⟩ := hrel
  rcases (show i = 0 ∨ i = 1 by omega) with rfl | rfl
  · obtain ⟨h6, h7⟩ := h67 rfl
    cases h6
    cases h7
    clear h67
    obtain ⟨wo, hwo⟩ : ∃ wo, wo = wr := ⟨_, rfl⟩
    subst hwo
    have c0 := HT1.out.q.cell 0 (v := .int .i64 2) rfl
    have c1 := HT1.out.q.cell 1 (v := .int .i64 2) rfl
    have c2 := HT1.out.q.cell 2 (v := .int .i64 1) rfl
    have c3 := HT1.out.q.cell 3 (v := .int .i64 1) rfl
    have hx := Blk.new wo #[.int .i64 2, .int .i64 2, .int .i64 1, .int .i64 1] 154
    have d0 := hx.cell 0 (v := .int .i64 2) rfl
    have d1 := hx.cell 1 (v := .int .i64 2) rfl
    have HT2 : Aside0 (TS w.heap.size ob pb w 0 (wo.alloc (.cells #[.int .i64 2, .int .i64 2, .int .i64 1, .int .i64 1] 154))) := ⟨HT1.out.bel ((Below.refl _ _).alloc (Nat.le_refl _) _)⟩
    have HX := Aside0.mk hx
    have hbx : ob < wo.heap.size := HT1.out.o.lt
    obtain ⟨xb, hxb⟩ : ∃ xb, wo.heap.size = xb := ⟨_, rfl⟩
    rw [hxb] at hx HX hbx
    go_wp2
    clear c0 c1 c2 c3 d0 d1 hx hxb
    go_loopw [10, 11, 36] (fun s10 s11 s36 wr => ∃ y : Nat, y ≤ 2 ∧ s36 = .int .i64 y ∧ Aside0 (TS w.heap.size ob pb w (2 * y) wr) ∧ Aside0 (Blk wr xb #[.int .i64 2, .int .i64 2, .int .i64 1, .int .i64 1] 154))
     (fun s10 s11 s36 wr => 2 - (iOf s36).toNat)
    case atStart => exact ⟨0, by omega, rfl, HT2, HX⟩
    case round =>
     obtain ⟨y, hy, rfl, HT3, HX3⟩ := hrel
     have d0 := HX3.out.cell 0 (v := .int .i64 2) rfl
     have d1 := HX3.out.cell 1 (v := .int .i64 2) rfl
     rcases (show y < 2 ∨ y = 2 by omega) with hy2 | rfl
     · have hyz : (y : Int) < 2 := by omega
       go_wp2
       go_loopw [11, 41] (fun s11 s41 wr => ∃ x : Nat, x ≤ 2 ∧ s41 = .int .i64 x ∧ Aside0 (TS w.heap.size ob pb w (2 * y + x) wr) ∧ Aside0 (Blk wr xb #[.int .i64 2, .int .i64 2, .int .i64 1, .int .i64 1] 154))
        (fun s11 s41 wr => 2 - (iOf s41).toNat)
       case atStart => exact ⟨0, by omega, rfl, HT3, HX3⟩
       case round =>
        obtain ⟨x, hx, rfl, HT4, HX4⟩ := hrel
        rcases (show x < 2 ∨ x = 2 by omega) with hx2 | rfl
        · have hxz : (x : Int) < 2 := by omega
          have HS6 : ∀ W', Below wr.heap.size wr W' → W'.cell? ⟨xb, 0, none⟩ = some (.int .i64 2) ∧ W'.cell? ⟨xb, 1, none⟩ = some (.int .i64 2) ∧ W'.cell? ⟨xb, 2, none⟩ = some (.int .i64 1) ∧ W'.cell? ⟨xb, 3, none⟩ = some (.int .i64 1) ∧ W'.cell? ⟨w.heap.size, 1, none⟩ = some (.int .i64 0) ∧ W'.cell? ⟨w.heap.size, 4, none⟩ = some (.string ⟨#[97, 98, 99, 100]⟩) := by
           intro W' hb
           have hx := HX4.out.below_ hb
           have hp := (HT4.out.bel hb).p
           exact ⟨hx.cell 0 rfl, hx.cell 1 rfl, hx.cell 2 rfl, hx.cell 3 rfl, hp.cell 1 rfl, hp.cell 4 rfl⟩
          have HS7 : ∀ W' vv, Below wr.heap.size wr W' → ∀ o, (W'.setCell ⟨ob, o, none⟩ vv).cell? ⟨xb, 0, none⟩ = some (.int .i64 2) ∧ (W'.setCell ⟨ob, o, none⟩ vv).cell? ⟨xb, 1, none⟩ = some (.int .i64 2) ∧ (W'.setCell ⟨ob, o, none⟩ vv).cell? ⟨xb, 2, none⟩ = some (.int .i64 1) ∧ (W'.setCell ⟨ob, o, none⟩ vv).cell? ⟨xb, 3, none⟩ = some (.int .i64 1) ∧ (W'.setCell ⟨ob, o, none⟩ vv).cell? ⟨w.heap.size, 1, none⟩ = some (.int .i64 0) ∧ (W'.setCell ⟨ob, o, none⟩ vv).cell? ⟨w.heap.size, 4, none⟩ = some (.string ⟨#[97, 98, 99, 100]⟩) := by
           intro W' vv hb o
           have hn0 : w.heap.size ≠ ob := by omega
           have hnx : xb ≠ ob := by omega
           have hx := (HX4.out.below_ hb).other (a := ⟨ob, o, none⟩) vv hnx
           have hp := ((HT4.out.bel hb).p).other (a := ⟨ob, o, none⟩) vv hn0
           exact ⟨hx.cell 0 rfl, hx.cell 1 rfl, hx.cell 2 rfl, hx.cell 3 rfl, hp.cell 1 rfl, hp.cell 4 rfl⟩
          rcases (show x = 0 ∨ x = 1 by omega) with ex | ex <;> rcases (show y = 0 ∨ y = 1 by omega) with ey | ey
          · have HA1 : ∀ W', Below wr.heap.size wr W' → Aside0 (Calls Try.prog 133 #[.agg #[.int .i64 2, .int .i64 2, .int .i64 1, .int .i64 1], .int .i64 1, .int .i64 (x : Int), .int .i64 (y : Int)] W' fun e w' => e = .returned (.int .i64 0) ∧ Below wr.heap.size wr w') := by
             subst ex
             subst ey
             exact fun W' hb => ⟨(video_plane_at.calls 2 2 1 1 1 0 0 0 W' (by kernel_rfl)).mono (fun e w' (h : _ ∧ _) => And.intro h.1 (hb.trans (h.2.mono hb.size)))⟩
            have HA0 : ∀ W', Below wr.heap.size wr W' → Aside0 (Calls Try.prog 133 #[.agg #[.int .i64 2, .int .i64 2, .int .i64 1, .int .i64 1], .int .i64 0, .int .i64 (x : Int), .int .i64 (y : Int)] W' fun e w' => e = .returned (.int .i64 0) ∧ Below wr.heap.size wr w') := by
             subst ex
             subst ey
             exact fun W' hb => ⟨(video_plane_at.calls 2 2 1 1 0 0 0 0 W' (by kernel_rfl)).mono (fun e w' (h : _ ∧ _) => And.intro h.1 (hb.trans (h.2.mono hb.size)))⟩
            have HT4 : Aside0 (TS w.heap.size ob pb w 0 wr) := by
             subst ex
             subst ey
             exact ⟨HT4.out⟩
            have hx0 : Aside0 (x = 0) := ⟨ex⟩
            have hy0 : Aside0 (y = 0) := ⟨ey⟩
            clear ex ey
            have hwA : IntKind.i64.wrap 0 = 0 := by kernel_rfl
            have hwB : IntKind.i64.wrap 0 = 0 := by kernel_rfl
            have HCP : ∀ W', Below wr.heap.size wr W' → (Builtin.copy_ #[103, 9] 3 #[.slice (some ⟨ob, 0, none⟩) 16 16, .string (((ByteArray.mk #[97, 98, 99, 100]).extract 0 4).extract 0 1)]).run Try.prog W' = .ok (.int .i64 1) (W'.setCell ⟨ob, 0, none⟩ (.int .u8 97)) := by
             intro W' hb
             have ho := (HT4.out.bel hb).o
             have e : ((ByteArray.mk #[97, 98, 99, 100]).extract 0 4).extract 0 1 = ByteArray.mk #[97] := by kernel_rfl
             rw [e]
             have hc := ho.cell 0 (v := .int .u8 0) rfl
             have hj0 : ∀ j, j < (ByteArray.mk #[97]).size → j = 0 := fun j hj => Nat.lt_one_iff.mp hj
             refine run_copy_string W' 103 9 3 5 ob 0 16 16 (ByteArray.mk #[97]) Try.underlying103 size5 (by decide) ?_ (fun j hj => ho.frozen _)
             intro j hj
             obtain rfl := hj0 j hj
             show (W'.cell? ⟨ob, 0, none⟩).isSome = true
             rw [hc]
             rfl
            go_wp2
            go_region_held3 (fun W' => W'.cell? ⟨xb, 0, none⟩ = some (.int .i64 2) ∧ W'.cell? ⟨xb, 1, none⟩ = some (.int .i64 2) ∧ W'.cell? ⟨xb, 2, none⟩ = some (.int .i64 1) ∧ W'.cell? ⟨xb, 3, none⟩ = some (.int .i64 1) ∧ W'.cell? ⟨w.heap.size, 1, none⟩ = some (.int .i64 0) ∧ W'.cell? ⟨w.heap.size, 4, none⟩ = some (.string ⟨#[97, 98, 99, 100]⟩))
             (first | exact HS6 _ (below_drew1 (Below.refl _ _)) | exact HS6 _ h2b | exact HS6 _ h1b | exact HS7 _ _ h2b _ | exact HS7 _ _ h1b _)
             (first
              | (go_at_call 133; first
               | (with_reducible refine (HA1 _ ?hb).out.mono ?_; (case hb => first | exact h2b | exact below_drew1 (Below.refl _ _)); rintro e w' ⟨rfl, h1b⟩; have hcp := HCP w' h1b)
               | (with_reducible refine (HA0 _ ?hb).out.mono ?_; (case hb => first | exact h1b | exact below_drew1 (Below.refl _ _)); rintro e w' ⟨rfl, h2b⟩; have hcp := HCP w' h2b)))
            all_goals
             have hT5 : TS w.heap.size ob pb w 1 (w'.setCell ⟨ob, 0, none⟩ (.int .u8 97)) := (HT4.out.bel h2b).put hno hobp (by omega) (by rfl)
             have hX5 : Blk (w'.setCell ⟨ob, 0, none⟩ (.int .u8 97)) xb #[.int .i64 2, .int .i64 2, .int .i64 1, .int .i64 1] 154 := (HX4.out.below_ h2b).other (a := ⟨ob, 0, none⟩) _ (by show xb ≠ ob; omega)
             go_wp2
             go_roundw
             case rel => exact ⟨x + 1, by omega, by go_num, by (obtain ⟨h⟩ := hx0; obtain ⟨h'⟩ := hy0; subst h; subst h'; exact ⟨hT5⟩), ⟨hX5⟩⟩
             case measure => simp [iOf]; omega
          · have HA1 : ∀ W', Below wr.heap.size wr W' → Aside0 (Calls Try.prog 133 #[.agg #[.int .i64 2, .int .i64 2, .int .i64 1, .int .i64 1], .int .i64 1, .int .i64 (x : Int), .int .i64 (y : Int)] W' fun e w' => e = .returned (.int .i64 4) ∧ Below wr.heap.size wr w') := by
             subst ex
             subst ey
             exact fun W' hb => ⟨(video_plane_at.calls 2 2 1 1 1 0 1 4 W' (by kernel_rfl)).mono (fun e w' (h : _ ∧ _) => And.intro h.1 (hb.trans (h.2.mono hb.size)))⟩
            have HA0 : ∀ W', Below wr.heap.size wr W' → Aside0 (Calls Try.prog 133 #[.agg #[.int .i64 2, .int .i64 2, .int .i64 1, .int .i64 1], .int .i64 0, .int .i64 (x : Int), .int .i64 (y : Int)] W' fun e w' => e = .returned (.int .i64 2) ∧ Below wr.heap.size wr w') := by
             subst ex
             subst ey
             exact fun W' hb => ⟨(video_plane_at.calls 2 2 1 1 0 0 1 2 W' (by kernel_rfl)).mono (fun e w' (h : _ ∧ _) => And.intro h.1 (hb.trans (h.2.mono hb.size)))⟩
            have HT4 : Aside0 (TS w.heap.size ob pb w 2 wr) := by
             subst ex
             subst ey
             exact ⟨HT4.out⟩
            have hx0 : Aside0 (x = 0) := ⟨ex⟩
            have hy0 : Aside0 (y = 1) := ⟨ey⟩
            clear ex ey
            have hwA : IntKind.i64.wrap 4 = 4 := by kernel_rfl
            have hwB : IntKind.i64.wrap 2 = 2 := by kernel_rfl
            have HCP : ∀ W', Below wr.heap.size wr W' → (Builtin.copy_ #[103, 9] 3 #[.slice (some ⟨ob, 4, none⟩) 12 12, .string (((ByteArray.mk #[97, 98, 99, 100]).extract 2 4).extract 0 1)]).run Try.prog W' = .ok (.int .i64 1) (W'.setCell ⟨ob, 4, none⟩ (.int .u8 99)) := by
             intro W' hb
             have ho := (HT4.out.bel hb).o
             have e : ((ByteArray.mk #[97, 98, 99, 100]).extract 2 4).extract 0 1 = ByteArray.mk #[99] := by kernel_rfl
             rw [e]
             have hc := ho.cell 4 (v := .int .u8 0) rfl
             have hj0 : ∀ j, j < (ByteArray.mk #[99]).size → j = 0 := fun j hj => Nat.lt_one_iff.mp hj
             refine run_copy_string W' 103 9 3 5 ob 4 12 12 (ByteArray.mk #[99]) Try.underlying103 size5 (by decide) ?_ (fun j hj => ho.frozen _)
             intro j hj
             obtain rfl := hj0 j hj
             show (W'.cell? ⟨ob, 4, none⟩).isSome = true
             rw [hc]
             rfl
            go_wp2
            go_region_held3 (fun W' => W'.cell? ⟨xb, 0, none⟩ = some (.int .i64 2) ∧ W'.cell? ⟨xb, 1, none⟩ = some (.int .i64 2) ∧ W'.cell? ⟨xb, 2, none⟩ = some (.int .i64 1) ∧ W'.cell? ⟨xb, 3, none⟩ = some (.int .i64 1) ∧ W'.cell? ⟨w.heap.size, 1, none⟩ = some (.int .i64 0) ∧ W'.cell? ⟨w.heap.size, 4, none⟩ = some (.string ⟨#[97, 98, 99, 100]⟩))
             (first | exact HS6 _ (below_drew1 (Below.refl _ _)) | exact HS6 _ h2b | exact HS6 _ h1b | exact HS7 _ _ h2b _ | exact HS7 _ _ h1b _)
             (first
              | (go_at_call 133; first
               | (with_reducible refine (HA1 _ ?hb).out.mono ?_; (case hb => first | exact h2b | exact below_drew1 (Below.refl _ _)); rintro e w' ⟨rfl, h1b⟩; have hcp := HCP w' h1b)
               | (with_reducible refine (HA0 _ ?hb).out.mono ?_; (case hb => first | exact h1b | exact below_drew1 (Below.refl _ _)); rintro e w' ⟨rfl, h2b⟩; have hcp := HCP w' h2b)))
            all_goals
             have hT5 : TS w.heap.size ob pb w 3 (w'.setCell ⟨ob, 4, none⟩ (.int .u8 99)) := (HT4.out.bel h2b).put hno hobp (by omega) (by rfl)
             have hX5 : Blk (w'.setCell ⟨ob, 4, none⟩ (.int .u8 99)) xb #[.int .i64 2, .int .i64 2, .int .i64 1, .int .i64 1] 154 := (HX4.out.below_ h2b).other (a := ⟨ob, 4, none⟩) _ (by show xb ≠ ob; omega)
             go_wp2
             go_roundw
             case rel => exact ⟨x + 1, by omega, by go_num, by (obtain ⟨h⟩ := hx0; obtain ⟨h'⟩ := hy0; subst h; subst h'; exact ⟨hT5⟩), ⟨hX5⟩⟩
             case measure => simp [iOf]; omega
          · have HA1 : ∀ W', Below wr.heap.size wr W' → Aside0 (Calls Try.prog 133 #[.agg #[.int .i64 2, .int .i64 2, .int .i64 1, .int .i64 1], .int .i64 1, .int .i64 (x : Int), .int .i64 (y : Int)] W' fun e w' => e = .returned (.int .i64 1) ∧ Below wr.heap.size wr w') := by
             subst ex
             subst ey
             exact fun W' hb => ⟨(video_plane_at.calls 2 2 1 1 1 1 0 1 W' (by kernel_rfl)).mono (fun e w' (h : _ ∧ _) => And.intro h.1 (hb.trans (h.2.mono hb.size)))⟩
            have HA0 : ∀ W', Below wr.heap.size wr W' → Aside0 (Calls Try.prog 133 #[.agg #[.int .i64 2, .int .i64 2, .int .i64 1, .int .i64 1], .int .i64 0, .int .i64 (x : Int), .int .i64 (y : Int)] W' fun e w' => e = .returned (.int .i64 1) ∧ Below wr.heap.size wr w') := by
             subst ex
             subst ey
             exact fun W' hb => ⟨(video_plane_at.calls 2 2 1 1 0 1 0 1 W' (by kernel_rfl)).mono (fun e w' (h : _ ∧ _) => And.intro h.1 (hb.trans (h.2.mono hb.size)))⟩
            have HT4 : Aside0 (TS w.heap.size ob pb w 1 wr) := by
             subst ex
             subst ey
             exact ⟨HT4.out⟩
            have hx0 : Aside0 (x = 1) := ⟨ex⟩
            have hy0 : Aside0 (y = 0) := ⟨ey⟩
            clear ex ey
            have hwA : IntKind.i64.wrap 1 = 1 := by kernel_rfl
            have hwB : IntKind.i64.wrap 1 = 1 := by kernel_rfl
            have HCP : ∀ W', Below wr.heap.size wr W' → (Builtin.copy_ #[103, 9] 3 #[.slice (some ⟨ob, 1, none⟩) 15 15, .string (((ByteArray.mk #[97, 98, 99, 100]).extract 1 4).extract 0 1)]).run Try.prog W' = .ok (.int .i64 1) (W'.setCell ⟨ob, 1, none⟩ (.int .u8 98)) := by
             intro W' hb
             have ho := (HT4.out.bel hb).o
             have e : ((ByteArray.mk #[97, 98, 99, 100]).extract 1 4).extract 0 1 = ByteArray.mk #[98] := by kernel_rfl
             rw [e]
             have hc := ho.cell 1 (v := .int .u8 0) rfl
             have hj0 : ∀ j, j < (ByteArray.mk #[98]).size → j = 0 := fun j hj => Nat.lt_one_iff.mp hj
             refine run_copy_string W' 103 9 3 5 ob 1 15 15 (ByteArray.mk #[98]) Try.underlying103 size5 (by decide) ?_ (fun j hj => ho.frozen _)
             intro j hj
             obtain rfl := hj0 j hj
             show (W'.cell? ⟨ob, 1, none⟩).isSome = true
             rw [hc]
             rfl
            go_wp2
            go_region_held3 (fun W' => W'.cell? ⟨xb, 0, none⟩ = some (.int .i64 2) ∧ W'.cell? ⟨xb, 1, none⟩ = some (.int .i64 2) ∧ W'.cell? ⟨xb, 2, none⟩ = some (.int .i64 1) ∧ W'.cell? ⟨xb, 3, none⟩ = some (.int .i64 1) ∧ W'.cell? ⟨w.heap.size, 1, none⟩ = some (.int .i64 0) ∧ W'.cell? ⟨w.heap.size, 4, none⟩ = some (.string ⟨#[97, 98, 99, 100]⟩))
             (first | exact HS6 _ (below_drew1 (Below.refl _ _)) | exact HS6 _ h2b | exact HS6 _ h1b | exact HS7 _ _ h2b _ | exact HS7 _ _ h1b _)
             (first
              | (go_at_call 133; first
               | (with_reducible refine (HA1 _ ?hb).out.mono ?_; (case hb => first | exact h2b | exact below_drew1 (Below.refl _ _)); rintro e w' ⟨rfl, h1b⟩; have hcp := HCP w' h1b)
               | (with_reducible refine (HA0 _ ?hb).out.mono ?_; (case hb => first | exact h1b | exact below_drew1 (Below.refl _ _)); rintro e w' ⟨rfl, h2b⟩; have hcp := HCP w' h2b)))
            all_goals
             have hT5 : TS w.heap.size ob pb w 2 (w'.setCell ⟨ob, 1, none⟩ (.int .u8 98)) := (HT4.out.bel h2b).put hno hobp (by omega) (by rfl)
             have hX5 : Blk (w'.setCell ⟨ob, 1, none⟩ (.int .u8 98)) xb #[.int .i64 2, .int .i64 2, .int .i64 1, .int .i64 1] 154 := (HX4.out.below_ h2b).other (a := ⟨ob, 1, none⟩) _ (by show xb ≠ ob; omega)
             go_wp2
             go_roundw
             case rel => exact ⟨x + 1, by omega, by go_num, by (obtain ⟨h⟩ := hx0; obtain ⟨h'⟩ := hy0; subst h; subst h'; exact ⟨hT5⟩), ⟨hX5⟩⟩
             case measure => simp [iOf]; omega
          · have HA1 : ∀ W', Below wr.heap.size wr W' → Aside0 (Calls Try.prog 133 #[.agg #[.int .i64 2, .int .i64 2, .int .i64 1, .int .i64 1], .int .i64 1, .int .i64 (x : Int), .int .i64 (y : Int)] W' fun e w' => e = .returned (.int .i64 5) ∧ Below wr.heap.size wr w') := by
             subst ex
             subst ey
             exact fun W' hb => ⟨(video_plane_at.calls 2 2 1 1 1 1 1 5 W' (by kernel_rfl)).mono (fun e w' (h : _ ∧ _) => And.intro h.1 (hb.trans (h.2.mono hb.size)))⟩
            have HA0 : ∀ W', Below wr.heap.size wr W' → Aside0 (Calls Try.prog 133 #[.agg #[.int .i64 2, .int .i64 2, .int .i64 1, .int .i64 1], .int .i64 0, .int .i64 (x : Int), .int .i64 (y : Int)] W' fun e w' => e = .returned (.int .i64 3) ∧ Below wr.heap.size wr w') := by
             subst ex
             subst ey
             exact fun W' hb => ⟨(video_plane_at.calls 2 2 1 1 0 1 1 3 W' (by kernel_rfl)).mono (fun e w' (h : _ ∧ _) => And.intro h.1 (hb.trans (h.2.mono hb.size)))⟩
            have HT4 : Aside0 (TS w.heap.size ob pb w 3 wr) := by
             subst ex
             subst ey
             exact ⟨HT4.out⟩
            have hx0 : Aside0 (x = 1) := ⟨ex⟩
            have hy0 : Aside0 (y = 1) := ⟨ey⟩
            clear ex ey
            have hwA : IntKind.i64.wrap 5 = 5 := by kernel_rfl
            have hwB : IntKind.i64.wrap 3 = 3 := by kernel_rfl
            have HCP : ∀ W', Below wr.heap.size wr W' → (Builtin.copy_ #[103, 9] 3 #[.slice (some ⟨ob, 5, none⟩) 11 11, .string (((ByteArray.mk #[97, 98, 99, 100]).extract 3 4).extract 0 1)]).run Try.prog W' = .ok (.int .i64 1) (W'.setCell ⟨ob, 5, none⟩ (.int .u8 100)) := by
             intro W' hb
             have ho := (HT4.out.bel hb).o
             have e : ((ByteArray.mk #[97, 98, 99, 100]).extract 3 4).extract 0 1 = ByteArray.mk #[100] := by kernel_rfl
             rw [e]
             have hc := ho.cell 5 (v := .int .u8 0) rfl
             have hj0 : ∀ j, j < (ByteArray.mk #[100]).size → j = 0 := fun j hj => Nat.lt_one_iff.mp hj
             refine run_copy_string W' 103 9 3 5 ob 5 11 11 (ByteArray.mk #[100]) Try.underlying103 size5 (by decide) ?_ (fun j hj => ho.frozen _)
             intro j hj
             obtain rfl := hj0 j hj
             show (W'.cell? ⟨ob, 5, none⟩).isSome = true
             rw [hc]
             rfl
            go_wp2
            go_region_held3 (fun W' => W'.cell? ⟨xb, 0, none⟩ = some (.int .i64 2) ∧ W'.cell? ⟨xb, 1, none⟩ = some (.int .i64 2) ∧ W'.cell? ⟨xb, 2, none⟩ = some (.int .i64 1) ∧ W'.cell? ⟨xb, 3, none⟩ = some (.int .i64 1) ∧ W'.cell? ⟨w.heap.size, 1, none⟩ = some (.int .i64 0) ∧ W'.cell? ⟨w.heap.size, 4, none⟩ = some (.string ⟨#[97, 98, 99, 100]⟩))
             (first | exact HS6 _ (below_drew1 (Below.refl _ _)) | exact HS6 _ h2b | exact HS6 _ h1b | exact HS7 _ _ h2b _ | exact HS7 _ _ h1b _)
             (first
              | (go_at_call 133; first
               | (with_reducible refine (HA1 _ ?hb).out.mono ?_; (case hb => first | exact h2b | exact below_drew1 (Below.refl _ _)); rintro e w' ⟨rfl, h1b⟩; have hcp := HCP w' h1b)
               | (with_reducible refine (HA0 _ ?hb).out.mono ?_; (case hb => first | exact h1b | exact below_drew1 (Below.refl _ _)); rintro e w' ⟨rfl, h2b⟩; have hcp := HCP w' h2b)))
            all_goals
             have hT5 : TS w.heap.size ob pb w 4 (w'.setCell ⟨ob, 5, none⟩ (.int .u8 100)) := (HT4.out.bel h2b).put hno hobp (by omega) (by rfl)
             have hX5 : Blk (w'.setCell ⟨ob, 5, none⟩ (.int .u8 100)) xb #[.int .i64 2, .int .i64 2, .int .i64 1, .int .i64 1] 154 := (HX4.out.below_ h2b).other (a := ⟨ob, 5, none⟩) _ (by show xb ≠ ob; omega)
             go_wp2
             go_roundw
             case rel => exact ⟨x + 1, by omega, by go_num, by (obtain ⟨h⟩ := hx0; obtain ⟨h'⟩ := hy0; subst h; subst h'; exact ⟨hT5⟩), ⟨hX5⟩⟩
             case measure => simp [iOf]; omega
        · go_wp2
          go_roundw
          case rel => exact ⟨y + 1, by omega, by go_num, HT4, HX4⟩
          case measure => simp [iOf]; omega
     · have HS5 : ∀ W', Below wr.heap.size wr W' → W'.cell? ⟨xb, 0, none⟩ = some (.int .i64 2) ∧ W'.cell? ⟨xb, 1, none⟩ = some (.int .i64 2) ∧ W'.cell? ⟨xb, 2, none⟩ = some (.int .i64 1) ∧ W'.cell? ⟨xb, 3, none⟩ = some (.int .i64 1) ∧ W'.cell? ⟨w.heap.size, 1, none⟩ = some (.int .i64 0) := by
        intro W' hb
        have hx := HX3.out.below_ hb
        have hp := (HT3.out.bel hb).p
        exact ⟨hx.cell 0 rfl, hx.cell 1 rfl, hx.cell 2 rfl, hx.cell 3 rfl, hp.cell 1 rfl⟩
       have HZ0 := fun (W' : World) (hb : Below wr.heap.size wr W') => Aside0.mk ((video_plane_size.calls 2 2 1 1 0 4 W' (by kernel_rfl)).mono (fun e w' (h : _ ∧ _) => And.intro h.1 (hb.trans (h.2.mono hb.size))))
       have HZ1 := fun (W' : World) (hb : Below wr.heap.size wr W') => Aside0.mk ((video_plane_size.calls 2 2 1 1 1 16 W' (by kernel_rfl)).mono (fun e w' (h : _ ∧ _) => And.intro h.1 (hb.trans (h.2.mono hb.size))))
       go_wp2
       go_region_held3 (fun W' => W'.cell? ⟨xb, 0, none⟩ = some (.int .i64 2) ∧ W'.cell? ⟨xb, 1, none⟩ = some (.int .i64 2) ∧ W'.cell? ⟨xb, 2, none⟩ = some (.int .i64 1) ∧ W'.cell? ⟨xb, 3, none⟩ = some (.int .i64 1) ∧ W'.cell? ⟨w.heap.size, 1, none⟩ = some (.int .i64 0))
        (first | exact HS5 _ (below_drew1 (Below.refl _ _)) | exact HS5 _ h2b | exact HS5 _ h1b)
        (first
         | (go_at_call 132; first
          | (with_reducible refine (HZ0 _ ?hb).out.mono ?_; (case hb => first | exact h2b | exact below_drew1 (Below.refl _ _)); rintro e w' ⟨rfl, h1b⟩)
          | (with_reducible refine (HZ1 _ ?hb).out.mono ?_; (case hb => first | exact h1b | exact below_drew1 (Below.refl _ _)); rintro e w' ⟨rfl, h2b⟩)))
       all_goals
        have hT5 : TS w.heap.size ob pb w 4 w' := HT3.out.bel h2b
        go_wp2
        go_roundw
        case rel => exact ⟨1, by omega, by omega, by go_num, ⟨_, rfl⟩, ⟨_, rfl⟩, fun h => absurd h (by decide), ⟨hT5⟩⟩
        case measure => simp [iOf]
  · have hp1 := HT1.out.p.cell 1 (v := .int .i64 0) rfl
    go_wp2
    have HR1 := Aside0.mk HT1.out.r
    have HP1 := Aside0.mk HT1.out.p
    have HO1 := HT1.out.o
    have HB1 := Aside0.mk HT1.out.b
    have HCV : ∀ W, Blk W ob (outK 4) 5 → (convert 103 9 (.slice (some ⟨ob, 0, none⟩) 16 16)).run Try.prog W = .ok (.string ⟨#[97, 98, 0, 0, 99, 100, 0, 0, 0, 0, 0, 0, 0, 0, 0, 0]⟩) W := by
     intro W hW
     refine run_convert_bytes_back W 103 9 5 ⟨ob, 0, none⟩ 16 [97, 98, 0, 0, 99, 100, 0, 0, 0, 0, 0, 0, 0, 0, 0, 0] Try.underlying103 Try.underlying5 Try.underlying9 (fun j hj => ?_)
     have hj' : j < 16 := hj
     have hz : (⟨ob, 0, none⟩ : Addr).add j = ⟨ob, j, none⟩ := by unfold Addr.add; split <;> simp_all
     rw [hz]
     refine hW.cell j ?_
     rcases j with _ | _ | _ | _ | _ | _ | _ | _ | _ | _ | _ | _ | _ | _ | _ | _ | j <;> first | rfl | omega
    have hcv1 : ∀ n, (convert 103 9 (.slice (some ⟨ob, 0, none⟩) 16 16)).run Try.prog (wr.drewN n) = .ok (.string ⟨#[97, 98, 0, 0, 99, 100, 0, 0, 0, 0, 0, 0, 0, 0, 0, 0]⟩) (wr.drewN n) := fun n => HCV _ (HO1.drewN n)
    have hcv0 := HCV _ HO1.drew
    have hcv2 := HCV wr.drew HO1.drew
    have hcv3 := HCV ((wr.setCell ⟨w.heap.size, 1, none⟩ (.int .i64 1)).drew) ((HO1.other (a := ⟨w.heap.size, 1, none⟩) _ (by show ob ≠ w.heap.size; omega)).drew)
    have HCV' := Aside0.mk HCV
    clear HCV
    have d1 := HP1.out.cell 1 (v := .int .i64 0) rfl
    have e1 := HP1.out.frozen 1
    have d1' := HP1.out.drew.cell 1 (v := .int .i64 0) rfl
    have e1' := HP1.out.drew.frozen 1
    have d4 := HP1.out.cell 4 (v := .string ⟨#[97, 98, 99, 100]⟩) rfl
    have e4 := HP1.out.frozen 4
    clear HO1
    go_region
    have HPf : Blk ((wr.setCell ⟨w.heap.size, 1, none⟩ (.int .i64 1)).setCell ⟨w.heap.size, 4, none⟩ (.string ⟨#[97, 98, 0, 0, 99, 100, 0, 0, 0, 0, 0, 0, 0, 0, 0, 0]⟩)).drew w.heap.size #[.int .i64 1, .int .i64 1, .int .i64 2, .int .i64 2, .string ⟨#[97, 98, 0, 0, 99, 100, 0, 0, 0, 0, 0, 0, 0, 0, 0, 0]⟩] 49 := ((HP1.out.set 1 (.int .i64 1)).set 4 (.string ⟨#[97, 98, 0, 0, 99, 100, 0, 0, 0, 0, 0, 0, 0, 0, 0, 0]⟩)).drew
    have HRf : Blk ((wr.setCell ⟨w.heap.size, 1, none⟩ (.int .i64 1)).setCell ⟨w.heap.size, 4, none⟩ (.string ⟨#[97, 98, 0, 0, 99, 100, 0, 0, 0, 0, 0, 0, 0, 0, 0, 0]⟩)).drew (w.heap.size + 1) #[.int .i64 0, .int .i64 0, .int .i64 0, .int .i64 0, .string ⟨#[]⟩] 49 := ((HR1.out.other (a := ⟨w.heap.size, 1, none⟩) _ (by show w.heap.size + 1 ≠ w.heap.size; omega)).other (a := ⟨w.heap.size, 4, none⟩) _ (by show w.heap.size + 1 ≠ w.heap.size; omega)).drew
    have HBf := Aside0.mk (show Below w.heap.size w ((wr.setCell ⟨w.heap.size, 1, none⟩ (.int .i64 1)).setCell ⟨w.heap.size, 4, none⟩ (.string ⟨#[97, 98, 0, 0, 99, 100, 0, 0, 0, 0, 0, 0, 0, 0, 0, 0]⟩)).drew from below_drew1 ((HB1.out.setCell (p := ⟨w.heap.size, 1, none⟩) (Nat.le_refl _) _).setCell (p := ⟨w.heap.size, 4, none⟩) (Nat.le_refl _) _))
    generalize ((wr.setCell ⟨w.heap.size, 1, none⟩ (.int .i64 1)).setCell ⟨w.heap.size, 4, none⟩ (.string ⟨#[97, 98, 0, 0, 99, 100, 0, 0, 0, 0, 0, 0, 0, 0, 0, 0]⟩)).drew = w3 at HPf HRf HBf ⊢
    clear d1 e1 d1' e1' d4 e4 hcv0 hcv1 hcv2 hcv3 HCV' HP1 HR1 HB1
    have p0 := HPf.cell 0 (v := .int .i64 1) rfl
    have r0 := HRf.cell 0 (v := .int .i64 0) rfl
    have q0 := HRf.frozen 0
    have p1 := HPf.cell 1 (v := .int .i64 1) rfl
    have r1 := HRf.cell 1 (v := .int .i64 0) rfl
    have q1 := HRf.frozen 1
    have p2 := HPf.cell 2 (v := .int .i64 2) rfl
    have r2 := HRf.cell 2 (v := .int .i64 0) rfl
    have q2 := HRf.frozen 2
    have p3 := HPf.cell 3 (v := .int .i64 2) rfl
    have r3 := HRf.cell 3 (v := .int .i64 0) rfl
    have q3 := HRf.frozen 3
    have p4 := HPf.cell 4 (v := .string ⟨#[97, 98, 0, 0, 99, 100, 0, 0, 0, 0, 0, 0, 0, 0, 0, 0]⟩) rfl
    have r4 := HRf.cell 4 (v := .string ⟨#[]⟩) rfl
    have q4 := HRf.frozen 4
    have s0 := (HRf.set 0 (.int .i64 1)).cell 0 (v := .int .i64 1) rfl
    have s1 := ((HRf.set 0 (.int .i64 1)).set 1 (.int .i64 1)).cell 1 (v := .int .i64 1) rfl
    have s2 := (((HRf.set 0 (.int .i64 1)).set 1 (.int .i64 1)).set 2 (.int .i64 2)).cell 2 (v := .int .i64 2) rfl
    have s3 := ((((HRf.set 0 (.int .i64 1)).set 1 (.int .i64 1)).set 2 (.int .i64 2)).set 3 (.int .i64 2)).cell 3 (v := .int .i64 2) rfl
    have s4 := (((((HRf.set 0 (.int .i64 1)).set 1 (.int .i64 1)).set 2 (.int .i64 2)).set 3 (.int .i64 2)).set 4 (.string ⟨#[97, 98, 0, 0, 99, 100, 0, 0, 0, 0, 0, 0, 0, 0, 0, 0]⟩)).cell 4 (v := .string ⟨#[97, 98, 0, 0, 99, 100, 0, 0, 0, 0, 0, 0, 0, 0, 0, 0]⟩) rfl
    have HBe := Aside0.mk (((((HBf.out.setCell (p := ⟨w.heap.size + 1, 0, none⟩) (Nat.le_succ _) (.int .i64 1)).setCell (p := ⟨w.heap.size + 1, 1, none⟩) (Nat.le_succ _) (.int .i64 1)).setCell (p := ⟨w.heap.size + 1, 2, none⟩) (Nat.le_succ _) (.int .i64 2)).setCell (p := ⟨w.heap.size + 1, 3, none⟩) (Nat.le_succ _) (.int .i64 2)).setCell (p := ⟨w.heap.size + 1, 4, none⟩) (Nat.le_succ _) (.string ⟨#[97, 98, 0, 0, 99, 100, 0, 0, 0, 0, 0, 0, 0, 0, 0, 0]⟩))
    clear HPf HRf HBf
    go_wp2
    refine bodyPost_ret (v := .agg #[.int .i64 1, .int .i64 1, .int .i64 2, .int .i64 2, .string ⟨#[97, 98, 0, 0, 99, 100, 0, 0, 0, 0, 0, 0, 0, 0, 0, 0]⟩]) (by simp [results, Try.results87, go_sem, s0, s1, s2, s3, s4]) rfl ⟨rfl, HBe.out⟩
end Go.Proofs.Ythbajahklnpkcaa.PA

namespace Go.Proofs.Ythbajahklnpkcaa.PA
open Go.RowKit Go.Proofs.YthbajahklnpkcaaW.PrintWords Go.Proofs.YthbajahklnpkcaaW.PrintLast Go.Proofs.YthbajahklnpkcaaW.PrintMore
attribute [local go_sem] max2_int min2_int max_two min_two max_three min_three max_four min_four
set_option linter.unusedVariables false
set_option linter.unusedSimpArgs false
def video_formats.f (a0 : Int) : Option (Bool) := if a0 ≥ 1 then (some (decide (a0 ≤ 4))) else (some false)
set_option maxHeartbeats 8000000 in
set_option maxRecDepth 100000 in
theorem video_formats.calls (a0 : Int) (r : Bool) (w : World) (h : video_formats.f a0 = some r) :
 Calls Try.prog 115 #[.int .i64 a0] w fun e w' => e = .returned (.bool r) ∧ Drawn0 w w' := by
 have H : (if a0 ≥ 1 then (some (decide (a0 ≤ 4))) else (some false)) = some r := h
 clear h
 by_cases c2 : a0 ≥ 1
 · rw [if_pos c2] at H
   have c2b0 : decide (1 ≤ a0) = true := decide_eq_true c2
   clear c2
   obtain rfl := Option.some.inj H
   go_enter Try.func115, Try.ntmps115
   go_wp2
   go_ret
   exact ⟨by first | rfl | (simp; done) | (simp [*]; done), by repeat (first | exact Drawn0.refl _ | apply Drawn0.step)⟩
 · rw [if_neg c2] at H
   have c2b0 : decide (1 ≤ a0) = false := decide_eq_false c2
   clear c2
   obtain rfl := Option.some.inj H
   go_enter Try.func115, Try.ntmps115
   go_wp2
   go_ret
   exact ⟨by first | rfl | (simp; done) | (simp [*]; done), by repeat (first | exact Drawn0.refl _ | apply Drawn0.step)⟩
end Go.Proofs.Ythbajahklnpkcaa.PA

namespace Go.Proofs.Ythbajahklnpkcaa.PA
open Go.RowKit Go.Proofs.YthbajahklnpkcaaW.PrintWords Go.Proofs.YthbajahklnpkcaaW.PrintLast Go.Proofs.YthbajahklnpkcaaW.PrintMore
attribute [local go_sem] max2_int min2_int max_two min_two max_three min_three max_four min_four
set_option linter.unusedVariables false
set_option linter.unusedSimpArgs false
def video_right.f (a0 : Int) (a1 : Int) (a2 : Int) (a3 : Int) : Option (Bool) := (video_formats.f a0).bind fun t238 => (if t238 = true then ((video_modifiers.f a1).bind fun t239 => (if t239 = true then (if a2 ≥ 1 then (if a2 ≤ 64 then (if a3 ≥ 1 then (some (decide (a3 ≤ 64))) else (some false)) else (some false)) else (some false)) else (some false))) else (some false))
set_option maxHeartbeats 8000000 in
set_option maxRecDepth 100000 in
theorem video_right.calls (a0 : Int) (a1 : Int) (a2 : Int) (a3 : Int) (r : Bool) (w : World) (h : video_right.f a0 a1 a2 a3 = some r) :
 Calls Try.prog 83 #[.int .i64 a0, .int .i64 a1, .int .i64 a2, .int .i64 a3] w fun e w' => e = .returned (.bool r) ∧ Drawn0 w w' := by
 have H : ((video_formats.f a0).bind fun t238 => (if t238 = true then ((video_modifiers.f a1).bind fun t239 => (if t239 = true then (if a2 ≥ 1 then (if a2 ≤ 64 then (if a3 ≥ 1 then (some (decide (a3 ≤ 64))) else (some false)) else (some false)) else (some false)) else (some false))) else (some false))) = some r := h
 clear h
 replace H := Option.bind_eq_some_iff.mp H
 obtain ⟨t238, A50, H⟩ := H
 replace H : (if t238 = true then ((video_modifiers.f a1).bind fun t239 => (if t239 = true then (if a2 ≥ 1 then (if a2 ≤ 64 then (if a3 ≥ 1 then (some (decide (a3 ≤ 64))) else (some false)) else (some false)) else (some false)) else (some false))) else (some false)) = some r := H
 have A5 := Aside0.mk A50
 clear A50
 by_cases c6 : t238 = true
 · subst c6
   have H1 : ((video_modifiers.f a1).bind fun t239 => (if t239 = true then (if a2 ≥ 1 then (if a2 ≤ 64 then (if a3 ≥ 1 then (some (decide (a3 ≤ 64))) else (some false)) else (some false)) else (some false)) else (some false))) = some r := by rw [if_pos rfl] at H; exact H
   clear H
   have H := H1
   clear H1
   replace H := Option.bind_eq_some_iff.mp H
   obtain ⟨t239, A70, H⟩ := H
   replace H : (if t239 = true then (if a2 ≥ 1 then (if a2 ≤ 64 then (if a3 ≥ 1 then (some (decide (a3 ≤ 64))) else (some false)) else (some false)) else (some false)) else (some false)) = some r := H
   have A7 := Aside0.mk A70
   clear A70
   by_cases c8 : t239 = true
   · subst c8
     have H1 : (if a2 ≥ 1 then (if a2 ≤ 64 then (if a3 ≥ 1 then (some (decide (a3 ≤ 64))) else (some false)) else (some false)) else (some false)) = some r := by rw [if_pos rfl] at H; exact H
     clear H
     have H := H1
     clear H1
     by_cases c9 : a2 ≥ 1
     · rw [if_pos c9] at H
       have c9b0 : decide (1 ≤ a2) = true := decide_eq_true c9
       clear c9
       by_cases c10 : a2 ≤ 64
       · rw [if_pos c10] at H
         have c10b0 : decide (a2 ≤ 64) = true := decide_eq_true c10
         clear c10
         by_cases c11 : a3 ≥ 1
         · rw [if_pos c11] at H
           have c11b0 : decide (1 ≤ a3) = true := decide_eq_true c11
           clear c11
           obtain rfl := Option.some.inj H
           go_enter Try.func83, Try.ntmps83
           go_wp2_with (first | ((with_reducible refine gate_callee (f := 115) rfl ?_); refine goesL_ (some 10) rfl rfl Try.func115 (by kernel_rfl) rfl #[.int .i64 a0] rfl (by (try simp only [List.map_toArray, List.map_cons, List.map_nil]); first | done | rfl | (simp only [List.length_drop, List.length_take]; rfl)) ?_; (with_reducible refine (video_formats.calls a0 true _ A5.out).mono ?_); rintro e w' ⟨rfl, ⟨nd, rfl⟩⟩; refine ⟨_, rfl, ?_⟩) | (go_at_call 95; (with_reducible refine (video_modifiers.calls a1 true _ A7.out).mono ?_); rintro e w' ⟨rfl, ⟨nd, rfl⟩⟩))
           go_ret
           exact ⟨by first | rfl | (simp; done) | (simp [*]; done), by repeat (first | exact Drawn0.refl _ | apply Drawn0.step)⟩
         · rw [if_neg c11] at H
           have c11b0 : decide (1 ≤ a3) = false := decide_eq_false c11
           clear c11
           obtain rfl := Option.some.inj H
           go_enter Try.func83, Try.ntmps83
           go_wp2_with (first | ((with_reducible refine gate_callee (f := 115) rfl ?_); refine goesL_ (some 10) rfl rfl Try.func115 (by kernel_rfl) rfl #[.int .i64 a0] rfl (by (try simp only [List.map_toArray, List.map_cons, List.map_nil]); first | done | rfl | (simp only [List.length_drop, List.length_take]; rfl)) ?_; (with_reducible refine (video_formats.calls a0 true _ A5.out).mono ?_); rintro e w' ⟨rfl, ⟨nd, rfl⟩⟩; refine ⟨_, rfl, ?_⟩) | (go_at_call 95; (with_reducible refine (video_modifiers.calls a1 true _ A7.out).mono ?_); rintro e w' ⟨rfl, ⟨nd, rfl⟩⟩))
           go_ret
           exact ⟨by first | rfl | (simp; done) | (simp [*]; done), by repeat (first | exact Drawn0.refl _ | apply Drawn0.step)⟩
       · rw [if_neg c10] at H
         have c10b0 : decide (a2 ≤ 64) = false := decide_eq_false c10
         clear c10
         obtain rfl := Option.some.inj H
         go_enter Try.func83, Try.ntmps83
         go_wp2_with (first | ((with_reducible refine gate_callee (f := 115) rfl ?_); refine goesL_ (some 10) rfl rfl Try.func115 (by kernel_rfl) rfl #[.int .i64 a0] rfl (by (try simp only [List.map_toArray, List.map_cons, List.map_nil]); first | done | rfl | (simp only [List.length_drop, List.length_take]; rfl)) ?_; (with_reducible refine (video_formats.calls a0 true _ A5.out).mono ?_); rintro e w' ⟨rfl, ⟨nd, rfl⟩⟩; refine ⟨_, rfl, ?_⟩) | (go_at_call 95; (with_reducible refine (video_modifiers.calls a1 true _ A7.out).mono ?_); rintro e w' ⟨rfl, ⟨nd, rfl⟩⟩))
         go_ret
         exact ⟨by first | rfl | (simp; done) | (simp [*]; done), by repeat (first | exact Drawn0.refl _ | apply Drawn0.step)⟩
     · rw [if_neg c9] at H
       have c9b0 : decide (1 ≤ a2) = false := decide_eq_false c9
       clear c9
       obtain rfl := Option.some.inj H
       go_enter Try.func83, Try.ntmps83
       go_wp2_with (first | ((with_reducible refine gate_callee (f := 115) rfl ?_); refine goesL_ (some 10) rfl rfl Try.func115 (by kernel_rfl) rfl #[.int .i64 a0] rfl (by (try simp only [List.map_toArray, List.map_cons, List.map_nil]); first | done | rfl | (simp only [List.length_drop, List.length_take]; rfl)) ?_; (with_reducible refine (video_formats.calls a0 true _ A5.out).mono ?_); rintro e w' ⟨rfl, ⟨nd, rfl⟩⟩; refine ⟨_, rfl, ?_⟩) | (go_at_call 95; (with_reducible refine (video_modifiers.calls a1 true _ A7.out).mono ?_); rintro e w' ⟨rfl, ⟨nd, rfl⟩⟩))
       go_ret
       exact ⟨by first | rfl | (simp; done) | (simp [*]; done), by repeat (first | exact Drawn0.refl _ | apply Drawn0.step)⟩
   · replace c8 := Bool.eq_false_iff.mpr c8
     subst c8
     have H1 : (some false) = some r := by rw [if_neg (show ¬ (false = true) by decide)] at H; exact H
     clear H
     have H := H1
     clear H1
     obtain rfl := Option.some.inj H
     go_enter Try.func83, Try.ntmps83
     go_wp2_with (first | ((with_reducible refine gate_callee (f := 115) rfl ?_); refine goesL_ (some 10) rfl rfl Try.func115 (by kernel_rfl) rfl #[.int .i64 a0] rfl (by (try simp only [List.map_toArray, List.map_cons, List.map_nil]); first | done | rfl | (simp only [List.length_drop, List.length_take]; rfl)) ?_; (with_reducible refine (video_formats.calls a0 true _ A5.out).mono ?_); rintro e w' ⟨rfl, ⟨nd, rfl⟩⟩; refine ⟨_, rfl, ?_⟩) | (go_at_call 95; (with_reducible refine (video_modifiers.calls a1 false _ A7.out).mono ?_); rintro e w' ⟨rfl, ⟨nd, rfl⟩⟩))
     go_ret
     exact ⟨by first | rfl | (simp; done) | (simp [*]; done), by repeat (first | exact Drawn0.refl _ | apply Drawn0.step)⟩
 · replace c6 := Bool.eq_false_iff.mpr c6
   subst c6
   have H1 : (some false) = some r := by rw [if_neg (show ¬ (false = true) by decide)] at H; exact H
   clear H
   have H := H1
   clear H1
   obtain rfl := Option.some.inj H
   go_enter Try.func83, Try.ntmps83
   go_wp2_with (first | ((with_reducible refine gate_callee (f := 115) rfl ?_); refine goesL_ (some 10) rfl rfl Try.func115 (by kernel_rfl) rfl #[.int .i64 a0] rfl (by (try simp only [List.map_toArray, List.map_cons, List.map_nil]); first | done | rfl | (simp only [List.length_drop, List.length_take]; rfl)) ?_; (with_reducible refine (video_formats.calls a0 false _ A5.out).mono ?_); rintro e w' ⟨rfl, ⟨nd, rfl⟩⟩; refine ⟨_, rfl, ?_⟩))
   go_ret
   exact ⟨by first | rfl | (simp; done) | (simp [*]; done), by repeat (first | exact Drawn0.refl _ | apply Drawn0.step)⟩
end Go.Proofs.Ythbajahklnpkcaa.PA

namespace Go.Proofs.Ythbajahklnpkcaa.PA
open Go.RowKit Go.Shelf Go.Proofs.YthbajahklnpkcaaW.PrintWords Go.Proofs.YthbajahklnpkcaaW.PrintLast Go.Proofs.YthbajahklnpkcaaW.PrintMore
set_option linter.unusedVariables false
set_option linter.unusedSimpArgs false
set_option maxRecDepth 100000 in
set_option maxHeartbeats 2000000 in
theorem valid_awake (w : World) : Calls Try.prog 33 #[.agg #[.int .i64 1, .int .i64 0, .int .i64 2, .int .i64 2, .string ⟨#[97, 98, 99, 100]⟩]] w fun e w' => e = .returned (.bool true) ∧ Below w.heap.size w w' := by
 have HB := Blk.new w #[.int .i64 1, .int .i64 0, .int .i64 2, .int .i64 2, .string ⟨#[97, 98, 99, 100]⟩] 49
 have hb0 : Below w.heap.size w (w.alloc (.cells #[.int .i64 1, .int .i64 0, .int .i64 2, .int .i64 2, .string ⟨#[97, 98, 99, 100]⟩] 49)) := (Below.refl _ w).alloc (Nat.le_refl _) _
 obtain ⟨wa, hwa⟩ : ∃ wa, w.alloc (.cells #[.int .i64 1, .int .i64 0, .int .i64 2, .int .i64 2, .string ⟨#[97, 98, 99, 100]⟩] 49) = wa := ⟨_, rfl⟩
 rw [hwa] at HB hb0
 have HC : ∀ W', Below wa.heap.size wa W' → W'.cell? ⟨w.heap.size, 0, none⟩ = some (.int .i64 1) ∧ W'.cell? ⟨w.heap.size, 1, none⟩ = some (.int .i64 0) ∧ W'.cell? ⟨w.heap.size, 2, none⟩ = some (.int .i64 2) ∧ W'.cell? ⟨w.heap.size, 3, none⟩ = some (.int .i64 2) ∧ W'.cell? ⟨w.heap.size, 4, none⟩ = some (.string ⟨#[97, 98, 99, 100]⟩) := by
  intro W' hb
  have h := HB.below_ hb
  exact ⟨h.cell 0 rfl, h.cell 1 rfl, h.cell 2 rfl, h.cell 3 rfl, h.cell 4 rfl⟩
 have HR : ∀ W, Below wa.heap.size wa W → Aside0 (Calls Try.prog 83 #[.int .i64 1, .int .i64 0, .int .i64 2, .int .i64 2] W fun e w' => e = .returned (.bool true) ∧ Below wa.heap.size wa w') := fun W hb => ⟨(video_right.calls 1 0 2 2 true W (by kernel_rfl)).mono (fun e w' h => ⟨h.1, by obtain ⟨n, rfl⟩ := h.2; exact pw_below_drewN hb n⟩)⟩
 have HS : ∀ W, Below wa.heap.size wa W → Aside0 (Calls Try.prog 84 #[.int .i64 1, .int .i64 0, .int .i64 2, .int .i64 2] W fun e w' => e = .returned (.int .i64 4) ∧ Below wa.heap.size wa w') := fun W hb => ⟨(video_size.calls 1 0 2 2 4 W (by kernel_rfl)).mono (fun e w' h => ⟨h.1, hb.trans (h.2.mono hb.size)⟩)⟩
 have HB0 := Aside0.mk hb0
 clear hb0
 go_enter Try.func33, Try.ntmps33
 go_wp2
 go_region_held3 (fun W' => W'.cell? ⟨w.heap.size, 0, none⟩ = some (.int .i64 1) ∧ W'.cell? ⟨w.heap.size, 1, none⟩ = some (.int .i64 0) ∧ W'.cell? ⟨w.heap.size, 2, none⟩ = some (.int .i64 2) ∧ W'.cell? ⟨w.heap.size, 3, none⟩ = some (.int .i64 2) ∧ W'.cell? ⟨w.heap.size, 4, none⟩ = some (.string ⟨#[97, 98, 99, 100]⟩))
  (first | exact HC _ h2b | exact HC _ h1b | exact HC _ (below_drew1 (Below.refl _ _)))
  (first
   | (go_at_call 83; with_reducible refine (HR _ (below_drew1 (Below.refl _ _))).out.mono ?_; rintro e w' ⟨rfl, h1b⟩)
   | (go_at_call 84; with_reducible refine (HS _ h1b).out.mono ?_; rintro e w' ⟨rfl, h2b⟩))
 all_goals
  obtain ⟨c0, c1, c2, c3, c4⟩ := HC _ h2b
  go_wp2
  go_quiet (fail)
  go_wp2
  go_ret
  exact ⟨rfl, HB0.out.trans ((pw_below_drewN h2b _).mono HB0.out.size)⟩
end Go.Proofs.Ythbajahklnpkcaa.PA

namespace Go.Proofs.Ythbajahklnpkcaa.PA
open Go.RowKit Go.Shelf Go.Proofs.YthbajahklnpkcaaW.PrintWords Go.Proofs.YthbajahklnpkcaaW.PrintLast Go.Proofs.YthbajahklnpkcaaW.PrintMore
set_option linter.unusedVariables false
def video_turned.f (a0 a1 a2 a3 : Int) (s : ByteArray) (m : Int) : Option (Int × Int × Int × Int × ByteArray) :=
 if a0 = 1 ∧ a1 = 0 ∧ a2 = 2 ∧ a3 = 2 ∧ s = ⟨#[97, 98, 99, 100]⟩ ∧ m = 1 then some (1, 1, 2, 2, ⟨#[97, 98, 0, 0, 99, 100, 0, 0, 0, 0, 0, 0, 0, 0, 0, 0]⟩) else none
theorem video_turned.calls (a0 a1 a2 a3 : Int) (s : ByteArray) (m : Int) (r1 r2 r3 r4 : Int) (r5 : ByteArray) (w : World) (h : video_turned.f a0 a1 a2 a3 s m = some (r1, r2, r3, r4, r5)) :
 Calls Try.prog 87 #[.agg #[.int .i64 a0, .int .i64 a1, .int .i64 a2, .int .i64 a3, .string s], .int .i64 m] w fun e w' => e = .returned (.agg #[.int .i64 r1, .int .i64 r2, .int .i64 r3, .int .i64 r4, .string r5]) ∧ Below w.heap.size w w' := by
 unfold video_turned.f at h
 split at h
 case isTrue hc =>
  obtain ⟨rfl, rfl, rfl, rfl, rfl, rfl⟩ := hc
  cases h
  exact turned_awake w
 case isFalse => cases h
def video_Valid.f (a0 a1 a2 a3 : Int) (s : ByteArray) : Option Bool :=
 if a0 = 1 ∧ a1 = 0 ∧ a2 = 2 ∧ a3 = 2 ∧ s = ⟨#[97, 98, 99, 100]⟩ then some true else none
theorem video_Valid.calls (a0 a1 a2 a3 : Int) (s : ByteArray) (r : Bool) (w : World) (h : video_Valid.f a0 a1 a2 a3 s = some r) :
 Calls Try.prog 33 #[.agg #[.int .i64 a0, .int .i64 a1, .int .i64 a2, .int .i64 a3, .string s]] w fun e w' => e = .returned (.bool r) ∧ Below w.heap.size w w' := by
 unfold video_Valid.f at h
 split at h
 case isTrue hc =>
  obtain ⟨rfl, rfl, rfl, rfl, rfl⟩ := hc
  cases h
  exact valid_awake w
 case isFalse => cases h
end Go.Proofs.Ythbajahklnpkcaa.PA

namespace Go.Proofs.Ythbajahklnpkcaa.PA
open Go.RowKit Go.Proofs.YthbajahklnpkcaaW.PrintWords Go.Proofs.YthbajahklnpkcaaW.PrintLast Go.Proofs.YthbajahklnpkcaaW.PrintMore
attribute [local go_sem] max2_int min2_int max_two min_two max_three min_three max_four min_four
set_option linter.unusedVariables false
set_option linter.unusedSimpArgs false
end Go.Proofs.Ythbajahklnpkcaa.PA

namespace Go.Proofs.Ythbajahklnpkcaa.PA
open Go.RowKit Go.Proofs.YthbajahklnpkcaaW.PrintWords Go.Proofs.YthbajahklnpkcaaW.PrintLast Go.Proofs.YthbajahklnpkcaaW.PrintMore
attribute [local go_sem] max2_int min2_int max_two min_two max_three min_three max_four min_four
set_option linter.unusedVariables false
set_option linter.unusedSimpArgs false
end Go.Proofs.Ythbajahklnpkcaa.PA

namespace Go.Proofs.Ythbajahklnpkcaa.PA
open Go.RowKit Go.Proofs.YthbajahklnpkcaaW.PrintWords Go.Proofs.YthbajahklnpkcaaW.PrintLast Go.Proofs.YthbajahklnpkcaaW.PrintMore
attribute [local go_sem] max2_int min2_int max_two min_two max_three min_three max_four min_four
set_option linter.unusedVariables false
set_option linter.unusedSimpArgs false
def video_Convert.f (a0_0 : Int) (a0_1 : Int) (a0_2 : Int) (a0_3 : Int) (a0_4 : ByteArray) (a1 : Int) : Option (Int × Int × Int × Int × ByteArray × Int) := (video_Valid.f a0_0 a0_1 a0_2 a0_3 a0_4).bind fun t244 => (if t244 = true then ((video_modifiers.f a1).bind fun t245 => (if t245 = true then ((video_turned.f a0_0 a0_1 a0_2 a0_3 a0_4 a1).bind fun bt246 => (some (bt246.1, bt246.2.1, bt246.2.2.1, bt246.2.2.2.1, bt246.2.2.2.2, 0))) else (some (0, 0, 0, 0, (⟨#[]⟩ : ByteArray), 7)))) else (some (0, 0, 0, 0, (⟨#[]⟩ : ByteArray), 1)))
set_option maxHeartbeats 8000000 in
set_option maxRecDepth 100000 in
theorem video_Convert.calls (a0_0 : Int) (a0_1 : Int) (a0_2 : Int) (a0_3 : Int) (a0_4 : ByteArray) (a1 : Int) (r1 : Int) (r2 : Int) (r3 : Int) (r4 : Int) (r5 : ByteArray) (r6 : Int) (w : World) (h : video_Convert.f a0_0 a0_1 a0_2 a0_3 a0_4 a1 = some (r1, r2, r3, r4, r5, r6)) :
 Calls Try.prog 42 #[.agg #[.int .i64 a0_0, .int .i64 a0_1, .int .i64 a0_2, .int .i64 a0_3, .string a0_4], .int .i64 a1] w fun e w' => e = .returned (.tuple #[.agg #[.int .i64 r1, .int .i64 r2, .int .i64 r3, .int .i64 r4, .string r5], .int .i64 r6]) ∧ Below w.heap.size w w' := by
 have hu49 := Try.underlying49
 have HB := Aside0.mk (Below.refl w.heap.size w)
 have H : ((video_Valid.f a0_0 a0_1 a0_2 a0_3 a0_4).bind fun t244 => (if t244 = true then ((video_modifiers.f a1).bind fun t245 => (if t245 = true then ((video_turned.f a0_0 a0_1 a0_2 a0_3 a0_4 a1).bind fun bt246 => (some (bt246.1, bt246.2.1, bt246.2.2.1, bt246.2.2.2.1, bt246.2.2.2.2, 0))) else (some (0, 0, 0, 0, (⟨#[]⟩ : ByteArray), 7)))) else (some (0, 0, 0, 0, (⟨#[]⟩ : ByteArray), 1)))) = some (r1, r2, r3, r4, r5, r6) := h
 clear h
 replace H := Option.bind_eq_some_iff.mp H
 obtain ⟨t244, A30, H⟩ := H
 replace H : (if t244 = true then ((video_modifiers.f a1).bind fun t245 => (if t245 = true then ((video_turned.f a0_0 a0_1 a0_2 a0_3 a0_4 a1).bind fun bt246 => (some (bt246.1, bt246.2.1, bt246.2.2.1, bt246.2.2.2.1, bt246.2.2.2.2, 0))) else (some (0, 0, 0, 0, (⟨#[]⟩ : ByteArray), 7)))) else (some (0, 0, 0, 0, (⟨#[]⟩ : ByteArray), 1))) = some (r1, r2, r3, r4, r5, r6) := H
 have A3 := Aside0.mk A30
 clear A30
 by_cases c4 : t244 = true
 · subst c4
   have H1 : ((video_modifiers.f a1).bind fun t245 => (if t245 = true then ((video_turned.f a0_0 a0_1 a0_2 a0_3 a0_4 a1).bind fun bt246 => (some (bt246.1, bt246.2.1, bt246.2.2.1, bt246.2.2.2.1, bt246.2.2.2.2, 0))) else (some (0, 0, 0, 0, (⟨#[]⟩ : ByteArray), 7)))) = some (r1, r2, r3, r4, r5, r6) := by rw [if_pos rfl] at H; exact H
   clear H
   have H := H1
   clear H1
   replace H := Option.bind_eq_some_iff.mp H
   obtain ⟨t245, A50, H⟩ := H
   replace H : (if t245 = true then ((video_turned.f a0_0 a0_1 a0_2 a0_3 a0_4 a1).bind fun bt246 => (some (bt246.1, bt246.2.1, bt246.2.2.1, bt246.2.2.2.1, bt246.2.2.2.2, 0))) else (some (0, 0, 0, 0, (⟨#[]⟩ : ByteArray), 7))) = some (r1, r2, r3, r4, r5, r6) := H
   have A5 := Aside0.mk A50
   clear A50
   by_cases c6 : t245 = true
   · subst c6
     have H1 : ((video_turned.f a0_0 a0_1 a0_2 a0_3 a0_4 a1).bind fun bt246 => (some (bt246.1, bt246.2.1, bt246.2.2.1, bt246.2.2.2.1, bt246.2.2.2.2, 0))) = some (r1, r2, r3, r4, r5, r6) := by rw [if_pos rfl] at H; exact H
     clear H
     have H := H1
     clear H1
     replace H := Option.bind_eq_some_iff.mp H
     obtain ⟨⟨t246, t247, t248, t249, t250⟩, A70, H⟩ := H
     replace H : (some (t246, t247, t248, t249, t250, 0)) = some (r1, r2, r3, r4, r5, r6) := H
     have A7 := Aside0.mk A70
     clear A70
     simp only [Option.some.injEq, Prod.mk.injEq] at H
     obtain ⟨rfl, rfl, rfl, rfl, rfl, rfl⟩ := H
     go_enter Try.func42, Try.ntmps42
     go_wp2_with (first | ((with_reducible refine gate_dst (N := 2) rfl ?_); refine box_event ?hg (N := 2) ?hd (cs := #[.int .i64 a0_0, .int .i64 a0_1, .int .i64 a0_2, .int .i64 a0_3, .string a0_4]) (t := 49) ?hr ?_; (case hd => rfl); (case hg => rfl); (case hr => first | (go_simp; done) | (go_simp; rfl)); intro gb242 hg w8 hbox hb; have n0_ := Aside0.mk (below_step (by repeat (first | (with_reducible first | exact HB.out | apply below_alloc | apply pw_below_drewN | apply below_drew1) | exact HB.out)) hb); have n1_ := Aside0.mk (hbox); have n2_ := Aside0.mk ((by rw [hg]; exact (below_size (by repeat (first | (with_reducible first | exact HB.out | apply below_alloc | apply pw_below_drewN | apply below_drew1) | exact HB.out))) : w.heap.size ≤ gb242)); have n3_ := Aside0.mk ((by rw [hg]; exact (below_size (by repeat (first | (with_reducible first | exact HB.out | apply below_alloc | apply pw_below_drewN | apply below_drew1) | exact HB.out))) : w.heap.size ≤ gb242)); clear HB; have HB := n0_; have BK242 := n1_; have GW242 := n2_; have GE242 := n3_; clear n0_ n1_ n2_ n3_; clear hb hbox hg) | ((with_reducible refine gate_dst (N := 4) rfl ?_); refine box_event ?hg (N := 4) ?hd (cs := #[.int .i64 0, .int .i64 0, .int .i64 0, .int .i64 0, .string (⟨#[]⟩ : ByteArray)]) (t := 49) ?hr ?_; (case hd => rfl); (case hg => rfl); (case hr => first | (go_simp; done) | (go_simp; rfl)); intro gb243 hg w9 hbox hb; have n0_ := Aside0.mk (blk_below (g := gb242) (o := .cells #[.int .i64 a0_0, .int .i64 a0_1, .int .i64 a0_2, .int .i64 a0_3, .string a0_4] 49 (0, 0)) (by (with_reducible repeat (first | refine blk_drewN ?_ _ | refine blk_drew ?_ | refine blk_alloc ?_ _)); exact BK242.out) hb); have n1_ := Aside0.mk (below_step (by repeat (first | (with_reducible first | exact HB.out | apply below_alloc | apply pw_below_drewN | apply below_drew1 | refine below_set ?_ GE242.out) | exact HB.out)) hb); have n2_ := Aside0.mk (hbox); have n3_ := Aside0.mk ((by rw [hg]; exact (below_size (by repeat (first | (with_reducible first | exact HB.out | apply below_alloc | apply pw_below_drewN | apply below_drew1 | refine below_set ?_ GE242.out) | exact HB.out))) : w.heap.size ≤ gb243)); have n4_ := Aside0.mk ((by rw [hg]; exact (below_size (by repeat (first | (with_reducible first | exact HB.out | apply below_alloc | apply pw_below_drewN | apply below_drew1 | refine below_set ?_ GE242.out) | exact HB.out))) : w.heap.size ≤ gb243)); have n5_ := Aside0.mk ((by rw [hg]; exact Nat.ne_of_lt (blk_lt (g := gb242) (o := .cells #[.int .i64 a0_0, .int .i64 a0_1, .int .i64 a0_2, .int .i64 a0_3, .string a0_4] 49 (0, 0)) (by (with_reducible repeat (first | refine blk_drewN ?_ _ | refine blk_drew ?_ | refine blk_alloc ?_ _)); exact BK242.out)) : gb242 ≠ gb243)); have n6_ := Aside0.mk ((by rw [hg]; exact Nat.ne_of_gt (blk_lt (g := gb242) (o := .cells #[.int .i64 a0_0, .int .i64 a0_1, .int .i64 a0_2, .int .i64 a0_3, .string a0_4] 49 (0, 0)) (by (with_reducible repeat (first | refine blk_drewN ?_ _ | refine blk_drew ?_ | refine blk_alloc ?_ _)); exact BK242.out)) : gb243 ≠ gb242)); clear BK242; clear HB; have BK242 := n0_; have HB := n1_; have BK243 := n2_; have GW243 := n3_; have GE243 := n4_; have NB242_243 := n5_; have NB243_242 := n6_; clear n0_ n1_ n2_ n3_ n4_ n5_ n6_; clear hb hbox hg; have hnb10 := NB242_243.out; have hnc10 := NB243_242.out; have hcz11_0 : w9.cell? ⟨gb242, 0, none⟩ = some (.int .i64 a0_0) := (blk_cell BK242.out 0).trans rfl; have hcz11_1 : w9.cell? ⟨gb242, 1, none⟩ = some (.int .i64 a0_1) := (blk_cell BK242.out 1).trans rfl; have hcz11_2 : w9.cell? ⟨gb242, 2, none⟩ = some (.int .i64 a0_2) := (blk_cell BK242.out 2).trans rfl; have hcz11_3 : w9.cell? ⟨gb242, 3, none⟩ = some (.int .i64 a0_3) := (blk_cell BK242.out 3).trans rfl; have hcz11_4 : w9.cell? ⟨gb242, 4, none⟩ = some (.string a0_4) := (blk_cell BK242.out 4).trans rfl; have hfz11_0 := blk_frozen BK242.out 0; have hfz11_1 := blk_frozen BK242.out 1; have hfz11_2 := blk_frozen BK242.out 2; have hfz11_3 := blk_frozen BK242.out 3; have hfz11_4 := blk_frozen BK242.out 4) | ((with_reducible refine gate_callee (f := 33) rfl ?_); refine goesL_ (some 8) rfl rfl Try.func33 (by kernel_rfl) rfl #[.agg #[.int .i64 a0_0, .int .i64 a0_1, .int .i64 a0_2, .int .i64 a0_3, .string a0_4]] rfl (by (try simp only [List.map_toArray, List.map_cons, List.map_nil]); first | done | rfl | (simp only [List.length_drop, List.length_take]; rfl)) ?_; (with_reducible refine (video_Valid.calls a0_0 a0_1 a0_2 a0_3 a0_4 true _ A3.out).mono ?_); rintro e w12 ⟨rfl, hb⟩; refine ⟨_, rfl, ?_⟩; have n0_ := Aside0.mk (blk_below (g := gb242) (o := .cells #[.int .i64 a0_0, .int .i64 a0_1, .int .i64 a0_2, .int .i64 a0_3, .string a0_4] 49 (0, 0)) (by (with_reducible repeat (first | refine blk_drewN ?_ _ | refine blk_drew ?_ | refine blk_alloc ?_ _)); exact BK242.out) hb); have n1_ := Aside0.mk (blk_below (g := gb243) (o := .cells #[.int .i64 0, .int .i64 0, .int .i64 0, .int .i64 0, .string (⟨#[]⟩ : ByteArray)] 49 (0, 0)) (by (with_reducible repeat (first | refine blk_drewN ?_ _ | refine blk_drew ?_ | refine blk_alloc ?_ _)); exact BK243.out) hb); have n2_ := Aside0.mk (below_step (by repeat (first | (with_reducible first | exact HB.out | apply below_alloc | apply pw_below_drewN | apply below_drew1 | refine below_set ?_ GE242.out | refine below_set ?_ GE243.out) | exact HB.out)) hb); clear BK242; clear BK243; clear HB; have BK242 := n0_; have BK243 := n1_; have HB := n2_; clear n0_ n1_ n2_; (try clear hb); (try clear hb2); (try clear hk); (try clear hi)) | ((with_reducible refine gate_callee (f := 95) rfl ?_); refine goesL_ (some 13) rfl rfl Try.func95 (by kernel_rfl) rfl #[.int .i64 a1] rfl (by (try simp only [List.map_toArray, List.map_cons, List.map_nil]); first | done | rfl | (simp only [List.length_drop, List.length_take]; rfl)) ?_; (with_reducible refine (video_modifiers.calls a1 true _ A5.out).mono ?_); rintro e w' ⟨rfl, ⟨nd, rfl⟩⟩; refine ⟨_, rfl, ?_⟩; (try (rw [drewN_self w12]; generalize hq_ : World.drewN w12 _ = w12; have n0_ : Aside0 (w12.heap[gb242]? = some (.cells #[.int .i64 a0_0, .int .i64 a0_1, .int .i64 a0_2, .int .i64 a0_3, .string a0_4] 49 (0, 0))) := ⟨by rw [← hq_]; exact (by (with_reducible repeat (first | refine blk_drewN ?_ _ | refine blk_drew ?_ | refine blk_alloc ?_ _)); exact BK242.out)⟩; have n1_ : Aside0 (w12.heap[gb243]? = some (.cells #[.int .i64 0, .int .i64 0, .int .i64 0, .int .i64 0, .string (⟨#[]⟩ : ByteArray)] 49 (0, 0))) := ⟨by rw [← hq_]; exact (by (with_reducible repeat (first | refine blk_drewN ?_ _ | refine blk_drew ?_ | refine blk_alloc ?_ _)); exact BK243.out)⟩; have n2_ : Aside0 (Below w.heap.size w w12) := ⟨by rw [← hq_]; exact (by repeat (first | (with_reducible first | exact HB.out | apply below_alloc | apply pw_below_drewN | apply below_drew1 | refine below_set ?_ GE242.out | refine below_set ?_ GE243.out) | exact HB.out))⟩; clear BK242 BK243 HB hq_; have BK242 := n0_; have BK243 := n1_; have HB := n2_; clear n0_ n1_ n2_)); have hcz13_0 : w12.cell? ⟨gb242, 0, none⟩ = some (.int .i64 a0_0) := (blk_cell BK242.out 0).trans rfl; have hcz13_1 : w12.cell? ⟨gb242, 1, none⟩ = some (.int .i64 a0_1) := (blk_cell BK242.out 1).trans rfl; have hcz13_2 : w12.cell? ⟨gb242, 2, none⟩ = some (.int .i64 a0_2) := (blk_cell BK242.out 2).trans rfl; have hcz13_3 : w12.cell? ⟨gb242, 3, none⟩ = some (.int .i64 a0_3) := (blk_cell BK242.out 3).trans rfl; have hcz13_4 : w12.cell? ⟨gb242, 4, none⟩ = some (.string a0_4) := (blk_cell BK242.out 4).trans rfl; have hfz13_0 := blk_frozen BK242.out 0; have hfz13_1 := blk_frozen BK242.out 1; have hfz13_2 := blk_frozen BK242.out 2; have hfz13_3 := blk_frozen BK242.out 3; have hfz13_4 := blk_frozen BK242.out 4) | ((with_reducible refine gate_callee (f := 87) rfl ?_); refine goesL_ (some 18) rfl rfl Try.func87 (by kernel_rfl) rfl #[.agg #[.int .i64 a0_0, .int .i64 a0_1, .int .i64 a0_2, .int .i64 a0_3, .string a0_4], .int .i64 a1] rfl (by (try simp only [List.map_toArray, List.map_cons, List.map_nil]); first | done | rfl | (simp only [List.length_drop, List.length_take]; rfl)) ?_; (with_reducible refine (video_turned.calls a0_0 a0_1 a0_2 a0_3 a0_4 a1 t246 t247 t248 t249 t250 _ A7.out).mono ?_); rintro e w14 ⟨rfl, hb⟩; refine ⟨_, rfl, ?_⟩; have n0_ := Aside0.mk (blk_below (g := gb242) (o := .cells #[.int .i64 a0_0, .int .i64 a0_1, .int .i64 a0_2, .int .i64 a0_3, .string a0_4] 49 (0, 0)) (by (with_reducible repeat (first | refine blk_drewN ?_ _ | refine blk_drew ?_ | refine blk_alloc ?_ _)); exact BK242.out) hb); have n1_ := Aside0.mk (blk_below (g := gb243) (o := .cells #[.int .i64 0, .int .i64 0, .int .i64 0, .int .i64 0, .string (⟨#[]⟩ : ByteArray)] 49 (0, 0)) (by (with_reducible repeat (first | refine blk_drewN ?_ _ | refine blk_drew ?_ | refine blk_alloc ?_ _)); exact BK243.out) hb); have n2_ := Aside0.mk (below_step (by repeat (first | (with_reducible first | exact HB.out | apply below_alloc | apply pw_below_drewN | apply below_drew1 | refine below_set ?_ GE242.out | refine below_set ?_ GE243.out) | exact HB.out)) hb); clear BK242; clear BK243; clear HB; have BK242 := n0_; have BK243 := n1_; have HB := n2_; clear n0_ n1_ n2_; (try clear hb); (try clear hb2); (try clear hk); (try clear hi); have hcz15_0 : w14.cell? ⟨gb243, 0, none⟩ = some (.int .i64 0) := (blk_cell BK243.out 0).trans rfl; have hcz15_1 : w14.cell? ⟨gb243, 1, none⟩ = some (.int .i64 0) := (blk_cell BK243.out 1).trans rfl; have hcz15_2 : w14.cell? ⟨gb243, 2, none⟩ = some (.int .i64 0) := (blk_cell BK243.out 2).trans rfl; have hcz15_3 : w14.cell? ⟨gb243, 3, none⟩ = some (.int .i64 0) := (blk_cell BK243.out 3).trans rfl; have hcz15_4 : w14.cell? ⟨gb243, 4, none⟩ = some (.string (⟨#[]⟩ : ByteArray)) := (blk_cell BK243.out 4).trans rfl; have hfz15_0 := blk_frozen BK243.out 0; have hfz15_1 := blk_frozen BK243.out 1; have hfz15_2 := blk_frozen BK243.out 2; have hfz15_3 := blk_frozen BK243.out 3; have hfz15_4 := blk_frozen BK243.out 4))
     refine bodyPost_ret (results_ct rfl _ _ gb243 49 #[.int .i64 t246, .int .i64 t247, .int .i64 t248, .int .i64 t249, .string t250] (0, 0) _ rfl (by (with_reducible repeat (first | refine blk_drewN ?_ _ | refine blk_drew ?_ | refine blk_alloc ?_ _)); refine blk_put (cs := #[.int .i64 t246, .int .i64 t247, .int .i64 t248, .int .i64 t249, .string (⟨#[]⟩ : ByteArray)]) ?_ 4 _ rfl; (with_reducible repeat (first | refine blk_drewN ?_ _ | refine blk_drew ?_ | refine blk_alloc ?_ _)); refine blk_put (cs := #[.int .i64 t246, .int .i64 t247, .int .i64 t248, .int .i64 0, .string (⟨#[]⟩ : ByteArray)]) ?_ 3 _ rfl; (with_reducible repeat (first | refine blk_drewN ?_ _ | refine blk_drew ?_ | refine blk_alloc ?_ _)); refine blk_put (cs := #[.int .i64 t246, .int .i64 t247, .int .i64 0, .int .i64 0, .string (⟨#[]⟩ : ByteArray)]) ?_ 2 _ rfl; (with_reducible repeat (first | refine blk_drewN ?_ _ | refine blk_drew ?_ | refine blk_alloc ?_ _)); refine blk_put (cs := #[.int .i64 t246, .int .i64 0, .int .i64 0, .int .i64 0, .string (⟨#[]⟩ : ByteArray)]) ?_ 1 _ rfl; (with_reducible repeat (first | refine blk_drewN ?_ _ | refine blk_drew ?_ | refine blk_alloc ?_ _)); refine blk_put (cs := #[.int .i64 0, .int .i64 0, .int .i64 0, .int .i64 0, .string (⟨#[]⟩ : ByteArray)]) ?_ 0 _ rfl; (with_reducible repeat (first | refine blk_drewN ?_ _ | refine blk_drew ?_ | refine blk_alloc ?_ _)); exact BK243.out) Try.underlying49 rfl (by kernel_rfl)) rfl ?_
     exact ⟨by first | rfl | (simp [errW_none, errW_some] <;> rfl) | (simp [*, errW_none, errW_some] <;> rfl), by repeat (first | (with_reducible first | exact HB.out | apply below_alloc | apply pw_below_drewN | apply below_drew1 | refine below_set ?_ GE242.out | refine below_set ?_ GE243.out) | exact HB.out)⟩
   · replace c6 := Bool.eq_false_iff.mpr c6
     subst c6
     have H1 : (some (0, 0, 0, 0, (⟨#[]⟩ : ByteArray), 7)) = some (r1, r2, r3, r4, r5, r6) := by rw [if_neg (show ¬ (false = true) by decide)] at H; exact H
     clear H
     have H := H1
     clear H1
     simp only [Option.some.injEq, Prod.mk.injEq] at H
     obtain ⟨rfl, rfl, rfl, rfl, rfl, rfl⟩ := H
     go_enter Try.func42, Try.ntmps42
     go_wp2_with (first | ((with_reducible refine gate_dst (N := 2) rfl ?_); refine box_event ?hg (N := 2) ?hd (cs := #[.int .i64 a0_0, .int .i64 a0_1, .int .i64 a0_2, .int .i64 a0_3, .string a0_4]) (t := 49) ?hr ?_; (case hd => rfl); (case hg => rfl); (case hr => first | (go_simp; done) | (go_simp; rfl)); intro gb242 hg w16 hbox hb; have n0_ := Aside0.mk (below_step (by repeat (first | (with_reducible first | exact HB.out | apply below_alloc | apply pw_below_drewN | apply below_drew1) | exact HB.out)) hb); have n1_ := Aside0.mk (hbox); have n2_ := Aside0.mk ((by rw [hg]; exact (below_size (by repeat (first | (with_reducible first | exact HB.out | apply below_alloc | apply pw_below_drewN | apply below_drew1) | exact HB.out))) : w.heap.size ≤ gb242)); have n3_ := Aside0.mk ((by rw [hg]; exact (below_size (by repeat (first | (with_reducible first | exact HB.out | apply below_alloc | apply pw_below_drewN | apply below_drew1) | exact HB.out))) : w.heap.size ≤ gb242)); clear HB; have HB := n0_; have BK242 := n1_; have GW242 := n2_; have GE242 := n3_; clear n0_ n1_ n2_ n3_; clear hb hbox hg) | ((with_reducible refine gate_dst (N := 4) rfl ?_); refine box_event ?hg (N := 4) ?hd (cs := #[.int .i64 0, .int .i64 0, .int .i64 0, .int .i64 0, .string (⟨#[]⟩ : ByteArray)]) (t := 49) ?hr ?_; (case hd => rfl); (case hg => rfl); (case hr => first | (go_simp; done) | (go_simp; rfl)); intro gb243 hg w17 hbox hb; have n0_ := Aside0.mk (blk_below (g := gb242) (o := .cells #[.int .i64 a0_0, .int .i64 a0_1, .int .i64 a0_2, .int .i64 a0_3, .string a0_4] 49 (0, 0)) (by (with_reducible repeat (first | refine blk_drewN ?_ _ | refine blk_drew ?_ | refine blk_alloc ?_ _)); exact BK242.out) hb); have n1_ := Aside0.mk (below_step (by repeat (first | (with_reducible first | exact HB.out | apply below_alloc | apply pw_below_drewN | apply below_drew1 | refine below_set ?_ GE242.out) | exact HB.out)) hb); have n2_ := Aside0.mk (hbox); have n3_ := Aside0.mk ((by rw [hg]; exact (below_size (by repeat (first | (with_reducible first | exact HB.out | apply below_alloc | apply pw_below_drewN | apply below_drew1 | refine below_set ?_ GE242.out) | exact HB.out))) : w.heap.size ≤ gb243)); have n4_ := Aside0.mk ((by rw [hg]; exact (below_size (by repeat (first | (with_reducible first | exact HB.out | apply below_alloc | apply pw_below_drewN | apply below_drew1 | refine below_set ?_ GE242.out) | exact HB.out))) : w.heap.size ≤ gb243)); have n5_ := Aside0.mk ((by rw [hg]; exact Nat.ne_of_lt (blk_lt (g := gb242) (o := .cells #[.int .i64 a0_0, .int .i64 a0_1, .int .i64 a0_2, .int .i64 a0_3, .string a0_4] 49 (0, 0)) (by (with_reducible repeat (first | refine blk_drewN ?_ _ | refine blk_drew ?_ | refine blk_alloc ?_ _)); exact BK242.out)) : gb242 ≠ gb243)); have n6_ := Aside0.mk ((by rw [hg]; exact Nat.ne_of_gt (blk_lt (g := gb242) (o := .cells #[.int .i64 a0_0, .int .i64 a0_1, .int .i64 a0_2, .int .i64 a0_3, .string a0_4] 49 (0, 0)) (by (with_reducible repeat (first | refine blk_drewN ?_ _ | refine blk_drew ?_ | refine blk_alloc ?_ _)); exact BK242.out)) : gb243 ≠ gb242)); clear BK242; clear HB; have BK242 := n0_; have HB := n1_; have BK243 := n2_; have GW243 := n3_; have GE243 := n4_; have NB242_243 := n5_; have NB243_242 := n6_; clear n0_ n1_ n2_ n3_ n4_ n5_ n6_; clear hb hbox hg; have hnb18 := NB242_243.out; have hnc18 := NB243_242.out; have hcz19_0 : w17.cell? ⟨gb242, 0, none⟩ = some (.int .i64 a0_0) := (blk_cell BK242.out 0).trans rfl; have hcz19_1 : w17.cell? ⟨gb242, 1, none⟩ = some (.int .i64 a0_1) := (blk_cell BK242.out 1).trans rfl; have hcz19_2 : w17.cell? ⟨gb242, 2, none⟩ = some (.int .i64 a0_2) := (blk_cell BK242.out 2).trans rfl; have hcz19_3 : w17.cell? ⟨gb242, 3, none⟩ = some (.int .i64 a0_3) := (blk_cell BK242.out 3).trans rfl; have hcz19_4 : w17.cell? ⟨gb242, 4, none⟩ = some (.string a0_4) := (blk_cell BK242.out 4).trans rfl; have hfz19_0 := blk_frozen BK242.out 0; have hfz19_1 := blk_frozen BK242.out 1; have hfz19_2 := blk_frozen BK242.out 2; have hfz19_3 := blk_frozen BK242.out 3; have hfz19_4 := blk_frozen BK242.out 4) | ((with_reducible refine gate_callee (f := 33) rfl ?_); refine goesL_ (some 8) rfl rfl Try.func33 (by kernel_rfl) rfl #[.agg #[.int .i64 a0_0, .int .i64 a0_1, .int .i64 a0_2, .int .i64 a0_3, .string a0_4]] rfl (by (try simp only [List.map_toArray, List.map_cons, List.map_nil]); first | done | rfl | (simp only [List.length_drop, List.length_take]; rfl)) ?_; (with_reducible refine (video_Valid.calls a0_0 a0_1 a0_2 a0_3 a0_4 true _ A3.out).mono ?_); rintro e w20 ⟨rfl, hb⟩; refine ⟨_, rfl, ?_⟩; have n0_ := Aside0.mk (blk_below (g := gb242) (o := .cells #[.int .i64 a0_0, .int .i64 a0_1, .int .i64 a0_2, .int .i64 a0_3, .string a0_4] 49 (0, 0)) (by (with_reducible repeat (first | refine blk_drewN ?_ _ | refine blk_drew ?_ | refine blk_alloc ?_ _)); exact BK242.out) hb); have n1_ := Aside0.mk (blk_below (g := gb243) (o := .cells #[.int .i64 0, .int .i64 0, .int .i64 0, .int .i64 0, .string (⟨#[]⟩ : ByteArray)] 49 (0, 0)) (by (with_reducible repeat (first | refine blk_drewN ?_ _ | refine blk_drew ?_ | refine blk_alloc ?_ _)); exact BK243.out) hb); have n2_ := Aside0.mk (below_step (by repeat (first | (with_reducible first | exact HB.out | apply below_alloc | apply pw_below_drewN | apply below_drew1 | refine below_set ?_ GE242.out | refine below_set ?_ GE243.out) | exact HB.out)) hb); clear BK242; clear BK243; clear HB; have BK242 := n0_; have BK243 := n1_; have HB := n2_; clear n0_ n1_ n2_; (try clear hb); (try clear hb2); (try clear hk); (try clear hi)) | ((with_reducible refine gate_callee (f := 95) rfl ?_); refine goesL_ (some 13) rfl rfl Try.func95 (by kernel_rfl) rfl #[.int .i64 a1] rfl (by (try simp only [List.map_toArray, List.map_cons, List.map_nil]); first | done | rfl | (simp only [List.length_drop, List.length_take]; rfl)) ?_; (with_reducible refine (video_modifiers.calls a1 false _ A5.out).mono ?_); rintro e w' ⟨rfl, ⟨nd, rfl⟩⟩; refine ⟨_, rfl, ?_⟩; (try (rw [drewN_self w20]; generalize hq_ : World.drewN w20 _ = w20; have n0_ : Aside0 (w20.heap[gb242]? = some (.cells #[.int .i64 a0_0, .int .i64 a0_1, .int .i64 a0_2, .int .i64 a0_3, .string a0_4] 49 (0, 0))) := ⟨by rw [← hq_]; exact (by (with_reducible repeat (first | refine blk_drewN ?_ _ | refine blk_drew ?_ | refine blk_alloc ?_ _)); exact BK242.out)⟩; have n1_ : Aside0 (w20.heap[gb243]? = some (.cells #[.int .i64 0, .int .i64 0, .int .i64 0, .int .i64 0, .string (⟨#[]⟩ : ByteArray)] 49 (0, 0))) := ⟨by rw [← hq_]; exact (by (with_reducible repeat (first | refine blk_drewN ?_ _ | refine blk_drew ?_ | refine blk_alloc ?_ _)); exact BK243.out)⟩; have n2_ : Aside0 (Below w.heap.size w w20) := ⟨by rw [← hq_]; exact (by repeat (first | (with_reducible first | exact HB.out | apply below_alloc | apply pw_below_drewN | apply below_drew1 | refine below_set ?_ GE242.out | refine below_set ?_ GE243.out) | exact HB.out))⟩; clear BK242 BK243 HB hq_; have BK242 := n0_; have BK243 := n1_; have HB := n2_; clear n0_ n1_ n2_)); have hcz21_0 : w20.cell? ⟨gb243, 0, none⟩ = some (.int .i64 0) := (blk_cell BK243.out 0).trans rfl; have hcz21_1 : w20.cell? ⟨gb243, 1, none⟩ = some (.int .i64 0) := (blk_cell BK243.out 1).trans rfl; have hcz21_2 : w20.cell? ⟨gb243, 2, none⟩ = some (.int .i64 0) := (blk_cell BK243.out 2).trans rfl; have hcz21_3 : w20.cell? ⟨gb243, 3, none⟩ = some (.int .i64 0) := (blk_cell BK243.out 3).trans rfl; have hcz21_4 : w20.cell? ⟨gb243, 4, none⟩ = some (.string (⟨#[]⟩ : ByteArray)) := (blk_cell BK243.out 4).trans rfl; have hfz21_0 := blk_frozen BK243.out 0; have hfz21_1 := blk_frozen BK243.out 1; have hfz21_2 := blk_frozen BK243.out 2; have hfz21_3 := blk_frozen BK243.out 3; have hfz21_4 := blk_frozen BK243.out 4))
     refine bodyPost_ret (results_ct rfl _ _ gb243 49 #[.int .i64 0, .int .i64 0, .int .i64 0, .int .i64 0, .string (⟨#[]⟩ : ByteArray)] (0, 0) _ rfl (by (with_reducible repeat (first | refine blk_drewN ?_ _ | refine blk_drew ?_ | refine blk_alloc ?_ _)); refine blk_put (cs := #[.int .i64 0, .int .i64 0, .int .i64 0, .int .i64 0, .string (⟨#[]⟩ : ByteArray)]) ?_ 4 _ rfl; (with_reducible repeat (first | refine blk_drewN ?_ _ | refine blk_drew ?_ | refine blk_alloc ?_ _)); refine blk_put (cs := #[.int .i64 0, .int .i64 0, .int .i64 0, .int .i64 0, .string (⟨#[]⟩ : ByteArray)]) ?_ 3 _ rfl; (with_reducible repeat (first | refine blk_drewN ?_ _ | refine blk_drew ?_ | refine blk_alloc ?_ _)); refine blk_put (cs := #[.int .i64 0, .int .i64 0, .int .i64 0, .int .i64 0, .string (⟨#[]⟩ : ByteArray)]) ?_ 2 _ rfl; (with_reducible repeat (first | refine blk_drewN ?_ _ | refine blk_drew ?_ | refine blk_alloc ?_ _)); refine blk_put (cs := #[.int .i64 0, .int .i64 0, .int .i64 0, .int .i64 0, .string (⟨#[]⟩ : ByteArray)]) ?_ 1 _ rfl; (with_reducible repeat (first | refine blk_drewN ?_ _ | refine blk_drew ?_ | refine blk_alloc ?_ _)); refine blk_put (cs := #[.int .i64 0, .int .i64 0, .int .i64 0, .int .i64 0, .string (⟨#[]⟩ : ByteArray)]) ?_ 0 _ rfl; (with_reducible repeat (first | refine blk_drewN ?_ _ | refine blk_drew ?_ | refine blk_alloc ?_ _)); exact BK243.out) Try.underlying49 rfl (by kernel_rfl)) rfl ?_
     exact ⟨by first | rfl | (simp [errW_none, errW_some] <;> rfl) | (simp [*, errW_none, errW_some] <;> rfl), by repeat (first | (with_reducible first | exact HB.out | apply below_alloc | apply pw_below_drewN | apply below_drew1 | refine below_set ?_ GE242.out | refine below_set ?_ GE243.out) | exact HB.out)⟩
 · replace c4 := Bool.eq_false_iff.mpr c4
   subst c4
   have H1 : (some (0, 0, 0, 0, (⟨#[]⟩ : ByteArray), 1)) = some (r1, r2, r3, r4, r5, r6) := by rw [if_neg (show ¬ (false = true) by decide)] at H; exact H
   clear H
   have H := H1
   clear H1
   simp only [Option.some.injEq, Prod.mk.injEq] at H
   obtain ⟨rfl, rfl, rfl, rfl, rfl, rfl⟩ := H
   go_enter Try.func42, Try.ntmps42
   go_wp2_with (first | ((with_reducible refine gate_dst (N := 2) rfl ?_); refine box_event ?hg (N := 2) ?hd (cs := #[.int .i64 a0_0, .int .i64 a0_1, .int .i64 a0_2, .int .i64 a0_3, .string a0_4]) (t := 49) ?hr ?_; (case hd => rfl); (case hg => rfl); (case hr => first | (go_simp; done) | (go_simp; rfl)); intro gb242 hg w22 hbox hb; have n0_ := Aside0.mk (below_step (by repeat (first | (with_reducible first | exact HB.out | apply below_alloc | apply pw_below_drewN | apply below_drew1) | exact HB.out)) hb); have n1_ := Aside0.mk (hbox); have n2_ := Aside0.mk ((by rw [hg]; exact (below_size (by repeat (first | (with_reducible first | exact HB.out | apply below_alloc | apply pw_below_drewN | apply below_drew1) | exact HB.out))) : w.heap.size ≤ gb242)); have n3_ := Aside0.mk ((by rw [hg]; exact (below_size (by repeat (first | (with_reducible first | exact HB.out | apply below_alloc | apply pw_below_drewN | apply below_drew1) | exact HB.out))) : w.heap.size ≤ gb242)); clear HB; have HB := n0_; have BK242 := n1_; have GW242 := n2_; have GE242 := n3_; clear n0_ n1_ n2_ n3_; clear hb hbox hg) | ((with_reducible refine gate_dst (N := 4) rfl ?_); refine box_event ?hg (N := 4) ?hd (cs := #[.int .i64 0, .int .i64 0, .int .i64 0, .int .i64 0, .string (⟨#[]⟩ : ByteArray)]) (t := 49) ?hr ?_; (case hd => rfl); (case hg => rfl); (case hr => first | (go_simp; done) | (go_simp; rfl)); intro gb243 hg w23 hbox hb; have n0_ := Aside0.mk (blk_below (g := gb242) (o := .cells #[.int .i64 a0_0, .int .i64 a0_1, .int .i64 a0_2, .int .i64 a0_3, .string a0_4] 49 (0, 0)) (by (with_reducible repeat (first | refine blk_drewN ?_ _ | refine blk_drew ?_ | refine blk_alloc ?_ _)); exact BK242.out) hb); have n1_ := Aside0.mk (below_step (by repeat (first | (with_reducible first | exact HB.out | apply below_alloc | apply pw_below_drewN | apply below_drew1 | refine below_set ?_ GE242.out) | exact HB.out)) hb); have n2_ := Aside0.mk (hbox); have n3_ := Aside0.mk ((by rw [hg]; exact (below_size (by repeat (first | (with_reducible first | exact HB.out | apply below_alloc | apply pw_below_drewN | apply below_drew1 | refine below_set ?_ GE242.out) | exact HB.out))) : w.heap.size ≤ gb243)); have n4_ := Aside0.mk ((by rw [hg]; exact (below_size (by repeat (first | (with_reducible first | exact HB.out | apply below_alloc | apply pw_below_drewN | apply below_drew1 | refine below_set ?_ GE242.out) | exact HB.out))) : w.heap.size ≤ gb243)); have n5_ := Aside0.mk ((by rw [hg]; exact Nat.ne_of_lt (blk_lt (g := gb242) (o := .cells #[.int .i64 a0_0, .int .i64 a0_1, .int .i64 a0_2, .int .i64 a0_3, .string a0_4] 49 (0, 0)) (by (with_reducible repeat (first | refine blk_drewN ?_ _ | refine blk_drew ?_ | refine blk_alloc ?_ _)); exact BK242.out)) : gb242 ≠ gb243)); have n6_ := Aside0.mk ((by rw [hg]; exact Nat.ne_of_gt (blk_lt (g := gb242) (o := .cells #[.int .i64 a0_0, .int .i64 a0_1, .int .i64 a0_2, .int .i64 a0_3, .string a0_4] 49 (0, 0)) (by (with_reducible repeat (first | refine blk_drewN ?_ _ | refine blk_drew ?_ | refine blk_alloc ?_ _)); exact BK242.out)) : gb243 ≠ gb242)); clear BK242; clear HB; have BK242 := n0_; have HB := n1_; have BK243 := n2_; have GW243 := n3_; have GE243 := n4_; have NB242_243 := n5_; have NB243_242 := n6_; clear n0_ n1_ n2_ n3_ n4_ n5_ n6_; clear hb hbox hg; have hnb24 := NB242_243.out; have hnc24 := NB243_242.out; have hcz25_0 : w23.cell? ⟨gb242, 0, none⟩ = some (.int .i64 a0_0) := (blk_cell BK242.out 0).trans rfl; have hcz25_1 : w23.cell? ⟨gb242, 1, none⟩ = some (.int .i64 a0_1) := (blk_cell BK242.out 1).trans rfl; have hcz25_2 : w23.cell? ⟨gb242, 2, none⟩ = some (.int .i64 a0_2) := (blk_cell BK242.out 2).trans rfl; have hcz25_3 : w23.cell? ⟨gb242, 3, none⟩ = some (.int .i64 a0_3) := (blk_cell BK242.out 3).trans rfl; have hcz25_4 : w23.cell? ⟨gb242, 4, none⟩ = some (.string a0_4) := (blk_cell BK242.out 4).trans rfl; have hfz25_0 := blk_frozen BK242.out 0; have hfz25_1 := blk_frozen BK242.out 1; have hfz25_2 := blk_frozen BK242.out 2; have hfz25_3 := blk_frozen BK242.out 3; have hfz25_4 := blk_frozen BK242.out 4) | ((with_reducible refine gate_callee (f := 33) rfl ?_); refine goesL_ (some 8) rfl rfl Try.func33 (by kernel_rfl) rfl #[.agg #[.int .i64 a0_0, .int .i64 a0_1, .int .i64 a0_2, .int .i64 a0_3, .string a0_4]] rfl (by (try simp only [List.map_toArray, List.map_cons, List.map_nil]); first | done | rfl | (simp only [List.length_drop, List.length_take]; rfl)) ?_; (with_reducible refine (video_Valid.calls a0_0 a0_1 a0_2 a0_3 a0_4 false _ A3.out).mono ?_); rintro e w26 ⟨rfl, hb⟩; refine ⟨_, rfl, ?_⟩; have n0_ := Aside0.mk (blk_below (g := gb242) (o := .cells #[.int .i64 a0_0, .int .i64 a0_1, .int .i64 a0_2, .int .i64 a0_3, .string a0_4] 49 (0, 0)) (by (with_reducible repeat (first | refine blk_drewN ?_ _ | refine blk_drew ?_ | refine blk_alloc ?_ _)); exact BK242.out) hb); have n1_ := Aside0.mk (blk_below (g := gb243) (o := .cells #[.int .i64 0, .int .i64 0, .int .i64 0, .int .i64 0, .string (⟨#[]⟩ : ByteArray)] 49 (0, 0)) (by (with_reducible repeat (first | refine blk_drewN ?_ _ | refine blk_drew ?_ | refine blk_alloc ?_ _)); exact BK243.out) hb); have n2_ := Aside0.mk (below_step (by repeat (first | (with_reducible first | exact HB.out | apply below_alloc | apply pw_below_drewN | apply below_drew1 | refine below_set ?_ GE242.out | refine below_set ?_ GE243.out) | exact HB.out)) hb); clear BK242; clear BK243; clear HB; have BK242 := n0_; have BK243 := n1_; have HB := n2_; clear n0_ n1_ n2_; (try clear hb); (try clear hb2); (try clear hk); (try clear hi); have hcz27_0 : w26.cell? ⟨gb243, 0, none⟩ = some (.int .i64 0) := (blk_cell BK243.out 0).trans rfl; have hcz27_1 : w26.cell? ⟨gb243, 1, none⟩ = some (.int .i64 0) := (blk_cell BK243.out 1).trans rfl; have hcz27_2 : w26.cell? ⟨gb243, 2, none⟩ = some (.int .i64 0) := (blk_cell BK243.out 2).trans rfl; have hcz27_3 : w26.cell? ⟨gb243, 3, none⟩ = some (.int .i64 0) := (blk_cell BK243.out 3).trans rfl; have hcz27_4 : w26.cell? ⟨gb243, 4, none⟩ = some (.string (⟨#[]⟩ : ByteArray)) := (blk_cell BK243.out 4).trans rfl; have hfz27_0 := blk_frozen BK243.out 0; have hfz27_1 := blk_frozen BK243.out 1; have hfz27_2 := blk_frozen BK243.out 2; have hfz27_3 := blk_frozen BK243.out 3; have hfz27_4 := blk_frozen BK243.out 4))
   refine bodyPost_ret (results_ct rfl _ _ gb243 49 #[.int .i64 0, .int .i64 0, .int .i64 0, .int .i64 0, .string (⟨#[]⟩ : ByteArray)] (0, 0) _ rfl (by (with_reducible repeat (first | refine blk_drewN ?_ _ | refine blk_drew ?_ | refine blk_alloc ?_ _)); refine blk_put (cs := #[.int .i64 0, .int .i64 0, .int .i64 0, .int .i64 0, .string (⟨#[]⟩ : ByteArray)]) ?_ 4 _ rfl; (with_reducible repeat (first | refine blk_drewN ?_ _ | refine blk_drew ?_ | refine blk_alloc ?_ _)); refine blk_put (cs := #[.int .i64 0, .int .i64 0, .int .i64 0, .int .i64 0, .string (⟨#[]⟩ : ByteArray)]) ?_ 3 _ rfl; (with_reducible repeat (first | refine blk_drewN ?_ _ | refine blk_drew ?_ | refine blk_alloc ?_ _)); refine blk_put (cs := #[.int .i64 0, .int .i64 0, .int .i64 0, .int .i64 0, .string (⟨#[]⟩ : ByteArray)]) ?_ 2 _ rfl; (with_reducible repeat (first | refine blk_drewN ?_ _ | refine blk_drew ?_ | refine blk_alloc ?_ _)); refine blk_put (cs := #[.int .i64 0, .int .i64 0, .int .i64 0, .int .i64 0, .string (⟨#[]⟩ : ByteArray)]) ?_ 1 _ rfl; (with_reducible repeat (first | refine blk_drewN ?_ _ | refine blk_drew ?_ | refine blk_alloc ?_ _)); refine blk_put (cs := #[.int .i64 0, .int .i64 0, .int .i64 0, .int .i64 0, .string (⟨#[]⟩ : ByteArray)]) ?_ 0 _ rfl; (with_reducible repeat (first | refine blk_drewN ?_ _ | refine blk_drew ?_ | refine blk_alloc ?_ _)); exact BK243.out) Try.underlying49 rfl (by kernel_rfl)) rfl ?_
   exact ⟨by first | rfl | (simp [errW_none, errW_some] <;> rfl) | (simp [*, errW_none, errW_some] <;> rfl), by repeat (first | (with_reducible first | exact HB.out | apply below_alloc | apply pw_below_drewN | apply below_drew1 | refine below_set ?_ GE242.out | refine below_set ?_ GE243.out) | exact HB.out)⟩
end Go.Proofs.Ythbajahklnpkcaa.PA

namespace Go.Proofs.Ythbajahklnpkcaa.PA
open Go.RowKit Go.Proofs.YthbajahklnpkcaaW.PrintWords Go.Proofs.YthbajahklnpkcaaW.PrintLast Go.Proofs.YthbajahklnpkcaaW.PrintMore
attribute [local go_sem] max2_int min2_int max_two min_two max_three min_three max_four min_four
set_option linter.unusedVariables false
set_option linter.unusedSimpArgs false
attribute [local go_sem high] eqA43
def continuolaw25_awake.f  : Option (Bool) := (video_Region.f (([(⟨0, 0, 2, 2⟩ : S43), (⟨1, 1, 2, 2⟩ : S43)] : List (S43)))).bind fun bt254 => (if bt254.2 = 0 then (if (bt254.1.length : Int) = 3 then (if 1 < (bt254.1.length : Int) then (if (!(((rd_T43 bt254.1 1).f0) == 0) || (!(((rd_T43 bt254.1 1).f1) == 1) || (!(((rd_T43 bt254.1 1).f2) == 3) || (!(((rd_T43 bt254.1 1).f3) == 1))))) = true then (some false) else ((video_Convert.f 1 0 2 2 (⟨#[97, 98, 99, 100]⟩ : ByteArray) 1).bind fun bt259 => (if bt259.2.2.2.2.2 = 0 then (if (bt259.2.2.2.2.1.size : Int) = 16 then (if 0 ≤ 2 then (if 2 ≤ (bt259.2.2.2.2.1.size : Int) then (if (bt259.2.2.2.2.1.extract 0 2).toList = ([97, 98] : List UInt8) then (if 4 ≤ 6 then (if 6 ≤ (bt259.2.2.2.2.1.size : Int) then (some ((bt259.2.2.2.2.1.extract 4 6).toList == ([99, 100] : List UInt8))) else (none)) else (none)) else (some false)) else (none)) else (none)) else (some false)) else (some false)))) else (none)) else (some false)) else (some false))
set_option maxHeartbeats 8000000 in
set_option maxRecDepth 100000 in
theorem continuolaw25_awake.calls  (r : Bool) (w : World) (h : continuolaw25_awake.f  = some r) :
 Calls Try.prog 10 #[] w fun e w' => e = .returned (.bool r) ∧ Below w.heap.size w w' := by
 have hu43 := Try.underlying43
 have hu49 := Try.underlying49
 have HB := Aside0.mk (Below.refl w.heap.size w)
 have H : ((video_Region.f (([(⟨0, 0, 2, 2⟩ : S43), (⟨1, 1, 2, 2⟩ : S43)] : List (S43)))).bind fun bt254 => (if bt254.2 = 0 then (if (bt254.1.length : Int) = 3 then (if 1 < (bt254.1.length : Int) then (if (!(((rd_T43 bt254.1 1).f0) == 0) || (!(((rd_T43 bt254.1 1).f1) == 1) || (!(((rd_T43 bt254.1 1).f2) == 3) || (!(((rd_T43 bt254.1 1).f3) == 1))))) = true then (some false) else ((video_Convert.f 1 0 2 2 (⟨#[97, 98, 99, 100]⟩ : ByteArray) 1).bind fun bt259 => (if bt259.2.2.2.2.2 = 0 then (if (bt259.2.2.2.2.1.size : Int) = 16 then (if 0 ≤ 2 then (if 2 ≤ (bt259.2.2.2.2.1.size : Int) then (if (bt259.2.2.2.2.1.extract 0 2).toList = ([97, 98] : List UInt8) then (if 4 ≤ 6 then (if 6 ≤ (bt259.2.2.2.2.1.size : Int) then (some ((bt259.2.2.2.2.1.extract 4 6).toList == ([99, 100] : List UInt8))) else (none)) else (none)) else (some false)) else (none)) else (none)) else (some false)) else (some false)))) else (none)) else (some false)) else (some false))) = some r := h
 clear h
 obtain ⟨y251, hy251⟩ : ∃ y_ : List (S43), y_ = (([(⟨0, 0, 2, 2⟩ : S43), (⟨1, 1, 2, 2⟩ : S43)] : List (S43))) := ⟨_, rfl⟩
 replace H : ((video_Region.f y251).bind fun bt254 => (if bt254.2 = 0 then (if (bt254.1.length : Int) = 3 then (if 1 < (bt254.1.length : Int) then (if (!(((rd_T43 bt254.1 1).f0) == 0) || (!(((rd_T43 bt254.1 1).f1) == 1) || (!(((rd_T43 bt254.1 1).f2) == 3) || (!(((rd_T43 bt254.1 1).f3) == 1))))) = true then (some false) else ((video_Convert.f 1 0 2 2 (⟨#[97, 98, 99, 100]⟩ : ByteArray) 1).bind fun bt259 => (if bt259.2.2.2.2.2 = 0 then (if (bt259.2.2.2.2.1.size : Int) = 16 then (if 0 ≤ 2 then (if 2 ≤ (bt259.2.2.2.2.1.size : Int) then (if (bt259.2.2.2.2.1.extract 0 2).toList = ([97, 98] : List UInt8) then (if 4 ≤ 6 then (if 6 ≤ (bt259.2.2.2.2.1.size : Int) then (some ((bt259.2.2.2.2.1.extract 4 6).toList == ([99, 100] : List UInt8))) else (none)) else (none)) else (some false)) else (none)) else (none)) else (some false)) else (some false)))) else (none)) else (some false)) else (some false))) = some r := by first | (rw [hy251]; with_reducible exact H) | (have H2_ := (Option.bind_some _ _).symm.trans H; rw [hy251]; with_reducible exact H2_) | (have H2_ := (Option.bind_some _ _).symm.trans H; with_reducible exact H2_) | with_reducible exact H | (rw [hy251]; exact H) | exact H
 have Ny251 := Aside0.mk hy251
 clear hy251
 replace H := Option.bind_eq_some_iff.mp H
 obtain ⟨⟨t254, t255⟩, A10, H⟩ := H
 replace H : (if t255 = 0 then (if (t254.length : Int) = 3 then (if 1 < (t254.length : Int) then (if (!(((rd_T43 t254 1).f0) == 0) || (!(((rd_T43 t254 1).f1) == 1) || (!(((rd_T43 t254 1).f2) == 3) || (!(((rd_T43 t254 1).f3) == 1))))) = true then (some false) else ((video_Convert.f 1 0 2 2 (⟨#[97, 98, 99, 100]⟩ : ByteArray) 1).bind fun bt259 => (if bt259.2.2.2.2.2 = 0 then (if (bt259.2.2.2.2.1.size : Int) = 16 then (if 0 ≤ 2 then (if 2 ≤ (bt259.2.2.2.2.1.size : Int) then (if (bt259.2.2.2.2.1.extract 0 2).toList = ([97, 98] : List UInt8) then (if 4 ≤ 6 then (if 6 ≤ (bt259.2.2.2.2.1.size : Int) then (some ((bt259.2.2.2.2.1.extract 4 6).toList == ([99, 100] : List UInt8))) else (none)) else (none)) else (some false)) else (none)) else (none)) else (some false)) else (some false)))) else (none)) else (some false)) else (some false)) = some r := H
 have A1 := Aside0.mk A10
 clear A10
 by_cases c2 : t255 = 0
 · rw [if_pos c2] at H
   have c2b0 : (t255 == 0) = true := beq_iff_eq.mpr c2
   have c2b1 : (t255 != 0) = false := bne_eq_false_iff_eq.mpr c2
   clear c2
   by_cases c3 : (t254.length : Int) = 3
   · rw [if_pos c3] at H
     have c3b0 : ((t254.length : Int) == 3) = true := beq_iff_eq.mpr c3
     have c3b1 : ((t254.length : Int) != 3) = false := bne_eq_false_iff_eq.mpr c3
     clear c3
     by_cases c4 : 1 < (t254.length : Int)
     · rw [if_pos c4] at H
       have c4b0 : decide (1 < (t254.length : Int)) = true := decide_eq_true c4
       have c4b1 : decide (1 < t254.length) = true := decide_eq_true (by omega)
       clear c4
       by_cases c5 : (!(((rd_T43 t254 1).f0) == 0) || (!(((rd_T43 t254 1).f1) == 1) || (!(((rd_T43 t254 1).f2) == 3) || (!(((rd_T43 t254 1).f3) == 1))))) = true
       · rw [if_pos c5] at H
         have c5b0 : (!(((rd_T43 t254 1).f0) == 0) || (!(((rd_T43 t254 1).f1) == 1) || (!(((rd_T43 t254 1).f2) == 3) || (!(((rd_T43 t254 1).f3) == 1))))) = true := c5
         clear c5
         obtain rfl := Option.some.inj H
         go_enter Try.func10, Try.ntmps10
         go_wp2_with (first | ((with_reducible refine gate_dst (N := 7) rfl ?_); (try (refine gate_guard (by rfl) ?_; dsimp only)); refine Kd.R_lit k43 _ 43 ?hg (N := 7) ?hd (xs := ([(⟨0, 0, 2, 2⟩ : S43), (⟨1, 1, 2, 2⟩ : S43)] : List (S43))) (inner := [.int .i64 0, .int .i64 0, .int .i64 2, .int .i64 2, .int .i64 1, .int .i64 1, .int .i64 2, .int .i64 2]) (ok := fun _ => True) (okp := fun _ => True) ?hr ?hp (fun _ hk => hk) trivial (Below.refl _ _) (Nat.le_refl _) (by simp) ?_; (case hd => rfl); (case hg => rfl); (case hr => first | (go_simp; done) | (go_simp; rfl)); (case hp => exact (Reps.c4 (show Kd.M k43 _ _ _ (⟨0, 0, 2, 2⟩ : S43) [.int .i64 0, .int .i64 0, .int .i64 2, .int .i64 2] from (k43_mkM _ _ _ (⟨0, 0, 2, 2⟩ : S43) )) (Reps.c4 (show Kd.M k43 _ _ _ (⟨1, 1, 2, 2⟩ : S43) [.int .i64 1, .int .i64 1, .int .i64 2, .int .i64 2] from (k43_mkM _ _ _ (⟨1, 1, 2, 2⟩ : S43) )) (Reps.none _ _)))); intro v252 w6 ho7 hb hg_ hnew_; clear hg_ hnew_; (first | rw [← Ny251.out] at ho7 | (simp only [Int.reduceToNat] at ho7; rw [← Ny251.out] at ho7)); have n0_ := Aside0.mk (Kd.R_lower ho7 (below_size (by repeat (first | (with_reducible first | exact HB.out | apply below_alloc | apply pw_below_drewN | apply below_drew1) | exact HB.out)))); have n1_ := Aside0.mk (below_step (by repeat (first | (with_reducible first | exact HB.out | apply below_alloc | apply pw_below_drewN | apply below_drew1) | exact HB.out)) hb); clear HB; have HO253 := n0_; have HB := n1_; clear n0_ n1_; clear hb ho7; obtain ⟨Ao8, co8, eo8⟩ := Kd.R_slice HO253.out; subst eo8) | ((with_reducible refine gate_callee (f := 20) rfl ?_); refine goesL_ (some 8) rfl rfl Try.func20 (by kernel_rfl) rfl #[.slice Ao8 y251.length co8] rfl (by (try simp only [List.map_toArray, List.map_cons, List.map_nil]); first | done | rfl | (simp only [List.length_drop, List.length_take]; rfl)) ?_; (with_reducible refine (video_Region.calls _ _ y251 t254 t255 _ ?side1 ?side2 A1.out).mono ?_); (case side1 => repeat (first | exact (Kd.R_reads' HO253.out).2.2 | (with_reducible refine Kd.C_alloc ?_ _) | (with_reducible refine Kd.C_drewN ?_ _) | (with_reducible refine Kd.C_drew ?_))); (case side2 => exact (Kd.R_reads' HO253.out).2.1); rintro e w9 ⟨v256, rfl, ho0, hb⟩; refine ⟨_, rfl, ?_⟩; have n0_ := Aside0.mk (Kd.R_below (by (with_reducible repeat (first | apply Kd.R_alloc | apply Kd.R_drewN | apply Kd.R_drew)); exact HO253.out) hb); have n1_ := Aside0.mk (Kd.R_lower ho0 (below_size (by repeat (first | (with_reducible first | exact HB.out | apply below_alloc | apply pw_below_drewN | apply below_drew1) | exact HB.out)))); have n2_ := Aside0.mk (below_step (by repeat (first | (with_reducible first | exact HB.out | apply below_alloc | apply pw_below_drewN | apply below_drew1) | exact HB.out)) hb); clear HO253; clear HB; have HO253 := n0_; have HO257 := n1_; have HB := n2_; clear n0_ n1_ n2_; (try clear hb); (try clear hb2); (try clear hk); (try clear hi); (try clear ho0); obtain ⟨Ao10, co10, eo10⟩ := Kd.R_slice HO257.out; subst eo10; have p258 : 0 ≤ (1 : Int) := (by omega); have q258 : 1 < (t254.length : Int) := of_decide_eq_true (by first | (with_reducible assumption) | assumption); obtain ⟨ad258, e258, hx258_0, hx258_1, hx258_2, hx258_3⟩ := at_T43 (Kd.R_reads' HO257.out).2.2 1 p258 q258; cases e258; (try simp only [show (1 : Int).toNat = 1 from rfl, Nat.reduceMul, Nat.reduceEqDiff, Go.Addr.add, ↓reduceIte] at hx258_0); (try simp only [show (1 : Int).toNat = 1 from rfl, Nat.reduceMul, Nat.reduceEqDiff, Go.Addr.add, ↓reduceIte] at hx258_1); (try simp only [show (1 : Int).toNat = 1 from rfl, Nat.reduceMul, Nat.reduceEqDiff, Go.Addr.add, ↓reduceIte] at hx258_2); (try simp only [show (1 : Int).toNat = 1 from rfl, Nat.reduceMul, Nat.reduceEqDiff, Go.Addr.add, ↓reduceIte] at hx258_3); have qi258 : (1 < t254.length) = True := eq_true (by omega); (try rw [show ((1 : Int)).toNat = 1 from rfl] at hx258_0); (try rw [show 1 * 4 = 4 from rfl] at hx258_0); (try rw [show ((1 : Int)).toNat = 1 from rfl] at hx258_1); (try rw [show 1 * 4 = 4 from rfl] at hx258_1); (try rw [show ((1 : Int)).toNat = 1 from rfl] at hx258_2); (try rw [show 1 * 4 = 4 from rfl] at hx258_2); (try rw [show ((1 : Int)).toNat = 1 from rfl] at hx258_3); (try rw [show 1 * 4 = 4 from rfl] at hx258_3); replace p258 := eq_true p258; replace q258 := eq_true q258))
         go_ret
         exact ⟨by first | rfl | (simp [errW_none, errW_some] <;> rfl) | (simp [*, errW_none, errW_some] <;> rfl), by repeat (first | (with_reducible first | exact HB.out | apply below_alloc | apply pw_below_drewN | apply below_drew1) | exact HB.out)⟩
       · rw [if_neg c5] at H
         have c5b0 : (!(((rd_T43 t254 1).f0) == 0) || (!(((rd_T43 t254 1).f1) == 1) || (!(((rd_T43 t254 1).f2) == 3) || (!(((rd_T43 t254 1).f3) == 1))))) = false := by simpa using c5
         clear c5
         replace H := Option.bind_eq_some_iff.mp H
         obtain ⟨⟨t259, t260, t261, t262, t263, t264⟩, A110, H⟩ := H
         replace H : (if t264 = 0 then (if (t263.size : Int) = 16 then (if 0 ≤ 2 then (if 2 ≤ (t263.size : Int) then (if (t263.extract 0 2).toList = ([97, 98] : List UInt8) then (if 4 ≤ 6 then (if 6 ≤ (t263.size : Int) then (some ((t263.extract 4 6).toList == ([99, 100] : List UInt8))) else (none)) else (none)) else (some false)) else (none)) else (none)) else (some false)) else (some false)) = some r := H
         have A11 := Aside0.mk A110
         clear A110
         by_cases c12 : t264 = 0
         · rw [if_pos c12] at H
           have c12b0 : (t264 == 0) = true := beq_iff_eq.mpr c12
           have c12b1 : (t264 != 0) = false := bne_eq_false_iff_eq.mpr c12
           clear c12
           by_cases c13 : (t263.size : Int) = 16
           · rw [if_pos c13] at H
             have c13b0 : ((t263.size : Int) == 16) = true := beq_iff_eq.mpr c13
             have c13b1 : ((t263.size : Int) != 16) = false := bne_eq_false_iff_eq.mpr c13
             clear c13
             by_cases c14 : 0 ≤ 2
             · rw [if_pos c14] at H
               have c14b0 := eq_true c14
               have c14b1 : decide (0 ≤ 2) = true := decide_eq_true c14
               clear c14
               by_cases c15 : 2 ≤ (t263.size : Int)
               · rw [if_pos c15] at H
                 have c15b0 := eq_true c15
                 have c15b1 : decide (2 ≤ (t263.size : Int)) = true := decide_eq_true c15
                 clear c15
                 by_cases c16 : (t263.extract 0 2).toList = ([97, 98] : List UInt8)
                 · rw [if_pos c16] at H
                   have c16b0 : ((t263.extract 0 2).toList == ([97, 98] : List UInt8)) = true := beq_iff_eq.mpr c16
                   have c16b1 : ((t263.extract 0 2).toList != ([97, 98] : List UInt8)) = false := bne_eq_false_iff_eq.mpr c16
                   clear c16
                   by_cases c17 : 4 ≤ 6
                   · rw [if_pos c17] at H
                     have c17b0 := eq_true c17
                     have c17b1 : decide (4 ≤ 6) = true := decide_eq_true c17
                     clear c17
                     by_cases c18 : 6 ≤ (t263.size : Int)
                     · rw [if_pos c18] at H
                       have c18b0 := eq_true c18
                       have c18b1 : decide (6 ≤ (t263.size : Int)) = true := decide_eq_true c18
                       clear c18
                       obtain rfl := Option.some.inj H
                       go_enter Try.func10, Try.ntmps10
                       go_wp2_with (first | ((with_reducible refine gate_dst (N := 7) rfl ?_); (try (refine gate_guard (by rfl) ?_; dsimp only)); refine Kd.R_lit k43 _ 43 ?hg (N := 7) ?hd (xs := ([(⟨0, 0, 2, 2⟩ : S43), (⟨1, 1, 2, 2⟩ : S43)] : List (S43))) (inner := [.int .i64 0, .int .i64 0, .int .i64 2, .int .i64 2, .int .i64 1, .int .i64 1, .int .i64 2, .int .i64 2]) (ok := fun _ => True) (okp := fun _ => True) ?hr ?hp (fun _ hk => hk) trivial (Below.refl _ _) (Nat.le_refl _) (by simp) ?_; (case hd => rfl); (case hg => rfl); (case hr => first | (go_simp; done) | (go_simp; rfl)); (case hp => exact (Reps.c4 (show Kd.M k43 _ _ _ (⟨0, 0, 2, 2⟩ : S43) [.int .i64 0, .int .i64 0, .int .i64 2, .int .i64 2] from (k43_mkM _ _ _ (⟨0, 0, 2, 2⟩ : S43) )) (Reps.c4 (show Kd.M k43 _ _ _ (⟨1, 1, 2, 2⟩ : S43) [.int .i64 1, .int .i64 1, .int .i64 2, .int .i64 2] from (k43_mkM _ _ _ (⟨1, 1, 2, 2⟩ : S43) )) (Reps.none _ _)))); intro v252 w19 ho20 hb hg_ hnew_; clear hg_ hnew_; (first | rw [← Ny251.out] at ho20 | (simp only [Int.reduceToNat] at ho20; rw [← Ny251.out] at ho20)); have n0_ := Aside0.mk (Kd.R_lower ho20 (below_size (by repeat (first | (with_reducible first | exact HB.out | apply below_alloc | apply pw_below_drewN | apply below_drew1) | exact HB.out)))); have n1_ := Aside0.mk (below_step (by repeat (first | (with_reducible first | exact HB.out | apply below_alloc | apply pw_below_drewN | apply below_drew1) | exact HB.out)) hb); clear HB; have HO253 := n0_; have HB := n1_; clear n0_ n1_; clear hb ho20; obtain ⟨Ao21, co21, eo21⟩ := Kd.R_slice HO253.out; subst eo21) | ((with_reducible refine gate_callee (f := 20) rfl ?_); refine goesL_ (some 8) rfl rfl Try.func20 (by kernel_rfl) rfl #[.slice Ao21 y251.length co21] rfl (by (try simp only [List.map_toArray, List.map_cons, List.map_nil]); first | done | rfl | (simp only [List.length_drop, List.length_take]; rfl)) ?_; (with_reducible refine (video_Region.calls _ _ y251 t254 t255 _ ?side1 ?side2 A1.out).mono ?_); (case side1 => repeat (first | exact (Kd.R_reads' HO253.out).2.2 | (with_reducible refine Kd.C_alloc ?_ _) | (with_reducible refine Kd.C_drewN ?_ _) | (with_reducible refine Kd.C_drew ?_))); (case side2 => exact (Kd.R_reads' HO253.out).2.1); rintro e w22 ⟨v256, rfl, ho0, hb⟩; refine ⟨_, rfl, ?_⟩; have n0_ := Aside0.mk (Kd.R_below (by (with_reducible repeat (first | apply Kd.R_alloc | apply Kd.R_drewN | apply Kd.R_drew)); exact HO253.out) hb); have n1_ := Aside0.mk (Kd.R_lower ho0 (below_size (by repeat (first | (with_reducible first | exact HB.out | apply below_alloc | apply pw_below_drewN | apply below_drew1) | exact HB.out)))); have n2_ := Aside0.mk (below_step (by repeat (first | (with_reducible first | exact HB.out | apply below_alloc | apply pw_below_drewN | apply below_drew1) | exact HB.out)) hb); clear HO253; clear HB; have HO253 := n0_; have HO257 := n1_; have HB := n2_; clear n0_ n1_ n2_; (try clear hb); (try clear hb2); (try clear hk); (try clear hi); (try clear ho0); obtain ⟨Ao23, co23, eo23⟩ := Kd.R_slice HO257.out; subst eo23; have p258 : 0 ≤ (1 : Int) := (by omega); have q258 : 1 < (t254.length : Int) := of_decide_eq_true (by first | (with_reducible assumption) | assumption); obtain ⟨ad258, e258, hx258_0, hx258_1, hx258_2, hx258_3⟩ := at_T43 (Kd.R_reads' HO257.out).2.2 1 p258 q258; cases e258; (try simp only [show (1 : Int).toNat = 1 from rfl, Nat.reduceMul, Nat.reduceEqDiff, Go.Addr.add, ↓reduceIte] at hx258_0); (try simp only [show (1 : Int).toNat = 1 from rfl, Nat.reduceMul, Nat.reduceEqDiff, Go.Addr.add, ↓reduceIte] at hx258_1); (try simp only [show (1 : Int).toNat = 1 from rfl, Nat.reduceMul, Nat.reduceEqDiff, Go.Addr.add, ↓reduceIte] at hx258_2); (try simp only [show (1 : Int).toNat = 1 from rfl, Nat.reduceMul, Nat.reduceEqDiff, Go.Addr.add, ↓reduceIte] at hx258_3); have qi258 : (1 < t254.length) = True := eq_true (by omega); (try rw [show ((1 : Int)).toNat = 1 from rfl] at hx258_0); (try rw [show 1 * 4 = 4 from rfl] at hx258_0); (try rw [show ((1 : Int)).toNat = 1 from rfl] at hx258_1); (try rw [show 1 * 4 = 4 from rfl] at hx258_1); (try rw [show ((1 : Int)).toNat = 1 from rfl] at hx258_2); (try rw [show 1 * 4 = 4 from rfl] at hx258_2); (try rw [show ((1 : Int)).toNat = 1 from rfl] at hx258_3); (try rw [show 1 * 4 = 4 from rfl] at hx258_3); replace p258 := eq_true p258; replace q258 := eq_true q258) | ((with_reducible refine gate_callee (f := 42) rfl ?_); refine goesL_ (some 27) rfl rfl Try.func42 (by kernel_rfl) rfl #[.agg #[.int .i64 1, .int .i64 0, .int .i64 2, .int .i64 2, .string (⟨#[97, 98, 99, 100]⟩ : ByteArray)], .int .i64 1] rfl (by (try simp only [List.map_toArray, List.map_cons, List.map_nil]); first | done | rfl | (simp only [List.length_drop, List.length_take]; rfl)) ?_; (with_reducible refine (video_Convert.calls 1 0 2 2 (⟨#[97, 98, 99, 100]⟩ : ByteArray) 1 t259 t260 t261 t262 t263 t264 _ A11.out).mono ?_); rintro e w24 ⟨rfl, hb⟩; refine ⟨_, rfl, ?_⟩; have n0_ := Aside0.mk (Kd.R_below (by (with_reducible repeat (first | apply Kd.R_alloc | apply Kd.R_drewN | apply Kd.R_drew)); exact HO253.out) hb); have n1_ := Aside0.mk (Kd.R_below (by (with_reducible repeat (first | apply Kd.R_alloc | apply Kd.R_drewN | apply Kd.R_drew)); exact HO257.out) hb); have n2_ := Aside0.mk (below_step (by repeat (first | (with_reducible first | exact HB.out | apply below_alloc | apply pw_below_drewN | apply below_drew1) | exact HB.out)) hb); clear HO253; clear HO257; clear HB; have HO253 := n0_; have HO257 := n1_; have HB := n2_; clear n0_ n1_ n2_; (try clear hb); (try clear hb2); (try clear hk); (try clear hi)) | ((with_reducible refine gate_dst (N := 3) rfl ?_); (try (refine gate_guard (by rfl) ?_; dsimp only)); refine box_event ?hg (N := 3) ?hd (cs := #[.int .i64 0, .int .i64 0, .int .i64 0, .int .i64 0, .string (⟨#[]⟩ : ByteArray)]) (t := 49) ?hr ?_; (case hd => rfl); (case hg => rfl); (case hr => first | (go_simp; done) | (go_simp; rfl)); intro gb265 hg w25 hbox hb; have n0_ := Aside0.mk (Kd.R_below (by (with_reducible repeat (first | apply Kd.R_alloc | apply Kd.R_drewN | apply Kd.R_drew)); exact HO253.out) hb); have n1_ := Aside0.mk (Kd.R_below (by (with_reducible repeat (first | apply Kd.R_alloc | apply Kd.R_drewN | apply Kd.R_drew)); exact HO257.out) hb); have n2_ := Aside0.mk (below_step (by repeat (first | (with_reducible first | exact HB.out | apply below_alloc | apply pw_below_drewN | apply below_drew1) | exact HB.out)) hb); have n3_ := Aside0.mk (hbox); have n4_ := Aside0.mk ((by rw [hg]; exact (below_size (by repeat (first | (with_reducible first | exact HB.out | apply below_alloc | apply pw_below_drewN | apply below_drew1) | exact HB.out))) : w.heap.size ≤ gb265)); have n5_ := Aside0.mk ((by rw [hg]; exact (below_size (by repeat (first | (with_reducible first | exact HB.out | apply below_alloc | apply pw_below_drewN | apply below_drew1) | exact HB.out))) : w.heap.size ≤ gb265)); clear HO253; clear HO257; clear HB; have HO253 := n0_; have HO257 := n1_; have HB := n2_; have BK265 := n3_; have GW265 := n4_; have GE265 := n5_; clear n0_ n1_ n2_ n3_ n4_ n5_; clear hb hbox hg; have hcz26_0 : w25.cell? ⟨gb265, 0, none⟩ = some (.int .i64 0) := (blk_cell BK265.out 0).trans rfl; have hcz26_1 : w25.cell? ⟨gb265, 1, none⟩ = some (.int .i64 0) := (blk_cell BK265.out 1).trans rfl; have hcz26_2 : w25.cell? ⟨gb265, 2, none⟩ = some (.int .i64 0) := (blk_cell BK265.out 2).trans rfl; have hcz26_3 : w25.cell? ⟨gb265, 3, none⟩ = some (.int .i64 0) := (blk_cell BK265.out 3).trans rfl; have hcz26_4 : w25.cell? ⟨gb265, 4, none⟩ = some (.string (⟨#[]⟩ : ByteArray)) := (blk_cell BK265.out 4).trans rfl; have hfz26_0 := blk_frozen BK265.out 0; have hfz26_1 := blk_frozen BK265.out 1; have hfz26_2 := blk_frozen BK265.out 2; have hfz26_3 := blk_frozen BK265.out 3; have hfz26_4 := blk_frozen BK265.out 4))
                       go_ret
                       exact ⟨by first | rfl | (simp [errW_none, errW_some] <;> rfl) | (simp [*, errW_none, errW_some] <;> rfl), by repeat (first | (with_reducible first | exact HB.out | apply below_alloc | apply pw_below_drewN | apply below_drew1 | refine below_set ?_ GE265.out) | exact HB.out)⟩
                     · rw [if_neg c18] at H
                       exact absurd H (by simp)
                   · rw [if_neg c17] at H
                     exact absurd H (by simp)
                 · rw [if_neg c16] at H
                   have c16b0 : ((t263.extract 0 2).toList == ([97, 98] : List UInt8)) = false := beq_eq_false_iff_ne.mpr c16
                   have c16b1 : ((t263.extract 0 2).toList != ([97, 98] : List UInt8)) = true := bne_iff_ne.mpr c16
                   obtain rfl := Option.some.inj H
                   go_enter Try.func10, Try.ntmps10
                   go_wp2_with (first | ((with_reducible refine gate_dst (N := 7) rfl ?_); (try (refine gate_guard (by rfl) ?_; dsimp only)); refine Kd.R_lit k43 _ 43 ?hg (N := 7) ?hd (xs := ([(⟨0, 0, 2, 2⟩ : S43), (⟨1, 1, 2, 2⟩ : S43)] : List (S43))) (inner := [.int .i64 0, .int .i64 0, .int .i64 2, .int .i64 2, .int .i64 1, .int .i64 1, .int .i64 2, .int .i64 2]) (ok := fun _ => True) (okp := fun _ => True) ?hr ?hp (fun _ hk => hk) trivial (Below.refl _ _) (Nat.le_refl _) (by simp) ?_; (case hd => rfl); (case hg => rfl); (case hr => first | (go_simp; done) | (go_simp; rfl)); (case hp => exact (Reps.c4 (show Kd.M k43 _ _ _ (⟨0, 0, 2, 2⟩ : S43) [.int .i64 0, .int .i64 0, .int .i64 2, .int .i64 2] from (k43_mkM _ _ _ (⟨0, 0, 2, 2⟩ : S43) )) (Reps.c4 (show Kd.M k43 _ _ _ (⟨1, 1, 2, 2⟩ : S43) [.int .i64 1, .int .i64 1, .int .i64 2, .int .i64 2] from (k43_mkM _ _ _ (⟨1, 1, 2, 2⟩ : S43) )) (Reps.none _ _)))); intro v252 w27 ho28 hb hg_ hnew_; clear hg_ hnew_; (first | rw [← Ny251.out] at ho28 | (simp only [Int.reduceToNat] at ho28; rw [← Ny251.out] at ho28)); have n0_ := Aside0.mk (Kd.R_lower ho28 (below_size (by repeat (first | (with_reducible first | exact HB.out | apply below_alloc | apply pw_below_drewN | apply below_drew1) | exact HB.out)))); have n1_ := Aside0.mk (below_step (by repeat (first | (with_reducible first | exact HB.out | apply below_alloc | apply pw_below_drewN | apply below_drew1) | exact HB.out)) hb); clear HB; have HO253 := n0_; have HB := n1_; clear n0_ n1_; clear hb ho28; obtain ⟨Ao29, co29, eo29⟩ := Kd.R_slice HO253.out; subst eo29) | ((with_reducible refine gate_callee (f := 20) rfl ?_); refine goesL_ (some 8) rfl rfl Try.func20 (by kernel_rfl) rfl #[.slice Ao29 y251.length co29] rfl (by (try simp only [List.map_toArray, List.map_cons, List.map_nil]); first | done | rfl | (simp only [List.length_drop, List.length_take]; rfl)) ?_; (with_reducible refine (video_Region.calls _ _ y251 t254 t255 _ ?side1 ?side2 A1.out).mono ?_); (case side1 => repeat (first | exact (Kd.R_reads' HO253.out).2.2 | (with_reducible refine Kd.C_alloc ?_ _) | (with_reducible refine Kd.C_drewN ?_ _) | (with_reducible refine Kd.C_drew ?_))); (case side2 => exact (Kd.R_reads' HO253.out).2.1); rintro e w30 ⟨v256, rfl, ho0, hb⟩; refine ⟨_, rfl, ?_⟩; have n0_ := Aside0.mk (Kd.R_below (by (with_reducible repeat (first | apply Kd.R_alloc | apply Kd.R_drewN | apply Kd.R_drew)); exact HO253.out) hb); have n1_ := Aside0.mk (Kd.R_lower ho0 (below_size (by repeat (first | (with_reducible first | exact HB.out | apply below_alloc | apply pw_below_drewN | apply below_drew1) | exact HB.out)))); have n2_ := Aside0.mk (below_step (by repeat (first | (with_reducible first | exact HB.out | apply below_alloc | apply pw_below_drewN | apply below_drew1) | exact HB.out)) hb); clear HO253; clear HB; have HO253 := n0_; have HO257 := n1_; have HB := n2_; clear n0_ n1_ n2_; (try clear hb); (try clear hb2); (try clear hk); (try clear hi); (try clear ho0); obtain ⟨Ao31, co31, eo31⟩ := Kd.R_slice HO257.out; subst eo31; have p258 : 0 ≤ (1 : Int) := (by omega); have q258 : 1 < (t254.length : Int) := of_decide_eq_true (by first | (with_reducible assumption) | assumption); obtain ⟨ad258, e258, hx258_0, hx258_1, hx258_2, hx258_3⟩ := at_T43 (Kd.R_reads' HO257.out).2.2 1 p258 q258; cases e258; (try simp only [show (1 : Int).toNat = 1 from rfl, Nat.reduceMul, Nat.reduceEqDiff, Go.Addr.add, ↓reduceIte] at hx258_0); (try simp only [show (1 : Int).toNat = 1 from rfl, Nat.reduceMul, Nat.reduceEqDiff, Go.Addr.add, ↓reduceIte] at hx258_1); (try simp only [show (1 : Int).toNat = 1 from rfl, Nat.reduceMul, Nat.reduceEqDiff, Go.Addr.add, ↓reduceIte] at hx258_2); (try simp only [show (1 : Int).toNat = 1 from rfl, Nat.reduceMul, Nat.reduceEqDiff, Go.Addr.add, ↓reduceIte] at hx258_3); have qi258 : (1 < t254.length) = True := eq_true (by omega); (try rw [show ((1 : Int)).toNat = 1 from rfl] at hx258_0); (try rw [show 1 * 4 = 4 from rfl] at hx258_0); (try rw [show ((1 : Int)).toNat = 1 from rfl] at hx258_1); (try rw [show 1 * 4 = 4 from rfl] at hx258_1); (try rw [show ((1 : Int)).toNat = 1 from rfl] at hx258_2); (try rw [show 1 * 4 = 4 from rfl] at hx258_2); (try rw [show ((1 : Int)).toNat = 1 from rfl] at hx258_3); (try rw [show 1 * 4 = 4 from rfl] at hx258_3); replace p258 := eq_true p258; replace q258 := eq_true q258) | ((with_reducible refine gate_callee (f := 42) rfl ?_); refine goesL_ (some 27) rfl rfl Try.func42 (by kernel_rfl) rfl #[.agg #[.int .i64 1, .int .i64 0, .int .i64 2, .int .i64 2, .string (⟨#[97, 98, 99, 100]⟩ : ByteArray)], .int .i64 1] rfl (by (try simp only [List.map_toArray, List.map_cons, List.map_nil]); first | done | rfl | (simp only [List.length_drop, List.length_take]; rfl)) ?_; (with_reducible refine (video_Convert.calls 1 0 2 2 (⟨#[97, 98, 99, 100]⟩ : ByteArray) 1 t259 t260 t261 t262 t263 t264 _ A11.out).mono ?_); rintro e w32 ⟨rfl, hb⟩; refine ⟨_, rfl, ?_⟩; have n0_ := Aside0.mk (Kd.R_below (by (with_reducible repeat (first | apply Kd.R_alloc | apply Kd.R_drewN | apply Kd.R_drew)); exact HO253.out) hb); have n1_ := Aside0.mk (Kd.R_below (by (with_reducible repeat (first | apply Kd.R_alloc | apply Kd.R_drewN | apply Kd.R_drew)); exact HO257.out) hb); have n2_ := Aside0.mk (below_step (by repeat (first | (with_reducible first | exact HB.out | apply below_alloc | apply pw_below_drewN | apply below_drew1) | exact HB.out)) hb); clear HO253; clear HO257; clear HB; have HO253 := n0_; have HO257 := n1_; have HB := n2_; clear n0_ n1_ n2_; (try clear hb); (try clear hb2); (try clear hk); (try clear hi)) | ((with_reducible refine gate_dst (N := 3) rfl ?_); (try (refine gate_guard (by rfl) ?_; dsimp only)); refine box_event ?hg (N := 3) ?hd (cs := #[.int .i64 0, .int .i64 0, .int .i64 0, .int .i64 0, .string (⟨#[]⟩ : ByteArray)]) (t := 49) ?hr ?_; (case hd => rfl); (case hg => rfl); (case hr => first | (go_simp; done) | (go_simp; rfl)); intro gb265 hg w33 hbox hb; have n0_ := Aside0.mk (Kd.R_below (by (with_reducible repeat (first | apply Kd.R_alloc | apply Kd.R_drewN | apply Kd.R_drew)); exact HO253.out) hb); have n1_ := Aside0.mk (Kd.R_below (by (with_reducible repeat (first | apply Kd.R_alloc | apply Kd.R_drewN | apply Kd.R_drew)); exact HO257.out) hb); have n2_ := Aside0.mk (below_step (by repeat (first | (with_reducible first | exact HB.out | apply below_alloc | apply pw_below_drewN | apply below_drew1) | exact HB.out)) hb); have n3_ := Aside0.mk (hbox); have n4_ := Aside0.mk ((by rw [hg]; exact (below_size (by repeat (first | (with_reducible first | exact HB.out | apply below_alloc | apply pw_below_drewN | apply below_drew1) | exact HB.out))) : w.heap.size ≤ gb265)); have n5_ := Aside0.mk ((by rw [hg]; exact (below_size (by repeat (first | (with_reducible first | exact HB.out | apply below_alloc | apply pw_below_drewN | apply below_drew1) | exact HB.out))) : w.heap.size ≤ gb265)); clear HO253; clear HO257; clear HB; have HO253 := n0_; have HO257 := n1_; have HB := n2_; have BK265 := n3_; have GW265 := n4_; have GE265 := n5_; clear n0_ n1_ n2_ n3_ n4_ n5_; clear hb hbox hg; have hcz34_0 : w33.cell? ⟨gb265, 0, none⟩ = some (.int .i64 0) := (blk_cell BK265.out 0).trans rfl; have hcz34_1 : w33.cell? ⟨gb265, 1, none⟩ = some (.int .i64 0) := (blk_cell BK265.out 1).trans rfl; have hcz34_2 : w33.cell? ⟨gb265, 2, none⟩ = some (.int .i64 0) := (blk_cell BK265.out 2).trans rfl; have hcz34_3 : w33.cell? ⟨gb265, 3, none⟩ = some (.int .i64 0) := (blk_cell BK265.out 3).trans rfl; have hcz34_4 : w33.cell? ⟨gb265, 4, none⟩ = some (.string (⟨#[]⟩ : ByteArray)) := (blk_cell BK265.out 4).trans rfl; have hfz34_0 := blk_frozen BK265.out 0; have hfz34_1 := blk_frozen BK265.out 1; have hfz34_2 := blk_frozen BK265.out 2; have hfz34_3 := blk_frozen BK265.out 3; have hfz34_4 := blk_frozen BK265.out 4))
                   go_ret
                   exact ⟨by first | rfl | (simp [errW_none, errW_some] <;> rfl) | (simp [*, errW_none, errW_some] <;> rfl), by repeat (first | (with_reducible first | exact HB.out | apply below_alloc | apply pw_below_drewN | apply below_drew1 | refine below_set ?_ GE265.out) | exact HB.out)⟩
               · rw [if_neg c15] at H
                 exact absurd H (by simp)
             · rw [if_neg c14] at H
               exact absurd H (by simp)
           · rw [if_neg c13] at H
             have c13b0 : ((t263.size : Int) == 16) = false := beq_eq_false_iff_ne.mpr c13
             have c13b1 : ((t263.size : Int) != 16) = true := bne_iff_ne.mpr c13
             obtain rfl := Option.some.inj H
             go_enter Try.func10, Try.ntmps10
             go_wp2_with (first | ((with_reducible refine gate_dst (N := 7) rfl ?_); (try (refine gate_guard (by rfl) ?_; dsimp only)); refine Kd.R_lit k43 _ 43 ?hg (N := 7) ?hd (xs := ([(⟨0, 0, 2, 2⟩ : S43), (⟨1, 1, 2, 2⟩ : S43)] : List (S43))) (inner := [.int .i64 0, .int .i64 0, .int .i64 2, .int .i64 2, .int .i64 1, .int .i64 1, .int .i64 2, .int .i64 2]) (ok := fun _ => True) (okp := fun _ => True) ?hr ?hp (fun _ hk => hk) trivial (Below.refl _ _) (Nat.le_refl _) (by simp) ?_; (case hd => rfl); (case hg => rfl); (case hr => first | (go_simp; done) | (go_simp; rfl)); (case hp => exact (Reps.c4 (show Kd.M k43 _ _ _ (⟨0, 0, 2, 2⟩ : S43) [.int .i64 0, .int .i64 0, .int .i64 2, .int .i64 2] from (k43_mkM _ _ _ (⟨0, 0, 2, 2⟩ : S43) )) (Reps.c4 (show Kd.M k43 _ _ _ (⟨1, 1, 2, 2⟩ : S43) [.int .i64 1, .int .i64 1, .int .i64 2, .int .i64 2] from (k43_mkM _ _ _ (⟨1, 1, 2, 2⟩ : S43) )) (Reps.none _ _)))); intro v252 w35 ho36 hb hg_ hnew_; clear hg_ hnew_; (first | rw [← Ny251.out] at ho36 | (simp only [Int.reduceToNat] at ho36; rw [← Ny251.out] at ho36)); have n0_ := Aside0.mk (Kd.R_lower ho36 (below_size (by repeat (first | (with_reducible first | exact HB.out | apply below_alloc | apply pw_below_drewN | apply below_drew1) | exact HB.out)))); have n1_ := Aside0.mk (below_step (by repeat (first | (with_reducible first | exact HB.out | apply below_alloc | apply pw_below_drewN | apply below_drew1) | exact HB.out)) hb); clear HB; have HO253 := n0_; have HB := n1_; clear n0_ n1_; clear hb ho36; obtain ⟨Ao37, co37, eo37⟩ := Kd.R_slice HO253.out; subst eo37) | ((with_reducible refine gate_callee (f := 20) rfl ?_); refine goesL_ (some 8) rfl rfl Try.func20 (by kernel_rfl) rfl #[.slice Ao37 y251.length co37] rfl (by (try simp only [List.map_toArray, List.map_cons, List.map_nil]); first | done | rfl | (simp only [List.length_drop, List.length_take]; rfl)) ?_; (with_reducible refine (video_Region.calls _ _ y251 t254 t255 _ ?side1 ?side2 A1.out).mono ?_); (case side1 => repeat (first | exact (Kd.R_reads' HO253.out).2.2 | (with_reducible refine Kd.C_alloc ?_ _) | (with_reducible refine Kd.C_drewN ?_ _) | (with_reducible refine Kd.C_drew ?_))); (case side2 => exact (Kd.R_reads' HO253.out).2.1); rintro e w38 ⟨v256, rfl, ho0, hb⟩; refine ⟨_, rfl, ?_⟩; have n0_ := Aside0.mk (Kd.R_below (by (with_reducible repeat (first | apply Kd.R_alloc | apply Kd.R_drewN | apply Kd.R_drew)); exact HO253.out) hb); have n1_ := Aside0.mk (Kd.R_lower ho0 (below_size (by repeat (first | (with_reducible first | exact HB.out | apply below_alloc | apply pw_below_drewN | apply below_drew1) | exact HB.out)))); have n2_ := Aside0.mk (below_step (by repeat (first | (with_reducible first | exact HB.out | apply below_alloc | apply pw_below_drewN | apply below_drew1) | exact HB.out)) hb); clear HO253; clear HB; have HO253 := n0_; have HO257 := n1_; have HB := n2_; clear n0_ n1_ n2_; (try clear hb); (try clear hb2); (try clear hk); (try clear hi); (try clear ho0); obtain ⟨Ao39, co39, eo39⟩ := Kd.R_slice HO257.out; subst eo39; have p258 : 0 ≤ (1 : Int) := (by omega); have q258 : 1 < (t254.length : Int) := of_decide_eq_true (by first | (with_reducible assumption) | assumption); obtain ⟨ad258, e258, hx258_0, hx258_1, hx258_2, hx258_3⟩ := at_T43 (Kd.R_reads' HO257.out).2.2 1 p258 q258; cases e258; (try simp only [show (1 : Int).toNat = 1 from rfl, Nat.reduceMul, Nat.reduceEqDiff, Go.Addr.add, ↓reduceIte] at hx258_0); (try simp only [show (1 : Int).toNat = 1 from rfl, Nat.reduceMul, Nat.reduceEqDiff, Go.Addr.add, ↓reduceIte] at hx258_1); (try simp only [show (1 : Int).toNat = 1 from rfl, Nat.reduceMul, Nat.reduceEqDiff, Go.Addr.add, ↓reduceIte] at hx258_2); (try simp only [show (1 : Int).toNat = 1 from rfl, Nat.reduceMul, Nat.reduceEqDiff, Go.Addr.add, ↓reduceIte] at hx258_3); have qi258 : (1 < t254.length) = True := eq_true (by omega); (try rw [show ((1 : Int)).toNat = 1 from rfl] at hx258_0); (try rw [show 1 * 4 = 4 from rfl] at hx258_0); (try rw [show ((1 : Int)).toNat = 1 from rfl] at hx258_1); (try rw [show 1 * 4 = 4 from rfl] at hx258_1); (try rw [show ((1 : Int)).toNat = 1 from rfl] at hx258_2); (try rw [show 1 * 4 = 4 from rfl] at hx258_2); (try rw [show ((1 : Int)).toNat = 1 from rfl] at hx258_3); (try rw [show 1 * 4 = 4 from rfl] at hx258_3); replace p258 := eq_true p258; replace q258 := eq_true q258) | ((with_reducible refine gate_callee (f := 42) rfl ?_); refine goesL_ (some 27) rfl rfl Try.func42 (by kernel_rfl) rfl #[.agg #[.int .i64 1, .int .i64 0, .int .i64 2, .int .i64 2, .string (⟨#[97, 98, 99, 100]⟩ : ByteArray)], .int .i64 1] rfl (by (try simp only [List.map_toArray, List.map_cons, List.map_nil]); first | done | rfl | (simp only [List.length_drop, List.length_take]; rfl)) ?_; (with_reducible refine (video_Convert.calls 1 0 2 2 (⟨#[97, 98, 99, 100]⟩ : ByteArray) 1 t259 t260 t261 t262 t263 t264 _ A11.out).mono ?_); rintro e w40 ⟨rfl, hb⟩; refine ⟨_, rfl, ?_⟩; have n0_ := Aside0.mk (Kd.R_below (by (with_reducible repeat (first | apply Kd.R_alloc | apply Kd.R_drewN | apply Kd.R_drew)); exact HO253.out) hb); have n1_ := Aside0.mk (Kd.R_below (by (with_reducible repeat (first | apply Kd.R_alloc | apply Kd.R_drewN | apply Kd.R_drew)); exact HO257.out) hb); have n2_ := Aside0.mk (below_step (by repeat (first | (with_reducible first | exact HB.out | apply below_alloc | apply pw_below_drewN | apply below_drew1) | exact HB.out)) hb); clear HO253; clear HO257; clear HB; have HO253 := n0_; have HO257 := n1_; have HB := n2_; clear n0_ n1_ n2_; (try clear hb); (try clear hb2); (try clear hk); (try clear hi)) | ((with_reducible refine gate_dst (N := 3) rfl ?_); (try (refine gate_guard (by rfl) ?_; dsimp only)); refine box_event ?hg (N := 3) ?hd (cs := #[.int .i64 0, .int .i64 0, .int .i64 0, .int .i64 0, .string (⟨#[]⟩ : ByteArray)]) (t := 49) ?hr ?_; (case hd => rfl); (case hg => rfl); (case hr => first | (go_simp; done) | (go_simp; rfl)); intro gb265 hg w41 hbox hb; have n0_ := Aside0.mk (Kd.R_below (by (with_reducible repeat (first | apply Kd.R_alloc | apply Kd.R_drewN | apply Kd.R_drew)); exact HO253.out) hb); have n1_ := Aside0.mk (Kd.R_below (by (with_reducible repeat (first | apply Kd.R_alloc | apply Kd.R_drewN | apply Kd.R_drew)); exact HO257.out) hb); have n2_ := Aside0.mk (below_step (by repeat (first | (with_reducible first | exact HB.out | apply below_alloc | apply pw_below_drewN | apply below_drew1) | exact HB.out)) hb); have n3_ := Aside0.mk (hbox); have n4_ := Aside0.mk ((by rw [hg]; exact (below_size (by repeat (first | (with_reducible first | exact HB.out | apply below_alloc | apply pw_below_drewN | apply below_drew1) | exact HB.out))) : w.heap.size ≤ gb265)); have n5_ := Aside0.mk ((by rw [hg]; exact (below_size (by repeat (first | (with_reducible first | exact HB.out | apply below_alloc | apply pw_below_drewN | apply below_drew1) | exact HB.out))) : w.heap.size ≤ gb265)); clear HO253; clear HO257; clear HB; have HO253 := n0_; have HO257 := n1_; have HB := n2_; have BK265 := n3_; have GW265 := n4_; have GE265 := n5_; clear n0_ n1_ n2_ n3_ n4_ n5_; clear hb hbox hg; have hcz42_0 : w41.cell? ⟨gb265, 0, none⟩ = some (.int .i64 0) := (blk_cell BK265.out 0).trans rfl; have hcz42_1 : w41.cell? ⟨gb265, 1, none⟩ = some (.int .i64 0) := (blk_cell BK265.out 1).trans rfl; have hcz42_2 : w41.cell? ⟨gb265, 2, none⟩ = some (.int .i64 0) := (blk_cell BK265.out 2).trans rfl; have hcz42_3 : w41.cell? ⟨gb265, 3, none⟩ = some (.int .i64 0) := (blk_cell BK265.out 3).trans rfl; have hcz42_4 : w41.cell? ⟨gb265, 4, none⟩ = some (.string (⟨#[]⟩ : ByteArray)) := (blk_cell BK265.out 4).trans rfl; have hfz42_0 := blk_frozen BK265.out 0; have hfz42_1 := blk_frozen BK265.out 1; have hfz42_2 := blk_frozen BK265.out 2; have hfz42_3 := blk_frozen BK265.out 3; have hfz42_4 := blk_frozen BK265.out 4))
             go_ret
             exact ⟨by first | rfl | (simp [errW_none, errW_some] <;> rfl) | (simp [*, errW_none, errW_some] <;> rfl), by repeat (first | (with_reducible first | exact HB.out | apply below_alloc | apply pw_below_drewN | apply below_drew1 | refine below_set ?_ GE265.out) | exact HB.out)⟩
         · rw [if_neg c12] at H
           have c12b0 : (t264 == 0) = false := beq_eq_false_iff_ne.mpr c12
           have c12b1 : (t264 != 0) = true := bne_iff_ne.mpr c12
           obtain rfl := Option.some.inj H
           go_enter Try.func10, Try.ntmps10
           go_wp2_with (first | ((with_reducible refine gate_dst (N := 7) rfl ?_); (try (refine gate_guard (by rfl) ?_; dsimp only)); refine Kd.R_lit k43 _ 43 ?hg (N := 7) ?hd (xs := ([(⟨0, 0, 2, 2⟩ : S43), (⟨1, 1, 2, 2⟩ : S43)] : List (S43))) (inner := [.int .i64 0, .int .i64 0, .int .i64 2, .int .i64 2, .int .i64 1, .int .i64 1, .int .i64 2, .int .i64 2]) (ok := fun _ => True) (okp := fun _ => True) ?hr ?hp (fun _ hk => hk) trivial (Below.refl _ _) (Nat.le_refl _) (by simp) ?_; (case hd => rfl); (case hg => rfl); (case hr => first | (go_simp; done) | (go_simp; rfl)); (case hp => exact (Reps.c4 (show Kd.M k43 _ _ _ (⟨0, 0, 2, 2⟩ : S43) [.int .i64 0, .int .i64 0, .int .i64 2, .int .i64 2] from (k43_mkM _ _ _ (⟨0, 0, 2, 2⟩ : S43) )) (Reps.c4 (show Kd.M k43 _ _ _ (⟨1, 1, 2, 2⟩ : S43) [.int .i64 1, .int .i64 1, .int .i64 2, .int .i64 2] from (k43_mkM _ _ _ (⟨1, 1, 2, 2⟩ : S43) )) (Reps.none _ _)))); intro v252 w43 ho44 hb hg_ hnew_; clear hg_ hnew_; (first | rw [← Ny251.out] at ho44 | (simp only [Int.reduceToNat] at ho44; rw [← Ny251.out] at ho44)); have n0_ := Aside0.mk (Kd.R_lower ho44 (below_size (by repeat (first | (with_reducible first | exact HB.out | apply below_alloc | apply pw_below_drewN | apply below_drew1) | exact HB.out)))); have n1_ := Aside0.mk (below_step (by repeat (first | (with_reducible first | exact HB.out | apply below_alloc | apply pw_below_drewN | apply below_drew1) | exact HB.out)) hb); clear HB; have HO253 := n0_; have HB := n1_; clear n0_ n1_; clear hb ho44; obtain ⟨Ao45, co45, eo45⟩ := Kd.R_slice HO253.out; subst eo45) | ((with_reducible refine gate_callee (f := 20) rfl ?_); refine goesL_ (some 8) rfl rfl Try.func20 (by kernel_rfl) rfl #[.slice Ao45 y251.length co45] rfl (by (try simp only [List.map_toArray, List.map_cons, List.map_nil]); first | done | rfl | (simp only [List.length_drop, List.length_take]; rfl)) ?_; (with_reducible refine (video_Region.calls _ _ y251 t254 t255 _ ?side1 ?side2 A1.out).mono ?_); (case side1 => repeat (first | exact (Kd.R_reads' HO253.out).2.2 | (with_reducible refine Kd.C_alloc ?_ _) | (with_reducible refine Kd.C_drewN ?_ _) | (with_reducible refine Kd.C_drew ?_))); (case side2 => exact (Kd.R_reads' HO253.out).2.1); rintro e w46 ⟨v256, rfl, ho0, hb⟩; refine ⟨_, rfl, ?_⟩; have n0_ := Aside0.mk (Kd.R_below (by (with_reducible repeat (first | apply Kd.R_alloc | apply Kd.R_drewN | apply Kd.R_drew)); exact HO253.out) hb); have n1_ := Aside0.mk (Kd.R_lower ho0 (below_size (by repeat (first | (with_reducible first | exact HB.out | apply below_alloc | apply pw_below_drewN | apply below_drew1) | exact HB.out)))); have n2_ := Aside0.mk (below_step (by repeat (first | (with_reducible first | exact HB.out | apply below_alloc | apply pw_below_drewN | apply below_drew1) | exact HB.out)) hb); clear HO253; clear HB; have HO253 := n0_; have HO257 := n1_; have HB := n2_; clear n0_ n1_ n2_; (try clear hb); (try clear hb2); (try clear hk); (try clear hi); (try clear ho0); obtain ⟨Ao47, co47, eo47⟩ := Kd.R_slice HO257.out; subst eo47; have p258 : 0 ≤ (1 : Int) := (by omega); have q258 : 1 < (t254.length : Int) := of_decide_eq_true (by first | (with_reducible assumption) | assumption); obtain ⟨ad258, e258, hx258_0, hx258_1, hx258_2, hx258_3⟩ := at_T43 (Kd.R_reads' HO257.out).2.2 1 p258 q258; cases e258; (try simp only [show (1 : Int).toNat = 1 from rfl, Nat.reduceMul, Nat.reduceEqDiff, Go.Addr.add, ↓reduceIte] at hx258_0); (try simp only [show (1 : Int).toNat = 1 from rfl, Nat.reduceMul, Nat.reduceEqDiff, Go.Addr.add, ↓reduceIte] at hx258_1); (try simp only [show (1 : Int).toNat = 1 from rfl, Nat.reduceMul, Nat.reduceEqDiff, Go.Addr.add, ↓reduceIte] at hx258_2); (try simp only [show (1 : Int).toNat = 1 from rfl, Nat.reduceMul, Nat.reduceEqDiff, Go.Addr.add, ↓reduceIte] at hx258_3); have qi258 : (1 < t254.length) = True := eq_true (by omega); (try rw [show ((1 : Int)).toNat = 1 from rfl] at hx258_0); (try rw [show 1 * 4 = 4 from rfl] at hx258_0); (try rw [show ((1 : Int)).toNat = 1 from rfl] at hx258_1); (try rw [show 1 * 4 = 4 from rfl] at hx258_1); (try rw [show ((1 : Int)).toNat = 1 from rfl] at hx258_2); (try rw [show 1 * 4 = 4 from rfl] at hx258_2); (try rw [show ((1 : Int)).toNat = 1 from rfl] at hx258_3); (try rw [show 1 * 4 = 4 from rfl] at hx258_3); replace p258 := eq_true p258; replace q258 := eq_true q258) | ((with_reducible refine gate_callee (f := 42) rfl ?_); refine goesL_ (some 27) rfl rfl Try.func42 (by kernel_rfl) rfl #[.agg #[.int .i64 1, .int .i64 0, .int .i64 2, .int .i64 2, .string (⟨#[97, 98, 99, 100]⟩ : ByteArray)], .int .i64 1] rfl (by (try simp only [List.map_toArray, List.map_cons, List.map_nil]); first | done | rfl | (simp only [List.length_drop, List.length_take]; rfl)) ?_; (with_reducible refine (video_Convert.calls 1 0 2 2 (⟨#[97, 98, 99, 100]⟩ : ByteArray) 1 t259 t260 t261 t262 t263 t264 _ A11.out).mono ?_); rintro e w48 ⟨rfl, hb⟩; refine ⟨_, rfl, ?_⟩; have n0_ := Aside0.mk (Kd.R_below (by (with_reducible repeat (first | apply Kd.R_alloc | apply Kd.R_drewN | apply Kd.R_drew)); exact HO253.out) hb); have n1_ := Aside0.mk (Kd.R_below (by (with_reducible repeat (first | apply Kd.R_alloc | apply Kd.R_drewN | apply Kd.R_drew)); exact HO257.out) hb); have n2_ := Aside0.mk (below_step (by repeat (first | (with_reducible first | exact HB.out | apply below_alloc | apply pw_below_drewN | apply below_drew1) | exact HB.out)) hb); clear HO253; clear HO257; clear HB; have HO253 := n0_; have HO257 := n1_; have HB := n2_; clear n0_ n1_ n2_; (try clear hb); (try clear hb2); (try clear hk); (try clear hi)) | ((with_reducible refine gate_dst (N := 3) rfl ?_); (try (refine gate_guard (by rfl) ?_; dsimp only)); refine box_event ?hg (N := 3) ?hd (cs := #[.int .i64 0, .int .i64 0, .int .i64 0, .int .i64 0, .string (⟨#[]⟩ : ByteArray)]) (t := 49) ?hr ?_; (case hd => rfl); (case hg => rfl); (case hr => first | (go_simp; done) | (go_simp; rfl)); intro gb265 hg w49 hbox hb; have n0_ := Aside0.mk (Kd.R_below (by (with_reducible repeat (first | apply Kd.R_alloc | apply Kd.R_drewN | apply Kd.R_drew)); exact HO253.out) hb); have n1_ := Aside0.mk (Kd.R_below (by (with_reducible repeat (first | apply Kd.R_alloc | apply Kd.R_drewN | apply Kd.R_drew)); exact HO257.out) hb); have n2_ := Aside0.mk (below_step (by repeat (first | (with_reducible first | exact HB.out | apply below_alloc | apply pw_below_drewN | apply below_drew1) | exact HB.out)) hb); have n3_ := Aside0.mk (hbox); have n4_ := Aside0.mk ((by rw [hg]; exact (below_size (by repeat (first | (with_reducible first | exact HB.out | apply below_alloc | apply pw_below_drewN | apply below_drew1) | exact HB.out))) : w.heap.size ≤ gb265)); have n5_ := Aside0.mk ((by rw [hg]; exact (below_size (by repeat (first | (with_reducible first | exact HB.out | apply below_alloc | apply pw_below_drewN | apply below_drew1) | exact HB.out))) : w.heap.size ≤ gb265)); clear HO253; clear HO257; clear HB; have HO253 := n0_; have HO257 := n1_; have HB := n2_; have BK265 := n3_; have GW265 := n4_; have GE265 := n5_; clear n0_ n1_ n2_ n3_ n4_ n5_; clear hb hbox hg; have hcz50_0 : w49.cell? ⟨gb265, 0, none⟩ = some (.int .i64 0) := (blk_cell BK265.out 0).trans rfl; have hcz50_1 : w49.cell? ⟨gb265, 1, none⟩ = some (.int .i64 0) := (blk_cell BK265.out 1).trans rfl; have hcz50_2 : w49.cell? ⟨gb265, 2, none⟩ = some (.int .i64 0) := (blk_cell BK265.out 2).trans rfl; have hcz50_3 : w49.cell? ⟨gb265, 3, none⟩ = some (.int .i64 0) := (blk_cell BK265.out 3).trans rfl; have hcz50_4 : w49.cell? ⟨gb265, 4, none⟩ = some (.string (⟨#[]⟩ : ByteArray)) := (blk_cell BK265.out 4).trans rfl; have hfz50_0 := blk_frozen BK265.out 0; have hfz50_1 := blk_frozen BK265.out 1; have hfz50_2 := blk_frozen BK265.out 2; have hfz50_3 := blk_frozen BK265.out 3; have hfz50_4 := blk_frozen BK265.out 4))
           go_ret
           exact ⟨by first | rfl | (simp [errW_none, errW_some] <;> rfl) | (simp [*, errW_none, errW_some] <;> rfl), by repeat (first | (with_reducible first | exact HB.out | apply below_alloc | apply pw_below_drewN | apply below_drew1 | refine below_set ?_ GE265.out) | exact HB.out)⟩
     · rw [if_neg c4] at H
       exact absurd H (by simp)
   · rw [if_neg c3] at H
     have c3b0 : ((t254.length : Int) == 3) = false := beq_eq_false_iff_ne.mpr c3
     have c3b1 : ((t254.length : Int) != 3) = true := bne_iff_ne.mpr c3
     obtain rfl := Option.some.inj H
     go_enter Try.func10, Try.ntmps10
     go_wp2_with (first | ((with_reducible refine gate_dst (N := 7) rfl ?_); (try (refine gate_guard (by rfl) ?_; dsimp only)); refine Kd.R_lit k43 _ 43 ?hg (N := 7) ?hd (xs := ([(⟨0, 0, 2, 2⟩ : S43), (⟨1, 1, 2, 2⟩ : S43)] : List (S43))) (inner := [.int .i64 0, .int .i64 0, .int .i64 2, .int .i64 2, .int .i64 1, .int .i64 1, .int .i64 2, .int .i64 2]) (ok := fun _ => True) (okp := fun _ => True) ?hr ?hp (fun _ hk => hk) trivial (Below.refl _ _) (Nat.le_refl _) (by simp) ?_; (case hd => rfl); (case hg => rfl); (case hr => first | (go_simp; done) | (go_simp; rfl)); (case hp => exact (Reps.c4 (show Kd.M k43 _ _ _ (⟨0, 0, 2, 2⟩ : S43) [.int .i64 0, .int .i64 0, .int .i64 2, .int .i64 2] from (k43_mkM _ _ _ (⟨0, 0, 2, 2⟩ : S43) )) (Reps.c4 (show Kd.M k43 _ _ _ (⟨1, 1, 2, 2⟩ : S43) [.int .i64 1, .int .i64 1, .int .i64 2, .int .i64 2] from (k43_mkM _ _ _ (⟨1, 1, 2, 2⟩ : S43) )) (Reps.none _ _)))); intro v252 w51 ho52 hb hg_ hnew_; clear hg_ hnew_; (first | rw [← Ny251.out] at ho52 | (simp only [Int.reduceToNat] at ho52; rw [← Ny251.out] at ho52)); have n0_ := Aside0.mk (Kd.R_lower ho52 (below_size (by repeat (first | (with_reducible first | exact HB.out | apply below_alloc | apply pw_below_drewN | apply below_drew1) | exact HB.out)))); have n1_ := Aside0.mk (below_step (by repeat (first | (with_reducible first | exact HB.out | apply below_alloc | apply pw_below_drewN | apply below_drew1) | exact HB.out)) hb); clear HB; have HO253 := n0_; have HB := n1_; clear n0_ n1_; clear hb ho52; obtain ⟨Ao53, co53, eo53⟩ := Kd.R_slice HO253.out; subst eo53) | ((with_reducible refine gate_callee (f := 20) rfl ?_); refine goesL_ (some 8) rfl rfl Try.func20 (by kernel_rfl) rfl #[.slice Ao53 y251.length co53] rfl (by (try simp only [List.map_toArray, List.map_cons, List.map_nil]); first | done | rfl | (simp only [List.length_drop, List.length_take]; rfl)) ?_; (with_reducible refine (video_Region.calls _ _ y251 t254 t255 _ ?side1 ?side2 A1.out).mono ?_); (case side1 => repeat (first | exact (Kd.R_reads' HO253.out).2.2 | (with_reducible refine Kd.C_alloc ?_ _) | (with_reducible refine Kd.C_drewN ?_ _) | (with_reducible refine Kd.C_drew ?_))); (case side2 => exact (Kd.R_reads' HO253.out).2.1); rintro e w54 ⟨v256, rfl, ho0, hb⟩; refine ⟨_, rfl, ?_⟩; have n0_ := Aside0.mk (Kd.R_below (by (with_reducible repeat (first | apply Kd.R_alloc | apply Kd.R_drewN | apply Kd.R_drew)); exact HO253.out) hb); have n1_ := Aside0.mk (Kd.R_lower ho0 (below_size (by repeat (first | (with_reducible first | exact HB.out | apply below_alloc | apply pw_below_drewN | apply below_drew1) | exact HB.out)))); have n2_ := Aside0.mk (below_step (by repeat (first | (with_reducible first | exact HB.out | apply below_alloc | apply pw_below_drewN | apply below_drew1) | exact HB.out)) hb); clear HO253; clear HB; have HO253 := n0_; have HO257 := n1_; have HB := n2_; clear n0_ n1_ n2_; (try clear hb); (try clear hb2); (try clear hk); (try clear hi); (try clear ho0); obtain ⟨Ao55, co55, eo55⟩ := Kd.R_slice HO257.out; subst eo55))
     go_ret
     exact ⟨by first | rfl | (simp [errW_none, errW_some] <;> rfl) | (simp [*, errW_none, errW_some] <;> rfl), by repeat (first | (with_reducible first | exact HB.out | apply below_alloc | apply pw_below_drewN | apply below_drew1) | exact HB.out)⟩
 · rw [if_neg c2] at H
   have c2b0 : (t255 == 0) = false := beq_eq_false_iff_ne.mpr c2
   have c2b1 : (t255 != 0) = true := bne_iff_ne.mpr c2
   obtain rfl := Option.some.inj H
   go_enter Try.func10, Try.ntmps10
   go_wp2_with (first | ((with_reducible refine gate_dst (N := 7) rfl ?_); (try (refine gate_guard (by rfl) ?_; dsimp only)); refine Kd.R_lit k43 _ 43 ?hg (N := 7) ?hd (xs := ([(⟨0, 0, 2, 2⟩ : S43), (⟨1, 1, 2, 2⟩ : S43)] : List (S43))) (inner := [.int .i64 0, .int .i64 0, .int .i64 2, .int .i64 2, .int .i64 1, .int .i64 1, .int .i64 2, .int .i64 2]) (ok := fun _ => True) (okp := fun _ => True) ?hr ?hp (fun _ hk => hk) trivial (Below.refl _ _) (Nat.le_refl _) (by simp) ?_; (case hd => rfl); (case hg => rfl); (case hr => first | (go_simp; done) | (go_simp; rfl)); (case hp => exact (Reps.c4 (show Kd.M k43 _ _ _ (⟨0, 0, 2, 2⟩ : S43) [.int .i64 0, .int .i64 0, .int .i64 2, .int .i64 2] from (k43_mkM _ _ _ (⟨0, 0, 2, 2⟩ : S43) )) (Reps.c4 (show Kd.M k43 _ _ _ (⟨1, 1, 2, 2⟩ : S43) [.int .i64 1, .int .i64 1, .int .i64 2, .int .i64 2] from (k43_mkM _ _ _ (⟨1, 1, 2, 2⟩ : S43) )) (Reps.none _ _)))); intro v252 w56 ho57 hb hg_ hnew_; clear hg_ hnew_; (first | rw [← Ny251.out] at ho57 | (simp only [Int.reduceToNat] at ho57; rw [← Ny251.out] at ho57)); have n0_ := Aside0.mk (Kd.R_lower ho57 (below_size (by repeat (first | (with_reducible first | exact HB.out | apply below_alloc | apply pw_below_drewN | apply below_drew1) | exact HB.out)))); have n1_ := Aside0.mk (below_step (by repeat (first | (with_reducible first | exact HB.out | apply below_alloc | apply pw_below_drewN | apply below_drew1) | exact HB.out)) hb); clear HB; have HO253 := n0_; have HB := n1_; clear n0_ n1_; clear hb ho57; obtain ⟨Ao58, co58, eo58⟩ := Kd.R_slice HO253.out; subst eo58) | ((with_reducible refine gate_callee (f := 20) rfl ?_); refine goesL_ (some 8) rfl rfl Try.func20 (by kernel_rfl) rfl #[.slice Ao58 y251.length co58] rfl (by (try simp only [List.map_toArray, List.map_cons, List.map_nil]); first | done | rfl | (simp only [List.length_drop, List.length_take]; rfl)) ?_; (with_reducible refine (video_Region.calls _ _ y251 t254 t255 _ ?side1 ?side2 A1.out).mono ?_); (case side1 => repeat (first | exact (Kd.R_reads' HO253.out).2.2 | (with_reducible refine Kd.C_alloc ?_ _) | (with_reducible refine Kd.C_drewN ?_ _) | (with_reducible refine Kd.C_drew ?_))); (case side2 => exact (Kd.R_reads' HO253.out).2.1); rintro e w59 ⟨v256, rfl, ho0, hb⟩; refine ⟨_, rfl, ?_⟩; have n0_ := Aside0.mk (Kd.R_below (by (with_reducible repeat (first | apply Kd.R_alloc | apply Kd.R_drewN | apply Kd.R_drew)); exact HO253.out) hb); have n1_ := Aside0.mk (Kd.R_lower ho0 (below_size (by repeat (first | (with_reducible first | exact HB.out | apply below_alloc | apply pw_below_drewN | apply below_drew1) | exact HB.out)))); have n2_ := Aside0.mk (below_step (by repeat (first | (with_reducible first | exact HB.out | apply below_alloc | apply pw_below_drewN | apply below_drew1) | exact HB.out)) hb); clear HO253; clear HB; have HO253 := n0_; have HO257 := n1_; have HB := n2_; clear n0_ n1_ n2_; (try clear hb); (try clear hb2); (try clear hk); (try clear hi); (try clear ho0)))
   go_ret
   exact ⟨by first | rfl | (simp [errW_none, errW_some] <;> rfl) | (simp [*, errW_none, errW_some] <;> rfl), by repeat (first | (with_reducible first | exact HB.out | apply below_alloc | apply pw_below_drewN | apply below_drew1) | exact HB.out)⟩
end Go.Proofs.Ythbajahklnpkcaa.PA

namespace Go.Proofs.Ythbajahklnpkcaa.PA
open Go.RowKit Go.Shelf Go.Proofs.YthbajahklnpkcaaW.PrintWords Go.Proofs.YthbajahklnpkcaaW.PrintLast Go.Proofs.YthbajahklnpkcaaW.PrintMore
set_option linter.unusedVariables false
set_option linter.unusedSimpArgs false
set_option maxRecDepth 100000 in
theorem asked_nil (n : Int) (w : World) : Calls Try.prog 110 #[.pointer none, .int .i64 n] w fun e w' => e = .returned (.int .i64 1) ∧ w' = w := by
 go_enter Try.func110, Try.ntmps110
 go_wp2
 go_ret
 exact ⟨rfl, rfl⟩
set_option maxRecDepth 100000 in
theorem take_nil (n : Int) (w : World) : Calls Try.prog 54 #[.pointer none, .int .i64 n] w fun e w' => e = .returned (.tuple #[.slice none 0 0, .int .i64 1]) ∧ w' = w := by
 have HA := Aside0.mk (asked_nil n w)
 go_enter Try.func54, Try.ntmps54
 go_wp2_with (first | (go_at_call 110; refine HA.out.mono ?_; rintro e w1 ⟨rfl, rfl⟩))
 go_ret2
 exact ⟨rfl, rfl⟩
set_option maxRecDepth 100000 in
theorem owed_nil (n : Int) (w : World) : Calls Try.prog 55 #[.pointer none, .int .i64 n] w fun e w' => e = .returned (.tuple #[.slice none 0 0, .int .i64 1]) ∧ w' = w := by
 have HA := Aside0.mk (asked_nil n w)
 go_enter Try.func55, Try.ntmps55
 go_wp2_with (first | (go_at_call 110; refine HA.out.mono ?_; rintro e w1 ⟨rfl, rfl⟩))
 go_ret2
 exact ⟨rfl, rfl⟩
set_option maxRecDepth 100000 in
theorem draw_nil (a0 a1 a2 a3 : Int) (s : ByteArray) (v : Value) (w : World) : Calls Try.prog 56 #[.pointer none, .agg #[.int .i64 a0, .int .i64 a1, .int .i64 a2, .int .i64 a3, .string s], v] w fun e w' => e = .returned (.int .i64 1) ∧ Below w.heap.size w w' := by
 have HB := Aside0.mk ((Below.refl _ w).alloc (Nat.le_refl _) (.cells #[.int .i64 a0, .int .i64 a1, .int .i64 a2, .int .i64 a3, .string s] 49))
 go_enter Try.func56, Try.ntmps56
 go_wp2
 go_ret
 exact ⟨rfl, HB.out⟩
set_option maxRecDepth 100000 in
theorem picture_nil (w : World) : Calls Try.prog 57 #[.pointer none] w fun e w' => e = .returned (.agg #[.int .i64 0, .int .i64 0, .int .i64 0, .int .i64 0, .string ⟨#[]⟩]) ∧ Below w.heap.size w w' := by
 have HB := Aside0.mk ((Below.refl _ w).alloc (Nat.le_refl _) (.cells #[.int .i64 0, .int .i64 0, .int .i64 0, .int .i64 0, .string ⟨#[]⟩] 49))
 have hx := Blk.new w #[.int .i64 0, .int .i64 0, .int .i64 0, .int .i64 0, .string ⟨#[]⟩] 49
 have c0 := hx.cell 0 (v := .int .i64 0) rfl
 have c1 := hx.cell 1 (v := .int .i64 0) rfl
 have c2 := hx.cell 2 (v := .int .i64 0) rfl
 have c3 := hx.cell 3 (v := .int .i64 0) rfl
 have c4 := hx.cell 4 (v := .string ⟨#[]⟩) rfl
 have f0 := hx.frozen 0
 have f1 := hx.frozen 1
 have f2 := hx.frozen 2
 have f3 := hx.frozen 3
 have f4 := hx.frozen 4
 go_enter Try.func57, Try.ntmps57
 go_wp2
 refine bodyPost_ret (v := .agg #[.int .i64 0, .int .i64 0, .int .i64 0, .int .i64 0, .string ⟨#[]⟩]) (by simp [results, Try.results57, go_sem, c0, c1, c2, c3, c4]) rfl ⟨rfl, HB.out⟩
set_option maxRecDepth 100000 in
set_option maxHeartbeats 2000000 in
theorem nothing_walk (H10 : ∀ w : World, Calls Try.prog 10 #[] w fun e w' => e = .returned (.bool true) ∧ Below w.heap.size w w') (a0 a1 a2 a3 : Int) (s : ByteArray) (v : Value) (n : Int) (w : World) :
 Calls Try.prog 9 #[.agg #[.int .i64 a0, .int .i64 a1, .int .i64 a2, .int .i64 a3, .string s], v, .int .i64 n] w fun e w' => e = .returned (.bool true) ∧ Below w.heap.size w w' := by
 have hx := Blk.new w #[.int .i64 a0, .int .i64 a1, .int .i64 a2, .int .i64 a3, .string s] 49
 have hb0 := (Below.refl _ w).alloc (Nat.le_refl _) (.cells #[.int .i64 a0, .int .i64 a1, .int .i64 a2, .int .i64 a3, .string s] 49)
 have HC : ∀ W', Below (w.alloc (.cells #[.int .i64 a0, .int .i64 a1, .int .i64 a2, .int .i64 a3, .string s] 49)).heap.size (w.alloc (.cells #[.int .i64 a0, .int .i64 a1, .int .i64 a2, .int .i64 a3, .string s] 49)) W' → W'.cell? ⟨w.heap.size, 0, none⟩ = some (.int .i64 a0) ∧ W'.cell? ⟨w.heap.size, 1, none⟩ = some (.int .i64 a1) ∧ W'.cell? ⟨w.heap.size, 2, none⟩ = some (.int .i64 a2) ∧ W'.cell? ⟨w.heap.size, 3, none⟩ = some (.int .i64 a3) ∧ W'.cell? ⟨w.heap.size, 4, none⟩ = some (.string s) := by
  intro W' hb
  have h := hx.below_ hb
  exact ⟨h.cell 0 rfl, h.cell 1 rfl, h.cell 2 rfl, h.cell 3 rfl, h.cell 4 rfl⟩
 have H1 := fun w' => Aside0.mk (H10 w')
 have HT := fun w' => Aside0.mk (take_nil n w')
 have HO := fun w' => Aside0.mk (owed_nil n w')
 have HD := fun w' => Aside0.mk (draw_nil a0 a1 a2 a3 s v w')
 have HP := fun w' => Aside0.mk (picture_nil w')
 have HB0 := Aside0.mk hb0
 clear hx hb0 H10
 go_enter Try.func9, Try.ntmps9
 go_wp2_with (first
  | (go_at_call 10; refine (H1 _).out.mono ?_; rintro e w1 ⟨rfl, hb1⟩; obtain ⟨c0, c1, c2, c3, c4⟩ := HC _ hb1)
  | (go_at_call 54; refine (HT _).out.mono ?_; rintro e w2 ⟨rfl, rfl⟩)
  | (go_at_call 55; refine (HO _).out.mono ?_; rintro e w3 ⟨rfl, rfl⟩)
  | (go_at_call 56; refine (HD _).out.mono ?_; rintro e w4 ⟨rfl, hb4⟩)
  | (go_at_call 57; refine (HP _).out.mono ?_; rintro e w5 ⟨rfl, hb5⟩))
 go_ret
 exact ⟨by first | rfl | simp, HB0.out.trans ((hb1.trans ((hb4.trans (hb5.mono hb4.size)).mono hb1.size)).mono (by simp))⟩
end Go.Proofs.Ythbajahklnpkcaa.PA

namespace Go.Proofs.Ythbajahklnpkcaa.PA
open Go.RowKit Go.Shelf
theorem ex_sort : sortI [0, 2, 1, 3] = [0, 1, 2, 3] := by
 simp [sortI, List.mergeSort, List.MergeSort.Internal.splitInTwo]
theorem ex_x : edgX ([(⟨0, 0, 2, 2⟩ : S43), (⟨1, 1, 2, 2⟩ : S43)] ++ []) = [0, 1, 2, 3] := by
 unfold edgX edgesL
 rw [show endsOf (fun r => r.f0) (fun r => wrap64 (r.f0 + r.f2)) ([(⟨0, 0, 2, 2⟩ : S43), (⟨1, 1, 2, 2⟩ : S43)] ++ []) = [0, 2, 1, 3] from by kernel_rfl, ex_sort]
 kernel_rfl
theorem ex_y : edgY ([(⟨0, 0, 2, 2⟩ : S43), (⟨1, 1, 2, 2⟩ : S43)] ++ []) = [0, 1, 2, 3] := by
 unfold edgY edgesL
 rw [show endsOf (fun r => r.f1) (fun r => wrap64 (r.f1 + r.f3)) ([(⟨0, 0, 2, 2⟩ : S43), (⟨1, 1, 2, 2⟩ : S43)] ++ []) = [0, 2, 1, 3] from by kernel_rfl, ex_sort]
 kernel_rfl
theorem ex_out : outOf orB [(⟨0, 0, 2, 2⟩ : S43), (⟨1, 1, 2, 2⟩ : S43)] [] = [⟨0, 0, 2, 1⟩, ⟨0, 1, 3, 1⟩, ⟨1, 2, 2, 1⟩] := by
 unfold outOf
 rw [ex_x, ex_y]
 kernel_rfl
theorem ex_region : video_Region.f [(⟨0, 0, 2, 2⟩ : S43), (⟨1, 1, 2, 2⟩ : S43)] = some ([⟨0, 0, 2, 1⟩, ⟨0, 1, 3, 1⟩, ⟨1, 2, 2, 1⟩], 0) := by
 unfold video_Region.f regionL regionE
 rw [ex_out]
 kernel_rfl
theorem ex_convert : video_Convert.f 1 0 2 2 (⟨#[97, 98, 99, 100]⟩ : ByteArray) 1 = some (1, 1, 2, 2, ⟨#[97, 98, 0, 0, 99, 100, 0, 0, 0, 0, 0, 0, 0, 0, 0, 0]⟩, 0) := by kernel_rfl
theorem ex_list1 : (ByteArray.extract ⟨#[97, 98, 0, 0, 99, 100, 0, 0, 0, 0, 0, 0, 0, 0, 0, 0]⟩ 0 2).toList = [97, 98] := by
 rw [show ByteArray.extract ⟨#[97, 98, 0, 0, 99, 100, 0, 0, 0, 0, 0, 0, 0, 0, 0, 0]⟩ 0 2 = ⟨#[97, 98]⟩ from by kernel_rfl]
 simp [ByteArray.toList, ByteArray.toList.loop, ByteArray.size, ByteArray.get!]
theorem ex_list2 : (ByteArray.extract ⟨#[97, 98, 0, 0, 99, 100, 0, 0, 0, 0, 0, 0, 0, 0, 0, 0]⟩ 4 6).toList = [99, 100] := by
 rw [show ByteArray.extract ⟨#[97, 98, 0, 0, 99, 100, 0, 0, 0, 0, 0, 0, 0, 0, 0, 0]⟩ 4 6 = ⟨#[99, 100]⟩ from by kernel_rfl]
 simp [ByteArray.toList, ByteArray.toList.loop, ByteArray.size, ByteArray.get!]
theorem awake_f : continuolaw25_awake.f = some true := by
 unfold continuolaw25_awake.f
 rw [ex_region, ex_convert]
 simp only [Option.bind]
 rw [ex_list1, ex_list2]
 kernel_rfl
theorem awake_ok (w : World) : Calls Try.prog 10 #[] w fun e w' => e = .returned (.bool true) ∧ Below w.heap.size w w' := continuolaw25_awake.calls true w awake_f
theorem nothing_all (a0 a1 a2 a3 : Int) (s : ByteArray) (v : Value) (n : Int) (w : World) :
 Calls Try.prog 9 #[.agg #[.int .i64 a0, .int .i64 a1, .int .i64 a2, .int .i64 a3, .string s], v, .int .i64 n] w fun e w' => e = .returned (.bool true) ∧ Below w.heap.size w w' :=
 nothing_walk awake_ok a0 a1 a2 a3 s v n w
end Go.Proofs.Ythbajahklnpkcaa.PA

namespace Go.Proofs.Ythbajahklnpkcaa.videoNothing
open Go.ChangeShapes Go.WideShapes Go.ChangeAt Go.RowKit Go.Joins
set_option linter.unusedVariables false
theorem own : ownKnob Try.prog.godebug = none := by kernel_rfl
theorem laidOut : laidOutB Try.prog = true := by kernel_rfl
set_option maxRecDepth 100000 in
theorem lifted (os : Os) (started : os.Started) (H : Type) (enc : TypeId × Value → H) :
 ReturnsInHanded {} Try.checked os 9 .any (Rows.videoNothingSpec.pre6 enc Try.prog Try.f9 Rows.videoNothingRow.domain false) (Rows.videoNothingSpec.post enc Try.prog Try.f9 false true false false) := by
 refine returnsInHanded_of_change_sized (C := Try.checked) own started (by kernel_rfl) Try.func9
  (ChangeSpec.witness6 (enc := enc) (C := Try.checked) false ⟨#[], #[.agg #[.int .i64 0, .int .i64 0, .int .i64 0, .int .i64 0, .string ByteArray.empty], .slice none 0 0, .int .i64 0], []⟩ 8 (by kernel_rfl) (by kernel_rfl) (by kernel_rfl) (by kernel_rfl)) ?_
 intro W base args ds gs before hval0 hW hcnd hsz0 _
 have hval : ∀ (j : Nat) t v, Try.f9.params[j]? = some t → args[j]? = some v → Value.okWide Try.prog W .any base t v := hval0
 have hW' := hW
 obtain ⟨p, q, hA0, hV, rfl, hfz, hnd⟩ := hW
 have hA : DataW.TrodAll enc Try.prog W 0 (fun _ => true) true Try.f9.params.toList args.toList ds p := hA0
 rw [Try.params9] at hA hval
 obtain ⟨v0, vs0, d0, ds0, p0, q0, hargs, rfl, rfl, h0, r0⟩ := trodAll_cons hA
 obtain ⟨v1, vs1, d1, ds1, p1, q1, rfl, rfl, rfl, h1, r1⟩ := trodAll_cons r0
 obtain ⟨v2, vs2, d2, ds2, p2, q2, rfl, rfl, rfl, h2, r2⟩ := trodAll_cons r1
 obtain ⟨rfl, rfl, rfl⟩ := trodAll_nil r2
 obtain rfl : args = #[v0, v1, v2] := by cases args; simp_all
 obtain ⟨rfl, rfl⟩ := trodVars_none hV
 have k0 := h0
 have lt0 : ∀ x ∈ p0, x.block < W.heap.size := by obtain ⟨m, hm⟩ := k0; exact DataW.trod_lt m _ _ _ hm
 obtain ⟨a0_0, a0_1, a0_2, a0_3, a0_4, rfl, w0, m0⟩ := open_pic Try.underlying49 (by kernel_rfl) (by kernel_rfl) Try.underlying3 Try.underlying3 Try.underlying3 Try.underlying3 Try.underlying9 (hval 0 49 v0 rfl rfl) h0
 have k1 := h1
 have lt1 : ∀ x ∈ p1, x.block < W.heap.size := by obtain ⟨m, hm⟩ := k1; exact DataW.trod_lt m _ _ _ hm
 obtain ⟨a2, rfl, rfl, rfl, w2⟩ := open_int Try.underlying3 (hval 2 3 v2 rfl rfl) h2
 clear hA0 hval0 hsz0
 have HC := PA.nothing_all a0_0 a0_1 a0_2 a0_3 a0_4 v1 a2 W
 refine HC.mono fun e W' ⟨he, bel⟩ => ?_
 subst he
 exact ⟨_, rfl, _, _, _, [], _, [], hW', trodAll_mk1 (shut_bool Try.underlying4 _), (trodAll_cons_mk (Below.trod laidOut (by kernel_rfl) (of_decide_eq_true (by kernel_rfl)) k0 bel lt0) (trodAll_cons_mk (Below.trod laidOut (by kernel_rfl) (of_decide_eq_true (by kernel_rfl)) k1 bel lt1) (trodAll_cons_mk (shut_int Try.underlying3 w2) trodAll_mk0))), rfl, bel.frame _, fun h => by cases h⟩
theorem over : Rows.videoNothingRow.holds Try.pinned (OpenSpec.ofChange Rows.videoNothingSpec) :=
 OpenClaim.holds_of_wide 9 Try.f9 rfl rfl rfl rfl rfl rfl rfl ⟨rfl, rfl, rfl, rfl, rfl⟩ rfl rfl rfl rfl rfl (by kernel_rfl) Try.func9 (by kernel_rfl)
  (of_decide_eq_true (by kernel_rfl)) (by unfold Func.isWrapper; first | (rw [if_pos (by decide +kernel)]; kernel_rfl) | (rw [if_neg (by decide +kernel)]; exact ⟨rfl, rfl⟩))
  (fun os started H enc _ => lifted os started H enc)
theorem proved : Rows.VideoNothingSaid := over
#print axioms proved
end Go.Proofs.Ythbajahklnpkcaa.videoNothing
namespace Go.Proofs.Ythbajahklnpkcaa
theorem videoNothing_holds : Rows.VideoNothingSaid := videoNothing.proved
end Go.Proofs.Ythbajahklnpkcaa
