/- The last meter for which something holds. -/
import Derived.Test.YtomlfbmfdoallaaPAx0
import Derived.Test.YtomlfbmfdoallaaPAxf78
import Derived.Test.YtomlfbmfdoallaaBlk
import Derived.LoopTactic
import Derived.Lib.Hide
namespace Go.Proofs.Ytomlfbmfdoallaa.PA
open Go.RowKit Go.Proofs.YtomlfbmfdoallaaW.PrintWords Go.Proofs.YtomlfbmfdoallaaW.PrintLast Go.Proofs.YtomlfbmfdoallaaW.PrintMore
set_option linter.unusedVariables false
set_option linter.unusedSimpArgs false

def c72 (x : S72) : Array Value := #[.int .i64 x.f0.f0, .int .i64 x.f0.f1, .int .i64 x.f0.f2, .int .i64 x.f1]
/-- The last one for which p holds, else o. -/
def lastOr (p : S72 → Bool) : S72 → List S72 → S72
  | o, [] => o
  | o, m :: r => lastOr p (if p m = true then m else o) r

theorem set4' (W : World) (b : Nat) (cs : Array Value) (t : TypeId) (v0 v1 v2 v3 : Value) (h : Blk W b cs t) (h4 : cs.size = 4) :
    Blk ((((W.setCell ⟨b, 0, none⟩ v0).setCell ⟨b, 1, none⟩ v1).setCell ⟨b, 2, none⟩ v2).setCell ⟨b, 3, none⟩ v3) b #[v0, v1, v2, v3] t := by
  have := (((h.set 0 v0).set 1 v1).set 2 v2).set 3 v3
  obtain ⟨l⟩ := cs
  match l, h4 with
  | [a, b, c, d], _ => exact this
theorem cell_alloc1 {W : World} {a : Addr} {v : Value} (h : W.cell? a = some v) (o : Obj) : (W.alloc o).cell? a = some v := by
  have h1 := World.block_lt_of_cell? _ _ h
  rw [World.cell?_alloc_lt _ _ _ h1]; exact h
theorem bcell_ {W w1 : World} (hb : Below W.heap.size W w1) : (∀ b o, b < W.heap.size → w1.cell? ⟨b, o, none⟩ = W.cell? ⟨b, o, none⟩) ∧ (∀ b o, b < W.heap.size → w1.frozen? ⟨b, o, none⟩ = W.frozen? ⟨b, o, none⟩) :=
  ⟨fun b o h => hb.cell (p := ⟨b, o, none⟩) h, fun b o h => hb.frozen (p := ⟨b, o, none⟩) h⟩
theorem rd72_drop {l r : List S72} {k : Nat} {t : S72} (h : l.drop k = t :: r) : rd_T72 l (k : Int) = t := by
  have : l[k]? = some t := by rw [← List.head?_drop, h]; rfl
  simp [rd_T72, this]

set_option maxRecDepth 100000 in
set_option maxHeartbeats 2000000 in
theorem last_calls (p : S72 → Bool) (g : Nat) (lb : Array Value) (eg : ∀ args w, (callFunc g args).run Try.prog w = .ok (.enter g args) w) (A : Option Addr) (c : Nat) (l : List S72) (w : World) (h0 : 0 < l.length)
    (hp : PredB g lb (fun x => .agg (c72 x)) p w) (hr : Kd.C k72 w A l.length l) :
    Calls Try.prog 46 #[.slice A l.length c, .func (.func g) #[] lb] w fun e w' => e = .returned (.agg (c72 (lastOr p (rd_T72 l 0) l))) ∧ Below w.heap.size w w' := by
  have HR := Aside0.mk hr
  have HP := Aside0.mk hp
  have hmax : l.length ≤ 9223372036854775807 := Kd.C_max hr
  clear hr hp
  obtain ⟨ad, eA, hx0, hx1, hx2, hx3⟩ := at_T72 HR.out 0 (by omega) (by omega)
  cases eA
  simp only [Int.toNat_zero, Nat.zero_mul, Addr.add_zero'] at hx0 hx1 hx2 hx3
  have hz : (0 : Int) < (l.length : Int) := by omega
  generalize hq : rd_T72 l 0 = o0 at hx0 hx1 hx2 hx3 ⊢
  have HQ := Aside0.mk hq
  clear hq
  replace hx0 := cell_alloc1 hx0
  replace hx1 := cell_alloc1 hx1
  replace hx2 := cell_alloc1 hx2
  replace hx3 := cell_alloc1 hx3
  go_enter Try.func46, Try.ntmps46
  go_wp2
  clear hx0 hx1 hx2 hx3
  obtain ⟨W0, hW0⟩ : ∃ W0, W0 = (w.alloc (.cells #[.int .i64 0, .int .i64 0, .int .i64 0, .int .i64 0] 72)).alloc (.cells (c72 o0) 72) := ⟨_, rfl⟩
  have k0 : Blk W0 w.heap.size #[.int .i64 0, .int .i64 0, .int .i64 0, .int .i64 0] 72 := by rw [hW0]; exact (Blk.new w _ _).alloc _
  have k1 : Blk W0 (w.heap.size + 1) (c72 o0) 72 := by rw [hW0]; have := Blk.new (w.alloc (.cells #[.int .i64 0, .int .i64 0, .int .i64 0, .int .i64 0] 72)) (c72 o0) 72; rw [World.size_alloc] at this; exact this
  have hb0 : Below w.heap.size w W0 := by rw [hW0]; exact ((Below.refl _ w).alloc (Nat.le_refl _) _).alloc (by simp) _
  unfold c72 at hW0
  rw [← hW0]
  clear hW0
  go_loopg [13] l.length (fun gg s13 wr => ∃ (k : Nat) (o : S72), k ≤ l.length ∧ l.length - k ≤ gg ∧ s13 = .int .i64 k ∧ Aside0 (lastOr p o0 l = lastOr p o (l.drop k)) ∧ Aside0 (Below w.heap.size w wr ∧ Blk wr w.heap.size #[.int .i64 0, .int .i64 0, .int .i64 0, .int .i64 0] 72 ∧ Blk wr (w.heap.size + 1) (c72 o) 72))
  case atStart => exact ⟨0, o0, Nat.zero_le _, by omega, rfl, ⟨rfl⟩, ⟨hb0, k0, k1⟩⟩
  case round =>
    clear k0 k1 hb0
    obtain ⟨k, o, hk, hg, rfl, AI, HB⟩ := hrel
    by_cases hlt : k < l.length
    · have hltz : (k : Int) < (l.length : Int) := by omega
      obtain ⟨ad2, eA, hx0, hx1, hx2, hx3⟩ := at_T72 (Kd.C_below HR.out HB.out.1) (k : Int) (by omega) (by omega)
      cases eA
      simp only [Int.toNat_natCast] at hx0 hx1 hx2 hx3
      generalize hq : rd_T72 l (k : Int) = m at hx0 hx1 hx2 hx3
      obtain ⟨m', r, hd⟩ : ∃ t r, l.drop k = t :: r := ⟨_, _, List.drop_eq_getElem_cons hlt⟩
      obtain rfl : m = m' := by rw [← hq, rd72_drop hd]
      have HD := Aside0.mk hd
      clear hd hq
      obtain ⟨BW, B0, B1⟩ := HB.out
      have hcall := HP.out (wr.alloc (.cells #[.int .i64 m.f0.f0, .int .i64 m.f0.f1, .int .i64 m.f0.f2, .int .i64 m.f1] 72)) m (BW.alloc BW.size _)
      unfold c72 at hcall
      have i0 : wr.cell? ⟨w.heap.size + 1, 0, none⟩ = some (.int .i64 o.f0.f0) := B1.cell 0 rfl
      have i1 : wr.cell? ⟨w.heap.size + 1, 1, none⟩ = some (.int .i64 o.f0.f1) := B1.cell 1 rfl
      have i2 : wr.cell? ⟨w.heap.size + 1, 2, none⟩ = some (.int .i64 o.f0.f2) := B1.cell 2 rfl
      have i3 : wr.cell? ⟨w.heap.size + 1, 3, none⟩ = some (.int .i64 o.f1) := B1.cell 3 rfl
      have z0 := B1.frozen 0
      have z1 := B1.frozen 1
      have z2 := B1.frozen 2
      have z3 := B1.frozen 3
      have hlt0 := B1.lt
      have HBW := Aside0.mk BW
      clear BW HB
      cases hq : p m with
      | true =>
        rw [hq] at hcall
        have HQm := Aside0.mk hq
        clear hq
        go_wp2_with (fail)
        refine hcall.mono ?_
        rintro e w1 ⟨rfl, hb1⟩
        clear hcall
        have BM : Blk w1 wr.heap.size (c72 m) 72 := (Blk.new wr (c72 m) 72).below_ hb1
        have y0 : w1.cell? ⟨wr.heap.size, 0, none⟩ = some (.int .i64 m.f0.f0) := BM.cell 0 rfl
        have y1 : w1.cell? ⟨wr.heap.size, 1, none⟩ = some (.int .i64 m.f0.f1) := BM.cell 1 rfl
        have y2 : w1.cell? ⟨wr.heap.size, 2, none⟩ = some (.int .i64 m.f0.f2) := BM.cell 2 rfl
        have y3 : w1.cell? ⟨wr.heap.size, 3, none⟩ = some (.int .i64 m.f1) := BM.cell 3 rfl
        have B0' : Blk w1 w.heap.size _ 72 := (B0.alloc _).below_ hb1
        have B1' : Blk w1 (w.heap.size + 1) _ 72 := (B1.alloc _).below_ hb1
        have x0 : w1.cell? ⟨w.heap.size + 1, 0, none⟩ = some (.int .i64 o.f0.f0) := B1'.cell 0 rfl
        have x1 : w1.cell? ⟨w.heap.size + 1, 1, none⟩ = some (.int .i64 o.f0.f1) := B1'.cell 1 rfl
        have x2 : w1.cell? ⟨w.heap.size + 1, 2, none⟩ = some (.int .i64 o.f0.f2) := B1'.cell 2 rfl
        have x3 : w1.cell? ⟨w.heap.size + 1, 3, none⟩ = some (.int .i64 o.f1) := B1'.cell 3 rfl
        have t0 := B1'.frozen 0
        have t1 := B1'.frozen 1
        have t2 := B1'.frozen 2
        have t3 := B1'.frozen 3
        have hb2 : Below w.heap.size w w1 := (HBW.out.alloc HBW.out.size _).trans (hb1.mono (by simp; have := HBW.out.size; omega))
        have HX := Aside0.mk (And.intro hb2 (And.intro B0' B1'))
        clear B0' B1' hb2 hb1 B0 B1 BM
        go_wp2_with (fail)
        go_roundg (l.length - (k + 1))
        case measure => omega
        case rel =>
          obtain ⟨hb2, B0', B1'⟩ := HX.out
          refine ⟨k + 1, m, by omega, by omega, by go_num, ⟨?_⟩, ⟨?_, ?_, set4' _ _ _ _ _ _ _ _ B1' rfl⟩⟩
          · rw [AI.out, HD.out, ← List.drop_drop, HD.out]; simp [lastOr, HQm.out]
          · exact (((hb2.setCell (by show _ ≤ w.heap.size + 1; omega) _).setCell (by show _ ≤ w.heap.size + 1; omega) _).setCell (by show _ ≤ w.heap.size + 1; omega) _).setCell (by show _ ≤ w.heap.size + 1; omega) _
          · exact (((B0'.other _ (by show _ ≠ w.heap.size + 1; omega)).other _ (by show _ ≠ w.heap.size + 1; omega)).other _ (by show _ ≠ w.heap.size + 1; omega)).other _ (by show _ ≠ w.heap.size + 1; omega)
      | false =>
        rw [hq] at hcall
        have HQm := Aside0.mk hq
        clear hq
        go_wp2_with (fail)
        refine hcall.mono ?_
        rintro e w1 ⟨rfl, hb1⟩
        clear hcall
        have B0' : Blk w1 w.heap.size _ 72 := (B0.alloc _).below_ hb1
        have B1' : Blk w1 (w.heap.size + 1) _ 72 := (B1.alloc _).below_ hb1
        have hb2 : Below w.heap.size w w1 := (HBW.out.alloc HBW.out.size _).trans (hb1.mono (by simp; have := HBW.out.size; omega))
        have HX := Aside0.mk (And.intro hb2 (And.intro B0' B1'))
        clear B0' B1' hb2 hb1 B0 B1
        go_wp2_with (fail)
        go_roundg (l.length - (k + 1))
        case measure => omega
        case rel => exact ⟨k + 1, o, by omega, by omega, by go_num, ⟨by rw [AI.out, HD.out, ← List.drop_drop, HD.out]; simp [lastOr, HQm.out]⟩, HX⟩
    · obtain ⟨BW, B0, B1⟩ := HB.out
      have i0 : wr.cell? ⟨w.heap.size + 1, 0, none⟩ = some (.int .i64 o.f0.f0) := B1.cell 0 rfl
      have i1 : wr.cell? ⟨w.heap.size + 1, 1, none⟩ = some (.int .i64 o.f0.f1) := B1.cell 1 rfl
      have i2 : wr.cell? ⟨w.heap.size + 1, 2, none⟩ = some (.int .i64 o.f0.f2) := B1.cell 2 rfl
      have i3 : wr.cell? ⟨w.heap.size + 1, 3, none⟩ = some (.int .i64 o.f1) := B1.cell 3 rfl
      have j0 : wr.cell? ⟨w.heap.size, 0, none⟩ = some (.int .i64 0) := B0.cell 0 rfl
      have j1 : wr.cell? ⟨w.heap.size, 1, none⟩ = some (.int .i64 0) := B0.cell 1 rfl
      have j2 : wr.cell? ⟨w.heap.size, 2, none⟩ = some (.int .i64 0) := B0.cell 2 rfl
      have j3 : wr.cell? ⟨w.heap.size, 3, none⟩ = some (.int .i64 0) := B0.cell 3 rfl
      have z0 := B0.frozen 0
      have z1 := B0.frozen 1
      have z2 := B0.frozen 2
      have z3 := B0.frozen 3
      have hs := set4' _ _ _ _ (.int .i64 o.f0.f0) (.int .i64 o.f0.f1) (.int .i64 o.f0.f2) (.int .i64 o.f1) B0 rfl
      have HS := Aside0.mk hs
      have HBW := Aside0.mk BW
      clear hs BW B0 B1 HB
      go_wp2_with (fail)
      have g0 := HS.out.cell 0 rfl
      have g1 := HS.out.cell 1 rfl
      have g2 := HS.out.cell 2 rfl
      have g3 := HS.out.cell 3 rfl
      refine bodyPost_ret (v := .agg (c72 o)) (by simp [results, Try.results46, go_sem, g0, g1, g2, g3, c72]) rfl ⟨?_, ?_⟩
      · rw [AI.out, List.drop_eq_nil_of_le (by omega)]; rfl
      · exact (((HBW.out.setCell (Nat.le_refl _) _).setCell (Nat.le_refl _) _).setCell (Nat.le_refl _) _).setCell (Nat.le_refl _) _
end Go.Proofs.Ytomlfbmfdoallaa.PA
