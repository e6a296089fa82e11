/- The program's place of a tick and the bar's meter, for all meters and numbers. -/
import Derived.Test.YtomlfbmfdoallaaTg
import Derived.Test.YtomlfbmfdoallaaPAxf18
import Derived.Test.YtomlfbmfdoallaaPAxf49
import Derived.Test.YtomlfbmfdoallaaPAxf47
import Derived.Deep.RegionHeld3
import Derived.Test.YtomlfbmfdoallaaTa
import Derived.Test.YtomlfbmfdoallaaPAxf40
namespace Go.Proofs.Ytomlfbmfdoallaa.PA
open Go.RowKit Go.Proofs.YtomlfbmfdoallaaW.PrintWords Go.Proofs.YtomlfbmfdoallaaW.PrintLast Go.Proofs.YtomlfbmfdoallaaW.PrintMore
set_option linter.unusedVariables false
set_option linter.unusedSimpArgs false

theorem enters48 : ∀ args w, (callFunc 48 args).run Try.prog w = .ok (.enter 48 args) w := Go.Proofs.enters_of Try.func48 (by kernel_rfl) rfl
theorem enters69 : ∀ args w, (callFunc 69 args).run Try.prog w = .ok (.enter 69 args) w := Go.Proofs.enters_of Try.func69 (by kernel_rfl) rfl

theorem Blk.call {W W1 W' : World} {b : Nat} {cs : Array Value} {t : TypeId} (h : Blk W b cs t) (hb : Below W1.heap.size W1 W') (e : W1.heap = W.heap) : Blk W' b cs t := by
  have := hb.block b (by rw [e]; exact h.lt)
  rw [e] at this
  exact h.same this
theorem Below.call_ {B : Nat} {w W W1 W' : World} (h : Below B w W) (hB : B ≤ W.heap.size) (hb : Below W1.heap.size W1 W') (e : W1.heap = W.heap ∧ W1.os = W.os ∧ W1.tape = W.tape ∧ W1.output = W.output) : Below B w W' :=
  ⟨hb.os.trans (e.2.1.trans h.os), hb.tape.trans (e.2.2.1.trans h.tape), hb.output.trans (e.2.2.2.trans h.output), Nat.le_trans h.size (by rw [← e.1]; exact hb.size), fun k hk => by have := hb.block k (by rw [e.1]; omega); rw [this, e.1]; exact h.block k hk⟩
theorem set3' (W : World) (b : Nat) (cs : Array Value) (t : TypeId) (v0 v1 v2 : Value) (h : Blk W b cs t) (h3 : cs.size = 3) :
    Blk (((W.setCell ⟨b, 0, none⟩ v0).setCell ⟨b, 1, none⟩ v1).setCell ⟨b, 2, none⟩ v2) b #[v0, v1, v2] t := by
  have := ((h.set 0 v0).set 1 v1).set 2 v2
  obtain ⟨l⟩ := cs
  match l, h3 with
  | [a, b, c], _ => exact this
theorem place1_calls (x : S72) (b : Nat) (at_ : Int) (W : World) (hb : W.cell? ⟨b, 0, none⟩ = some (.int .i64 at_)) :
    Calls Try.prog 48 #[.agg (c72 x), .pointer (some ⟨b, 0, none⟩)] W fun e w' => e = .returned (.bool (decide (x.f1 ≤ at_))) ∧ Below W.heap.size W w' := by
  have l1 : b < W.heap.size := World.block_lt_of_cell? _ _ hb
  unfold c72
  go_enter Try.func48, Try.ntmps48
  go_wp2
  go_ret
  exact ⟨rfl, (Below.refl _ _).alloc (Nat.le_refl _) _⟩
theorem bar1_calls (x : S72) (b : Nat) (n : Int) (W : World) (hb : W.cell? ⟨b, 0, none⟩ = some (.int .i64 n)) :
    Calls Try.prog 69 #[.agg (c72 x), .pointer (some ⟨b, 0, none⟩)] W fun e w' => e = .returned (.bool (decide (x.f0.f0 ≤ n))) ∧ Below W.heap.size W w' := by
  have l1 : b < W.heap.size := World.block_lt_of_cell? _ _ hb
  unfold c72
  go_enter Try.func69, Try.ntmps69
  go_wp2
  go_ret
  exact ⟨rfl, (Below.refl _ _).alloc (Nat.le_refl _) _⟩

/-- A meter that can be reckoned with. -/
def okM (m : S72) (n : Int) : Bool := decide (0 ≤ m.f0.f0) && decide (m.f0.f0 ≤ 1000000000) && decide (1 ≤ m.f0.f1) && decide (m.f0.f1 ≤ 32) && decide (1 ≤ m.f0.f2) && decide (m.f0.f2 ≤ 10000) && decide (0 ≤ m.f1) && decide (m.f1 ≤ 1000000000000000) && decide (0 ≤ n) && decide (n ≤ 1000000000)

def tempo_bar.f (k : Nat) (l0 : List S61) (a1 : Int) : Option (Int × Int × Int × Int × Int) :=
  (tempo_meters.f k l0).bind fun ms => if ms.length = 0 then none else (fun m : S72 => if okM m a1 = true then some (m.f0.f0, m.f0.f1, m.f0.f2, m.f1, m.f1 + (a1 - m.f0.f0) * (m.f0.f1 * m.f0.f2)) else none) (lastOr (fun x => decide (x.f0.f0 ≤ a1)) (rd_T72 ms 0) ms)
theorem tempo_bar.mono : ∀ a0 a1 k, LeO (tempo_bar.f k a0 a1) (tempo_bar.f (k + 1) a0 a1) := by
  intro a0 a1 k
  unfold tempo_bar.f
  exact LeO.bind (tempo_meters.mono _ _) (fun _ => LeO.refl _)

set_option maxRecDepth 100000 in
set_option maxHeartbeats 2000000 in
theorem tempo_bar.calls (k : Nat) (A0 : Option Addr) (c0 : Nat) (l0 : List (S61)) (a1 : Int) (r1 r2 r3 r4 r5 : Int) (w : World) (hr0 : Kd.C k61 w A0 l0.length l0) (hc0 : l0.length ≤ c0) (h : tempo_bar.f k l0 a1 = some (r1, r2, r3, r4, r5)) :
    Calls Try.prog 52 #[.slice A0 l0.length c0, .int .i64 a1] w fun e w' => e = .returned (.tuple #[.agg #[.int .i64 r1, .int .i64 r2, .int .i64 r3, .int .i64 r4], .int .i64 r5]) ∧ Below w.heap.size w w' := by
  unfold tempo_bar.f at h
  obtain ⟨ms, hms, h'⟩ := Option.bind_eq_some_iff.mp h
  clear h
  split at h'
  · cases h'
  rename_i hne
  dsimp only at h'
  have HM := fun w1 (hb : Below w.heap.size w w1) => Lib.hid (tempo_meters.calls k A0 c0 l0 ms w1 (Kd.C_below hr0 hb) hc0 hms)
  clear hr0 hms
  have hmf : ∀ (fn : Fn) (first cap : Array Value) (w : World), (Instr.makeFunc fn first cap).run Try.prog w = .ok (.func fn first cap) w := fun _ _ _ _ => rfl
  go_enter Try.func52, Try.ntmps52
  go_wp2_with (fail)
  obtain ⟨W0, hW0⟩ : ∃ W0, W0 = (w.alloc (.cells #[.int .i64 a1] 3)).alloc (.cells #[.int .i64 0, .int .i64 0, .int .i64 0, .int .i64 0] 72) := ⟨_, rfl⟩
  have k0 : Blk W0 w.heap.size #[.int .i64 a1] 3 := by rw [hW0]; exact (Blk.new w _ _).alloc _
  have k1 : Blk W0 (w.heap.size + 1) #[.int .i64 0, .int .i64 0, .int .i64 0, .int .i64 0] 72 := by rw [hW0]; have := Blk.new (w.alloc (.cells #[.int .i64 a1] 3)) #[.int .i64 0, .int .i64 0, .int .i64 0, .int .i64 0] 72; rw [World.size_alloc] at this; exact this
  have hb0 : Below w.heap.size w W0 := by rw [hW0]; exact ((Below.refl _ w).alloc (Nat.le_refl _) _).alloc (by simp) _
  rw [← hW0]
  clear hW0
  refine (HM W0 hb0).out.mono ?_
  rintro e w1 ⟨v0, rfl, hR, hb1⟩
  obtain ⟨A2, c2, rfl, hc2, hC2⟩ := Kd.R_reads hR
  clear hR
  replace k0 := k0.below_ hb1
  replace k1 := k1.below_ hb1
  replace hb0 := hb0.trans (hb1.mono hb0.size)
  clear hb1
  go_wp2_with (fail)
  refine (last_calls (fun x => decide (x.f0.f0 ≤ a1)) 69 #[.pointer (some ⟨w.heap.size, 0, none⟩)] enters69 A2 c2 ms w1 (by omega) (fun W x hW => bar1_calls x _ a1 W ((hW.cell (p := ⟨w.heap.size, 0, none⟩) k0.lt).trans (k0.cell 0 rfl))) hC2).mono ?_
  clear hC2
  generalize lastOr (fun x => decide (x.f0.f0 ≤ a1)) (rd_T72 ms 0) ms = m at h'
  split at h'
  · rename_i hok
    simp only [okM, Bool.and_eq_true, decide_eq_true_eq] at hok
    obtain ⟨⟨⟨⟨⟨⟨⟨⟨⟨o1, o2⟩, o3⟩, o4⟩, o5⟩, o6⟩, o7⟩, o8⟩, o9⟩, o10⟩ := hok
    simp only [Option.some.injEq, Prod.mk.injEq] at h'
    obtain ⟨rfl, rfl, rfl, rfl, rfl⟩ := h'
    unfold c72
    rintro e w2 ⟨rfl, hb2⟩
    replace k0 := k0.below_ hb2
    replace k1 := k1.below_ hb2
    replace hb0 := hb0.trans (hb2.mono hb0.size)
    clear hb2
    go_wp2_with (fail)
    have hne1 : ¬ w2.heap.size = w.heap.size + 1 := by have := k1.lt; omega
    have hne2 : ¬ w.heap.size + 1 = w2.heap.size := by have := k1.lt; omega
    have k6 := Blk.new w2 #[.int .i64 m.f0.f0, .int .i64 m.f0.f1, .int .i64 m.f0.f2, .int .i64 m.f1] 72
    have hb3 := hb0.alloc hb0.size (.cells #[.int .i64 m.f0.f0, .int .i64 m.f0.f1, .int .i64 m.f0.f2, .int .i64 m.f1] 72)
    replace k0 := k0.alloc (.cells #[.int .i64 m.f0.f0, .int .i64 m.f0.f1, .int .i64 m.f0.f2, .int .i64 m.f1] 72)
    replace k1 := k1.alloc (.cells #[.int .i64 m.f0.f0, .int .i64 m.f0.f1, .int .i64 m.f0.f2, .int .i64 m.f1] 72)
    generalize w2.alloc (.cells #[.int .i64 m.f0.f0, .int .i64 m.f0.f1, .int .i64 m.f0.f2, .int .i64 m.f1] 72) = W3 at k0 k1 k6 hb3 ⊢
    generalize w2.heap.size = b6 at k6 hne1 hne2 ⊢
    have g0 : W3.cell? ⟨w.heap.size, 0, none⟩ = some (.int .i64 a1) := k0.cell 0 rfl
    have g1 : W3.cell? ⟨b6, 0, none⟩ = some (.int .i64 m.f0.f0) := k6.cell 0 rfl
    have g2 : W3.cell? ⟨b6, 1, none⟩ = some (.int .i64 m.f0.f1) := k6.cell 1 rfl
    have g3 : W3.cell? ⟨b6, 2, none⟩ = some (.int .i64 m.f0.f2) := k6.cell 2 rfl
    have g4 : W3.cell? ⟨b6, 3, none⟩ = some (.int .i64 m.f1) := k6.cell 3 rfl
    have v1 := mulb (by omega : 0 ≤ m.f0.f1) o4 (by omega : 0 ≤ m.f0.f2) o6
    have v2 : -320000000000000 ≤ (a1 - m.f0.f0) * (m.f0.f1 * m.f0.f2) ∧ (a1 - m.f0.f0) * (m.f0.f1 * m.f0.f2) ≤ 320000000000000 := by
      have e1 := mulb o9 o10 v1.1 v1.2
      have e2 := mulb o1 o2 v1.1 v1.2
      rw [Int.sub_mul]; omega
    have hl : tempo_metered_long.f m.f0.f0 m.f0.f1 m.f0.f2 m.f1 = some (m.f0.f1 * m.f0.f2) := by unfold tempo_metered_long.f; rw [w64 (by omega) (by omega)]
    have HL := fun w => Lib.hid (tempo_metered_long.calls m.f0.f0 m.f0.f1 m.f0.f2 m.f1 _ w hl)
    clear hl
    generalize hlg : m.f0.f1 * m.f0.f2 = lg at v1 v2 HL
    have HLG := Aside0.mk hlg
    clear hlg
    have u1 : IntKind.i64.wrap (a1 - m.f0.f0) = a1 - m.f0.f0 := (i64_w _).trans (w64 (by omega) (by omega))
    have u2 : IntKind.i64.wrap ((a1 - m.f0.f0) * lg) = (a1 - m.f0.f0) * lg := (i64_w _).trans (w64 (by omega) (by omega))
    have u3 : IntKind.i64.wrap (m.f1 + (a1 - m.f0.f0) * lg) = m.f1 + (a1 - m.f0.f0) * lg := (i64_w _).trans (w64 (by omega) (by omega))
    clear hb0 HM
    go_region_held3 (fun w' => w'.cell? ⟨w.heap.size, 0, none⟩ = some (.int .i64 a1) ∧ w'.cell? ⟨b6, 0, none⟩ = some (.int .i64 m.f0.f0) ∧ w'.cell? ⟨b6, 1, none⟩ = some (.int .i64 m.f0.f1) ∧ w'.cell? ⟨b6, 2, none⟩ = some (.int .i64 m.f0.f2) ∧ w'.cell? ⟨b6, 3, none⟩ = some (.int .i64 m.f1)) (simp [go_sem, *])
      (first | (go_at_call 49; refine (HL _).out.mono ?_; rintro e w' ⟨rfl, hb4⟩; have y0 := (k0.drew.below_ hb4).cell 0 rfl; have y1 := (k6.drew.below_ hb4).cell 0 rfl; have y2 := (k6.drew.below_ hb4).cell 1 rfl; have y3 := (k6.drew.below_ hb4).cell 2 rfl; have y4 := (k6.drew.below_ hb4).cell 3 rfl; have x0 := (k1.drew.below_ hb4).cell 0 (v := .int .i64 0) rfl; have x1 := (k1.drew.below_ hb4).cell 1 (v := .int .i64 0) rfl; have x2 := (k1.drew.below_ hb4).cell 2 (v := .int .i64 0) rfl; have x3 := (k1.drew.below_ hb4).cell 3 (v := .int .i64 0) rfl; have z0 := (k1.drew.below_ hb4).frozen 0; have z1 := (k1.drew.below_ hb4).frozen 1; have z2 := (k1.drew.below_ hb4).frozen 2; have z3 := (k1.drew.below_ hb4).frozen 3))
    clear u1 u2 u3
    go_wp2
    have s1 := set4' _ _ _ _ (.int .i64 m.f0.f0) (.int .i64 m.f0.f1) (.int .i64 m.f0.f2) (.int .i64 m.f1) (k1.drew.below_ hb4) rfl
    have p0 := s1.cell 0 (v := .int .i64 m.f0.f0) rfl
    have p1 := s1.cell 1 (v := .int .i64 m.f0.f1) rfl
    have p2 := s1.cell 2 (v := .int .i64 m.f0.f2) rfl
    have p3 := s1.cell 3 (v := .int .i64 m.f1) rfl
    refine bodyPost_ret (v := .tuple #[.agg #[.int .i64 m.f0.f0, .int .i64 m.f0.f1, .int .i64 m.f0.f2, .int .i64 m.f1], .int .i64 (m.f1 + (a1 - m.f0.f0) * lg)]) (by simp [results, Try.results52, go_sem, p0, p1, p2, p3]) rfl ⟨by rw [HLG.out], ?_⟩
    have hb5 : Below w.heap.size w w' := hb3.drew.trans (hb4.mono (by have := hb3.size; simp; omega))
    exact (((hb5.setCell (by show _ ≤ w.heap.size + 1; omega) _).setCell (by show _ ≤ w.heap.size + 1; omega) _).setCell (by show _ ≤ w.heap.size + 1; omega) _).setCell (by show _ ≤ w.heap.size + 1; omega) _
  · cases h'

def tempo_Place.f (k : Nat) (l0 : List S61) (a1 : Int) : Option (Int × Int × Int × Int) :=
  (tempo_ValidMeter.f k l0).bind fun v => if v = true then (if 0 ≤ a1 ∧ a1 ≤ 1000000000 then ((tempo_meters.f k l0).bind fun ms => if ms.length = 0 then none else
    (fun m : S72 => if okM m a1 = true ∧ m.f1 ≤ a1 then some (m.f0.f0 + (a1 - m.f1) / (m.f0.f1 * m.f0.f2), (a1 - m.f1) % (m.f0.f1 * m.f0.f2) / m.f0.f2, (a1 - m.f1) % m.f0.f2, 0) else none) (lastOr (fun x => decide (x.f1 ≤ a1)) (rd_T72 ms 0) ms)) else some (0, 0, 0, 7)) else some (0, 0, 0, 1)
theorem tempo_Place.mono : ∀ a0 a1 k, LeO (tempo_Place.f k a0 a1) (tempo_Place.f (k + 1) a0 a1) := by
  intro a0 a1 k
  unfold tempo_Place.f
  exact LeO.bind (tempo_ValidMeter.mono _ _) (fun _ => LeO.ite (LeO.ite (LeO.bind (tempo_meters.mono _ _) (fun _ => LeO.refl _)) (LeO.refl _)) (LeO.refl _))

set_option maxRecDepth 100000 in
set_option maxHeartbeats 2000000 in
theorem tempo_Place.calls (k : Nat) (A0 : Option Addr) (c0 : Nat) (l0 : List (S61)) (a1 : Int) (r1 r2 r3 r4 : Int) (w : World) (hr0 : Kd.C k61 w A0 l0.length l0) (hc0 : l0.length ≤ c0) (h : tempo_Place.f k l0 a1 = some (r1, r2, r3, r4)) :
    Calls Try.prog 16 #[.slice A0 l0.length c0, .int .i64 a1] w fun e w' => e = .returned (.tuple #[.agg #[.int .i64 r1, .int .i64 r2, .int .i64 r3], .int .i64 r4]) ∧ Below w.heap.size w w' := by
  unfold tempo_Place.f at h
  obtain ⟨v, hv, h'⟩ := Option.bind_eq_some_iff.mp h
  clear h
  have HV := fun w1 (hb : Below w.heap.size w w1) => Lib.hid (tempo_ValidMeter.calls k A0 c0 l0 v w1 (Kd.C_below hr0 hb) hc0 hv)
  clear hv
  have hmf : ∀ (fn : Fn) (first cap : Array Value) (w : World), (Instr.makeFunc fn first cap).run Try.prog w = .ok (.func fn first cap) w := fun _ _ _ _ => rfl
  obtain ⟨W0, hW0⟩ : ∃ W0, W0 = (w.alloc (.cells #[.int .i64 a1] 3)).alloc (.cells #[.int .i64 0, .int .i64 0, .int .i64 0] 37) := ⟨_, rfl⟩
  have k0 : Blk W0 w.heap.size #[.int .i64 a1] 3 := by rw [hW0]; exact (Blk.new w _ _).alloc _
  have k1 : Blk W0 (w.heap.size + 1) #[.int .i64 0, .int .i64 0, .int .i64 0] 37 := by rw [hW0]; have := Blk.new (w.alloc (.cells #[.int .i64 a1] 3)) #[.int .i64 0, .int .i64 0, .int .i64 0] 37; rw [World.size_alloc] at this; exact this
  have hb0 : Below w.heap.size w W0 := by rw [hW0]; exact ((Below.refl _ w).alloc (Nat.le_refl _) _).alloc (by simp) _
  have HW0 := Aside0.mk hW0
  clear hW0
  cases v with
  | false =>
    simp only [Bool.false_eq_true, if_false, Option.some.injEq, Prod.mk.injEq] at h'
    obtain ⟨rfl, rfl, rfl, rfl⟩ := h'
    go_enter Try.func16, Try.ntmps16
    go_wp2_with (fail)
    rw [← HW0.out]
    refine (HV W0 hb0).out.mono ?_
    rintro e w1 ⟨rfl, hb1⟩
    replace k1 := k1.below_ hb1
    replace hb0 := hb0.trans (hb1.mono hb0.size)
    clear hb1 k0
    have x0 := k1.cell 0 (v := .int .i64 0) rfl
    have x1 := k1.cell 1 (v := .int .i64 0) rfl
    have x2 := k1.cell 2 (v := .int .i64 0) rfl
    have z0 := k1.frozen 0
    have z1 := k1.frozen 1
    have z2 := k1.frozen 2
    go_wp2_with (fail)
    have s1 := set3' _ _ _ _ (.int .i64 0) (.int .i64 0) (.int .i64 0) k1 rfl
    have p0 := s1.cell 0 (v := .int .i64 0) rfl
    have p1 := s1.cell 1 (v := .int .i64 0) rfl
    have p2 := s1.cell 2 (v := .int .i64 0) rfl
    refine bodyPost_ret (v := .tuple #[.agg #[.int .i64 0, .int .i64 0, .int .i64 0], .int .i64 1]) (by simp [results, Try.results16, go_sem, p0, p1, p2]) rfl ⟨rfl, ?_⟩
    exact ((hb0.setCell (by show _ ≤ w.heap.size + 1; omega) _).setCell (by show _ ≤ w.heap.size + 1; omega) _).setCell (by show _ ≤ w.heap.size + 1; omega) _
  | true =>
    simp only [if_true] at h'
    have hw43 : ∀ w1, Calls Try.prog 43 #[.int .i64 a1, .int .i64 0, .int .i64 1000000000] w1 fun e w' => e = .returned (.bool (decide (0 ≤ a1) && decide (a1 ≤ 1000000000))) ∧ Drawn0 w1 w' := fun w1 => tempo_within.calls a1 0 1000000000 _ w1 (tempo_within.eq _ _ _)
    by_cases hin : 0 ≤ a1 ∧ a1 ≤ 1000000000
    · rw [if_pos hin] at h'
      rw [show (decide (0 ≤ a1) && decide (a1 ≤ 1000000000)) = true by simp [hin]] at hw43
      have HW43 := fun w => Lib.hid (hw43 w)
      clear hw43
      obtain ⟨i1, i2⟩ := hin
      obtain ⟨ms, hms, h'⟩ := Option.bind_eq_some_iff.mp h'
      split at h'
      · cases h'
      rename_i hne
      have HM := fun w1 (hb : Below w.heap.size w w1) => Lib.hid (tempo_meters.calls k A0 c0 l0 ms w1 (Kd.C_below hr0 hb) hc0 hms)
      clear hr0 hms
      go_enter Try.func16, Try.ntmps16
      go_wp2_with (fail)
      rw [← HW0.out]
      refine (HV W0 hb0).out.mono ?_
      rintro e w1 ⟨rfl, hb1⟩
      replace k0 := k0.below_ hb1
      replace k1 := k1.below_ hb1
      replace hb0 := hb0.trans (hb1.mono hb0.size)
      clear hb1
      have g0 : w1.cell? ⟨w.heap.size, 0, none⟩ = some (.int .i64 a1) := k0.cell 0 rfl
      go_wp2_with (fail)
      refine (HW43 _).out.mono ?_
      rintro e w2 ⟨rfl, ⟨nd, rfl⟩⟩
      replace k0 := k0.drewN nd
      replace k1 := k1.drewN nd
      replace hb0 : Below w.heap.size w (w1.drewN nd) := pw_below_drewN hb0 nd
      clear g0
      generalize w1.drewN nd = w2 at k0 k1 hb0 ⊢
      go_wp2_with (fail)
      refine (HM w2 hb0).out.mono ?_
      rintro e w3 ⟨v0, rfl, hR, hb1⟩
      obtain ⟨A2, c2, rfl, hc2, hC2⟩ := Kd.R_reads hR
      clear hR
      replace k0 := k0.below_ hb1
      replace k1 := k1.below_ hb1
      replace hb0 := hb0.trans (hb1.mono hb0.size)
      clear hb1
      go_wp2_with (fail)
      refine (last_calls (fun x => decide (x.f1 ≤ a1)) 48 #[.pointer (some ⟨w.heap.size, 0, none⟩)] enters48 A2 c2 ms w3 (by omega) (fun W x hW => place1_calls x _ a1 W ((hW.cell (p := ⟨w.heap.size, 0, none⟩) k0.lt).trans (k0.cell 0 rfl))) hC2).mono ?_
      clear hC2
      generalize lastOr (fun x => decide (x.f1 ≤ a1)) (rd_T72 ms 0) ms = m at h'
      split at h'
      · rename_i hok
        obtain ⟨hok, hle⟩ := hok
        simp only [okM, Bool.and_eq_true, decide_eq_true_eq] at hok
        obtain ⟨⟨⟨⟨⟨⟨⟨⟨⟨o1, o2⟩, o3⟩, o4⟩, o5⟩, o6⟩, o7⟩, o8⟩, o9⟩, o10⟩ := hok
        simp only [Option.some.injEq, Prod.mk.injEq] at h'
        obtain ⟨rfl, rfl, rfl, rfl⟩ := h'
        unfold c72
        rintro e w4 ⟨rfl, hb2⟩
        replace k0 := k0.below_ hb2
        replace k1 := k1.below_ hb2
        replace hb0 := hb0.trans (hb2.mono hb0.size)
        clear hb2
        have g0 : w4.cell? ⟨w.heap.size, 0, none⟩ = some (.int .i64 a1) := k0.cell 0 rfl
        have g0lt := k0.lt
        go_wp2_with (fail)
        clear g0
        have hne1 : ¬ w4.heap.size = w.heap.size + 1 := by have := k1.lt; omega
        have hne2 : ¬ w.heap.size + 1 = w4.heap.size := by have := k1.lt; omega
        have k6 := Blk.new w4 #[.int .i64 m.f0.f0, .int .i64 m.f0.f1, .int .i64 m.f0.f2, .int .i64 m.f1] 72
        have hb3 := hb0.alloc hb0.size (.cells #[.int .i64 m.f0.f0, .int .i64 m.f0.f1, .int .i64 m.f0.f2, .int .i64 m.f1] 72)
        replace k1 := k1.alloc (.cells #[.int .i64 m.f0.f0, .int .i64 m.f0.f1, .int .i64 m.f0.f2, .int .i64 m.f1] 72)
        generalize w4.alloc (.cells #[.int .i64 m.f0.f0, .int .i64 m.f0.f1, .int .i64 m.f0.f2, .int .i64 m.f1] 72) = W3 at k1 k6 hb3 ⊢
        generalize w4.heap.size = b6 at k6 hne1 hne2 ⊢
        have g1 : W3.cell? ⟨b6, 0, none⟩ = some (.int .i64 m.f0.f0) := k6.cell 0 rfl
        have g2 : W3.cell? ⟨b6, 1, none⟩ = some (.int .i64 m.f0.f1) := k6.cell 1 rfl
        have g3 : W3.cell? ⟨b6, 2, none⟩ = some (.int .i64 m.f0.f2) := k6.cell 2 rfl
        have g4 : W3.cell? ⟨b6, 3, none⟩ = some (.int .i64 m.f1) := k6.cell 3 rfl
        have v1 := mulb (by omega : 0 ≤ m.f0.f1) o4 (by omega : 0 ≤ m.f0.f2) o6
        have v3 : 1 ≤ m.f0.f1 * m.f0.f2 := by
          have := Int.mul_le_mul o3 o5 (by omega) (by omega)
          omega
        have hl : tempo_metered_long.f m.f0.f0 m.f0.f1 m.f0.f2 m.f1 = some (m.f0.f1 * m.f0.f2) := by unfold tempo_metered_long.f; rw [w64 (by omega) (by omega)]
        have HL := fun w => Lib.hid (tempo_metered_long.calls m.f0.f0 m.f0.f1 m.f0.f2 m.f1 _ w hl)
        clear hl
        generalize hlg : m.f0.f1 * m.f0.f2 = lg at v1 v3 HL
        have HLG := Aside0.mk hlg
        clear hlg
        have e0 : 0 ≤ a1 - m.f1 := by omega
        have u1 : IntKind.i64.wrap ((a1 - m.f1).tdiv lg) = (a1 - m.f1) / lg := by
          rw [Int.tdiv_eq_ediv_of_nonneg e0, i64_w]
          have h1 : 0 ≤ (a1 - m.f1) / lg := Int.ediv_nonneg e0 (by omega)
          have h2 : (a1 - m.f1) / lg ≤ a1 - m.f1 := Int.ediv_le_self _ e0
          exact w64 (by omega) (by omega)
        have u2 : IntKind.i64.wrap (m.f0.f0 + (a1 - m.f1) / lg) = m.f0.f0 + (a1 - m.f1) / lg := by
          rw [i64_w]
          have h1 : 0 ≤ (a1 - m.f1) / lg := Int.ediv_nonneg e0 (by omega)
          have h2 : (a1 - m.f1) / lg ≤ a1 - m.f1 := Int.ediv_le_self _ e0
          exact w64 (by omega) (by omega)
        have u3 : (a1 - m.f1).tmod lg = (a1 - m.f1) % lg := Int.tmod_eq_emod_of_nonneg e0
        have u4 : IntKind.i64.wrap (((a1 - m.f1) % lg).tdiv m.f0.f2) = (a1 - m.f1) % lg / m.f0.f2 := by
          have h0 : 0 ≤ (a1 - m.f1) % lg := Int.emod_nonneg _ (by omega)
          have h3 : (a1 - m.f1) % lg < lg := Int.emod_lt_of_pos _ (by omega)
          rw [Int.tdiv_eq_ediv_of_nonneg h0, i64_w]
          have h1 : 0 ≤ (a1 - m.f1) % lg / m.f0.f2 := Int.ediv_nonneg h0 (by omega)
          have h2 : (a1 - m.f1) % lg / m.f0.f2 ≤ (a1 - m.f1) % lg := Int.ediv_le_self _ h0
          exact w64 (by omega) (by omega)
        have u5 : (a1 - m.f1).tmod m.f0.f2 = (a1 - m.f1) % m.f0.f2 := Int.tmod_eq_emod_of_nonneg e0
        have u6 : ¬ lg = 0 := by omega
        have u7 : ¬ m.f0.f2 = 0 := by omega
        have u8 : (lg == 0) = false := beq_eq_false_iff_ne.2 u6
        have u9 : (m.f0.f2 == 0) = false := beq_eq_false_iff_ne.2 u7
        clear hb0 HM
        go_region_held3 (fun w' => w'.cell? ⟨b6, 0, none⟩ = some (.int .i64 m.f0.f0) ∧ w'.cell? ⟨b6, 1, none⟩ = some (.int .i64 m.f0.f1) ∧ w'.cell? ⟨b6, 2, none⟩ = some (.int .i64 m.f0.f2) ∧ w'.cell? ⟨b6, 3, none⟩ = some (.int .i64 m.f1)) (simp [go_sem, *])
          (first | (go_at_call 49; refine (HL _).out.mono ?_; rintro e w' ⟨rfl, hb4⟩; have hb3' := Below.call_ hb3 hb3.size hb4 ⟨rfl, rfl, rfl, rfl⟩; have k1' := Blk.call k1 hb4 rfl; have k6' := Blk.call k6 hb4 rfl; clear hb3 k1 k6 hb4; have hb3 := hb3'; have k1 := k1'; have k6 := k6'; clear hb3' k1' k6'; have y1 := k6.cell 0 (v := .int .i64 m.f0.f0) rfl; have y2 := k6.cell 1 (v := .int .i64 m.f0.f1) rfl; have y3 := k6.cell 2 (v := .int .i64 m.f0.f2) rfl; have y4 := k6.cell 3 (v := .int .i64 m.f1) rfl; have x0 := k1.cell 0 (v := .int .i64 0) rfl; have x1 := k1.cell 1 (v := .int .i64 0) rfl; have x2 := k1.cell 2 (v := .int .i64 0) rfl; have z0 := k1.frozen 0; have z1 := k1.frozen 1; have z2 := k1.frozen 2))
        clear u1 u2 u3 u4 u5 u6 u7 u8 u9
        go_wp2
        have s1 := set3' _ _ _ _ (.int .i64 (m.f0.f0 + (a1 - m.f1) / lg)) (.int .i64 ((a1 - m.f1) % lg / m.f0.f2)) (.int .i64 ((a1 - m.f1) % m.f0.f2)) k1 rfl
        have p0 := s1.cell 0 (v := .int .i64 (m.f0.f0 + (a1 - m.f1) / lg)) rfl
        have p1 := s1.cell 1 (v := .int .i64 ((a1 - m.f1) % lg / m.f0.f2)) rfl
        have p2 := s1.cell 2 (v := .int .i64 ((a1 - m.f1) % m.f0.f2)) rfl
        refine bodyPost_ret (v := .tuple #[.agg #[.int .i64 (m.f0.f0 + (a1 - m.f1) / lg), .int .i64 ((a1 - m.f1) % lg / m.f0.f2), .int .i64 ((a1 - m.f1) % m.f0.f2)], .int .i64 0]) (by simp [results, Try.results16, go_sem, p0, p1, p2]) rfl ⟨by rw [HLG.out], ?_⟩
        exact ((hb3.setCell (by show _ ≤ w.heap.size + 1; omega) _).setCell (by show _ ≤ w.heap.size + 1; omega) _).setCell (by show _ ≤ w.heap.size + 1; omega) _
      · cases h'
    · rw [if_neg hin] at h'
      rw [show (decide (0 ≤ a1) && decide (a1 ≤ 1000000000)) = false by by_cases h : 0 ≤ a1 <;> simp_all] at hw43
      have HW43 := fun w => Lib.hid (hw43 w)
      clear hw43 hr0
      simp only [Option.some.injEq, Prod.mk.injEq] at h'
      obtain ⟨rfl, rfl, rfl, rfl⟩ := h'
      go_enter Try.func16, Try.ntmps16
      go_wp2_with (fail)
      rw [← HW0.out]
      refine (HV W0 hb0).out.mono ?_
      rintro e w1 ⟨rfl, hb1⟩
      replace k0 := k0.below_ hb1
      replace k1 := k1.below_ hb1
      replace hb0 := hb0.trans (hb1.mono hb0.size)
      clear hb1
      have g0 : w1.cell? ⟨w.heap.size, 0, none⟩ = some (.int .i64 a1) := k0.cell 0 rfl
      go_wp2_with (fail)
      refine (HW43 _).out.mono ?_
      rintro e w2 ⟨rfl, ⟨nd, rfl⟩⟩
      replace k1 := k1.drewN nd
      replace hb0 : Below w.heap.size w (w1.drewN nd) := pw_below_drewN hb0 nd
      clear g0 k0
      generalize w1.drewN nd = w2 at k1 hb0 ⊢
      have x0 := k1.cell 0 (v := .int .i64 0) rfl
      have x1 := k1.cell 1 (v := .int .i64 0) rfl
      have x2 := k1.cell 2 (v := .int .i64 0) rfl
      have z0 := k1.frozen 0
      have z1 := k1.frozen 1
      have z2 := k1.frozen 2
      go_wp2_with (fail)
      have s1 := set3' _ _ _ _ (.int .i64 0) (.int .i64 0) (.int .i64 0) k1 rfl
      have p0 := s1.cell 0 (v := .int .i64 0) rfl
      have p1 := s1.cell 1 (v := .int .i64 0) rfl
      have p2 := s1.cell 2 (v := .int .i64 0) rfl
      refine bodyPost_ret (v := .tuple #[.agg #[.int .i64 0, .int .i64 0, .int .i64 0], .int .i64 7]) (by simp [results, Try.results16, go_sem, p0, p1, p2]) rfl ⟨rfl, ?_⟩
      exact ((hb0.setCell (by show _ ≤ w.heap.size + 1; omega) _).setCell (by show _ ≤ w.heap.size + 1; omega) _).setCell (by show _ ≤ w.heap.size + 1; omega) _
end Go.Proofs.Ytomlfbmfdoallaa.PA
