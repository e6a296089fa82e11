/- TransportSpans, part 1: what the row is built on. -/
import Derived.Below
import Derived.Deep.Draws
import Derived.Deep.AppendLies
import Derived.Maps.AppendAt
import Derived.OwnWalk
import Derived.Laws.BytesArg
import Derived.Laws.MakeOwn
import Derived.Laws.OwnMore
import Derived.Deep.OwnRows
import Derived.Tactics
import Derived.Lib.ConvBytes
import Derived.Laws.Slices
import Derived.WalkKit
import Derived.KernelRfl
import Derived.RowKit3
import Derived.Deep.LoopGhost
import Derived.Deep.QuietTactic
import Derived.BigQuiet
import Derived.WideLaws
import Derived.Deep.DeepCutAuto
import Derived.Deep.CutBlock
import Derived.Deep.RegionHeld3
import Derived.Laws.Rows
import Derived.Lib.AppendStr
import Derived.ArgAppend
import Derived.Laws.IdiomCopy
import Derived.RowKit
import Derived.OrdersHeld
import Derived.Laws.BitsLemmas
import Derived.Laws.StructEq
import Derived.Test.YtlffhagjpfcecaaProg
import Derived.RangeFuncNested
import Derived.RangeFuncBound
import Derived.RangeFuncCalls
import Derived.RangeFuncLeaves
import Derived.RangeFuncBox
import Derived.Shelf.Abstract
import Derived.Shelf.RegionOpen
import Derived.OwnWalkIn
import Derived.TacticsInMore
import Derived.LoopNIn
import Derived.LoopIn
import Derived.WalkSmall
import Derived.Defers
import Derived.Recover
import Derived.BigRegion
import Derived.Laws.Pointers
set_option linter.unusedVariables false
set_option linter.unusedSimpArgs false
namespace Go.Proofs.YtlffhagjpfcecaaW.PrintWords
open Go.RowKit
structure Aside0 (p : Prop) : Prop where mk :: (out : p)
structure Drawn0 (w w' : World) : Prop where mk :: (out : ∃ n, w' = w.drewN n)
theorem Drawn0.refl (w : World) : Drawn0 w w := ⟨⟨0, rfl⟩⟩
theorem Drawn0.step {w w' : World} (h : Drawn0 w w') (n : Nat) : Drawn0 w (w'.drewN n) := by
 obtain ⟨m, rfl⟩ := h
 exact ⟨⟨m + n, World.drewN_drewN ..⟩⟩
theorem Drawn0.grown {w w' : World} (h : Drawn0 w w') : Grown w w' := by
 obtain ⟨n, rfl⟩ := h
 induction n with
 | zero => exact Grown.refl _
 | succ n ih => rw [← World.drew_drewN]; exact Grown.drew ih
theorem Drawn0.below {w w' : World} (h : Drawn0 w w') : Below w.heap.size w w' := by
 obtain ⟨n, rfl⟩ := h
 induction n with
 | zero => exact Below.refl _ _
 | succ n ih => rw [← World.drew_drewN]; exact ih.drew
theorem below_alloc {w W : World} (h : Below w.heap.size w W) (o : Obj) : Below w.heap.size w (W.alloc o) := h.alloc h.size o
theorem below_drew {B : Nat} {w W : World} (h : Below B w W) : Below B w W.drew := ⟨h.os, h.tape, h.output, h.size, h.block⟩
theorem pw_below_drewN {B : Nat} {w W : World} (h : Below B w W) (n : Nat) : Below B w (W.drewN n) := ⟨h.os, h.tape, h.output, h.size, h.block⟩
theorem below_then {B : Nat} {w w1 w2 : World} (h : Below B w w1) (hB : B ≤ w1.heap.size) (k : Below w1.heap.size w1 w2) : Below B w w2 :=
 h.trans ⟨k.os, k.tape, k.output, k.size, fun i hi => k.block i (Nat.lt_of_lt_of_le hi hB)⟩
theorem grown_of_below {w w1 : World} (h : Below w.heap.size w w1) (row : Option Nat) : w.grownBy w1 row := ⟨h.os, h.tape, h.output, h.size, fun i hi _ => h.block i hi⟩
theorem pw_cell_below {w w1 : World} (h : Below w.heap.size w w1) {a : Addr} {v : Value} (hc : w.cell? a = some v) : w1.cell? a = some v := (h.cell (World.block_lt_of_cell? w a hc)).trans hc
def ReadsInt (w : World) (k : IntKind) (A : Option Addr) (n : Nat) (xs : List Int) : Prop :=
 xs.length = n ∧ n ≤ 9223372036854775807 ∧ (0 < n → ∃ ad, A = some ad ∧ ∀ j, j < n → w.cell? (ad.add j) = some (.int k (xs.getD j 0)))
theorem ReadsInt.below {w w1 : World} {k : IntKind} {A : Option Addr} {n : Nat} {xs : List Int} (h : ReadsInt w k A n xs) (hb : Below w.heap.size w w1) : ReadsInt w1 k A n xs :=
 ⟨h.1, h.2.1, fun hn => by
  obtain ⟨ad, e, hc⟩ := h.2.2 hn
  exact ⟨ad, e, fun j hj => pw_cell_below hb (hc j hj)⟩⟩
theorem own_nil (W : World) (base : Nat) (e : TypeId) (size : Nat) : W.ownsRow base e size (.slice none 0 0) 0 [] := ⟨by simp, .inl ⟨rfl, rfl⟩⟩
theorem own_base {w : World} {base : Nat} {e : TypeId} {size n : Nat} {v : Value} {xs : List Value} (h : w.ownsRow base e size v n xs) (k : Nat) (hk : v.ownBlock = some k) : base ≤ k := by
 rcases h.2 with ⟨rfl, _⟩ | ⟨g, cap, cur, rfl, hb, _⟩
 · simp [Value.ownBlock] at hk
 · have : g = k := by simpa [Value.ownBlock] using hk
   omega
theorem own_lt {w : World} {base : Nat} {e : TypeId} {size n : Nat} {v : Value} {xs : List Value} (h : w.ownsRow base e size v n xs) (k : Nat) (hk : v.ownBlock = some k) : k < w.heap.size := by
 rcases h.2 with ⟨rfl, _⟩ | ⟨g, cap, cur, rfl, hb, hh, _⟩
 · simp [Value.ownBlock] at hk
 · have : g = k := by simpa [Value.ownBlock] using hk
   subst this
   exact (Array.getElem?_eq_some_iff.1 hh).1
theorem pw_own_below {w w1 : World} {base : Nat} {e : TypeId} {size n : Nat} {v : Value} {xs : List Value} (h : w.ownsRow base e size v n xs) (hb : Below w.heap.size w w1) : w1.ownsRow base e size v n xs :=
 h.kept (grown_of_below hb none) (by cases v.ownBlock <;> simp)
def LeO {α : Type} (a b : Option α) : Prop := ∀ r, a = some r → b = some r
theorem LeO.refl {α : Type} (a : Option α) : LeO a a := fun _ h => h
theorem LeO.none {α : Type} (b : Option α) : LeO Option.none b := fun _ h => by cases h
theorem LeO.trans {α : Type} {a b c : Option α} (h : LeO a b) (k : LeO b c) : LeO a c := fun r hr => k r (h r hr)
theorem LeO.ite {α : Type} {c : Prop} [Decidable c] {a a' b b' : Option α} (h : LeO a a') (k : LeO b b') : LeO (if c then a else b) (if c then a' else b') := by
 split
 · exact h
 · exact k
theorem LeO.bind {α β : Type} {a a' : Option α} {f f' : α → Option β} (h : LeO a a') (k : ∀ x, LeO (f x) (f' x)) : LeO (a.bind f) (a'.bind f') := by
 intro r hr
 obtain ⟨x, hx, hf⟩ := Option.bind_eq_some_iff.1 hr
 exact Option.bind_eq_some_iff.2 ⟨x, h x hx, k x r hf⟩
theorem LeO.map {α β : Type} {a a' : Option α} (f : α → β) (h : LeO a a') : LeO (a.map f) (a'.map f) := by
 intro r hr
 obtain ⟨x, hx, hf⟩ := Option.map_eq_some_iff.1 hr
 exact Option.map_eq_some_iff.2 ⟨x, h x hx, hf⟩
theorem more_rounds {α : Type} {g : Nat → Option α} (h : ∀ k, LeO (g k) (g (k + 1))) (k : Nat) : ∀ j, LeO (g k) (g (k + j))
 | 0 => LeO.refl _
 | j + 1 => (more_rounds h k j).trans (h (k + j))
theorem at_rounds {α : Type} {g : Nat → Option α} (h : ∀ k, LeO (g k) (g (k + 1))) {k k' : Nat} (hk : k ≤ k') {r : α} (hr : g k = some r) : g k' = some r := by
 have := more_rounds h k (k' - k) r hr
 rwa [Nat.add_sub_cancel' hk] at this
def Reps {α : Type} (R : α → List Value → Prop) (size : Nat) (ps : List α) (cs : List Value) : Prop :=
 cs.length = ps.length * size ∧ ∀ j p, ps[j]? = some p → R p ((cs.drop (j * size)).take size)
theorem Reps.none {α : Type} (R : α → List Value → Prop) (size : Nat) : Reps R size [] [] := ⟨by simp, fun j p h => by simp at h⟩
theorem Reps.snoc {α : Type} {R : α → List Value → Prop} {size : Nat} {ps : List α} {cs c : List Value} {p : α} (h : Reps R size ps cs) (hp : R p c) (hc : c.length = size) : Reps R size (ps ++ [p]) (cs ++ c) := by
 refine ⟨by rw [List.length_append, h.1, hc, List.length_append, List.length_singleton, Nat.add_mul, Nat.one_mul], fun j q hq => ?_⟩
 rcases Nat.lt_or_ge j ps.length with hj | hj
 · rw [List.getElem?_append_left hj] at hq
   have h1 : j * size + size ≤ cs.length := by rw [h.1, ← Nat.succ_mul]; exact Nat.mul_le_mul_right _ hj
   have h2 := h.2 j q hq
   rw [List.drop_append_of_le_length (by omega), List.take_append_of_le_length (by rw [List.length_drop]; omega)]
   exact h2
 · have hj' : j = ps.length := by
    have := (List.getElem?_eq_some_iff.1 hq).1
    rw [List.length_append, List.length_singleton] at this
    omega
   subst hj'
   have hq' : p = q := by simpa using hq
   subst hq'
   rw [← h.1, List.drop_left, ← hc, List.take_length]
   exact hp
theorem Reps.imp_ {α : Type} {R R' : α → List Value → Prop} {size : Nat} {ps : List α} {cs : List Value} (h : Reps R size ps cs) (hR : ∀ p c, R p c → R' p c) : Reps R' size ps cs := ⟨h.1, fun j p hj => hR _ _ (h.2 j p hj)⟩
def ReadsRow {α : Type} (R : α → List Value → Prop) (size : Nat) (w : World) (A : Option Addr) (n : Nat) (ps : List α) : Prop :=
 ps.length = n ∧ n ≤ 9223372036854775807 ∧ (0 < n → ∃ ad, A = some ad ∧ ∀ j p, ps[j]? = some p → ∃ c, c.length = size ∧ R p c ∧ ∀ i u, c[i]? = some u → w.cell? (ad.add (j * size + i)) = some u)
theorem ReadsRow.get_ {α : Type} {R : α → List Value → Prop} {size : Nat} {w : World} {A : Option Addr} {n : Nat} {ps : List α} (h : ReadsRow R size w A n ps) (d : α) (i : Int) (h0 : 0 ≤ i) (h1 : i < n) :
 ∃ ad c, A = some ad ∧ c.length = size ∧ R (ps.getD i.toNat d) c ∧ ∀ j u, c[j]? = some u → w.cell? (ad.add (i.toNat * size + j)) = some u := by
 obtain ⟨ad, e, hc⟩ := h.2.2 (by omega)
 have hl : i.toNat < ps.length := by have := h.1; omega
 obtain ⟨c, hs, hr, hcell⟩ := hc i.toNat _ (List.getElem?_eq_getElem hl)
 refine ⟨ad, c, e, hs, ?_, hcell⟩
 rw [List.getD_eq_getElem?_getD, List.getElem?_eq_getElem hl]
 exact hr
theorem ReadsRow.imp_ {α : Type} {R R' : α → List Value → Prop} {size : Nat} {w w1 : World} {A : Option Addr} {n : Nat} {ps : List α} (h : ReadsRow R size w A n ps) (hb : Below w.heap.size w w1) (hR : ∀ p c, R p c → R' p c) : ReadsRow R' size w1 A n ps :=
 ⟨h.1, h.2.1, fun hn => by
  obtain ⟨ad, e, hc⟩ := h.2.2 hn
  refine ⟨ad, e, fun j p hj => ?_⟩
  obtain ⟨c, hs, hr, hcell⟩ := hc j p hj
  exact ⟨c, hs, hR _ _ hr, fun i u hu => pw_cell_below hb (hcell i u hu)⟩⟩
theorem own_reads_row {α : Type} {R : α → List Value → Prop} {w : World} {base n size : Nat} {e : TypeId} {v : Value} {ps : List α} {cs : List Value} (h : w.ownsRow base e size v n cs) (hR : Reps R size ps cs) (hn : ps.length = n) :
 ∃ A c, v = .slice A n c ∧ ReadsRow R size w A n ps := by
 rcases Nat.eq_zero_or_pos n with h0 | h0
 · rcases h.2 with ⟨rfl, rfl⟩ | ⟨g, cap, cur, rfl, _⟩
   · exact ⟨none, 0, rfl, hn, by omega, fun hp => absurd hp (by omega)⟩
   · exact ⟨_, cap, rfl, hn, by omega, fun hp => absurd hp (by omega)⟩
 · obtain ⟨g, cap, rfl, _, _⟩ := h.form h0
   have hm : n ≤ 9223372036854775807 := by
    rcases h.2 with ⟨_, h1⟩ | ⟨g', cap', cur, he, _, _, h1, h2, _⟩
    · omega
    · simp only [maxLen] at h2
      omega
   refine ⟨_, cap, rfl, hn, hm, fun _ => ⟨_, rfl, fun j p hj => ⟨(cs.drop (j * size)).take size, ?_, hR.2 j p hj, fun i u hu => ?_⟩⟩⟩
   · have hjl := (List.getElem?_eq_some_iff.1 hj).1
     have h1 : j * size + size ≤ cs.length := by rw [hR.1, ← Nat.succ_mul]; exact Nat.mul_le_mul_right _ hjl
     rw [List.length_take, List.length_drop]
     omega
   · refine h.cells (g := g) rfl _ u ?_
     rw [List.getElem?_take] at hu
     split at hu
     · rw [List.getElem?_drop] at hu
       exact hu
     · cases hu
theorem add_field (ad : Addr) (m j : Nat) (hj : 0 < j) : ad.add (m + j) = ⟨(ad.add m).block, (ad.add m).off + j, none⟩ := by
 unfold Addr.add
 by_cases hm : m = 0
 · subst hm
   simp [Nat.ne_of_gt hj]
 · simp [hm, Nat.add_assoc]
section
variable {P : Program} {ops : Array Oper} {rest : List Oper} {o : Oper} {a : Act} {Q : Exit → Act → World → Prop}
theorem print_append_cells {w0 W : World} (base : Nat) (hgd : o.guard = none) (s x : Operand) (t e : TypeId) (z : Value) (size bytes : Nat)
 (ho : o.op = .call { callee := .builtin .append, args := #[s, x], argTypes := #[t, t] })
 (ht : P.underlying t = some (.slice e)) (hinfo : (P.info? e).map (fun i => (i.zero, i.size, i.bytes)) = some (some z, size, bytes)) (hz : z.cells.size = size) (hs0 : 0 < size) (hb0 : 0 < bytes)
 (v : Value) (n : Nat) (xs ys : List Value) (hs : a.eval s = v) (hx : a.eval x = .slice (some ⟨W.heap.size, 0, none⟩) 1 1) (hys : ys.length = size) (h1 : ∀ u ∈ ys, u.oneCell' = true)
 (HO : W.ownsRow base e size v n xs) (HB : Below base w0 W) (hbase : base ≤ W.heap.size) (hl : (n + 1) * bytes ≤ 140737488355328)
 (h : ∀ v1 w1, w1.ownsRow base e size v1 (n + 1) (xs ++ ys) → Below base w0 w1 → W.grownBy w1 v.ownBlock → (v1.ownBlock = v.ownBlock ∨ ∃ b, v1.ownBlock = some b ∧ W.heap.size ≤ b) → wpList P ops Q rest (a.put o.dst v1) w1) :
 wpList P ops Q (o :: rest) a (W.alloc (.cells ys.toArray e)) := by
 obtain ⟨i0, hi, hzz⟩ := Option.map_eq_some_iff.1 hinfo
 simp only [Prod.mk.injEq] at hzz
 obtain ⟨hz0, hz1, hz2⟩ := hzz
 have hlen : n + 1 ≤ 140737488355328 := Nat.le_trans (Nat.le_mul_of_pos_right _ hb0) hl
 refine wpList_append_own_at (W.alloc (.cells ys.toArray e)) hgd s x t ho base e i0 z size bytes ht hi hz0 hz1 hz2 hz hs0 v n xs hs (HO.alloc _) ⟨W.heap.size, 0, none⟩ 1 1 ys hx (by rw [hys]; simp)
  (by simpa using World.news_of_block (cs := ys.toArray) (t := e) (fr := (0, 0)) (heap_alloc_new W (.cells ys.toArray e))) h1 (by simp only [maxLen]; omega) hl (by simp; omega) ?_
 intro v1 w1 hown hg _ hat
 refine h v1 w1 hown ((HB.alloc hbase _).grown hg (by simp; omega) (own_base HO)) (World.grownBy.trans (World.grownBy_alloc W _ _) hg) ?_
 rcases hat with hat | hat
 · exact .inl hat
 · exact .inr ⟨_, hat, by simp⟩
end
theorem blk_lt {w : World} {g : Nat} {o : Obj} (h : w.heap[g]? = some o) : g < w.heap.size := (Array.getElem?_eq_some_iff.1 h).1
def KeepBut (w w' : World) (g : Nat) (row : Option Nat) : Prop := w.heap.size ≤ w'.heap.size ∧ ∀ i, i < w.heap.size → i ≠ g → some i ≠ row → w'.heap[i]? = w.heap[i]?
theorem KeepBut.refl (w : World) (g : Nat) (row : Option Nat) : KeepBut w w g row := ⟨Nat.le_refl _, fun _ _ _ _ => rfl⟩
theorem KeepBut.of_below {w w1 : World} (h : Below w.heap.size w w1) (g : Nat) (row : Option Nat) : KeepBut w w1 g row := ⟨h.size, fun i hi _ _ => h.block i hi⟩
theorem KeepBut.trans {w w1 w2 : World} {g : Nat} {row row1 : Option Nat} (h : KeepBut w w1 g row) (k : KeepBut w1 w2 g row1) (hr : row1 = row ∨ ∃ b, row1 = some b ∧ w.heap.size ≤ b) : KeepBut w w2 g row :=
 ⟨Nat.le_trans h.1 k.1, fun i hi hg hn => by
  refine (k.2 i (Nat.lt_of_lt_of_le hi h.1) hg ?_).trans (h.2 i hi hg hn)
  rcases hr with rfl | ⟨b, rfl, hb⟩
  · exact hn
  · intro e
    injection e with e
    omega⟩
theorem KeepBut.blk {w w1 : World} {g g' : Nat} {row : Option Nat} {o : Obj} (h : KeepBut w w1 g row) (hb : w.heap[g']? = some o) (hg : g' ≠ g) (hr : some g' ≠ row) : w1.heap[g']? = some o := (h.2 g' (blk_lt hb) hg hr).trans hb
theorem KeepBut.own {w w1 : World} {g : Nat} {row : Option Nat} {base : Nat} {e : TypeId} {size n : Nat} {v : Value} {xs : List Value} (h : KeepBut w w1 g row) (ho : w.ownsRow base e size v n xs) (hg : v.ownBlock ≠ some g) (hr : v.ownBlock = none ∨ v.ownBlock ≠ row) : w1.ownsRow base e size v n xs := by
 obtain ⟨h1, h2⟩ := ho
 refine ⟨h1, ?_⟩
 rcases h2 with h2 | ⟨b, cap, cur, rfl, hb, hh, r⟩
 · exact .inl h2
 · refine .inr ⟨b, cap, cur, rfl, hb, h.blk hh ?_ ?_, r⟩
   · intro e
     exact hg (by rw [← e]; rfl)
   · rcases hr with hr | hr
     · simp [Value.ownBlock] at hr
     · exact hr
def Ev {α : Type} (g : Nat → Option α) (r : α) : Prop := ∃ K, ∀ k, K ≤ k → g k = some r
theorem Ev.of {α : Type} {g : Nat → Option α} {r : α} (hg : ∀ k, LeO (g k) (g (k + 1))) {k : Nat} (h : g k = some r) : Ev g r := ⟨k, fun _ hk => at_rounds hg hk h⟩
theorem Ev.bind {α β : Type} {g : Nat → Option α} {f : Nat → α → Option β} {a : α} {r : β} (h : Ev g a) (k : Ev (fun n => f n a) r) : Ev (fun n => (g n).bind (f n)) r := by
 obtain ⟨K, h⟩ := h
 obtain ⟨K', k⟩ := k
 refine ⟨max K K', fun n hn => ?_⟩
 have h1 := h n (by omega)
 have h2 := k n (by omega)
 simp only [h1, Option.bind_some]
 exact h2
theorem Ev.step {α : Type} {g f : Nat → Option α} {r : α} (h : ∀ k, g (k + 1) = f k) (k : Ev f r) : Ev g r := by
 obtain ⟨K, k⟩ := k
 refine ⟨K + 1, fun n hn => ?_⟩
 obtain ⟨m, rfl⟩ : ∃ m, n = m + 1 := ⟨n - 1, by omega⟩
 rw [h]
 exact k m (by omega)
theorem Ev.congr {α : Type} {g f : Nat → Option α} {r : α} (h : ∀ k, g k = f k) (k : Ev f r) : Ev g r := by
 obtain ⟨K, k⟩ := k
 exact ⟨K, fun n hn => (h n).trans (k n hn)⟩
theorem own_weaken {w : World} {base base' : Nat} {e : TypeId} {size n : Nat} {v : Value} {xs : List Value} (h : w.ownsRow base e size v n xs) (hb : base' ≤ base) : w.ownsRow base' e size v n xs := by
 obtain ⟨h1, h2⟩ := h
 refine ⟨h1, ?_⟩
 rcases h2 with h2 | ⟨g, cap, cur, rfl, hg, r⟩
 · exact .inl h2
 · exact .inr ⟨g, cap, cur, rfl, Nat.le_trans hb hg, r⟩
section
variable {α : Type} {enc : α → Value} {d : α}
def encs (enc : α → Value) (xs : List α) : List Value := xs.map enc
def ReadsOf (enc : α → Value) (d : α) (w : World) (A : Option Addr) (n : Nat) (xs : List α) : Prop :=
 xs.length = n ∧ n ≤ 9223372036854775807 ∧ (0 < n → ∃ ad, A = some ad ∧ ∀ j, j < n → w.cell? (ad.add j) = some (enc (xs.getD j d)))
theorem ReadsOf.below {w w1 : World} {A : Option Addr} {n : Nat} {xs : List α} (h : ReadsOf enc d w A n xs) (hb : Below w.heap.size w w1) : ReadsOf enc d w1 A n xs :=
 ⟨h.1, h.2.1, fun hn => by
  obtain ⟨ad, e, hc⟩ := h.2.2 hn
  exact ⟨ad, e, fun j hj => pw_cell_below hb (hc j hj)⟩⟩
end
theorem own_le {w : World} {base n m c size : Nat} {e : TypeId} {A : Option Addr} {xs : List Value} (h : w.ownsRow base e size (.slice A m c) n xs) : m ≤ c := by
 rcases h.2 with ⟨he, _⟩ | ⟨g, cap, cur, he, _, _, hnc, _⟩
 · injection he with _ h2 h3
   omega
 · injection he with _ h2 h3
   omega
def OwnRow {α : Type} (R : α → List Value → Prop) (e : TypeId) (size : Nat) (w : World) (base : Nat) (v : Value) (ps : List α) : Prop :=
 ∃ inner, w.ownsRow base e size v ps.length inner ∧ Reps R size ps inner
section
variable {α : Type} {R R' : α → List Value → Prop} {e : TypeId} {size : Nat} {w w1 : World} {base : Nat} {v : Value} {ps : List α}
theorem OwnRow.none_ (R : α → List Value → Prop) (e : TypeId) (size : Nat) (w : World) (base : Nat) : OwnRow R e size w base (.slice none 0 0) [] := ⟨[], own_nil _ _ _ _, Reps.none _ _⟩
theorem OwnRow.imp_ (h : OwnRow R e size w base v ps) (hR : ∀ p c, R p c → R' p c) : OwnRow R' e size w base v ps := by
 obtain ⟨inner, ho, hr⟩ := h
 exact ⟨inner, ho, hr.imp_ hR⟩
theorem OwnRow.below (h : OwnRow R e size w base v ps) (hb : Below w.heap.size w w1) : OwnRow R e size w1 base v ps := by
 obtain ⟨inner, ho, hr⟩ := h
 exact ⟨inner, pw_own_below ho hb, hr⟩
theorem OwnRow.reads (h : OwnRow R e size w base v ps) : ∃ A c, v = .slice A ps.length c ∧ ps.length ≤ c ∧ ReadsRow R size w A ps.length ps := by
 obtain ⟨inner, ho, hr⟩ := h
 obtain ⟨A, c, rfl, hrow⟩ := own_reads_row ho hr rfl
 exact ⟨A, c, rfl, own_le ho, hrow⟩
end
section
variable {P : Program} {ops : Array Oper} {rest : List Oper} {o : Oper} {a : Act} {Q : Exit → Act → World → Prop} {α : Type} {R : α → List Value → Prop}
theorem OwnRow.append {w0 W : World} (base : Nat) (hgd : o.guard = none) (s x : Operand) (t e : TypeId) (z : Value) (size bytes : Nat)
 (ho : o.op = .call { callee := .builtin .append, args := #[s, x], argTypes := #[t, t] })
 (ht : P.underlying t = some (.slice e)) (hinfo : (P.info? e).map (fun i => (i.zero, i.size, i.bytes)) = some (some z, size, bytes)) (hz : z.cells.size = size) (hs0 : 0 < size) (hb0 : 0 < bytes)
 (v : Value) (ps : List α) (p : α) (cs : List Value) (hs : a.eval s = v) (hx : a.eval x = .slice (some ⟨W.heap.size, 0, none⟩) 1 1) (hp : R p cs) (hcs : cs.length = size) (h1 : ∀ u ∈ cs, u.oneCell' = true)
 (HO : OwnRow R e size W base v ps) (HB : Below base w0 W) (hbase : base ≤ W.heap.size) (hl : (ps.length + 1) * bytes ≤ 140737488355328)
 (h : ∀ v1 w1, OwnRow R e size w1 base v1 (ps ++ [p]) → Below base w0 w1 → W.grownBy w1 v.ownBlock → (v1.ownBlock = v.ownBlock ∨ ∃ b, v1.ownBlock = some b ∧ W.heap.size ≤ b) → wpList P ops Q rest (a.put o.dst v1) w1) :
 wpList P ops Q (o :: rest) a (W.alloc (.cells cs.toArray e)) := by
 obtain ⟨inner, hown, hr⟩ := HO
 refine print_append_cells base hgd s x t e z size bytes ho ht hinfo hz hs0 hb0 v ps.length inner cs hs hx hcs h1 hown HB hbase hl ?_
 intro v1 w1 hown1 hb1 hg1 hat1
 exact h v1 w1 ⟨inner ++ cs, by rw [List.length_append, List.length_singleton]; exact hown1, hr.snoc hp hcs⟩ hb1 hg1 hat1
end
structure Kd (α : Type) where
 sz : Nat
 E : List Nat
 K : World → α → List Value → Prop
 M : World → Nat → (Nat → Prop) → α → List Value → Prop
 K_len : ∀ {w x cs}, K w x cs → cs.length = sz
 K_one : ∀ {w x cs}, K w x cs → ∀ u ∈ cs, u.oneCell' = true
 K_below : ∀ {w w1 : World} {x cs}, Below w.heap.size w w1 → K w x cs → K w1 x cs
 K_of_M : ∀ {w base ok x cs}, M w base ok x cs → K w x cs
 M_mono : ∀ {w base ok ok' x cs}, (∀ k, ok k → ok' k) → M w base ok x cs → M w base ok' x cs
 M_bound : ∀ {w : World} {base ok x cs}, M w base ok x cs → M w base (fun k => ok k ∧ base ≤ k ∧ k < w.heap.size ∧ ∃ q, q ∈ E ∧ ∃ cells, w.heap[k]? = some (.cells cells q (0, 0))) x cs
 M_move : ∀ {w w1 : World} {base ok x cs}, (∀ k, ok k → w1.heap[k]? = w.heap[k]?) → M w base ok x cs → M w1 base ok x cs
 M_lower : ∀ {w base base' ok x cs}, base' ≤ base → M w base ok x cs → M w base' ok x cs
theorem own_move {w w1 : World} {base : Nat} {e : TypeId} {size n : Nat} {v : Value} {xs : List Value} (h : w.ownsRow base e size v n xs) (hm : ∀ k, v.ownBlock = some k → w1.heap[k]? = w.heap[k]?) : w1.ownsRow base e size v n xs := by
 obtain ⟨h1, h2⟩ := h
 refine ⟨h1, ?_⟩
 rcases h2 with h2 | ⟨g, cap, cur, rfl, hg, hh, r⟩
 · exact .inl h2
 · exact .inr ⟨g, cap, cur, rfl, hg, (hm g (by simp [Value.ownBlock])).trans hh, r⟩
theorem own_typed {w : World} {base : Nat} {e : TypeId} {size n : Nat} {v : Value} {xs : List Value} (h : w.ownsRow base e size v n xs) (k : Nat) (hk : v.ownBlock = some k) : ∃ cells, w.heap[k]? = some (.cells cells e (0, 0)) := by
 rcases h.2 with ⟨rfl, _⟩ | ⟨g, cap, cur, rfl, hg, hh, r⟩
 · simp [Value.ownBlock] at hk
 · have : g = k := by simpa [Value.ownBlock] using hk
   subst this
   exact ⟨cur, hh⟩
namespace Kd
def C {α : Type} (d : Kd α) (w : World) (A : Option Addr) (n : Nat) (xs : List α) : Prop := ReadsRow (d.K w) d.sz w A n xs
def R {α : Type} (d : Kd α) (e : Nat) (w : World) (base : Nat) (ok : Nat → Prop) (v : Value) (xs : List α) : Prop :=
 (∀ k, v.ownBlock = some k → ok k) ∧ OwnRow (d.M w base (fun k => ok k ∧ some k ≠ v.ownBlock)) e d.sz w base v xs
section
variable {α : Type} {d : Kd α} {e : Nat} {w w1 : World} {base : Nat} {ok ok' : Nat → Prop} {v : Value} {xs : List α}
theorem C_below {A : Option Addr} {n : Nat} (h : d.C w A n xs) (hb : Below w.heap.size w w1) : d.C w1 A n xs := ReadsRow.imp_ h hb (fun _ _ hp => d.K_below hb hp)
theorem R_nil (d : Kd α) (e : Nat) (w : World) (base : Nat) (ok : Nat → Prop) : d.R e w base ok (.slice none 0 0) [] := ⟨fun k hk => by simp [Value.ownBlock] at hk, OwnRow.none_ _ _ _ _ _⟩
theorem R_mono (h : d.R e w base ok v xs) (hok : ∀ k, ok k → ok' k) : d.R e w base ok' v xs := ⟨fun k hk => hok k (h.1 k hk), h.2.imp_ (fun _ _ hp => d.M_mono (fun k hk => ⟨hok k hk.1, hk.2⟩) hp)⟩
theorem R_bound (h : d.R e w base ok v xs) : d.R e w base (fun k => ok k ∧ base ≤ k ∧ k < w.heap.size ∧ ∃ q, q ∈ e :: d.E ∧ ∃ cells, w.heap[k]? = some (.cells cells q (0, 0))) v xs := by
 obtain ⟨h0, inner, ho, hr⟩ := h
 refine ⟨fun k hk => ?_, inner, ho, hr.imp_ (fun _ _ hp => d.M_mono (fun k hk => ?_) (d.M_bound hp))⟩
 · obtain ⟨cells, hc⟩ := own_typed ho k hk
   exact ⟨h0 k hk, own_base ho k hk, own_lt ho k hk, e, List.mem_cons_self, cells, hc⟩
 · obtain ⟨⟨h1, h2⟩, h3, h4, q, hq, hc⟩ := hk
   exact ⟨⟨h1, h3, h4, q, List.mem_cons_of_mem _ hq, hc⟩, h2⟩
theorem R_move (h : d.R e w base ok v xs) (hm : ∀ k, ok k → w1.heap[k]? = w.heap[k]?) : d.R e w1 base ok v xs := by
 obtain ⟨h0, inner, ho, hr⟩ := h
 exact ⟨h0, inner, own_move ho (fun k hk => hm k (h0 k hk)), hr.imp_ (fun _ _ hp => d.M_move (fun k hk => hm k hk.1) hp)⟩
theorem R_lower {base' : Nat} (h : d.R e w base ok v xs) (hb : base' ≤ base) : d.R e w base' ok v xs := by
 obtain ⟨h0, inner, ho, hr⟩ := h
 exact ⟨h0, inner, own_weaken ho hb, hr.imp_ (fun _ _ hp => d.M_lower hb hp)⟩
theorem R_step (h : d.R e w base ok v xs) (hm : ∀ k, ok k → k < w.heap.size → w1.heap[k]? = w.heap[k]?) : d.R e w1 base ok v xs :=
 R_mono (R_move (R_bound h) (fun k hk => hm k hk.1 hk.2.2.1)) (fun _ hk => hk.1)
theorem M_step {x : α} {cs : List Value} (h : d.M w base ok x cs) (hm : ∀ k, ok k → k < w.heap.size → w1.heap[k]? = w.heap[k]?) : d.M w1 base ok x cs :=
 d.M_mono (fun _ hk => hk.1) (d.M_move (fun k hk => hm k hk.1 hk.2.2.1) (d.M_bound h))
theorem R_below (h : d.R e w base ok v xs) (hb : Below w.heap.size w w1) : d.R e w1 base ok v xs := R_step h (fun k _ hk => hb.block k hk)
theorem M_below {x : α} {cs : List Value} (h : d.M w base ok x cs) (hb : Below w.heap.size w w1) : d.M w1 base ok x cs := M_step h (fun k _ hk => hb.block k hk)
theorem R_reads (h : d.R e w base ok v xs) : ∃ A c, v = .slice A xs.length c ∧ xs.length ≤ c ∧ d.C w A xs.length xs := by
 obtain ⟨A, c, he, hl, hr⟩ := OwnRow.reads h.2
 exact ⟨A, c, he, hl, hr.imp_ (Below.refl _ _) (fun _ _ hp => d.K_of_M hp)⟩
theorem R_slice (h : d.R e w base ok v xs) : ∃ A c, v = .slice A xs.length c := by
 obtain ⟨A, c, he, _⟩ := R_reads h
 exact ⟨A, c, he⟩
theorem R_own (h : d.R e w base ok v xs) : ∃ inner, w.ownsRow base e d.sz v xs.length inner := by
 obtain ⟨_, inner, ho, _⟩ := h
 exact ⟨inner, ho⟩
end
def scalar {α : Type} (enc : α → Value) (h1 : ∀ x, (enc x).oneCell' = true) : Kd α where
 sz := 1
 E := []
 K := fun _ x cs => cs = [enc x]
 M := fun _ _ _ x cs => cs = [enc x]
 K_len := fun h => by rw [h]; rfl
 K_one := fun h u hu => by
  rw [h] at hu
  rw [List.mem_singleton.1 hu]
  exact h1 _
 K_below := fun _ h => h
 K_of_M := fun h => h
 M_mono := fun _ h => h
 M_bound := fun h => h
 M_move := fun _ h => h
 M_lower := fun _ h => h
def int (k : IntKind) : Kd Int := scalar (Value.int k) (fun _ => rfl)
def bool : Kd Bool := scalar Value.bool (fun _ => rfl)
def slice {α : Type} (e : Nat) (d : Kd α) : Kd (List α) where
 sz := 1
 E := e :: d.E
 K := fun w xs cs => ∃ A c, cs = [.slice A xs.length c] ∧ xs.length ≤ c ∧ d.C w A xs.length xs
 M := fun w base ok xs cs => ∃ v, cs = [v] ∧ d.R e w base ok v xs
 K_len := by
  rintro w x cs ⟨A, c, rfl, _⟩
  rfl
 K_one := by
  rintro w x cs ⟨A, c, rfl, _⟩ u hu
  rw [List.mem_singleton.1 hu]
  rfl
 K_below := by
  rintro w w1 x cs hb ⟨A, c, rfl, hl, hr⟩
  exact ⟨A, c, rfl, hl, C_below hr hb⟩
 K_of_M := by
  rintro w base ok x cs ⟨v, rfl, h⟩
  obtain ⟨A, c, rfl, hl, hr⟩ := R_reads h
  exact ⟨A, c, rfl, hl, hr⟩
 M_mono := by
  rintro w base ok ok' x cs hok ⟨v, rfl, h⟩
  exact ⟨v, rfl, R_mono h hok⟩
 M_bound := by
  rintro w base ok x cs ⟨v, rfl, h⟩
  exact ⟨v, rfl, R_bound h⟩
 M_move := by
  rintro w w1 base ok x cs hm ⟨v, rfl, h⟩
  exact ⟨v, rfl, R_move h hm⟩
 M_lower := by
  rintro w base base' ok x cs hb ⟨v, rfl, h⟩
  exact ⟨v, rfl, R_lower h hb⟩
def pair {α β : Type} (a : Kd α) (b : Kd β) : Kd (α × β) where
 sz := a.sz + b.sz
 E := a.E ++ b.E
 K := fun w x cs => ∃ c0 c1, cs = c0 ++ c1 ∧ a.K w x.1 c0 ∧ b.K w x.2 c1
 M := fun w base ok x cs => ∃ c0 c1, cs = c0 ++ c1 ∧ a.M w base ok x.1 c0 ∧ b.M w base ok x.2 c1
 K_len := by
  rintro w x cs ⟨c0, c1, rfl, h0, h1⟩
  rw [List.length_append, a.K_len h0, b.K_len h1]
 K_one := by
  rintro w x cs ⟨c0, c1, rfl, h0, h1⟩ u hu
  rcases List.mem_append.1 hu with hu | hu
  · exact a.K_one h0 u hu
  · exact b.K_one h1 u hu
 K_below := by
  rintro w w1 x cs hb ⟨c0, c1, rfl, h0, h1⟩
  exact ⟨c0, c1, rfl, a.K_below hb h0, b.K_below hb h1⟩
 K_of_M := by
  rintro w base ok x cs ⟨c0, c1, rfl, h0, h1⟩
  exact ⟨c0, c1, rfl, a.K_of_M h0, b.K_of_M h1⟩
 M_mono := by
  rintro w base ok ok' x cs hok ⟨c0, c1, rfl, h0, h1⟩
  exact ⟨c0, c1, rfl, a.M_mono hok h0, b.M_mono hok h1⟩
 M_bound := by
  rintro w base ok x cs ⟨c0, c1, rfl, h0, h1⟩
  refine ⟨c0, c1, rfl, a.M_mono ?_ (a.M_bound h0), b.M_mono ?_ (b.M_bound h1)⟩
  · rintro k ⟨h2, h3, h4, q, hq, hc⟩
    exact ⟨h2, h3, h4, q, List.mem_append_left _ hq, hc⟩
  · rintro k ⟨h2, h3, h4, q, hq, hc⟩
    exact ⟨h2, h3, h4, q, List.mem_append_right _ hq, hc⟩
 M_move := by
  rintro w w1 base ok x cs hm ⟨c0, c1, rfl, h0, h1⟩
  exact ⟨c0, c1, rfl, a.M_move hm h0, b.M_move hm h1⟩
 M_lower := by
  rintro w base base' ok x cs hb ⟨c0, c1, rfl, h0, h1⟩
  exact ⟨c0, c1, rfl, a.M_lower hb h0, b.M_lower hb h1⟩
def iso {α β : Type} (d : Kd α) (f : β → α) : Kd β where
 sz := d.sz
 E := d.E
 K := fun w x cs => d.K w (f x) cs
 M := fun w base ok x cs => d.M w base ok (f x) cs
 K_len := d.K_len
 K_one := d.K_one
 K_below := d.K_below
 K_of_M := d.K_of_M
 M_mono := d.M_mono
 M_bound := d.M_bound
 M_move := d.M_move
 M_lower := d.M_lower
def bot {α : Type} (sz : Nat) (E : List Nat) : Kd α where
 sz := sz
 E := E
 K := fun _ _ _ => False
 M := fun _ _ _ _ _ => False
 K_len := fun h => h.elim
 K_one := fun h => h.elim
 K_below := fun _ h => h
 K_of_M := fun h => h
 M_mono := fun _ h => h
 M_bound := fun h => h
 M_move := fun _ h => h
 M_lower := fun _ h => h
def upto {α : Type} (F : Kd α → Kd α) (sz : Nat) (E : List Nat) : Nat → Kd α
 | 0 => bot sz E
 | n + 1 => F (upto F sz E n)
theorem C_get {α : Type} {d : Kd α} {w : World} {A : Option Addr} {n : Nat} {xs : List α} (h : d.C w A n xs) (z : α) (i : Int) (h0 : 0 ≤ i) (h1 : i < n) :
 ∃ ad c, A = some ad ∧ c.length = d.sz ∧ d.K w (xs.getD i.toNat z) c ∧ ∀ j u, c[j]? = some u → w.cell? (ad.add (i.toNat * d.sz + j)) = some u := ReadsRow.get_ h z i h0 h1
theorem R_appended {α : Type} {d : Kd α} {e base : Nat} {ok okp : Nat → Prop} {W w1 : World} {v v1 : Value} {xs : List α} {p : α} {inner cs : List Value} (h0 : ∀ k, v.ownBlock = some k → ok k) (hr : Reps (d.M W base (fun k => ok k ∧ some k ≠ v.ownBlock)) d.sz xs inner) (hp : d.M W base okp p cs) (hokp : ∀ k, okp k → ok k ∧ some k ≠ v.ownBlock) (hfresh : ∀ k, W.heap.size ≤ k → ok k)
 (hown : w1.ownsRow base e d.sz v1 (xs.length + 1) (inner ++ cs)) (hg : W.grownBy w1 v.ownBlock) (hat : v1.ownBlock = v.ownBlock ∨ ∃ b, v1.ownBlock = some b ∧ W.heap.size ≤ b) : d.R e w1 base ok v1 (xs ++ [p]) := by
 have hne : ∀ k, some k ≠ v.ownBlock → k < W.heap.size → some k ≠ v1.ownBlock := by
  intro k hk hlt
  rcases hat with hat | ⟨b, hb, hle⟩
  · rw [hat]; exact hk
  · rw [hb]
    intro he
    injection he with he
    omega
 have step : ∀ {q : α} {c : List Value} {o : Nat → Prop}, d.M W base o q c → (∀ k, o k → ok k ∧ some k ≠ v.ownBlock) → d.M w1 base (fun k => ok k ∧ some k ≠ v1.ownBlock) q c := by
  intro q c o hq ho
  have h1 := d.M_move (w1 := w1) (fun k hk => hg.block k hk.2.2.1 (ho k hk.1).2) (d.M_bound hq)
  exact d.M_mono (fun k hk => ⟨(ho k hk.1).1, hne k (ho k hk.1).2 hk.2.2.1⟩) h1
 refine ⟨fun k hk => ?_, inner ++ cs, by rw [List.length_append, List.length_singleton]; exact hown, ?_⟩
 · rcases hat with hat | ⟨b, hb, hle⟩
   · exact h0 k (hat ▸ hk)
   · rw [hb] at hk
     injection hk with hk
     exact hfresh k (by omega)
 · exact (hr.imp_ (fun _ _ hq => step hq (fun _ hk => hk))).snoc (step hp hokp) (d.K_len (d.K_of_M hp))
section
variable {P : Program} {ops : Array Oper} {rest : List Oper} {o : Oper} {a : Act} {Q : Exit → Act → World → Prop} {α : Type}
theorem R_append (d : Kd α) {w0 W : World} (base : Nat) (hgd : o.guard = none) (s x : Operand) (t e : TypeId) (z : Value) (bytes : Nat)
 (ho : o.op = .call { callee := .builtin .append, args := #[s, x], argTypes := #[t, t] })
 (ht : P.underlying t = some (.slice e)) (hinfo : (P.info? e).map (fun i => (i.zero, i.size, i.bytes)) = some (some z, d.sz, bytes)) (hz : z.cells.size = d.sz) (hs0 : 0 < d.sz) (hb0 : 0 < bytes)
 (v : Value) (xs : List α) (p : α) (cs : List Value) (ok okp : Nat → Prop) (hs : a.eval s = v) (hx : a.eval x = .slice (some ⟨W.heap.size, 0, none⟩) 1 1) (hp : d.M W base okp p cs) (hokp : ∀ k, okp k → ok k ∧ some k ≠ v.ownBlock) (hfresh : ∀ k, W.heap.size ≤ k → ok k)
 (HO : d.R e W base ok v xs) (HB : Below base w0 W) (hbase : base ≤ W.heap.size) (hl : (xs.length + 1) * bytes ≤ 140737488355328)
 (h : ∀ v1 w1, d.R e w1 base ok v1 (xs ++ [p]) → Below base w0 w1 → W.grownBy w1 v.ownBlock → (v1.ownBlock = v.ownBlock ∨ ∃ b, v1.ownBlock = some b ∧ W.heap.size ≤ b) → wpList P ops Q rest (a.put o.dst v1) w1) :
 wpList P ops Q (o :: rest) a (W.alloc (.cells cs.toArray e)) := by
 obtain ⟨h0, inner, hown, hr⟩ := HO
 refine print_append_cells base hgd s x t e z d.sz bytes ho ht hinfo hz hs0 hb0 v xs.length inner cs hs hx (d.K_len (d.K_of_M hp)) (d.K_one (d.K_of_M hp)) hown HB hbase hl ?_
 intro v1 w1 hown1 hb1 hg1 hat1
 exact h v1 w1 (R_appended h0 hr hp hokp hfresh hown1 hg1 hat1) hb1 hg1 hat1
end
end Kd
namespace Kd
structure Mono {α β : Type} (F : Kd α → Kd β) : Prop where
 sz : ∀ d d' : Kd α, d.sz = d'.sz → (F d).sz = (F d').sz
 K : ∀ d d' : Kd α, d.sz = d'.sz → (∀ w x cs, d.K w x cs → d'.K w x cs) → ∀ w x cs, (F d).K w x cs → (F d').K w x cs
 M : ∀ d d' : Kd α, d.sz = d'.sz → (∀ w base ok x cs, d.M w base ok x cs → d'.M w base ok x cs) → ∀ w base ok x cs, (F d).M w base ok x cs → (F d').M w base ok x cs
end Kd
namespace Kd
section
variable {α β : Type} {d : Kd α} {d' : Kd β} {e e' : Nat} {w w1 W : World} {base b b' : Nat} {ok ok' okv oku : Nat → Prop} {v u : Value} {xs : List α} {ys : List β}
theorem R_alloc (h : d.R e w base ok v xs) (o : Obj) : d.R e (w.alloc o) base ok v xs := R_below h (below_alloc (Below.refl _ _) o)
theorem R_drew (h : d.R e w base ok v xs) : d.R e w.drew base ok v xs := R_below h (below_drew (Below.refl _ _))
theorem R_drewN (h : d.R e w base ok v xs) (m : Nat) : d.R e (w.drewN m) base ok v xs := R_below h (pw_below_drewN (Below.refl _ _) m)
theorem C_alloc {A : Option Addr} {n : Nat} (h : d.C w A n xs) (o : Obj) : d.C (w.alloc o) A n xs := C_below h (below_alloc (Below.refl _ _) o)
theorem C_drew {A : Option Addr} {n : Nat} (h : d.C w A n xs) : d.C w.drew A n xs := C_below h (below_drew (Below.refl _ _))
theorem C_drewN {A : Option Addr} {n : Nat} (h : d.C w A n xs) (m : Nat) : d.C (w.drewN m) A n xs := C_below h (pw_below_drewN (Below.refl _ _) m)
theorem C_nil (d : Kd α) (w : World) : d.C w none ([] : List α).length [] := ⟨rfl, by simp, fun h => absurd h (Nat.lt_irrefl 0)⟩
theorem R_reads' {A : Option Addr} {n c : Nat} (h : d.R e w base ok (.slice A n c) xs) : n = xs.length ∧ n ≤ c ∧ d.C w A xs.length xs := by
 obtain ⟨A', c', he, hl, hr⟩ := R_reads h
 injection he with h1 h2 h3
 subst h1
 exact ⟨h2, by omega, hr⟩
theorem R_lt (h : d.R e w base ok v xs) : ∀ k, v.ownBlock = some k → k < w.heap.size := by
 obtain ⟨inner, ho⟩ := R_own h
 exact own_lt ho
theorem R_base (h : d.R e w base ok v xs) : ∀ k, v.ownBlock = some k → base ≤ k := by
 obtain ⟨inner, ho⟩ := R_own h
 exact own_base ho
end
section
variable {P : Program} {ops : Array Oper} {rest : List Oper} {o : Oper} {a : Act} {Q : Exit → Act → World → Prop}
theorem event_run {W w1 : World} {v : Value} (hgd : o.guard = none) (hrun : (execOp a.eval o).run P W = .ok (.value v) w1) (h : wpList P ops Q rest (a.put o.dst v) w1) : wpList P ops Q (o :: rest) a W := by
 refine wpList_plain hgd fun K hK => ?_
 unfold Oper.wp
 rw [hrun]
 exact hK _ _ h
variable {α : Type}
theorem R_lit (d : Kd α) {w0 W : World} (base e : Nat) (hgd : o.guard = none) {N : Tmp} (_hd : o.dst = some N) {xs : List α} {inner : List Value} {ok okp : Nat → Prop}
 (hrun : (execOp a.eval o).run P W = .ok (.value (.slice (some ⟨W.heap.size, 0, none⟩) xs.length xs.length)) (W.alloc (.cells inner.toArray e)))
 (hrep : Reps (d.M W base okp) d.sz xs inner) (hok : ∀ k, okp k → ok k) (hfresh : ok W.heap.size) (HB : Below base w0 W) (hbase : base ≤ W.heap.size) (hm : xs.length ≤ 9223372036854775807)
 (h : ∀ v1 w1, d.R e w1 base ok v1 xs → Below base w0 w1 → W.grownBy w1 none → (∃ b, v1.ownBlock = some b ∧ W.heap.size ≤ b) → wpList P ops Q rest (a.put o.dst v1) w1) : wpList P ops Q (o :: rest) a W := by
 refine event_run hgd hrun (h _ _ ⟨fun k hk => ?_, inner, ?_, ?_⟩ (HB.alloc hbase _) (World.grownBy_alloc W _ none) ⟨W.heap.size, by simp [Value.ownBlock], Nat.le_refl _⟩)
 · have : W.heap.size = k := by simpa [Value.ownBlock] using hk
   subst this
   exact hfresh
 · have h2 := World.ownsRow_lit (base := base) (e := e) (size := d.sz) W inner.toArray xs.length hbase (by simpa [maxLen] using hm) (by simpa using hrep.1)
   simpa using h2
 · refine hrep.imp_ (fun p c hp => d.M_mono (fun k hk => ⟨hok k hk.1, fun he => ?_⟩) (M_below (d.M_bound hp) (below_alloc (Below.refl _ _) _)))
   have h3 : k = W.heap.size := by simpa [Value.ownBlock] using he
   have := hk.2.2.1
   omega
end
end Kd
def QRow (w : World) (base : Nat) (e : TypeId) (size : Nat) (v : Value) (n : Nat) (xs : List Value) : Prop :=
 xs.length = n * size ∧
 ((n = 0 ∧ ∃ A, v = .slice A 0 0 ∧ ∀ a, A = some a → base ≤ a.block ∧ ∃ cur, w.heap[a.block]? = some (.cells cur e (0, 0))) ∨
  ∃ g off cap cur, v = .slice (some ⟨g, off * size, none⟩) n cap ∧ base ≤ g ∧ w.heap[g]? = some (.cells cur e (0, 0)) ∧ n ≤ cap ∧ off + cap ≤ maxLen ∧ cur.size = (off + cap) * size ∧ (cur.toList.drop (off * size)).take (n * size) = xs)
section
variable {w w1 : World} {base n size : Nat} {e : TypeId} {v : Value} {xs : List Value}
theorem q_of_own (h : w.ownsRow base e size v n xs) : QRow w base e size v n xs := by
 obtain ⟨h1, h2⟩ := h
 refine ⟨h1, ?_⟩
 rcases h2 with ⟨rfl, h0⟩ | ⟨g, cap, cur, rfl, hb, hh, hnc, hcm, hcs, ht⟩
 · exact .inl ⟨h0, none, rfl, fun a ha => by cases ha⟩
 · exact .inr ⟨g, 0, cap, cur, by rw [Nat.zero_mul], hb, hh, hnc, by rw [Nat.zero_add]; exact hcm, by rw [Nat.zero_add]; exact hcs, by rw [Nat.zero_mul, List.drop_zero]; exact ht⟩
end
namespace Kd
def Q {α : Type} (d : Kd α) (e : Nat) (w : World) (base : Nat) (ok : Nat → Prop) (v : Value) (xs : List α) : Prop :=
 (∀ k, v.ownBlock = some k → ok k) ∧ ∃ inner, QRow w base e d.sz v xs.length inner ∧ Reps (d.M w base (fun k => ok k ∧ some k ≠ v.ownBlock)) d.sz xs inner
section
variable {α : Type} {d : Kd α} {e : Nat} {w w1 W : World} {base : Nat} {ok ok' : Nat → Prop} {v : Value} {xs : List α}
theorem Q_of_R (h : d.R e w base ok v xs) : d.Q e w base ok v xs := by
 obtain ⟨h0, inner, ho, hr⟩ := h
 exact ⟨h0, inner, q_of_own ho, hr⟩
theorem Q_nil (d : Kd α) (e : Nat) (w : World) (base : Nat) (ok : Nat → Prop) : d.Q e w base ok (.slice none 0 0) [] := Q_of_R (R_nil d e w base ok)
end
end Kd
namespace Kd
section
variable {α : Type} {d : Kd α} {e e' : Nat} {w w1 W : World} {base : Nat} {ok : Nat → Prop} {u v : Value} {xs : List α}
theorem R_elder' (hu : d.R e W base ok u xs) (hbase : ∀ k, v.ownBlock = some k → W.heap.size ≤ k) (hb : Below W.heap.size W w1) : d.R e w1 base (fun k => ok k ∧ some k ≠ v.ownBlock) u xs :=
 R_mono (R_move (R_bound hu) (fun k hk => hb.block k hk.2.2.1)) (fun k hk => ⟨hk.1, fun he => by have := hbase k he.symm; have := hk.2.2.1; omega⟩)
theorem R_new' (h : d.R e w1 W.heap.size ok v xs) (hlt : ∀ k, u.ownBlock = some k → k < W.heap.size) : d.R e w1 W.heap.size (fun k => ok k ∧ some k ≠ u.ownBlock) v xs :=
 R_mono (R_bound h) (fun k hk => ⟨hk.1, fun he => by have := hlt k he.symm; have := hk.2.1; omega⟩)
end
end Kd
theorem below_size {w W : World} (h : Below w.heap.size w W) : w.heap.size ≤ W.heap.size := h.size
theorem below_step {w W w2 : World} (h : Below w.heap.size w W) (k : Below W.heap.size W w2) : Below w.heap.size w w2 := below_then h h.size k
theorem ReadsInt.nil (W : World) (k : IntKind) : ReadsInt W k none ([] : List Int).length [] := ⟨rfl, by simp, fun h => absurd h (Nat.lt_irrefl 0)⟩
theorem ReadsInt.drewN {W : World} {k : IntKind} {A : Option Addr} {n : Nat} {xs : List Int} (h : ReadsInt W k A n xs) (m : Nat) : ReadsInt (W.drewN m) k A n xs := h
theorem ReadsOf.nil {α : Type} (enc : α → Value) (d : α) (W : World) : ReadsOf enc d W none ([] : List α).length [] := ⟨rfl, by simp, fun h => absurd h (Nat.lt_irrefl 0)⟩
theorem ReadsOf.drewN {α : Type} {enc : α → Value} {d : α} {W : World} {A : Option Addr} {n : Nat} {xs : List α} (h : ReadsOf enc d W A n xs) (m : Nat) : ReadsOf enc d (W.drewN m) A n xs := h
theorem below_drew1 {base : Nat} {w W : World} (h : Below base w W) : Below base w W.drew := h.drew
section
variable {P : Program} {ops : Array Oper} {rest : List Oper} {o : Oper} {a : Act} {Q : Exit → Act → World → Prop} {W : World}
theorem gate_dst {N : Tmp} (_hN : o.dst = some N) (h : wpList P ops Q (o :: rest) a W) : wpList P ops Q (o :: rest) a W := h
end
inductive Vals (P : Program) (tmps : Array Value) (w : World) : List ResultVar → List Value → Prop where
 | nil : Vals P tmps w [] []
 | tmp {u : Tmp} {rs : List ResultVar} {vs : List Value} (h : Vals P tmps w rs vs) : Vals P tmps w (.tmp u :: rs) (tmps.getD u undef :: vs)
 | cell {p : Tmp} {ty : TypeId} {rs : List ResultVar} {vs : List Value} (g : Nat) (t : TypeId) (cs : Array Value) (fr : Nat × Nat) (d : TypeDesc)
  (hp : tmps.getD p undef = .pointer (some ⟨g, 0, none⟩)) (hg : w.heap[g]? = some (.cells cs t fr))
  (hu : P.underlying ty = some d) (hd : (match d with | .struct _ | .array _ _ => true | _ => false) = true) (hi : (P.info? ty).map (·.size) = some cs.size)
  (h : Vals P tmps w rs vs) : Vals P tmps w (.cell p ty :: rs) (.agg cs :: vs)
end Go.Proofs.YtlffhagjpfcecaaW.PrintWords

namespace Go.Proofs.YtlffhagjpfcecaaW.PrintLast
section
variable {P : Program} {ops : Array Oper} {Q : Exit → Act → World → Prop} {md : Region.Mode} {S : World → Prop} {ds : List Nat}
def ListedClosed (md : Region.Mode) (ops : Array Oper) (listed : Array Bool) : Prop :=
 ∀ j oj, ops[j]? = some oj → listed.getD j false = true → ∀ e ∈ oj.after, Region.binds md e = true → listed.getD e.on false = true
theorem ListedClosed.set {listed : Array Bool} {i : Nat} (h : ListedClosed md ops listed) (hi : i ∈ Region.ready md ops listed) : ListedClosed md ops (listed.setIfInBounds i true) := by
 obtain ⟨_, oi, hoi, hall⟩ := mem_ready.1 hi
 intro j oj hj hl e he hb
 by_cases hij : i = j
 · subst hij
   have : oj = oi := Option.some.inj (hj.symm.trans hoi)
   subst this
   exact getD_set_true (hall e he hb)
 · rw [getD_set_ne false hij] at hl
   exact getD_set_true (h j oj hj hl e he hb)
def wpAnyLast (P : Program) (md : Region.Mode) (ops : Array Oper) (Q : Exit → Act → World → Prop) (S : World → Prop) (ds : List Nat) : Nat → Array Bool → Act → World → Prop
 | 0, listed, a, w => Region.ready md ops listed = [] ∧ Q .normal a w
 | fuel + 1, listed, a, w =>
  (Region.ready md ops listed = [] → Q .normal a w) ∧
  ∀ i ∈ Region.ready md ops listed, wpOp P ops Q i (fun a' w' => (i ∉ ds → S w → S w') ∧ wpAnyLast P md ops Q S ds fuel (listed.setIfInBounds i true) a' w') a w
end
section
variable {P : Program} {ops : Array Oper} {Q : Exit → Act → World → Prop} {md : Region.Mode} {S : World → Prop} {ds : List Nat}
def AllReadyL (P : Program) (md : Region.Mode) (ops : Array Oper) (Q : Exit → Act → World → Prop) (S : World → Prop) (ds : List Nat) (fuel : Nat) (listed : Array Bool) (a : Act) (w : World) (rs : List Nat) : Prop :=
 ∀ i ∈ rs, wpOp P ops Q i (fun a' w' => (i ∉ ds → S w → S w') ∧ wpAnyLast P md ops Q S ds fuel (listed.setIfInBounds i true) a' w') a w
theorem AllReadyL.nil {fuel : Nat} {listed : Array Bool} {a : Act} {w : World} : AllReadyL P md ops Q S ds fuel listed a w [] := fun _ h => by cases h
theorem AllReadyL.cons {fuel : Nat} {listed : Array Bool} {a : Act} {w : World} {i : Nat} {o : Oper} {rs : List Nat} (ho : ops[i]? = some o) (hd : i ∉ ds)
 (h : ∀ K' : Act → World → Prop, Shut (∀ a w, S w → (S w → wpAnyLast P md ops Q S ds fuel (listed.setIfInBounds i true) a w) → K' a w) → if Region.wanted o (yielded ops a.tmps) = true then Oper.wp P o a w K' Q else K' (a.put o.dst undef) w)
 (hs : AllReadyL P md ops Q S ds fuel listed a w rs) : AllReadyL P md ops Q S ds fuel listed a w (i :: rs) := fun j hj => by
 rcases List.mem_cons.1 hj with rfl | hj
 · exact wpOp_step ho (fun K' hK => h K' (fun a w hS hW => hK a w ⟨fun _ _ => hS, hW hS⟩))
 · exact hs j hj
theorem enters_ {f : FuncId} {fn : Func} (hf : P.funcs[f]? = some fn) (hname : (fn.name == "runtime.NumGoroutine") = false) (hb : fn.body.isSome = true) (args : Array Value) (w : World) : (callFunc f args).run P w = .ok (.enter f args) w := by
 have h1 : fn.name ≠ "runtime.NumGoroutine" := by simpa using hname
 obtain ⟨c, hc⟩ := Option.isSome_iff_exists.1 hb
 simp [callFunc, hf, h1, hc]
theorem goesL_ {rest : List Oper} {oi : Oper} {a : Act} {w : World} (N : Option Tmp) (hd : oi.dst = N) (hg : oi.guard = none) {f : FuncId} {fn : Func} {as_ : Array Operand} {ts : Array TypeId} (hf : P.funcs[f]? = some fn) (hname : (fn.name == "runtime.NumGoroutine") = false) (hb : fn.body.isSome = true) (args : Array Value)
 (hop : oi.op = .call { callee := .value (.func f), args := as_, argTypes := ts }) (hargs : as_.map a.eval = args)
 (h : Calls P f args w fun e w' => ∃ v, e = .returned v ∧ wpList P ops Q rest (a.put N v) w') : wpList P ops Q (oi :: rest) a w := by
 refine wpList_plain hg fun K hK => ?_
 have he := enters_ hf hname hb args w
 have hrun : (execOp a.eval oi).run P w = .ok (.enter f args) w := by
  unfold execOp
  simp [hop, resolve, Deferred.ofValue, invoke, Act.eval, hargs, he]
 unfold Oper.wp
 rw [hrun, Oper.upon_enter]
 refine h.mono fun e w'' hh => ?_
 obtain ⟨v, rfl, hk⟩ := hh
 subst hd
 exact hK _ _ hk
theorem i64_w (n : Int) : IntKind.i64.wrap n = Go.RowKit.wrap64 n := by unfold Go.RowKit.wrap64; exact IntKind.wrap_i64 n
theorem i32_w (n : Int) : IntKind.i32.wrap n = Go.RowKit.wrap32 n := by unfold Go.RowKit.wrap32; exact IntKind.wrap_i32 n
end
end Go.Proofs.YtlffhagjpfcecaaW.PrintLast







namespace Go.Proofs.YtlffhagjpfcecaaW.PrintWords
open Go.RowKit
namespace Kd
def tag {α : Type} (f : Nat → Nat) (d : Kd α) : Kd (α × Nat) where
 sz := d.sz
 E := d.E
 K := fun w x cs => d.K w x.1 cs
 M := fun w base ok x cs => d.M w base (fun k => ok k ∧ f k = x.2) x.1 cs
 K_len := fun h => d.K_len h
 K_one := fun h => d.K_one h
 K_below := fun hb h => d.K_below hb h
 K_of_M := fun h => d.K_of_M h
 M_mono := fun hok h => d.M_mono (fun k hk => ⟨hok k hk.1, hk.2⟩) h
 M_bound := fun h => d.M_mono (fun _ hk => ⟨⟨hk.1.1, hk.2⟩, hk.1.2⟩) (d.M_bound h)
 M_move := fun hm h => d.M_move (fun k hk => hm k hk.1) h
 M_lower := fun hb h => d.M_lower hb h
def raw (sz : Nat) : Kd (List Value) where
 sz := sz
 E := []
 K := fun _ x cs => cs = x ∧ cs.length = sz ∧ ∀ u ∈ cs, u.oneCell' = true
 M := fun _ _ _ x cs => cs = x ∧ cs.length = sz ∧ ∀ u ∈ cs, u.oneCell' = true
 K_len := fun h => h.2.1
 K_one := fun h => h.2.2
 K_below := fun _ h => h
 K_of_M := fun h => h
 M_mono := fun _ h => h
 M_bound := fun h => h
 M_move := fun _ h => h
 M_lower := fun _ h => h
def S {α : Type} (d : Kd α) (e : Nat) (w : World) (base : Nat) (ok : Nat → Prop) (v : Value) (xs : List α) : Prop := ∃ f, (tag f d).R e w base ok v xs.zipIdx
section
variable {α β : Type} {d : Kd α} {d' : Kd β} {e e' : Nat} {w w1 W : World} {base b : Nat} {ok ok' okv oku : Nat → Prop} {u v : Value} {xs : List α} {ys : List β}
theorem S_nil (d : Kd α) (e : Nat) (w : World) (base : Nat) (ok : Nat → Prop) : S d e w base ok (.slice none 0 0) [] := ⟨fun _ => 0, R_nil _ _ _ _ _⟩
end
def gap {α : Type} (f : Nat → Nat) (d : Kd α) (i : Nat) (c : List Value) : Kd (α × Nat) where
 sz := d.sz
 E := d.E
 K := fun w x cs => (x.2 = i → cs = c ∧ cs.length = d.sz ∧ ∀ u ∈ cs, u.oneCell' = true) ∧ (x.2 ≠ i → d.K w x.1 cs)
 M := fun w base ok x cs => (x.2 = i → cs = c ∧ cs.length = d.sz ∧ ∀ u ∈ cs, u.oneCell' = true) ∧ (x.2 ≠ i → d.M w base (fun k => ok k ∧ f k = x.2) x.1 cs)
 K_len := fun {w x cs} h => by
  by_cases hx : x.2 = i
  · exact (h.1 hx).2.1
  · exact d.K_len (h.2 hx)
 K_one := fun {w x cs} h => by
  by_cases hx : x.2 = i
  · exact (h.1 hx).2.2
  · exact d.K_one (h.2 hx)
 K_below := fun hb h => ⟨h.1, fun hx => d.K_below hb (h.2 hx)⟩
 K_of_M := fun h => ⟨h.1, fun hx => d.K_of_M (h.2 hx)⟩
 M_mono := fun hok h => ⟨h.1, fun hx => d.M_mono (fun k hk => ⟨hok k hk.1, hk.2⟩) (h.2 hx)⟩
 M_bound := fun h => ⟨h.1, fun hx => d.M_mono (fun _ hk => ⟨⟨hk.1.1, hk.2⟩, hk.1.2⟩) (d.M_bound (h.2 hx))⟩
 M_move := fun hm h => ⟨h.1, fun hx => d.M_move (fun k hk => hm k hk.1) (h.2 hx)⟩
 M_lower := fun hb h => ⟨h.1, fun hx => d.M_lower hb (h.2 hx)⟩
def H {α : Type} (d : Kd α) (e : Nat) (w : World) (base : Nat) (ok : Nat → Prop) (v : Value) (xs : List α) (i : Int) (oki : Nat → Prop) (c : List Value) : Prop :=
 (∀ k, oki k → ok k) ∧ ∃ f, (gap f d i.toNat c).R e w base (fun k => ok k ∧ ¬ oki k) v xs.zipIdx
end Kd
end Go.Proofs.YtlffhagjpfcecaaW.PrintWords





namespace Go.Proofs.YtlffhagjpfcecaaW.PrintWords
open Go.RowKit
namespace Kd
structure Heap {α : Type} (d : Kd α) : Prop where
 K : ∀ {w w1 : World} {x : α} {cs : List Value}, (∀ k, k < w.heap.size → w1.heap[k]? = w.heap[k]?) → d.K w x cs → d.K w1 x cs
theorem cell_heap {w w1 : World} (hb : ∀ k, k < w.heap.size → w1.heap[k]? = w.heap[k]?) {a : Addr} {v : Value} (h : w.cell? a = some v) : w1.cell? a = some v := by
 have := hb a.block (World.block_lt_of_cell? w a h)
 simpa [World.cell?, this] using h
theorem Heap.C {α : Type} {d : Kd α} (hd : Heap d) {w w1 : World} {A : Option Addr} {n : Nat} {xs : List α} (hb : ∀ k, k < w.heap.size → w1.heap[k]? = w.heap[k]?) (h : d.C w A n xs) : d.C w1 A n xs :=
 ⟨h.1, h.2.1, fun hn => by
  obtain ⟨ad, e, hc⟩ := h.2.2 hn
  refine ⟨ad, e, fun j p hj => ?_⟩
  obtain ⟨c, hs, hr, hcell⟩ := hc j p hj
  exact ⟨c, hs, hd.K hb hr, fun i u hu => cell_heap hb (hcell i u hu)⟩⟩
end Kd
end Go.Proofs.YtlffhagjpfcecaaW.PrintWords

namespace Go.Proofs.YtlffhagjpfcecaaW.PrintWords
open Go.RowKit
def Kept (w W : World) (S : Nat → Prop) : Prop := w.heap.size ≤ W.heap.size ∧ ∀ i, i < w.heap.size → ¬ S i → W.heap[i]? = w.heap[i]?
section
variable {w W W2 : World} {S S2 S' : Nat → Prop}
theorem Kept.refl (w : World) (S : Nat → Prop) : Kept w w S := ⟨Nat.le_refl _, fun _ _ _ => rfl⟩
theorem Kept.of_below (h : Below w.heap.size w W) (S : Nat → Prop) : Kept w W S := ⟨h.size, fun i hi _ => h.block i hi⟩
theorem Kept.mono (h : Kept w W S) (hs : ∀ k, S k → S' k) : Kept w W S' := ⟨h.1, fun i hi hn => h.2 i hi (fun hk => hn (hs i hk))⟩
theorem Kept.then_ (h : Kept w W S) (k : Kept W W2 S2) (hs : ∀ k, S2 k → S k ∨ w.heap.size ≤ k) : Kept w W2 S :=
 ⟨Nat.le_trans h.1 k.1, fun i hi hn => (k.2 i (Nat.lt_of_lt_of_le hi h.1) (fun h2 => (hs i h2).elim hn (fun h3 => by omega))).trans (h.2 i hi hn)⟩
theorem Kept.below (h : Kept w W S) (hb : Below W.heap.size W W2) : Kept w W2 S := h.then_ (Kept.of_below hb (fun _ => False)) (fun _ hk => hk.elim)
theorem Kept.alloc (h : Kept w W S) (o : Obj) : Kept w (W.alloc o) S := h.below (below_alloc (Below.refl _ _) o)
theorem Kept.drew (h : Kept w W S) : Kept w W.drew S := h
theorem Kept.drewN (h : Kept w W S) (m : Nat) : Kept w (W.drewN m) S := h
theorem Kept.setCell (h : Kept w W S) {p : Addr} (hp : S p.block ∨ w.heap.size ≤ p.block) (u : Value) : Kept w (W.setCell p u) S :=
 h.then_ (S2 := fun k => k = p.block) ⟨by simp [World.setCell], fun i _ hn => Below.heap_setCell W p u i hn⟩ (fun k hk => by rw [hk]; exact hp)
end
end Go.Proofs.YtlffhagjpfcecaaW.PrintWords

namespace Go.Proofs.YtlffhagjpfcecaaW.PrintWords
open Go.RowKit
def Foot (P : World → Prop) (W : World) (ok : Nat → Prop) : Prop := ∀ W' : World, (∀ k, ok k → k < W.heap.size → W'.heap[k]? = W.heap[k]?) → P W'
theorem heap_lt {W W1 : World} {k : Nat} (h : W1.heap[k]? = W.heap[k]?) (hlt : k < W.heap.size) : k < W1.heap.size := by
 rw [Array.getElem?_eq_getElem hlt] at h
 exact (Array.getElem?_eq_some_iff.1 h).1
namespace Foot
variable {P Q : World → Prop} {W W1 : World} {ok ok' : Nat → Prop}
theorem mono (h : Foot P W ok) (hok : ∀ k, ok k → ok' k) : Foot P W ok' := fun W' hW => h W' (fun k hk hlt => hW k (hok k hk) hlt)
theorem step (h : Foot P W ok) (hm : ∀ k, ok k → k < W.heap.size → W1.heap[k]? = W.heap[k]?) : Foot P W1 ok := fun W' hW => h W' (fun k hk hlt => (hW k hk (heap_lt (hm k hk hlt) hlt)).trans (hm k hk hlt))
end Foot
namespace Kd
def F {α : Type} (d : Kd α) (W : World) (ok : Nat → Prop) (A : Option Addr) (n : Nat) (xs : List α) : Prop := Foot (fun W => d.C W A n xs) W ok
def FK {α : Type} (d : Kd α) (W : World) (ok : Nat → Prop) (x : α) (c : List Value) : Prop := Foot (fun W => d.K W x c) W ok
section
variable {α β : Type} {d : Kd α} {e base n n' cc g N : Nat} {ok ok' okp S : Nat → Prop} {w w0 w1 W W1 : World} {A A' : Option Addr} {u v v1 : Value} {xs : List α} {xs' : List β} {d' : Kd β} {x : α} {c : List Value}
theorem F_nil (d : Kd α) (W : World) (ok : Nat → Prop) : F d W ok none ([] : List α).length [] := fun W' _ => C_nil d W'
theorem FK_of_M (h : d.M W base ok x c) : FK d W ok x c := fun _ hW => d.K_of_M (M_step h hW)
end
end Kd
end Go.Proofs.YtlffhagjpfcecaaW.PrintWords

namespace Go.Proofs.YtlffhagjpfcecaaW.PrintWords
open Go.RowKit
namespace Kd
def chunks (sz : Nat) (n : Nat) (inner : List Value) : List (List Value) := (List.range n).map fun j => (inner.drop (j * sz)).take sz
theorem chunks_length (sz n : Nat) (inner : List Value) : (chunks sz n inner).length = n := by simp [chunks]
theorem chunks_at {sz n : Nat} {inner : List Value} {j : Nat} (hj : j < n) : (chunks sz n inner)[j]? = some ((inner.drop (j * sz)).take sz) := by simp [chunks, hj]
theorem chunks_get {sz n : Nat} {inner : List Value} {j : Nat} {c : List Value} (h : (chunks sz n inner)[j]? = some c) : c = (inner.drop (j * sz)).take sz := by
 have hj : j < n := by have := (List.getElem?_eq_some_iff.1 h).1; rwa [chunks_length] at this
 rw [chunks_at hj] at h
 injection h with h
 exact h.symm
theorem reps_raw {α : Type} {Rr : α → List Value → Prop} {sz : Nat} {xs : List α} {inner : List Value} (h : Reps Rr sz xs inner) (hR : ∀ x c, Rr x c → c.length = sz ∧ ∀ u ∈ c, u.oneCell' = true) : Reps (fun x cs => cs = x ∧ cs.length = sz ∧ ∀ u ∈ cs, u.oneCell' = true) sz (chunks sz xs.length inner) inner := by
 refine ⟨by rw [chunks_length]; exact h.1, fun j p hj => ?_⟩
 have hjl : j < xs.length := by have := (List.getElem?_eq_some_iff.1 hj).1; rwa [chunks_length] at this
 have hp := chunks_get hj
 exact ⟨hp.symm, hR _ _ (h.2 j _ (List.getElem?_eq_getElem hjl))⟩
section
variable {α : Type} {d : Kd α} {e base n cc g : Nat} {ok ok' okp S : Nat → Prop} {w w1 W W1 : World} {A : Option Addr} {u v v1 : Value} {xs : List α} {x : α} {c : List Value}
def N {α : Type} (d : Kd α) (e : Nat) (w : World) (base : Nat) (ok : Nat → Prop) (v : Value) (xs : List α) : Prop :=
 (∀ k, v.ownBlock = some k → ok k) ∧ ∃ rows : List (List Value), rows.length = xs.length ∧ (raw d.sz).R e w base (fun k => some k = v.ownBlock) v rows ∧ ∀ (j : Nat) (x : α) (c : List Value), xs[j]? = some x → rows[j]? = some c → FK d w (fun k => ok k ∧ some k ≠ v.ownBlock) x c
theorem R_N (h : d.R e w base ok v xs) : N d e w base ok v xs := by
 obtain ⟨h0, inner, ho, hr⟩ := h
 refine ⟨h0, chunks d.sz xs.length inner, chunks_length _ _ _, ⟨fun k hk => hk.symm, inner, by rw [chunks_length]; exact ho, reps_raw hr (fun x c hp => ⟨d.K_len (d.K_of_M hp), d.K_one (d.K_of_M hp)⟩)⟩, fun j x c hx hc => ?_⟩
 rw [chunks_get hc]
 exact FK_of_M (hr.2 j x hx)
theorem N_nil (d : Kd α) (e : Nat) (w : World) (base : Nat) (ok : Nat → Prop) : N d e w base ok (.slice none 0 0) [] := R_N (R_nil _ _ _ _ _)
end
end Kd
end Go.Proofs.YtlffhagjpfcecaaW.PrintWords





namespace Go.Proofs.YtlffhagjpfcecaaW.PrintWords
open Go.RowKit
section
variable {P : Program} {d : Nat} {xs ys : Array Value} {f : Field} {fs : List Field} {a b : Value} {r s : Bool} {w : World}
theorem eqf_last (hn : (f.name == "_") = false) (ha : (part f.type xs f.offset).run P w = .ok a w) (hb : (part f.type ys f.offset).run P w = .ok b w) (he : (Op.equalIn d f.type a b).run P w = .ok r w) : (Op.eqFields d xs ys [f]).run P w = .ok r w := by
 have hn' : f.name ≠ "_" := by simpa using hn
 simp only [Op.eqFields, if_pos hn', Sem.run_bind, ha, hb, he, Result.andThen_ok]
 cases r <;> simp
theorem eqf_cons (hn : (f.name == "_") = false) (ha : (part f.type xs f.offset).run P w = .ok a w) (hb : (part f.type ys f.offset).run P w = .ok b w) (he : (Op.equalIn d f.type a b).run P w = .ok r w) (hr : (Op.eqFields d xs ys fs).run P w = .ok s w) : (Op.eqFields d xs ys (f :: fs)).run P w = .ok (r && s) w := by
 have hn' : f.name ≠ "_" := by simpa using hn
 rw [Op.eqFields]
 simp only [if_pos hn', Sem.run_bind, ha, hb, he, Result.andThen_ok]
 cases r
 · simp
 · simpa using hr
theorem eqA_of {t : TypeId} {fs : Array Field} (hu : P.underlying t = some (.struct fs)) (hp : P.stoodInHeld t = false) (h : (Op.eqFields d xs ys fs.toList).run P w = .ok r w) : (Op.equalIn (d + 1) t (.agg xs) (.agg ys)).run P w = .ok r w := by
 have hf : P.fieldsOf t = fs := by simp [Program.fieldsOf, hu]
 rw [run_equalIn_struct (P := P) w d t xs ys (by rw [hf]; exact hu) hp, hf]
 exact h
end
end Go.Proofs.YtlffhagjpfcecaaW.PrintWords

namespace Go.Proofs.YtlffhagjpfcecaaW.PrintWords
theorem Reps.one {α : Type} {R : α → List Value → Prop} {ps : List α} {cs : List Value} {p : α} {v : Value} (hp : R p [v]) (h : Reps R 1 ps cs) : Reps R 1 (p :: ps) (v :: cs) := by
 refine ⟨by simp [h.1], fun j q hq => ?_⟩
 cases j with
 | zero =>
  simp only [List.getElem?_cons_zero, Option.some.injEq] at hq
  subst hq
  simpa using hp
 | succ j =>
  simp only [List.getElem?_cons_succ] at hq
  have h1 := h.2 j q hq
  simpa [Nat.mul_one] using h1
theorem Reps.front {α : Type} {R : α → List Value → Prop} {size : Nat} {ps : List α} {cs c all : List Value} {p : α} (hp : R p c) (hc : c.length = size) (h : Reps R size ps cs) (ha : c ++ cs = all) : Reps R size (p :: ps) all := by
 subst ha
 refine ⟨by rw [List.length_append, hc, h.1, List.length_cons, Nat.succ_mul, Nat.add_comm], fun j q hq => ?_⟩
 cases j with
 | zero =>
  simp only [List.getElem?_cons_zero, Option.some.injEq] at hq
  subst hq
  rw [Nat.zero_mul, List.drop_zero, List.take_append_of_le_length (by omega), List.take_of_length_le (by omega)]
  exact hp
 | succ j =>
  simp only [List.getElem?_cons_succ] at hq
  have h1 := h.2 j q hq
  rw [Nat.succ_mul, List.drop_append, List.drop_of_length_le (by rw [hc]; exact Nat.le_add_left _ _), List.nil_append, hc, Nat.add_sub_cancel]
  exact h1
theorem Reps.c2 {α : Type} {R : α → List Value → Prop} {ps : List α} {cs : List Value} {p : α} {va vb : Value} (hp : R p [va, vb]) (h : Reps R 2 ps cs) : Reps R 2 (p :: ps) (va :: vb :: cs) := Reps.front hp rfl h rfl
theorem Reps.c3 {α : Type} {R : α → List Value → Prop} {ps : List α} {cs : List Value} {p : α} {va vb vc : Value} (hp : R p [va, vb, vc]) (h : Reps R 3 ps cs) : Reps R 3 (p :: ps) (va :: vb :: vc :: cs) := Reps.front hp rfl h rfl
theorem Reps.c4 {α : Type} {R : α → List Value → Prop} {ps : List α} {cs : List Value} {p : α} {va vb vc vd : Value} (hp : R p [va, vb, vc, vd]) (h : Reps R 4 ps cs) : Reps R 4 (p :: ps) (va :: vb :: vc :: vd :: cs) := Reps.front hp rfl h rfl
theorem Reps.c5 {α : Type} {R : α → List Value → Prop} {ps : List α} {cs : List Value} {p : α} {va vb vc vd ve : Value} (hp : R p [va, vb, vc, vd, ve]) (h : Reps R 5 ps cs) : Reps R 5 (p :: ps) (va :: vb :: vc :: vd :: ve :: cs) := Reps.front hp rfl h rfl
theorem Reps.c6 {α : Type} {R : α → List Value → Prop} {ps : List α} {cs : List Value} {p : α} {va vb vc vd ve vf : Value} (hp : R p [va, vb, vc, vd, ve, vf]) (h : Reps R 6 ps cs) : Reps R 6 (p :: ps) (va :: vb :: vc :: vd :: ve :: vf :: cs) := Reps.front hp rfl h rfl
theorem Reps.c7 {α : Type} {R : α → List Value → Prop} {ps : List α} {cs : List Value} {p : α} {va vb vc vd ve vf vg : Value} (hp : R p [va, vb, vc, vd, ve, vf, vg]) (h : Reps R 7 ps cs) : Reps R 7 (p :: ps) (va :: vb :: vc :: vd :: ve :: vf :: vg :: cs) := Reps.front hp rfl h rfl
theorem Reps.c8 {α : Type} {R : α → List Value → Prop} {ps : List α} {cs : List Value} {p : α} {va vb vc vd ve vf vg vh : Value} (hp : R p [va, vb, vc, vd, ve, vf, vg, vh]) (h : Reps R 8 ps cs) : Reps R 8 (p :: ps) (va :: vb :: vc :: vd :: ve :: vf :: vg :: vh :: cs) := Reps.front hp rfl h rfl
theorem Reps.c9 {α : Type} {R : α → List Value → Prop} {ps : List α} {cs : List Value} {p : α} {va vb vc vd ve vf vg vh vi : Value} (hp : R p [va, vb, vc, vd, ve, vf, vg, vh, vi]) (h : Reps R 9 ps cs) : Reps R 9 (p :: ps) (va :: vb :: vc :: vd :: ve :: vf :: vg :: vh :: vi :: cs) := Reps.front hp rfl h rfl
theorem Reps.c10 {α : Type} {R : α → List Value → Prop} {ps : List α} {cs : List Value} {p : α} {va vb vc vd ve vf vg vh vi vj : Value} (hp : R p [va, vb, vc, vd, ve, vf, vg, vh, vi, vj]) (h : Reps R 10 ps cs) : Reps R 10 (p :: ps) (va :: vb :: vc :: vd :: ve :: vf :: vg :: vh :: vi :: vj :: cs) := Reps.front hp rfl h rfl
end Go.Proofs.YtlffhagjpfcecaaW.PrintWords





namespace Go.Proofs.YtlffhagjpfcecaaW.PrintWords
open Go.RowKit
section
variable {P : Program} {ops : Array Oper} {rest : List Oper} {o : Oper} {a : Act} {Q : Exit → Act → World → Prop} {W : World}
theorem gate_guard (hw : Region.wanted o (yielded ops a.tmps) = true) (h : wpList P ops Q ({ o with guard := none } :: rest) a W) : wpList P ops Q (o :: rest) a W := by
 have h1 : Region.wanted { o with guard := none } (yielded ops a.tmps) = true := rfl
 unfold wpList at h ⊢
 rw [if_pos h1] at h
 rw [if_pos hw]
 exact h
end
end Go.Proofs.YtlffhagjpfcecaaW.PrintWords



namespace Go.Proofs.YtlffhagjpfcecaaW.PrintMore
open Go.RowKit Go.Proofs.YtlffhagjpfcecaaW.PrintWords
theorem max2_int (k k' : IntKind) (x y : Int) : Builtin.max2 (.int k x) (.int k' y) = pure (.int k (if x < y then y else x)) := by simp only [Builtin.max2, gt_iff_lt]
theorem min2_int (k k' : IntKind) (x y : Int) : Builtin.min2 (.int k x) (.int k' y) = pure (.int k (if y < x then y else x)) := by simp only [Builtin.min2]
theorem max_two (ats : Array TypeId) (ty : TypeId) (a b : Value) : Builtin.max_ ats ty #[a, b] = (Builtin.max2 a b >>= fun s => pure s) := by simp only [Builtin.max_, List.foldlM_cons, List.foldlM_nil]
theorem min_two (ats : Array TypeId) (ty : TypeId) (a b : Value) : Builtin.min_ ats ty #[a, b] = (Builtin.min2 a b >>= fun s => pure s) := by simp only [Builtin.min_, List.foldlM_cons, List.foldlM_nil]
theorem max_three (ats : Array TypeId) (ty : TypeId) (a b c : Value) : Builtin.max_ ats ty #[a, b, c] = (Builtin.max2 a b >>= fun s => Builtin.max2 s c >>= fun s => pure s) := by simp only [Builtin.max_, List.foldlM_cons, List.foldlM_nil]
theorem min_three (ats : Array TypeId) (ty : TypeId) (a b c : Value) : Builtin.min_ ats ty #[a, b, c] = (Builtin.min2 a b >>= fun s => Builtin.min2 s c >>= fun s => pure s) := by simp only [Builtin.min_, List.foldlM_cons, List.foldlM_nil]
theorem max_four (ats : Array TypeId) (ty : TypeId) (a b c d : Value) : Builtin.max_ ats ty #[a, b, c, d] = (Builtin.max2 a b >>= fun s => Builtin.max2 s c >>= fun s => Builtin.max2 s d >>= fun s => pure s) := by simp only [Builtin.max_, List.foldlM_cons, List.foldlM_nil]
theorem min_four (ats : Array TypeId) (ty : TypeId) (a b c d : Value) : Builtin.min_ ats ty #[a, b, c, d] = (Builtin.min2 a b >>= fun s => Builtin.min2 s c >>= fun s => Builtin.min2 s d >>= fun s => pure s) := by simp only [Builtin.min_, List.foldlM_cons, List.foldlM_nil]
end Go.Proofs.YtlffhagjpfcecaaW.PrintMore
namespace Go.Proofs.YtlffhagjpfcecaaW.PrintWords
open Go.RowKit
section
variable {P : Program} {ops : Array Oper} {rest : List Oper} {o : Oper} {a : Act} {Q : Exit → Act → World → Prop} {W : World}
theorem gate_callee {f : FuncId} {as_ : Array Operand} {ts : Array TypeId} (_ho : o.op = .call { callee := .value (.func f), args := as_, argTypes := ts }) (h : wpList P ops Q (o :: rest) a W) : wpList P ops Q (o :: rest) a W := h
theorem gate_builtin {b : Builtin} {xs : Array Operand} {ts : Array TypeId} (_ho : o.op = .call { callee := .builtin b, args := xs, argTypes := ts }) (h : wpList P ops Q (o :: rest) a W) : wpList P ops Q (o :: rest) a W := h
end
def mn (a b : Int) : Int := if b < a then b else a
end Go.Proofs.YtlffhagjpfcecaaW.PrintWords
namespace Go.Proofs.YtlffhagjpfcecaaW.PrintWords
open Go.RowKit
namespace Kd
def V {α : Type} (d : Kd α) (_e : Nat) (W : World) (_base : Nat) (ok : Nat → Prop) (v : Value) (xs : List α) : Prop := ∃ A c, v = .slice A xs.length c ∧ xs.length ≤ c ∧ F d W ok A xs.length xs
section
variable {α β : Type} {d : Kd α} {e base base' n m c g N' lo hi : Nat} {ok ok' S : Nat → Prop} {w W w1 : World} {A : Option Addr} {ad : Addr} {u v v1 : Value} {xs : List α}
theorem V_nil (d : Kd α) (e : Nat) (W : World) (base : Nat) (ok : Nat → Prop) : V d e W base ok (.slice none 0 0) [] := ⟨none, 0, rfl, Nat.le_refl _, F_nil d W ok⟩
end
end Kd
end Go.Proofs.YtlffhagjpfcecaaW.PrintWords

namespace Go.Proofs.Ytlffhagjpfcecaa.PA
open Go.RowKit Go.Proofs.YtlffhagjpfcecaaW.PrintWords Go.Proofs.YtlffhagjpfcecaaW.PrintLast Go.Proofs.YtlffhagjpfcecaaW.PrintMore
attribute [local go_sem] max2_int min2_int max_two min_two max_three min_three max_four min_four
set_option linter.unusedVariables false
set_option linter.unusedSimpArgs false
def errW : Option Int → Value
 | none => .nilIface
 | some c => .iface 0 (.int .i64 c)
theorem errW_none : errW none = .nilIface := rfl
theorem errW_some (c : Int) : errW (some c) = .iface 0 (.int .i64 c) := rfl
theorem info39 : (Try.prog.info? 39).map (fun i => (i.zero, i.size, i.bytes)) = some (some (.agg #[(.int .i64 0), (.int .i64 0), (.bool false)]), 3, 24) := by kernel_rfl
structure S39 where
 f0 : Int
 f1 : Int
 f2 : Bool
def z39 : S39 := ⟨(0 : Int), (0 : Int), false⟩
def k39 : Kd S39 := Kd.iso (Kd.pair (Kd.int .i64) (Kd.pair (Kd.int .i64) Kd.bool)) (fun x : S39 => (x.f0, x.f1, x.f2))
theorem k39_open {w : World} {x : S39} {cs : List Value} (h : k39.K w x cs) : cs = [.int .i64 x.f0, .int .i64 x.f1, .bool x.f2] := by
 obtain ⟨_, _, rfl, rfl, ⟨_, _, rfl, rfl, rfl⟩⟩ := h
 exact rfl
theorem k39_mkM (w : World) (base : Nat) (ok : Nat → Prop) (x : S39)  : k39.M w base ok x [.int .i64 x.f0, .int .i64 x.f1, .bool x.f2] := ⟨[.int .i64 x.f0], [.int .i64 x.f1, .bool x.f2], rfl, rfl, ⟨[.int .i64 x.f1], [.bool x.f2], rfl, rfl, rfl⟩⟩
def rd_T39 (xs : List S39) (i : Int) : S39 := xs.getD i.toNat z39
theorem at_T39 {w : World} {A : Option Addr} {n : Nat} {xs : List S39} (h : Kd.C k39 w A n xs) (i : Int) (h0 : 0 ≤ i) (h1 : i < n) : ∃ ad , A = some ad ∧ w.cell? (ad.add (i.toNat * 3)) = some (.int .i64 (rd_T39 xs i).f0) ∧ w.cell? ⟨(ad.add (i.toNat * 3)).block, (ad.add (i.toNat * 3)).off + 1, none⟩ = some (.int .i64 (rd_T39 xs i).f1) ∧ w.cell? ⟨(ad.add (i.toNat * 3)).block, (ad.add (i.toNat * 3)).off + 2, none⟩ = some (.bool (rd_T39 xs i).f2) := by
 obtain ⟨ad, c, e, _, hK, hc0⟩ := Kd.C_get h z39 i h0 h1
 have hc : ∀ j u, c[j]? = some u → w.cell? (ad.add (i.toNat * 3 + j)) = some u := hc0
 obtain rfl := k39_open hK
 exact ⟨ad, e, hc 0 _ rfl, by rw [← add_field _ _ 1 (by omega)]; exact hc 1 _ rfl, by rw [← add_field _ _ 2 (by omega)]; exact hc 2 _ rfl⟩
end Go.Proofs.Ytlffhagjpfcecaa.PA

namespace Go
open Go.RowKit
set_option linter.unusedVariables false
variable {F : Fence} {n : Nat} {P : Program}
def roundPostP (P : Program) (l : Nat) (R : Ending → World → Prop) : Exit → Act → World → Prop
 | .normal, _, w => ∃ v w', (Instr.endRound l none).run P w = .ok v w' ∧ R (.returned v) w'
 | .panic chain, a, w => a.defers = [] ∧ R (.panicked chain) w
 | _, _, _ => False
theorem roundIn_of_wpInP {l : Nat} {f : FuncId} {fn : Func} {tmps : Array Value} {assign body : Code} {w : World} {R : Ending → World → Prop} (hF : F.fn f) (hfn : P.funcs[f]? = some fn)
 (h : assign.wpIn (F.inRound l) n P (Exit.then (fun a₁ w₁ => ∃ w₂, (Instr.beginRound l).run P w₁ = .ok () w₂ ∧ body.wpIn (F.inRound l) n P (roundPostP P l R) a₁ w₂) (fun _ _ _ => False))
  { tmps := tmps, defers := [] } w) :
 RoundIn F n P l f tmps assign body w R := by
 refine ⟨hF, fun c cs hr => ?_⟩
 let b : Frame := { (default : Frame) with fn := f, kind := .normal, roundOf := some l }
 have hb0 : Frame.round l f tmps assign body .normal = b.atR { tmps := tmps, defers := [] } [.code assign, .beginRound, .code body] := by
  simp [Frame.round, Frame.atR, b]
 have hr' : (F.inRound l).room ((c :: cs).length + 1 + n) := hr
 have hF' : (F.inRound l).fn b.fn := hF
 obtain ⟨e, a₁, w₁, hq, harr⟩ := h b [.beginRound, .code body] (c :: cs) rfl hF' hr'
 rw [← hb0] at harr
 cases e with
 | normal =>
  obtain ⟨w₂, hbr, hbody⟩ := hq
  have s1 : StepsIn (Machine.fenced P (F.inRound l)) P (lone (b.atR a₁ [.beginRound, .code body]) (c :: cs) w₁) (lone (b.atR a₁ [.code body]) (c :: cs) w₂) :=
   .one (fenced_calm (fr := b.atR a₁ [.beginRound, .code body]) hF' hr' rfl) (stepR_beginRound rfl hbr)
  obtain ⟨e₂, a₂, w₃, hq₂, harr₂⟩ := hbody b [] (c :: cs) rfl hF' hr'
  cases e₂ with
  | normal =>
   obtain ⟨v, w₄, hend, hR⟩ := hq₂
   exact ⟨.returned v, w₄, hR, (StepsIn.trans harr s1).trans (StepsIn.trans harr₂ (.one (fenced_calm (fr := b.atR a₂ []) hF' hr' rfl) (stepR_round_end rfl rfl hend)))⟩
  | panic chain =>
   obtain ⟨hd, hR⟩ := hq₂
   obtain ⟨todo, hs⟩ := harr₂
   have hleave : Frame.leaving P { b.atR a₂ todo with mode := .panicking chain } w₃ (.panicked chain) := ⟨rfl, hd, fn, hfn⟩
   exact ⟨.panicked chain, w₃, hR, (StepsIn.trans harr s1).trans (StepsIn.trans hs (.one (fenced_leaving (n := n) hF' hr' hleave) (step_leave_panicked hleave)))⟩
  | ret => exact hq₂.elim
  | exit id => exact hq₂.elim
  | goto t => exact hq₂.elim
  | outgrown => exact hq₂.elim
 | exit id => exact hq.elim
 | goto t => exact hq.elim
 | ret => exact hq.elim
 | panic chain => exact hq.elim
 | outgrown => exact hq.elim
def panPost {α : Type} (I : List α → World → Prop) (Ip : List PanicEntry → World → Prop) (Kt : World → World → Prop) (xs : List α) (W : World) : Exit → Act → World → Prop
 | .normal, _, W' => KeepsOthers W W' ∧ I xs W' ∧ Kt W W'
 | .panic ch, a, W' => a.defers = [] ∧ KeepsOthers W W' ∧ Ip ch W'
 | _, _, _ => False
def IterP {α : Type} (F : Fence) (n : Nat) (P : Program) (g : Nat) (lb : Array Value) (encs : α → Array Value) (all : List α) (Kt Ti : World → World → Prop) (w : World) : Prop :=
 ∀ (l : Nat) (J : List α → World → Prop) (Jp : List PanicEntry → World → Prop) (W : World), Kt w W → (∀ pre A B, J pre A → Ti A B → J pre B) →
  (∀ pre x W1, J pre W1 → (∃ rest, pre ++ x :: rest = all) → YieldAt F (n - 1) P l (encs x) W1 fun e W' => (e = .returned (.bool true) ∧ J (pre ++ [x]) W' ∧ Kt W1 W') ∨ (∃ ch, e = .panicked ch ∧ Jp ch W')) →
  J [] W → CallsIn F n P g (#[.func (.yield l) #[] #[]] ++ lb) W fun e W' => (∃ v, e = .returned v ∧ J all W') ∨ (∃ ch, e = .panicked ch ∧ Jp ch W')
theorem wpIn_rangeFunc_P {α : Type} {g : Operand} {ps : Array Tmp} {assign body : Code} {Q : Exit → Act → World → Prop} {a : Act} {w : World}
 (hro : F.round = none) (h1 : 1 ≤ n) {gf : Nat} {lb : Array Value} (hg : a.eval g = .func (.func gf) #[] lb) (hFg : F.fn gf) (eg : ∀ args w, (callFunc gf args).run P w = .ok (.enter gf args) w)
 (hfnP : ∀ fn, F.fn fn → ∃ f, P.funcs[fn]? = some f)
 {encs : α → Array Value} {all : List α} {Kt Ti : World → World → Prop} (hseq : IterP F (n - 1) P gf lb encs all Kt Ti w) (hps : ∀ x, (encs x).size = ps.size)
 (hKt : ∀ A B C, Kt A B → Kt B C → Kt A C) (hKa : ∀ (W : World) (o : Obj), Kt W (W.alloc o)) (hKp : ∀ (W : World) (l : Nat) (o o' : Obj), W.heap[l]? = some o → o.isCells = false → Kt W (W.putObj l o'))
 (hTi : ∀ (A B : World) (k : Nat) (o : Obj), Ti A B → A.heap[k]? = some o → o.isCells = false → B.heap[k]? = some o)
 (I : List α → World → Prop) (Ip : List PanicEntry → World → Prop) (hIa : ∀ pre (W : World) (o : Obj), I pre W → I pre (W.alloc o)) (hIp : ∀ pre (W : World) (l : Nat) (o o' : Obj), I pre W → w.heap.size ≤ l → W.heap[l]? = some o → o.isCells = false → I pre (W.putObj l o')) (hIt : ∀ pre A B, I pre A → Ti A B → I pre B)
 (h0 : I [] w) (Ax : List α → α → Act → World → Prop) (hAx : ∀ pre x a' (W : World) (l : Nat) (o o' : Obj), Ax pre x a' W → w.heap.size ≤ l → W.heap[l]? = some o → o.isCells = false → Ax pre x a' (W.putObj l o'))
 (hassign : ∀ (l : Nat) (pre : List α) (x : α) (W : World) (K : Act → World → Prop), I pre W → (∀ a' W', Ax pre x a' W' → KeepsOthers W W' → Kt W W' → K a' W') →
  assign.wpIn (F.inRound l) (n - 1 - 1) P (Exit.then K (fun _ _ _ => False)) { tmps := (ps.zip (encs x)).foldl (fun t (p, v) => t.setIfInBounds p v) a.tmps, defers := [] } W)
 (hbody : ∀ (l : Nat) (pre : List α) (x : α) (a' : Act) (W : World), Ax pre x a' W → (∃ rest, pre ++ x :: rest = all) → body.wpIn (F.inRound l) (n - 1 - 1) P (panPost I Ip Kt (pre ++ [x]) W) a' W)
 (hdone : ∀ (D : Nat) (W : World), I all W → w.heap.size ≤ D → W.heap[D]? = some (.deferred (some [])) → Q .normal { a with defers := { target := .collected D, args := #[] } :: a.defers } W)
 (hpanic : ∀ (D : Nat) (ch : List PanicEntry) (W : World), Ip ch W → w.heap.size ≤ D → W.heap[D]? = some (.deferred (some [])) → Q (.panic ch) { a with defers := { target := .collected D, args := #[] } :: a.defers } W) :
 (Code.rangeFunc g ps assign body).wpIn F n P Q a w := by
 refine wpIn_rangeFunc ?_
 intro fn hfn
 obtain ⟨fd, hfd⟩ := hfnP fn hfn
 rw [hro]
 obtain ⟨rec, hrec⟩ : ∃ rec : LoopState → Option Code → Loop, rec = fun st pe => { state := st, pending := pe, fn, tmps := a.tmps, params := ps, assign, body, defers := w.heap.size } := ⟨_, rfl⟩
 obtain ⟨W1, hW1⟩ : ∃ W1, (w.alloc (.deferred (some []))).alloc (.loop (rec .ready none)) = W1 := ⟨_, rfl⟩
 have hL1 : W1.heap[w.heap.size + 1]? = some (.loop (rec .ready none)) := by
  rw [← hW1]; have := World.alloc_heap_new (w.alloc (.deferred (some []))) (.loop (rec .ready none)); rwa [World.size_alloc] at this
 have hK1 : W1.heap[w.heap.size]? = some (.deferred (some [])) := by
  rw [← hW1]; exact (Below.heap_alloc _ _ _ (by simp)).trans (World.alloc_heap_new w _)
 have hI1 : I [] W1 := by rw [← hW1]; exact hIa _ _ _ (hIa _ _ _ h0)
 have hb1 : Kt w W1 := by rw [← hW1]; exact hKt _ _ _ (hKa _ _) (hKa _ _)
 refine ⟨w.heap.size + 1, [{ target := .collected w.heap.size, args := #[] }], W1, { target := .fn (.func gf) lb, args := #[.func (.yield (w.heap.size + 1)) #[] #[]] }, W1, gf,
  #[.func (.yield (w.heap.size + 1)) #[] #[]] ++ lb, W1, ?_, ?_, ?_, ?_, fun _ => h1, ?_⟩
 · rw [← hW1, hrec]; exact run_enterLoop_outer _ _ _ _ _
 · simp only [resolve, hg]
   simp [go_sem]
 · intro f' hf'; simp [Target.leads] at hf'; subst hf'; exact hFg
 · simp [invoke, go_sem, eg]
 · refine (hseq (w.heap.size + 1)
    (fun pre W => I pre W ∧ W.heap[w.heap.size + 1]? = some (.loop (rec .ready none)) ∧ W.heap[w.heap.size]? = some (.deferred (some [])))
    (fun ch W => Ip ch W ∧ W.heap[w.heap.size]? = some (.deferred (some [])))
    W1 hb1
    (fun pre A B hs ht => ⟨hIt pre A B hs.1 ht, hTi A B _ _ ht hs.2.1 rfl, hTi A B _ _ ht hs.2.2 rfl⟩)
    ?_ ⟨hI1, hL1, hK1⟩).mono ?_
   ·
    rintro pre x W ⟨hi, hl, hk⟩ hlen
    have hlt : w.heap.size + 1 < W.heap.size := (Array.getElem?_eq_some_iff.1 hl).1
    have hy := run_yield (P := P) (args := encs x) hl (by rw [hrec]; exact hps x)
    rw [hrec] at hy
    refine ⟨fn, _, assign, body, hy, roundIn_of_wpInP hfn hfd (hassign _ pre x W _ hi ?_)⟩
    intro a' Wa hax hka hkt
    have hla := hka.same _ _ hl rfl
    have hkka := hka.same _ _ hk rfl
    have hlta : w.heap.size + 1 < Wa.heap.size := (Array.getElem?_eq_some_iff.1 hla).1
    refine ⟨_, run_beginRound hla (by rw [hrec]), ?_⟩
    have hl2 : (Wa.putObj (w.heap.size + 1) (.loop { rec .ready none with state := .busy })).heap[w.heap.size + 1]? = some (.loop { rec .ready none with state := .busy }) := World.putObj_heap_same hlta
    have hk2 : (Wa.putObj (w.heap.size + 1) (.loop { rec .ready none with state := .busy })).heap[w.heap.size]? = some (.deferred (some [])) := (World.putObj_heap_other (by omega)).trans hkka
    have hkt2 : Kt W (Wa.putObj (w.heap.size + 1) (.loop { rec .ready none with state := .busy })) := hKt _ _ _ hkt (hKp _ _ _ _ hla rfl)
    refine wpIn_mono (hbody _ pre x _ _ (hAx _ _ _ _ _ _ _ hax (by omega) hla rfl) hlen) ?_
    rintro e a3 W3 hp
    cases e with
    | normal =>
     obtain ⟨hk3, hi3, hkt3⟩ := hp
     have hl3 := hk3.same _ _ hl2 rfl
     have hr := run_endRound (P := P) none hl3
     have hlt3 : w.heap.size + 1 < W3.heap.size := (Array.getElem?_eq_some_iff.1 hl3).1
     refine ⟨_, _, hr, .inl ⟨rfl, ⟨hIp _ _ _ _ _ hi3 (by omega) hl3 rfl, ?_, (World.putObj_heap_other (by omega)).trans (hk3.same _ _ hk2 rfl)⟩, hKt _ _ _ hkt2 (hKt _ _ _ hkt3 (hKp _ _ _ _ hl3 rfl))⟩⟩
     refine (World.putObj_heap_same hlt3).trans ?_
     rw [hrec]; rfl
    | panic ch =>
     obtain ⟨hd, hk3, hip⟩ := hp
     exact ⟨hd, .inr ⟨ch, rfl, hip, hk3.same _ _ hk2 rfl⟩⟩
    | ret => exact hp.elim
    | exit id => exact hp.elim
    | goto t => exact hp.elim
    | outgrown => exact hp.elim
   ·
    rintro e W2 (⟨v, rfl, hi, hl, hk⟩ | ⟨ch, rfl, hip, hk⟩)
    · exact ⟨none, _, by have := run_endLoop (P := P) hl (by rw [hrec]; simp); rw [hrec] at this; exact this, hdone _ _ (hIp _ _ _ _ _ hi (by omega) hl rfl) (Nat.le_refl _) ((World.putObj_heap_other (by omega)).trans hk)⟩
    · exact hpanic _ ch _ hip (Nat.le_refl _) hk
end Go

namespace Go.Proofs.Ytlffhagjpfcecaa.PA
open Go.RowKit Go.Shelf Go.Proofs.YtlffhagjpfcecaaW.PrintWords Go.Proofs.YtlffhagjpfcecaaW.PrintLast Go.Proofs.YtlffhagjpfcecaaW.PrintMore
attribute [local go_sem] Oper.semAt_some max2_int min2_int max_two min_two
set_option linter.unusedVariables false
set_option linter.unusedSimpArgs false
theorem w64 {x : Int} (h0 : -9223372036854775808 ≤ x) (h1 : x ≤ 9223372036854775807) : wrap64 x = x := by unfold wrap64; omega
def cntN (e p fr : Int) : Int := if 0 < e ∧ p < e then (if e - p < fr then e - p else fr) else fr
def nxtP (b e p fr : Int) : Int := if (0 < e ∧ p < e) ∧ p + cntN e p fr = e then b else p + cntN e p fr
def partsL (b e : Int) : Nat → Int → Int → List (Int × Int)
 | 0, _, _ => []
 | k + 1, p, fr => if 0 < fr then (p, cntN e p fr) :: partsL b e k (nxtP b e p fr) (fr - cntN e p fr) else []
structure Bd (b e p fr : Int) : Prop where
 b0 : 0 ≤ b
 b1 : b ≤ 1000000000
 e0 : 0 ≤ e
 e1 : e ≤ 1000000000
 p0 : 0 ≤ p
 p1 : p + fr ≤ 1000020000
 f0 : 0 ≤ fr
 f1 : fr ≤ 20000
theorem cntN_pos {e p fr : Int} (h : 0 < fr) : 1 ≤ cntN e p fr ∧ cntN e p fr ≤ fr := by
 unfold cntN; split <;> (try split) <;> omega
theorem Bd.next {b e p fr : Int} (h : Bd b e p fr) (hf : 0 < fr) : Bd b e (nxtP b e p fr) (fr - cntN e p fr) := by
 obtain ⟨h1, h2, h3, h4, h5, h6, h7, h8⟩ := h
 have := cntN_pos (e := e) (p := p) hf
 unfold nxtP
 split <;> exact ⟨h1, h2, h3, h4, by omega, by omega, by omega, by omega⟩
theorem partsL_more (b e : Int) : ∀ (k j : Nat) (p fr : Int), fr.toNat ≤ k → fr.toNat ≤ j → partsL b e k p fr = partsL b e j p fr := by
 intro k
 induction k with
 | zero =>
  intro j p fr h1 h2
  cases j with
  | zero => rfl
  | succ j => simp [partsL, show ¬ 0 < fr by omega]
 | succ k ih =>
  intro j p fr h1 h2
  by_cases hf : 0 < fr
  · obtain ⟨j, rfl⟩ : ∃ m, j = m + 1 := ⟨j - 1, by omega⟩
    have := cntN_pos (e := e) (p := p) hf
    simp only [partsL, if_pos hf]
    rw [ih j _ _ (by omega) (by omega)]
  · cases j with
    | zero => simp [partsL, hf]
    | succ j => simp [partsL, hf]
theorem partsL_step {b e p fr : Int} (hf : 0 < fr) : partsL b e fr.toNat p fr = (p, cntN e p fr) :: partsL b e (fr - cntN e p fr).toNat (nxtP b e p fr) (fr - cntN e p fr) := by
 obtain ⟨m, hm⟩ : ∃ m, fr.toNat = m + 1 := ⟨fr.toNat - 1, by omega⟩
 have := cntN_pos (e := e) (p := p) hf
 rw [hm]
 simp only [partsL, if_pos hf]
 rw [partsL_more b e m (fr - cntN e p fr).toNat _ _ (by omega) (Nat.le_refl _)]
def KtB (bL bP bF : Nat) (A B : World) : Prop := ∀ (k : Nat) (cs : Array Value) (t : TypeId), ((k = bL ∧ t = 70) ∨ (k = bP ∧ t = 3) ∨ (k = bF ∧ t = 3)) → A.heap[k]? = some (.cells cs t (0, 0)) → B.heap[k]? = some (.cells cs t (0, 0))
def TiB (bP bF : Nat) (A B : World) : Prop := ∃ (q : Nat) (x : Int), (q = bP ∨ q = bF) ∧ B = A.setCell ⟨q, 0, none⟩ (.int .i64 x)
def encS (x : Int × Int) : Array Value := #[.agg #[.int .i64 x.1, .int .i64 x.2, .bool true]]
def frOf (bF : Nat) (W : World) : Nat := match W.cell? ⟨bF, 0, none⟩ with
 | some (.int _ x) => x.toNat
 | _ => 0
theorem frOf_eq {bF : Nat} {W : World} {x : Int} (h : Boxed W bF 3 (.int .i64 x)) : frOf bF W = x.toNat := by simp [frOf, h.cell]
theorem heap_setOther (W : World) (q : Nat) (v : Value) (k : Nat) (h : k ≠ q) : (W.setCell ⟨q, 0, none⟩ v).heap[k]? = W.heap[k]? := Below.heap_setCell W ⟨q, 0, none⟩ v k h
theorem bx_other {W : World} {B q : Nat} {t : TypeId} {v : Value} (h : Boxed W B t v) (hne : B ≠ q) (x : Value) : Boxed (W.setCell ⟨q, 0, none⟩ x) B t v := (heap_setOther W q x B hne).trans h
set_option maxRecDepth 100000 in
set_option maxHeartbeats 8000000 in
theorem parts1_in (F : Fence) (n : Nat) (h76 : F.fn 76) (hro : F.round = none) (hn : 1 ≤ n) (bL bP bF : Nat) (hne1 : bL ≠ bP) (hne2 : bL ≠ bF) (hne3 : bP ≠ bF) (b e p fr : Int) (hBd : Bd b e p fr) (w : World)
 (hL : w.heap[bL]? = some (.cells #[.int .i64 b, .int .i64 e] 70 (0, 0))) (hP : Boxed w bP 3 (.int .i64 p)) (hF : Boxed w bF 3 (.int .i64 fr)) :
 IterP F n Try.prog 76 #[.pointer (some ⟨bF, 0, none⟩), .pointer (some ⟨bL, 0, none⟩), .pointer (some ⟨bP, 0, none⟩)] encS (partsL b e fr.toNat p fr) (KtB bL bP bF) (TiB bP bF) w := by
 intro l J Jp W hK hT hY h0
 have hL := hK _ _ _ (.inl ⟨rfl, rfl⟩) hL
 have hP := hK _ _ _ (.inr (.inl ⟨rfl, rfl⟩)) hP
 have hF := hK _ _ _ (.inr (.inr ⟨rfl, rfl⟩)) hF
 clear hK
 refine callsIn_of_wp Try.func76 rfl h76 ?_ hro
 simp only [Try.ntmps76, List.size_toArray, List.length_cons, List.length_nil, Nat.reduceAdd, Nat.reduceSub, Array.replicate_succ, Array.replicate_zero, List.push_toArray, List.append_toArray, List.nil_append, List.cons_append]
 gi_wp2
 gi_loopw [5] (fun (s5 : Value) wr => ∃ (pre : List (Int × Int)) (p' fr' : Int), Bd b e p' fr' ∧ partsL b e fr.toNat p fr = pre ++ partsL b e fr'.toNat p' fr' ∧ Boxed wr bF 3 (.int .i64 fr') ∧ Boxed wr bP 3 (.int .i64 p') ∧ wr.heap[bL]? = some (.cells #[.int .i64 b, .int .i64 e] 70 (0, 0)) ∧ J pre wr)
  (fun s5 wr => frOf bF wr)
 case atStart => exact ⟨[], p, fr, hBd, rfl, hF, hP, hL, h0⟩
 case round =>
  obtain ⟨pre, p', fr', hB', hx, hF', hP', hL', hJ⟩ := hrel
  have cF := hF'.cell
  have cP := hP'.cell
  have fF := hF'.frozen
  have fP := hP'.frozen
  have cL0 : wr.cell? ⟨bL, 0, none⟩ = some (.int .i64 b) := by simp [World.cell?, hL']
  have cL1 : wr.cell? ⟨bL, 1, none⟩ = some (.int .i64 e) := by simp [World.cell?, hL']
  obtain ⟨x1, x2, x3, x4, x5, x6, x7, x8⟩ := hB'
  have hFr := hF'
  by_cases hf : 0 < fr'
  · obtain ⟨fn, tmps, assign, body, hy, hR⟩ := hY pre (p', cntN e p' fr') wr hJ ⟨_, by rw [hx, partsL_step hf]⟩
    dsimp only [encS] at hy
    by_cases ht : 0 < e ∧ p' < e
    · obtain ⟨t1, t2⟩ := ht
      have hw : wrap64 (e - p') = e - p' := w64 (by omega) (by omega)
      by_cases hm : e - p' < fr'
      · have hc : cntN e p' fr' = e - p' := by unfold cntN; rw [if_pos ⟨t1, t2⟩, if_pos hm]
        have hn' : nxtP b e p' fr' = b := by unfold nxtP; rw [hc, if_pos ⟨⟨t1, t2⟩, by omega⟩]
        rw [hc] at hy hR
        gi_wp2
        refine hR.mono ?_
        rintro ee W3 (⟨rfl, hJ3, hk3⟩ | ⟨ch, rfl, hJp⟩)
        · have hL3 := hk3 _ _ _ (.inl ⟨rfl, rfl⟩) hL'
          have hP3 : Boxed W3 bP 3 _ := hk3 _ _ _ (.inr (.inl ⟨rfl, rfl⟩)) hP'
          have hF3 : Boxed W3 bF 3 _ := hk3 _ _ _ (.inr (.inr ⟨rfl, rfl⟩)) hF'
          clear cF cP fF fP cL0 cL1 hk3 hy hR hF' hP' hL' hJ
          have cF := hF3.cell
          have cP := hP3.cell
          have fF := hF3.frozen
          have fP := hP3.frozen
          have cL0 : W3.cell? ⟨bL, 0, none⟩ = some (.int .i64 b) := by simp [World.cell?, hL3]
          have cL1 : W3.cell? ⟨bL, 1, none⟩ = some (.int .i64 e) := by simp [World.cell?, hL3]
          have hs1 : ∀ v, (W3.setCell ⟨bP, 0, none⟩ v).cell? ⟨bF, 0, none⟩ = some (.int .i64 fr') := fun v => (bx_other hF3 (Ne.symm hne3) v).cell
          have hs2 : ∀ v v', ((W3.setCell ⟨bP, 0, none⟩ v).setCell ⟨bF, 0, none⟩ v').cell? ⟨bP, 0, none⟩ = some v := fun v v' => (bx_other (hP3.set v) hne3 v').cell
          have hs3 : ∀ v v', ((W3.setCell ⟨bP, 0, none⟩ v).setCell ⟨bF, 0, none⟩ v').cell? ⟨bL, 1, none⟩ = some (.int .i64 e) := fun v v' => by simp [World.cell?, (heap_setOther _ bF v' bL hne2).trans ((heap_setOther _ bP v bL hne1).trans hL3)]
          have hs4 : ∀ v v', ((W3.setCell ⟨bP, 0, none⟩ v).setCell ⟨bF, 0, none⟩ v').cell? ⟨bL, 0, none⟩ = some (.int .i64 b) := fun v v' => by simp [World.cell?, (heap_setOther _ bF v' bL hne2).trans ((heap_setOther _ bP v bL hne1).trans hL3)]
          have hs5 : ∀ v v', ((W3.setCell ⟨bP, 0, none⟩ v).setCell ⟨bF, 0, none⟩ v').frozen? ⟨bP, 0, none⟩ = false := fun v v' => (bx_other (hP3.set v) hne3 v').frozen
          have hs6 : ∀ v, (W3.setCell ⟨bP, 0, none⟩ v).frozen? ⟨bF, 0, none⟩ = false := fun v => (bx_other hF3 (Ne.symm hne3) v).frozen
          have hw1 : wrap64 (p' + (e - p')) = p' + (e - p') := w64 (by omega) (by omega)
          have hw2 : wrap64 (fr' - (e - p')) = fr' - (e - p') := w64 (by omega) (by omega)
          have hq : (p' + (e - p') == e) = true := by simp; omega
          gi_wp2
          go_roundw
          case rel => exact ⟨pre ++ [(p', (e - p'))], b, fr' - (e - p'), ⟨by omega, by omega, by omega, by omega, by omega, by omega, by omega, by omega⟩, by rw [hx, partsL_step hf, hc, hn']; simp, bx_other ((bx_other hF3 (Ne.symm hne3) _).set _) (Ne.symm hne3) _, (bx_other (hP3.set _) hne3 _).set _, (heap_setOther _ _ _ _ hne1).trans ((heap_setOther _ _ _ _ hne2).trans ((heap_setOther _ _ _ _ hne1).trans hL3)), hT _ _ _ (hT _ _ _ (hT _ _ _ hJ3 ⟨_, _, .inl rfl, rfl⟩) ⟨_, _, .inr rfl, rfl⟩) ⟨_, _, .inl rfl, rfl⟩⟩
          case measure => rw [frOf_eq (bx_other ((bx_other hF3 (Ne.symm hne3) _).set _) (Ne.symm hne3) _), frOf_eq hFr]; omega
        · gi_wp2
          exact ⟨rfl, .inr ⟨ch, rfl, hJp⟩⟩
      · have hc : cntN e p' fr' = fr' := by unfold cntN; rw [if_pos ⟨t1, t2⟩, if_neg hm]
        rw [hc] at hy hR
        by_cases hh : p' + fr' = e
        · have hn' : nxtP b e p' fr' = b := by unfold nxtP; rw [hc, if_pos ⟨⟨t1, t2⟩, hh⟩]
          gi_wp2
          refine hR.mono ?_
          rintro ee W3 (⟨rfl, hJ3, hk3⟩ | ⟨ch, rfl, hJp⟩)
          · have hL3 := hk3 _ _ _ (.inl ⟨rfl, rfl⟩) hL'
            have hP3 : Boxed W3 bP 3 _ := hk3 _ _ _ (.inr (.inl ⟨rfl, rfl⟩)) hP'
            have hF3 : Boxed W3 bF 3 _ := hk3 _ _ _ (.inr (.inr ⟨rfl, rfl⟩)) hF'
            clear cF cP fF fP cL0 cL1 hk3 hy hR hF' hP' hL' hJ
            have cF := hF3.cell
            have cP := hP3.cell
            have fF := hF3.frozen
            have fP := hP3.frozen
            have cL0 : W3.cell? ⟨bL, 0, none⟩ = some (.int .i64 b) := by simp [World.cell?, hL3]
            have cL1 : W3.cell? ⟨bL, 1, none⟩ = some (.int .i64 e) := by simp [World.cell?, hL3]
            have hs1 : ∀ v, (W3.setCell ⟨bP, 0, none⟩ v).cell? ⟨bF, 0, none⟩ = some (.int .i64 fr') := fun v => (bx_other hF3 (Ne.symm hne3) v).cell
            have hs2 : ∀ v v', ((W3.setCell ⟨bP, 0, none⟩ v).setCell ⟨bF, 0, none⟩ v').cell? ⟨bP, 0, none⟩ = some v := fun v v' => (bx_other (hP3.set v) hne3 v').cell
            have hs3 : ∀ v v', ((W3.setCell ⟨bP, 0, none⟩ v).setCell ⟨bF, 0, none⟩ v').cell? ⟨bL, 1, none⟩ = some (.int .i64 e) := fun v v' => by simp [World.cell?, (heap_setOther _ bF v' bL hne2).trans ((heap_setOther _ bP v bL hne1).trans hL3)]
            have hs4 : ∀ v v', ((W3.setCell ⟨bP, 0, none⟩ v).setCell ⟨bF, 0, none⟩ v').cell? ⟨bL, 0, none⟩ = some (.int .i64 b) := fun v v' => by simp [World.cell?, (heap_setOther _ bF v' bL hne2).trans ((heap_setOther _ bP v bL hne1).trans hL3)]
            have hs5 : ∀ v v', ((W3.setCell ⟨bP, 0, none⟩ v).setCell ⟨bF, 0, none⟩ v').frozen? ⟨bP, 0, none⟩ = false := fun v v' => (bx_other (hP3.set v) hne3 v').frozen
            have hs6 : ∀ v, (W3.setCell ⟨bP, 0, none⟩ v).frozen? ⟨bF, 0, none⟩ = false := fun v => (bx_other hF3 (Ne.symm hne3) v).frozen
            have hw1 : wrap64 (p' + fr') = p' + fr' := w64 (by omega) (by omega)
            have hw2 : wrap64 (fr' - fr') = fr' - fr' := w64 (by omega) (by omega)
            have hq : (p' + fr' == e) = true := by simp; omega
            gi_wp2
            go_roundw
            case rel => exact ⟨pre ++ [(p', fr')], b, 0, ⟨by omega, by omega, by omega, by omega, by omega, by omega, by omega, by omega⟩, by rw [hx, partsL_step hf, hc, hn', Int.sub_self]; simp, bx_other ((bx_other hF3 (Ne.symm hne3) _).set _) (Ne.symm hne3) _, (bx_other (hP3.set _) hne3 _).set _, (heap_setOther _ _ _ _ hne1).trans ((heap_setOther _ _ _ _ hne2).trans ((heap_setOther _ _ _ _ hne1).trans hL3)), hT _ _ _ (hT _ _ _ (hT _ _ _ hJ3 ⟨_, _, .inl rfl, rfl⟩) ⟨_, _, .inr rfl, rfl⟩) ⟨_, _, .inl rfl, rfl⟩⟩
            case measure => rw [frOf_eq (bx_other ((bx_other hF3 (Ne.symm hne3) _).set _) (Ne.symm hne3) _), frOf_eq hFr]; omega
          · gi_wp2
            exact ⟨rfl, .inr ⟨ch, rfl, hJp⟩⟩
        · have hn' : nxtP b e p' fr' = p' + fr' := by unfold nxtP; rw [hc, if_neg (fun h => hh h.2)]
          gi_wp2
          refine hR.mono ?_
          rintro ee W3 (⟨rfl, hJ3, hk3⟩ | ⟨ch, rfl, hJp⟩)
          · have hL3 := hk3 _ _ _ (.inl ⟨rfl, rfl⟩) hL'
            have hP3 : Boxed W3 bP 3 _ := hk3 _ _ _ (.inr (.inl ⟨rfl, rfl⟩)) hP'
            have hF3 : Boxed W3 bF 3 _ := hk3 _ _ _ (.inr (.inr ⟨rfl, rfl⟩)) hF'
            clear cF cP fF fP cL0 cL1 hk3 hy hR hF' hP' hL' hJ
            have cF := hF3.cell
            have cP := hP3.cell
            have fF := hF3.frozen
            have fP := hP3.frozen
            have cL0 : W3.cell? ⟨bL, 0, none⟩ = some (.int .i64 b) := by simp [World.cell?, hL3]
            have cL1 : W3.cell? ⟨bL, 1, none⟩ = some (.int .i64 e) := by simp [World.cell?, hL3]
            have hs1 : ∀ v, (W3.setCell ⟨bP, 0, none⟩ v).cell? ⟨bF, 0, none⟩ = some (.int .i64 fr') := fun v => (bx_other hF3 (Ne.symm hne3) v).cell
            have hs2 : ∀ v v', ((W3.setCell ⟨bP, 0, none⟩ v).setCell ⟨bF, 0, none⟩ v').cell? ⟨bP, 0, none⟩ = some v := fun v v' => (bx_other (hP3.set v) hne3 v').cell
            have hs3 : ∀ v v', ((W3.setCell ⟨bP, 0, none⟩ v).setCell ⟨bF, 0, none⟩ v').cell? ⟨bL, 1, none⟩ = some (.int .i64 e) := fun v v' => by simp [World.cell?, (heap_setOther _ bF v' bL hne2).trans ((heap_setOther _ bP v bL hne1).trans hL3)]
            have hs4 : ∀ v v', ((W3.setCell ⟨bP, 0, none⟩ v).setCell ⟨bF, 0, none⟩ v').cell? ⟨bL, 0, none⟩ = some (.int .i64 b) := fun v v' => by simp [World.cell?, (heap_setOther _ bF v' bL hne2).trans ((heap_setOther _ bP v bL hne1).trans hL3)]
            have hs5 : ∀ v v', ((W3.setCell ⟨bP, 0, none⟩ v).setCell ⟨bF, 0, none⟩ v').frozen? ⟨bP, 0, none⟩ = false := fun v v' => (bx_other (hP3.set v) hne3 v').frozen
            have hs6 : ∀ v, (W3.setCell ⟨bP, 0, none⟩ v).frozen? ⟨bF, 0, none⟩ = false := fun v => (bx_other hF3 (Ne.symm hne3) v).frozen
            have hw1 : wrap64 (p' + fr') = p' + fr' := w64 (by omega) (by omega)
            have hw2 : wrap64 (fr' - fr') = fr' - fr' := w64 (by omega) (by omega)
            have hq : (p' + fr' == e) = false := by simp; omega
            gi_wp2
            go_roundw
            case rel => exact ⟨pre ++ [(p', fr')], p' + fr', 0, ⟨by omega, by omega, by omega, by omega, by omega, by omega, by omega, by omega⟩, by rw [hx, partsL_step hf, hc, hn', Int.sub_self]; simp, (bx_other hF3 (Ne.symm hne3) _).set _, bx_other (hP3.set _) hne3 _, (heap_setOther _ _ _ _ hne2).trans ((heap_setOther _ _ _ _ hne1).trans hL3), hT _ _ _ (hT _ _ _ hJ3 ⟨_, _, .inl rfl, rfl⟩) ⟨_, _, .inr rfl, rfl⟩⟩
            case measure => rw [frOf_eq ((bx_other hF3 (Ne.symm hne3) _).set _), frOf_eq hFr]; omega
          · gi_wp2
            exact ⟨rfl, .inr ⟨ch, rfl, hJp⟩⟩
    · have hc : cntN e p' fr' = fr' := by unfold cntN; rw [if_neg ht]
      have hn' : nxtP b e p' fr' = p' + fr' := by unfold nxtP; rw [hc, if_neg (fun h => ht h.1)]
      rw [hc] at hy hR
      by_cases t1 : 0 < e
      · have t2 : ¬ p' < e := fun h => ht ⟨t1, h⟩
        gi_wp2
        refine hR.mono ?_
        rintro ee W3 (⟨rfl, hJ3, hk3⟩ | ⟨ch, rfl, hJp⟩)
        · have hL3 := hk3 _ _ _ (.inl ⟨rfl, rfl⟩) hL'
          have hP3 : Boxed W3 bP 3 _ := hk3 _ _ _ (.inr (.inl ⟨rfl, rfl⟩)) hP'
          have hF3 : Boxed W3 bF 3 _ := hk3 _ _ _ (.inr (.inr ⟨rfl, rfl⟩)) hF'
          clear cF cP fF fP cL0 cL1 hk3 hy hR hF' hP' hL' hJ
          have cF := hF3.cell
          have cP := hP3.cell
          have fF := hF3.frozen
          have fP := hP3.frozen
          have cL0 : W3.cell? ⟨bL, 0, none⟩ = some (.int .i64 b) := by simp [World.cell?, hL3]
          have cL1 : W3.cell? ⟨bL, 1, none⟩ = some (.int .i64 e) := by simp [World.cell?, hL3]
          have hs1 : ∀ v, (W3.setCell ⟨bP, 0, none⟩ v).cell? ⟨bF, 0, none⟩ = some (.int .i64 fr') := fun v => (bx_other hF3 (Ne.symm hne3) v).cell
          have hs2 : ∀ v v', ((W3.setCell ⟨bP, 0, none⟩ v).setCell ⟨bF, 0, none⟩ v').cell? ⟨bP, 0, none⟩ = some v := fun v v' => (bx_other (hP3.set v) hne3 v').cell
          have hs3 : ∀ v v', ((W3.setCell ⟨bP, 0, none⟩ v).setCell ⟨bF, 0, none⟩ v').cell? ⟨bL, 1, none⟩ = some (.int .i64 e) := fun v v' => by simp [World.cell?, (heap_setOther _ bF v' bL hne2).trans ((heap_setOther _ bP v bL hne1).trans hL3)]
          have hs4 : ∀ v v', ((W3.setCell ⟨bP, 0, none⟩ v).setCell ⟨bF, 0, none⟩ v').cell? ⟨bL, 0, none⟩ = some (.int .i64 b) := fun v v' => by simp [World.cell?, (heap_setOther _ bF v' bL hne2).trans ((heap_setOther _ bP v bL hne1).trans hL3)]
          have hs5 : ∀ v v', ((W3.setCell ⟨bP, 0, none⟩ v).setCell ⟨bF, 0, none⟩ v').frozen? ⟨bP, 0, none⟩ = false := fun v v' => (bx_other (hP3.set v) hne3 v').frozen
          have hs6 : ∀ v, (W3.setCell ⟨bP, 0, none⟩ v).frozen? ⟨bF, 0, none⟩ = false := fun v => (bx_other hF3 (Ne.symm hne3) v).frozen
          have hw1 : wrap64 (p' + fr') = p' + fr' := w64 (by omega) (by omega)
          have hw2 : wrap64 (fr' - fr') = fr' - fr' := w64 (by omega) (by omega)
          gi_wp2
          go_roundw
          case rel => exact ⟨pre ++ [(p', fr')], p' + fr', 0, ⟨by omega, by omega, by omega, by omega, by omega, by omega, by omega, by omega⟩, by rw [hx, partsL_step hf, hc, hn', Int.sub_self]; simp, (bx_other hF3 (Ne.symm hne3) _).set _, bx_other (hP3.set _) hne3 _, (heap_setOther _ _ _ _ hne2).trans ((heap_setOther _ _ _ _ hne1).trans hL3), hT _ _ _ (hT _ _ _ hJ3 ⟨_, _, .inl rfl, rfl⟩) ⟨_, _, .inr rfl, rfl⟩⟩
          case measure => rw [frOf_eq ((bx_other hF3 (Ne.symm hne3) _).set _), frOf_eq hFr]; omega
        · gi_wp2
          exact ⟨rfl, .inr ⟨ch, rfl, hJp⟩⟩
      · gi_wp2
        refine hR.mono ?_
        rintro ee W3 (⟨rfl, hJ3, hk3⟩ | ⟨ch, rfl, hJp⟩)
        · have hL3 := hk3 _ _ _ (.inl ⟨rfl, rfl⟩) hL'
          have hP3 : Boxed W3 bP 3 _ := hk3 _ _ _ (.inr (.inl ⟨rfl, rfl⟩)) hP'
          have hF3 : Boxed W3 bF 3 _ := hk3 _ _ _ (.inr (.inr ⟨rfl, rfl⟩)) hF'
          clear cF cP fF fP cL0 cL1 hk3 hy hR hF' hP' hL' hJ
          have cF := hF3.cell
          have cP := hP3.cell
          have fF := hF3.frozen
          have fP := hP3.frozen
          have cL0 : W3.cell? ⟨bL, 0, none⟩ = some (.int .i64 b) := by simp [World.cell?, hL3]
          have cL1 : W3.cell? ⟨bL, 1, none⟩ = some (.int .i64 e) := by simp [World.cell?, hL3]
          have hs1 : ∀ v, (W3.setCell ⟨bP, 0, none⟩ v).cell? ⟨bF, 0, none⟩ = some (.int .i64 fr') := fun v => (bx_other hF3 (Ne.symm hne3) v).cell
          have hs2 : ∀ v v', ((W3.setCell ⟨bP, 0, none⟩ v).setCell ⟨bF, 0, none⟩ v').cell? ⟨bP, 0, none⟩ = some v := fun v v' => (bx_other (hP3.set v) hne3 v').cell
          have hs3 : ∀ v v', ((W3.setCell ⟨bP, 0, none⟩ v).setCell ⟨bF, 0, none⟩ v').cell? ⟨bL, 1, none⟩ = some (.int .i64 e) := fun v v' => by simp [World.cell?, (heap_setOther _ bF v' bL hne2).trans ((heap_setOther _ bP v bL hne1).trans hL3)]
          have hs4 : ∀ v v', ((W3.setCell ⟨bP, 0, none⟩ v).setCell ⟨bF, 0, none⟩ v').cell? ⟨bL, 0, none⟩ = some (.int .i64 b) := fun v v' => by simp [World.cell?, (heap_setOther _ bF v' bL hne2).trans ((heap_setOther _ bP v bL hne1).trans hL3)]
          have hs5 : ∀ v v', ((W3.setCell ⟨bP, 0, none⟩ v).setCell ⟨bF, 0, none⟩ v').frozen? ⟨bP, 0, none⟩ = false := fun v v' => (bx_other (hP3.set v) hne3 v').frozen
          have hs6 : ∀ v, (W3.setCell ⟨bP, 0, none⟩ v).frozen? ⟨bF, 0, none⟩ = false := fun v => (bx_other hF3 (Ne.symm hne3) v).frozen
          have hw1 : wrap64 (p' + fr') = p' + fr' := w64 (by omega) (by omega)
          have hw2 : wrap64 (fr' - fr') = fr' - fr' := w64 (by omega) (by omega)
          gi_wp2
          go_roundw
          case rel => exact ⟨pre ++ [(p', fr')], p' + fr', 0, ⟨by omega, by omega, by omega, by omega, by omega, by omega, by omega, by omega⟩, by rw [hx, partsL_step hf, hc, hn', Int.sub_self]; simp, (bx_other hF3 (Ne.symm hne3) _).set _, bx_other (hP3.set _) hne3 _, (heap_setOther _ _ _ _ hne2).trans ((heap_setOther _ _ _ _ hne1).trans hL3), hT _ _ _ (hT _ _ _ hJ3 ⟨_, _, .inl rfl, rfl⟩) ⟨_, _, .inr rfl, rfl⟩⟩
          case measure => rw [frOf_eq ((bx_other hF3 (Ne.symm hne3) _).set _), frOf_eq hFr]; omega
        · gi_wp2
          exact ⟨rfl, .inr ⟨ch, rfl, hJp⟩⟩
  · gi_wp2
    go_end0
    exact .inl ⟨⟨_, rfl⟩, by
     have e0 : partsL b e fr'.toNat p' fr' = [] := by rw [show fr'.toNat = 0 by omega]; rfl
     rw [e0, List.append_nil] at hx
     first | (rw [hx]; exact hJ) | (rw [e0, List.append_nil]; exact hJ)⟩
end Go.Proofs.Ytlffhagjpfcecaa.PA

namespace Go.Proofs.Ytlffhagjpfcecaa.PA
open Go.RowKit Go.Shelf Go.Proofs.YtlffhagjpfcecaaW.PrintWords Go.Proofs.YtlffhagjpfcecaaW.PrintLast Go.Proofs.YtlffhagjpfcecaaW.PrintMore
attribute [local go_sem] Oper.semAt_some
set_option linter.unusedVariables false
set_option linter.unusedSimpArgs false
theorem parts_in (F : Fence) (n : Nat) (h71 : F.fn 71) (hro : F.round = none) (b e p fr : Int) (w : World) :
 CallsIn F n Try.prog 71 #[.agg #[.int .i64 b, .int .i64 e], .int .i64 p, .int .i64 fr] w fun ee w' =>
  ee = .returned (.func (.func 76) #[] #[.pointer (some ⟨w.heap.size + 2, 0, none⟩), .pointer (some ⟨w.heap.size, 0, none⟩), .pointer (some ⟨w.heap.size + 1, 0, none⟩)]) ∧
  w' = ((w.alloc (.cells #[.int .i64 b, .int .i64 e] 70)).alloc (.cells #[.int .i64 p] 3)).alloc (.cells #[.int .i64 fr] 3) := by
 refine callsIn_of_wp Try.func71 rfl h71 ?_ hro
 simp only [Try.ntmps71, List.size_toArray, List.length_cons, List.length_nil, Nat.reduceAdd, Nat.reduceSub, Array.replicate_succ, Array.replicate_zero, List.push_toArray, List.append_toArray, List.nil_append, List.cons_append]
 gi_wp2
 go_ret
 exact ⟨rfl, rfl⟩
def stopV (x : Int) : Value := .iface 77 (.agg #[.int .i64 x])
theorem must_ok (F : Fence) (n : Nat) (h46 : F.fn 46) (hro : F.round = none) (x : Int) (w : World) :
 CallsIn F n Try.prog 46 #[.bool true, .int .i64 x] w fun ee w' => ee = .returned (.tuple #[]) ∧ w' = w := by
 refine callsIn_of_wp Try.func46 rfl h46 ?_ hro
 simp only [Try.ntmps46, List.size_toArray, List.length_cons, List.length_nil, Nat.reduceAdd, Nat.reduceSub, Array.replicate_succ, Array.replicate_zero, List.push_toArray, List.append_toArray, List.nil_append, List.cons_append]
 gi_wp2
 go_end0
 exact ⟨rfl, rfl⟩
theorem must_no (F : Fence) (n : Nat) (h46 : F.fn 46) (hro : F.round = none) (x : Int) (w : World) :
 CallsIn F n Try.prog 46 #[.bool false, .int .i64 x] w fun ee w' => ee = .panicked [{ v := stopV x, recovered := false }] ∧ w' = w := by
 refine callsIn_of_wp Try.func46 rfl h46 ?_ hro
 simp only [Try.ntmps46, List.size_toArray, List.length_cons, List.length_nil, Nat.reduceAdd, Nat.reduceSub, Array.replicate_succ, Array.replicate_zero, List.push_toArray, List.append_toArray, List.nil_append, List.cons_append]
 gi_wp2
 exact ⟨rfl, rfl, rfl⟩
def endP (b e : Int) : Nat → Int → Int → Int
 | 0, p, _ => p
 | k + 1, p, fr => if 0 < fr then endP b e k (nxtP b e p fr) (fr - cntN e p fr) else p
def flatS (l : List (Int × Int)) : List Value := l.flatMap fun x => [.int .i64 x.1, .int .i64 x.2, .bool true]
theorem endP_more (b e : Int) : ∀ (k j : Nat) (p fr : Int), fr.toNat ≤ k → fr.toNat ≤ j → endP b e k p fr = endP b e j p fr := by
 intro k
 induction k with
 | zero =>
  intro j p fr h1 h2
  cases j with
  | zero => rfl
  | succ j => simp [endP, show ¬ 0 < fr by omega]
 | succ k ih =>
  intro j p fr h1 h2
  by_cases hf : 0 < fr
  · obtain ⟨j, rfl⟩ : ∃ m, j = m + 1 := ⟨j - 1, by omega⟩
    have := cntN_pos (e := e) (p := p) hf
    simp only [endP, if_pos hf]
    rw [ih j _ _ (by omega) (by omega)]
  · cases j with
    | zero => simp [endP, hf]
    | succ j => simp [endP, hf]
theorem endP_step {b e p fr : Int} (hf : 0 < fr) : endP b e fr.toNat p fr = endP b e (fr - cntN e p fr).toNat (nxtP b e p fr) (fr - cntN e p fr) := by
 obtain ⟨m, hm⟩ : ∃ m, fr.toNat = m + 1 := ⟨fr.toNat - 1, by omega⟩
 have := cntN_pos (e := e) (p := p) hf
 rw [hm]
 simp only [endP, if_pos hf]
 rw [endP_more b e m (fr - cntN e p fr).toNat _ _ (by omega) (Nat.le_refl _)]
theorem endP_far {b e p fr : Int} (hB : Bd b e p fr) (hf : 0 < fr) (h : 1000000000 < nxtP b e p fr) : 1000000000 < endP b e fr.toNat p fr := by
 rw [endP_step hf]
 obtain ⟨h1, h2, h3, h4, h5, h6, h7, h8⟩ := hB
 have hc : cntN e p fr = fr := by
  unfold nxtP at h
  unfold cntN at h ⊢
  split
  · rename_i ht
    rw [if_pos ht] at h
    split
    · rename_i hm
      rw [if_pos hm, if_pos ⟨ht, by omega⟩] at h
      omega
    · rfl
  · rfl
 rw [hc, Int.sub_self]
 exact h
theorem hal (W : World) (o : Obj) (k : Nat) : (W.alloc o).heap[k]? = if k = W.heap.size then some o else W.heap[k]? := by
 by_cases h : k = W.heap.size
 · rw [if_pos h, h]; exact World.alloc_heap_new W o
 · rw [if_neg h]
   show (W.heap.push o)[k]? = _
   simp [Array.getElem?_push, h]
structure Iw (b e p fr : Int) (m : Nat) (w : World) (pre : List (Int × Int)) (v : Value) (p' fr' : Int) (W : World) : Prop where
 st : W.heap[m]? = some (.cells #[.int .i64 b, .int .i64 e] 70 (0, 0))
 bl : Below m w W
 vb : Boxed W (m + 1) 22 v
 sz : m + 6 ≤ W.heap.size
 row : W.ownsRow (m + 6) 39 3 v pre.length (flatS pre)
 ab : Boxed W (m + 2) 3 (.int .i64 p')
 bd : Bd b e p' fr'
 p1 : p' ≤ 1000000000
 len : pre.length ≤ 100
 all : partsL b e fr.toNat p fr = pre ++ partsL b e fr'.toNat p' fr'
 fin : endP b e fr.toNat p fr = endP b e fr'.toNat p' fr'
def Iv (b e p fr : Int) (m : Nat) (w : World) (pre : List (Int × Int)) (W : World) : Prop := ∃ v p' fr', Iw b e p fr m w pre v p' fr' W
def encs3 (W : World) (Bx : Nat) (x : Int × Int) : Prop := W.heap[Bx]? = some (.cells #[.int .i64 x.1, .int .i64 x.2, .bool true] 39 (0, 0))
theorem row_lt {W : World} {base : Nat} {v : Value} {n : Nat} {xs : List Value} (h : W.ownsRow base 39 3 v n xs) : ∀ k, v.ownBlock = some k → k < W.heap.size := by
 intro k hk
 rcases h.2 with ⟨rfl, _⟩ | ⟨g, cap, cur, rfl, _, hgb, _⟩
 · simp [Value.ownBlock] at hk
 · obtain rfl : g = k := by simpa [Value.ownBlock] using hk
   exact (Array.getElem?_eq_some_iff.1 hgb).1
theorem row_ge {W : World} {base : Nat} {v : Value} {n : Nat} {xs : List Value} (h : W.ownsRow base 39 3 v n xs) : ∀ k, v.ownBlock = some k → base ≤ k := by
 intro k hk
 rcases h.2 with ⟨rfl, _⟩ | ⟨g, cap, cur, rfl, hb, hgb, _⟩
 · simp [Value.ownBlock] at hk
 · obtain rfl : g = k := by simpa [Value.ownBlock] using hk
   exact hb
theorem row_weaken {W : World} {base base' : Nat} {v : Value} {n : Nat} {xs : List Value} (hb : base' ≤ base) (h : W.ownsRow base 39 3 v n xs) : W.ownsRow base' 39 3 v n xs := by
 refine ⟨h.1, ?_⟩
 rcases h.2 with h | ⟨g, cap, cur, h1, h2, h3⟩
 · exact .inl h
 · exact .inr ⟨g, cap, cur, h1, Nat.le_trans hb h2, h3⟩
theorem cells_not_row {W : World} {k : Nat} {cs : Array Value} {t : TypeId} (h : W.heap[k]? = some (.cells cs t (0, 0))) (hte : t ≠ 39) {base n : Nat} {v : Value} {xs : List Value} (hr : W.ownsRow base 39 3 v n xs) : some k ≠ v.ownBlock := by
 rcases hr.2 with ⟨rfl, _⟩ | ⟨g, cap, cur, rfl, _, hgb, _⟩
 · simp [Value.ownBlock]
 · intro e'
   obtain rfl : k = g := by simpa [Value.ownBlock] using e'
   have := h.symm.trans hgb
   simp at this
   exact hte this.2
theorem row_cells {W : World} {base : Nat} {v : Value} {n : Nat} {xs : List Value} (h : W.ownsRow base 39 3 v n xs) (tmp : Obj) : ∀ (j : Nat) (o : Obj), v.ownBlock = some j → (W.alloc tmp).heap[j]? = some o → o.isCells = true := by
 intro j o hj ho
 rcases (h.alloc tmp).2 with ⟨rfl, _⟩ | ⟨g, cap, cur, rfl, _, hgb, _⟩
 · simp [Value.ownBlock] at hj
 · obtain rfl : g = j := by simpa [Value.ownBlock] using hj
   rw [hgb] at ho; cases ho; rfl
theorem app_keep {W w1 : World} {v v' : Value} {tmp o : Obj} {k q : Nat} (hg : (W.alloc tmp).grownBy w1 v.ownBlock) (hne : some k ≠ v.ownBlock) (hkq : k ≠ q) (h : W.heap[k]? = some o) : (w1.setCell ⟨q, 0, none⟩ v').heap[k]? = some o := by
 have hk := (Array.getElem?_eq_some_iff.1 h).1
 refine (heap_setOther w1 q v' k hkq).trans ((hg.block k (by simp; omega) hne).trans ?_)
 exact (Below.heap_alloc W tmp k hk).trans h
theorem cells3_new (W : World) (a b c : Value) (t : TypeId) : ∀ j u, [a, b, c][j]? = some u → (W.alloc (.cells #[a, b, c] t)).cell? ((⟨W.heap.size, 0, none⟩ : Addr).add j) = some u := by
 intro j u h
 match j, h with
 | 0, h => simp at h; subst h; show (W.alloc _).cell? ⟨W.heap.size, 0, none⟩ = _; simp only [World.cell?, World.alloc_heap_new]; rfl
 | 1, h => simp at h; subst h; show (W.alloc _).cell? ⟨W.heap.size, 1, none⟩ = _; simp only [World.cell?, World.alloc_heap_new]; rfl
 | 2, h => simp at h; subst h; show (W.alloc _).cell? ⟨W.heap.size, 2, none⟩ = _; simp only [World.cell?, World.alloc_heap_new]; rfl
 | j + 3, h => simp at h
theorem body_facts {W2 : World} {m Bx : Nat} {b e q c : Int} (st : W2.heap[m]? = some (.cells #[.int .i64 b, .int .i64 e] 70 (0, 0))) (bx : encs3 W2 Bx (q, c)) (at2 : Boxed W2 (m + 2) 3 (.int .i64 q)) (hne : Bx ≠ m + 2) :
 (W2.cell? ⟨Bx, 0, none⟩ = some (.int .i64 q) ∧ W2.cell? ⟨Bx, 1, none⟩ = some (.int .i64 c) ∧ W2.cell? ⟨m + 2, 0, none⟩ = some (.int .i64 q) ∧ W2.frozen? ⟨m + 2, 0, none⟩ = false) ∧
 (∀ u, (W2.setCell ⟨m + 2, 0, none⟩ u).cell? ⟨m, 0, none⟩ = some (.int .i64 b)) ∧ (∀ u, (W2.setCell ⟨m + 2, 0, none⟩ u).cell? ⟨m, 1, none⟩ = some (.int .i64 e)) ∧
 (∀ u, (W2.setCell ⟨m + 2, 0, none⟩ u).cell? ⟨Bx, 0, none⟩ = some (.int .i64 q)) ∧ (∀ u, (W2.setCell ⟨m + 2, 0, none⟩ u).cell? ⟨m + 2, 0, none⟩ = some u) ∧ (∀ u, (W2.setCell ⟨m + 2, 0, none⟩ u).frozen? ⟨m + 2, 0, none⟩ = false) ∧
 (∀ u u', ((W2.setCell ⟨m + 2, 0, none⟩ u).setCell ⟨m + 2, 0, none⟩ u').cell? ⟨m + 2, 0, none⟩ = some u') := by
 unfold encs3 at bx
 refine ⟨⟨by simp [World.cell?, bx], by simp [World.cell?, bx], at2.cell, at2.frozen⟩, fun u => ?_, fun u => ?_, fun u => ?_, fun u => (at2.set u).cell, fun u => (at2.set u).frozen, fun u u' => ((at2.set u).set u').cell⟩
 · simp [World.cell?, (heap_setOther W2 (m + 2) u m (by omega)).trans st]
 · simp [World.cell?, (heap_setOther W2 (m + 2) u m (by omega)).trans st]
 · simp [World.cell?, (heap_setOther W2 (m + 2) u Bx hne).trans bx]
structure Ik (b e : Int) (m : Nat) (w : World) (v : Value) (k : Nat) (xs : List Value) (q : Int) (W : World) : Prop where
 st : W.heap[m]? = some (.cells #[.int .i64 b, .int .i64 e] 70 (0, 0))
 bl : Below m w W
 vb : Boxed W (m + 1) 22 v
 sz : m + 6 ≤ W.heap.size
 row : W.ownsRow (m + 6) 39 3 v k xs
 ab : Boxed W (m + 2) 3 (.int .i64 q)
theorem size_set (W : World) (q : Nat) (v : Value) : (W.setCell ⟨q, 0, none⟩ v).heap.size = W.heap.size := by
 show (W.heap.modify q _).size = _
 simp
theorem Ik.set {b e : Int} {m : Nat} {w : World} {v : Value} {k : Nat} {xs : List Value} {q : Int} {W : World} (h : Ik b e m w v k xs q W) (q' : Int) : Ik b e m w v k xs q' (W.setCell ⟨m + 2, 0, none⟩ (.int .i64 q')) :=
 ⟨(heap_setOther W _ _ _ (by omega)).trans h.st, h.bl.setCell (p := ⟨m + 2, 0, none⟩) (by simp) _, bx_other h.vb (by omega) _, by rw [size_set]; exact h.sz, h.row.kept (grownBy_setCell' W _ _) (.inr (fun ee => by have := row_ge h.row _ ee; omega)), h.ab.set _⟩
theorem Ik.app {b e : Int} {m : Nat} {w : World} {v v' : Value} {k k' : Nat} {xs ys : List Value} {q : Int} {W w1 : World} {tmp : Obj} (h : Ik b e m w v k xs q W) (hgrow : (W.alloc tmp).grownBy w1 v.ownBlock) (hown : w1.ownsRow (m + 6) 39 3 v' k' ys) :
 Ik b e m w v' k' ys q (w1.setCell ⟨m + 1, 0, none⟩ v') ∧ KeepsOthers W (w1.setCell ⟨m + 1, 0, none⟩ v') ∧ KtB (m + 1 + 1 + 1) (m + 1 + 1 + 1 + 1) (m + 1 + 1 + 1 + 2) W (w1.setCell ⟨m + 1, 0, none⟩ v') := by
 have hs1 : W.heap.size + 1 ≤ w1.heap.size := by have := hgrow.size; simpa using this
 have hsz := h.sz
 refine ⟨⟨app_keep hgrow (cells_not_row h.st (by decide) h.row) (by omega) h.st, ?_, ?_, ?_, ?_, app_keep hgrow (cells_not_row h.ab (by decide) h.row) (by omega) h.ab⟩, ?_, ?_⟩
 · exact ((h.bl.alloc (by omega) _).grown hgrow (by simp; omega) (fun j ej => by have := row_ge h.row j ej; omega)).setCell (p := ⟨m + 1, 0, none⟩) (by simp) _
 · exact ((h.vb.alloc tmp).kept hgrow (cells_not_row h.vb (by decide) h.row)).set v'
 · rw [size_set]; omega
 · exact hown.kept (grownBy_setCell' w1 _ _) (.inr (fun ee => by have := row_ge hown _ ee; omega))
 · exact ((KeepsOthers.alloc W tmp).trans (KeepsOthers.of_grownBy hgrow (row_cells h.row tmp))).trans (KeepsOthers.setCell _ _ _)
 · intro j cs t hj hh
   refine app_keep hgrow (cells_not_row hh ?_ h.row) (by omega) hh
   rcases hj with ⟨_, rfl⟩ | ⟨_, rfl⟩ | ⟨_, rfl⟩ <;> decide
theorem Iw.of {b e p fr : Int} {m : Nat} {w : World} {pre : List (Int × Int)} {v : Value} {k : Nat} {xs : List Value} {q fr' : Int} {W : World} (h : Ik b e m w v k xs q W) (hk : k = pre.length) (hx : xs = flatS pre) (bd : Bd b e q fr') (p1 : q ≤ 1000000000) (len : pre.length ≤ 100)
 (all : partsL b e fr.toNat p fr = pre ++ partsL b e fr'.toNat q fr') (fin : endP b e fr.toNat p fr = endP b e fr'.toNat q fr') : Iv b e p fr m w pre W := by
 subst hk
 subst hx
 exact ⟨v, q, fr', h.st, h.bl, h.vb, h.sz, h.row, h.ab, bd, p1, len, all, fin⟩
theorem kt_set (W : World) (m : Nat) (v : Value) : KtB (m + 1 + 1 + 1) (m + 1 + 1 + 1 + 1) (m + 1 + 1 + 1 + 2) W (W.setCell ⟨m + 2, 0, none⟩ v) :=
 fun j cs t hj hh => (heap_setOther W _ _ _ (by omega)).trans hh
theorem kt_trans {x y z : Nat} {A B C : World} (h : KtB x y z A B) (h' : KtB x y z B C) : KtB x y z A C := fun j cs t hj hh => h' j cs t hj (h j cs t hj hh)
theorem info39p : (Try.prog.info? 39).map (fun i => (i.zero, i.size, i.bytes)) = some (some (.agg #[.int .i64 0, .int .i64 0, .bool false]), 3, 24) := by kernel_rfl
set_option maxRecDepth 100000 in
set_option maxHeartbeats 8000000 in
theorem spans_in (F : Fence) (n : Nat) (h65 : F.fn 65) (h71 : F.fn 71) (h76 : F.fn 76) (h46 : F.fn 46) (hro : F.round = none) (hfnP : ∀ fn, F.fn fn → ∃ f, Try.prog.funcs[fn]? = some f) (hn : 5 ≤ n) (b e p fr : Int) (hBd : Bd b e p fr) (hp : p ≤ 1000000000) (w : World) :
 CallsIn F n Try.prog 65 #[.agg #[.int .i64 b, .int .i64 e], .int .i64 p, .int .i64 fr] w fun ee W' =>
  (∃ v, ee = .returned (.tuple #[v, .int .i64 (endP b e fr.toNat p fr)]) ∧ (partsL b e fr.toNat p fr).length ≤ 100 ∧ endP b e fr.toNat p fr ≤ 1000000000 ∧
   W'.ownsRow w.heap.size 39 3 v (partsL b e fr.toNat p fr).length (flatS (partsL b e fr.toNat p fr)) ∧ Below w.heap.size w W') ∨
  (ee = .panicked [{ v := stopV 4, recovered := false }] ∧ (100 < (partsL b e fr.toNat p fr).length ∨ 1000000000 < endP b e fr.toNat p fr) ∧ Below w.heap.size w W') := by
 have h1 : 1 ≤ n := by omega
 refine callsIn_of_wp_marks Try.func65 rfl h65 ?_ hro
 simp only [Try.ntmps65, List.size_toArray, List.length_cons, List.length_nil, Nat.reduceAdd, Nat.reduceSub, Array.replicate_succ, Array.replicate_zero, List.push_toArray, List.append_toArray, List.nil_append, List.cons_append]
 gi_wp2_with (gi_at_call 71; refine (parts_in F (n - 1) h71 hro b e p fr _).mono ?_; rintro ee w' ⟨rfl, rfl⟩)
 have hwS : w.heap.size + 1 + 1 + 1 + 2 = w.heap.size + 5 := by omega
 obtain ⟨W0, hW0⟩ : ∃ W0, ((((((w.alloc (Obj.cells #[.int .i64 b, .int .i64 e] 70)).alloc (Obj.cells #[.slice none 0 0] 22)).alloc (Obj.cells #[.int .i64 p] 3)).alloc (Obj.cells #[.int .i64 b, .int .i64 e] 70)).alloc (Obj.cells #[.int .i64 p] 3)).alloc (Obj.cells #[.int .i64 fr] 3)) = W0 := ⟨_, rfl⟩
 have sz : W0.heap.size = w.heap.size + 6 := by rw [← hW0]; simp
 have hB0 : Below w.heap.size w W0 := by
  rw [← hW0]
  exact ((((((Below.refl _ w).alloc (by simp) _).alloc (by simp) _).alloc (by simp; omega) _).alloc (by simp; omega) _).alloc (by simp; omega) _).alloc (by simp; omega) _
 have g0 : W0.heap[w.heap.size]? = some (.cells #[.int .i64 b, .int .i64 e] 70 (0, 0)) := by
  rw [← hW0]; simp only [hal, World.size_alloc]; repeat (first | rw [if_pos (by omega)] | rw [if_pos trivial] | rw [if_neg (by omega)])
 have g1 : Boxed W0 (w.heap.size + 1) 22 (.slice none 0 0) := by
  unfold Boxed; rw [← hW0]; simp only [hal, World.size_alloc]; repeat (first | rw [if_pos (by omega)] | rw [if_pos trivial] | rw [if_neg (by omega)])
 have g2 : Boxed W0 (w.heap.size + 2) 3 (.int .i64 p) := by
  unfold Boxed; rw [← hW0]; simp only [hal, World.size_alloc]; repeat (first | rw [if_pos (by omega)] | rw [if_pos trivial] | rw [if_neg (by omega)])
 have g3 : W0.heap[w.heap.size + 1 + 1 + 1]? = some (.cells #[.int .i64 b, .int .i64 e] 70 (0, 0)) := by
  rw [← hW0]; simp only [hal, World.size_alloc]; repeat (first | rw [if_pos (by omega)] | rw [if_pos trivial] | rw [if_neg (by omega)])
 have g4 : Boxed W0 (w.heap.size + 1 + 1 + 1 + 1) 3 (.int .i64 p) := by
  unfold Boxed; rw [← hW0]; simp only [hal, World.size_alloc]; repeat (first | rw [if_pos (by omega)] | rw [if_pos trivial] | rw [if_neg (by omega)])
 have g5 : Boxed W0 (w.heap.size + 1 + 1 + 1 + 2) 3 (.int .i64 fr) := by
  unfold Boxed; rw [← hW0]; simp only [hal, World.size_alloc]; repeat (first | rw [if_pos (by omega)] | rw [if_pos trivial] | rw [if_neg (by omega)])
 rw [hW0]
 clear hW0
 refine wpIn_rangeFunc_P (n := n) hro h1 (gf := 76) (lb := #[.pointer (some ⟨w.heap.size + 1 + 1 + 1 + 2, 0, none⟩), .pointer (some ⟨w.heap.size + 1 + 1 + 1, 0, none⟩), .pointer (some ⟨w.heap.size + 1 + 1 + 1 + 1, 0, none⟩)]) rfl h76 (enters_of Try.func76 (by kernel_rfl) rfl) hfnP
  (parts1_in F (n - 1) h76 hro (by omega) (w.heap.size + 1 + 1 + 1) (w.heap.size + 1 + 1 + 1 + 1) (w.heap.size + 1 + 1 + 1 + 2) (by omega) (by omega) (by omega) b e p fr hBd W0 g3 g4 g5) (fun _ => rfl)
  (fun A B C h k j cs t hj hh => k j cs t hj (h j cs t hj hh)) (fun W o j cs t hj hh => (Below.heap_alloc W o j (Array.getElem?_eq_some_iff.1 hh).1).trans hh)
  (fun W l o o' hl ho j cs t hj hh => (World.putObj_heap_other (fun ee => by subst ee; rw [hl] at hh; cases hh; cases ho)).trans hh)
  (fun A B k o ht hk ho => by obtain ⟨q, x, _, rfl⟩ := ht; exact (KeepsOthers.setCell A ⟨q, 0, none⟩ _).same k o hk ho)
  (fun pre W => Iv b e p fr w.heap.size w pre W) (fun ch W => ch = [{ v := stopV 4, recovered := false }] ∧ (100 < (partsL b e fr.toNat p fr).length ∨ 1000000000 < endP b e fr.toNat p fr) ∧ Below w.heap.size w W)
  ?Ia ?Ip ?It ?I0
  (fun pre x a' W => ∃ Bx v p' fr', Iw b e p fr w.heap.size w pre v p' fr' W ∧ encs3 W Bx x ∧ w.heap.size + 6 ≤ Bx ∧ (∀ k, v.ownBlock = some k → k < Bx) ∧ a' = { tmps := #[.agg #[.int .i64 b, .int .i64 e], .int .i64 p, .int .i64 fr, .pointer (some ⟨w.heap.size, 0, none⟩), undef, undef, .slice none 0 0, .int .i64 0, .pointer (some ⟨w.heap.size + 1, 0, none⟩), .pointer (some ⟨w.heap.size + 2, 0, none⟩), .pointer (some ⟨Bx, 0, none⟩), .int .i64 p, .agg #[.int .i64 b, .int .i64 e], .int .i64 p, .int .i64 fr, .func (.func 76) #[] #[.pointer (some ⟨w.heap.size + 1 + 1 + 1 + 2, 0, none⟩), .pointer (some ⟨w.heap.size + 1 + 1 + 1, 0, none⟩), .pointer (some ⟨w.heap.size + 1 + 1 + 1 + 1, 0, none⟩)], .agg #[.int .i64 x.1, .int .i64 x.2, .bool true], undef, undef, undef, undef, undef, undef, undef, undef, undef, undef, undef, undef, undef, undef, undef, undef, undef, undef, undef, undef, undef, undef, undef, undef, undef, undef, undef, undef, undef, undef, undef, undef, undef, undef, undef, undef], defers := [] })
  ?Axp ?assign ?body ?done ?panic
 case Ia =>
  rintro pre W o ⟨v, p', fr', h⟩
  exact ⟨v, p', fr', (Below.heap_alloc W o _ (Array.getElem?_eq_some_iff.1 h.st).1).trans h.st, h.bl.alloc h.bl.size _, h.vb.alloc o, by have := h.sz; simp; omega, h.row.alloc o, h.ab.alloc o, h.bd, h.p1, h.len, h.all, h.fin⟩
 case Ip =>
  rintro pre W l o o' ⟨v, p', fr', h⟩ hl ho hc
  exact ⟨v, p', fr', (World.putObj_heap_other (fun ee => by rw [← ee, h.st] at ho; cases ho; cases hc)).trans h.st, h.bl.grown (grownBy_putObj' W l o') h.bl.size (fun k ek => by cases ek; omega), h.vb.kept (grownBy_putObj' W l o') (fun ee => by cases ee; rw [show W.heap[_]? = _ from h.vb] at ho; cases ho; cases hc), by have := h.sz; simp; omega, ownsRow_putObj h.row o' ho hc, h.ab.kept (grownBy_putObj' W l o') (fun ee => by cases ee; rw [show W.heap[_]? = _ from h.ab] at ho; cases ho; cases hc), h.bd, h.p1, h.len, h.all, h.fin⟩
 case It =>
  rintro pre A B ⟨v, p', fr', h⟩ ⟨q, x, hq, rfl⟩
  exact ⟨v, p', fr', (heap_setOther A q _ _ (by omega)).trans h.st, h.bl.setCell (p := ⟨q, 0, none⟩) (by simp; omega) _, bx_other h.vb (by omega) _, by have := h.sz; have := (grownBy_setCell' A q (.int .i64 x)).size; omega, h.row.kept (grownBy_setCell' A q _) (.inr (fun ee => by have := row_ge h.row _ ee; omega)), bx_other h.ab (by omega) _, h.bd, h.p1, h.len, h.all, h.fin⟩
 case I0 => exact ⟨_, p, fr, g0, hB0, g1, by omega, World.ownsRow_nil _ _ _ _, g2, hBd, hp, by simp, by simp, rfl⟩
 case Axp =>
  rintro pre x a' W l o o' ⟨Bx, v, p', fr', h, hx, hBx, hrb, rfl⟩ hl ho hc
  refine ⟨Bx, v, p', fr', ?_, (World.putObj_heap_other (fun ee => by unfold encs3 at hx; rw [← ee, hx] at ho; cases ho; cases hc)).trans hx, hBx, hrb, rfl⟩
  exact ⟨(World.putObj_heap_other (fun ee => by rw [← ee, h.st] at ho; cases ho; cases hc)).trans h.st, h.bl.grown (grownBy_putObj' W l o') h.bl.size (fun k ek => by cases ek; omega), h.vb.kept (grownBy_putObj' W l o') (fun ee => by cases ee; rw [show W.heap[_]? = _ from h.vb] at ho; cases ho; cases hc), by have := h.sz; simp; omega, ownsRow_putObj h.row o' ho hc, h.ab.kept (grownBy_putObj' W l o') (fun ee => by cases ee; rw [show W.heap[_]? = _ from h.ab] at ho; cases ho; cases hc), h.bd, h.p1, h.len, h.all, h.fin⟩
 case assign =>
  rintro l pre x W K ⟨v, p', fr', h⟩ hK
  simp only [encS]
  gi_wp2
  refine hK _ _ ⟨W.heap.size, v, p', fr', ?_, World.alloc_heap_new W _, ?_, row_lt h.row, rfl⟩ (KeepsOthers.alloc _ _) (fun j cs t hj hh => (Below.heap_alloc W _ j (Array.getElem?_eq_some_iff.1 hh).1).trans hh)
  · exact ⟨(Below.heap_alloc W _ _ (Array.getElem?_eq_some_iff.1 h.st).1).trans h.st, h.bl.alloc h.bl.size _, h.vb.alloc _, by have := h.sz; simp; omega, h.row.alloc _, h.ab.alloc _, h.bd, h.p1, h.len, h.all, h.fin⟩
  · have := h.sz; omega
 case body =>
  rintro l pre x a' W ⟨Bx, v, p', fr', hI, hx, hBx, hrb, rfl⟩ ⟨rest, hrest⟩
  have hn2 : 1 ≤ n - 1 - 1 := by omega
  obtain ⟨i0, hi, hz0, hz1, hz2⟩ := info_parts info39p
  have hcan : x :: rest = partsL b e fr'.toNat p' fr' := List.append_cancel_left (hrest.trans hI.all)
  have hf : 0 < fr' := by
   by_cases hf : 0 < fr'
   · exact hf
   · rw [show fr'.toNat = 0 by omega] at hcan; cases hcan
  rw [partsL_step hf] at hcan
  obtain ⟨rfl, hrst⟩ := List.cons.inj hcan
  have hcb := cntN_pos (e := e) (p := p') hf
  have hB2 := hI.bd.next hf
  have hfin := hI.fin
  rw [endP_step hf] at hfin
  have hall := hI.all
  rw [partsL_step hf] at hall
  have hfar := endP_far (p := p') hI.bd hf
  rw [endP_step hf] at hfar
  obtain ⟨c, hc⟩ : ∃ c, cntN e p' fr' = c := ⟨_, rfl⟩
  have hnx : nxtP b e p' fr' = if (0 < e ∧ p' < e) ∧ p' + c = e then b else p' + c := by unfold nxtP; rw [hc]
  have hcle : 0 < e ∧ p' < e → c ≤ e - p' := by
   rintro ⟨h1, h2⟩
   rw [← hc]; unfold cntN; rw [if_pos ⟨h1, h2⟩]; split <;> omega
  rw [hc] at hcb hB2 hfin hall hrst hx hfar ⊢
  obtain ⟨y1, y2, y3, y4, y5, y6, y7, y8⟩ := hI.bd
  have yp := hI.p1
  have hM : Ik b e w.heap.size w v pre.length (flatS pre) p' W := ⟨hI.st, hI.bl, hI.vb, hI.sz, hI.row, hI.ab⟩
  have hfl : flatS pre ++ [.int .i64 p', .int .i64 c, .bool true] = flatS (pre ++ [(p', c)]) := by simp [flatS]
  have ylen := hI.len
  have hw : wrap64 (p' + c) = p' + c := w64 (by omega) (by omega)
  have cv := hI.vb.cell
  have cb0 : W.cell? ⟨Bx, 0, none⟩ = some (.int .i64 p') := by unfold encs3 at hx; simp [World.cell?, hx]
  have cb1 : W.cell? ⟨Bx, 1, none⟩ = some (.int .i64 c) := by unfold encs3 at hx; simp [World.cell?, hx]
  have cb2 : W.cell? ⟨Bx, 2, none⟩ = some (.bool true) := by unfold encs3 at hx; simp [World.cell?, hx]
  by_cases hle : pre.length + 1 ≤ 100
  · have hle' : ((pre.length : Int) + 1 ≤ 100) := by omega
    by_cases ht : 0 < e ∧ p' < e
    · obtain ⟨t1, t2⟩ := ht
      have hcl := hcle ⟨t1, t2⟩
      by_cases hh : p' + c = e
      · rw [if_pos ⟨⟨t1, t2⟩, hh⟩] at hnx
        rw [hnx] at hB2 hfin hall hfar
        gi_wp2_with (first | (gi_at_builtin; refine wpListIn_append_own _ rfl _ _ 22 rfl (w.heap.size + 6) 39 i0 (.agg #[.int .i64 0, .int .i64 0, .bool false]) 3 24 Try.underlying22 hi hz0 hz1 hz2 rfl (by decide) _ _ _ rfl (hI.row.alloc _) ⟨W.heap.size, 0, none⟩ 1 1 [.int .i64 p', .int .i64 c, .bool true] rfl rfl (cells3_new _ _ _ _ _) (by simp [Value.oneCell']) (by have := hI.len; have : (101 : Nat) ≤ maxLen := (by decide); omega) (by have := hI.len; omega) (by have := hI.sz; simp; omega) ?_; intro v' w1 hown hgrow _; obtain ⟨g', cap', rfl⟩ := ownsRow_succ hown; have st2 := app_keep (v' := .slice (some ⟨g', 0, none⟩) (pre.length + 1) cap') (q := w.heap.size + 1) hgrow (cells_not_row hI.st (by decide) hI.row) (by omega) hI.st; have bx2 := app_keep (v' := .slice (some ⟨g', 0, none⟩) (pre.length + 1) cap') (q := w.heap.size + 1) hgrow (fun ee => Nat.lt_irrefl _ (hrb _ ee.symm)) (by omega) hx; have at2 := app_keep (v' := .slice (some ⟨g', 0, none⟩) (pre.length + 1) cap') (q := w.heap.size + 1) hgrow (cells_not_row hI.ab (by decide) hI.row) (by omega) hI.ab; have vb1 : Boxed w1 (w.heap.size + 1) 22 v := (hI.vb.alloc _).kept hgrow (cells_not_row hI.vb (by decide) hI.row); obtain ⟨⟨f1, f2, f3, f4⟩, f5, f6, f7, f8, f9, f10⟩ := body_facts st2 bx2 at2 (by omega); have K2 := Ik.app hM hgrow hown; have hc1 := vb1.cell; have hf1 := vb1.frozen; have hc2 := (vb1.set (.slice (some ⟨g', 0, none⟩) (pre.length + 1) cap')).cell) | (gi_at_call 46; refine (CallsIn.inRound l (must_ok F _ h46 hro 4 _)).mono ?_; rintro ee w' ⟨rfl, rfl⟩))
        exact ⟨K2.2.1.trans ((KeepsOthers.setCell _ _ _).trans (KeepsOthers.setCell _ _ _)), Iw.of ((K2.1.set _).set _) (by simp) hfl hB2 (by omega) (by simp; omega) (by rw [hall]; simp) hfin, kt_trans K2.2.2 (kt_trans (kt_set _ _ _) (kt_set _ _ _))⟩
      · rw [if_neg (fun h => hh h.2)] at hnx
        rw [hnx] at hB2 hfin hall hfar
        have hlo : p' + c ≤ 1000000000 := by omega
        have hh' : (p' + c == e) = false := by simpa using hh
        gi_wp2_with (first | (gi_at_builtin; refine wpListIn_append_own _ rfl _ _ 22 rfl (w.heap.size + 6) 39 i0 (.agg #[.int .i64 0, .int .i64 0, .bool false]) 3 24 Try.underlying22 hi hz0 hz1 hz2 rfl (by decide) _ _ _ rfl (hI.row.alloc _) ⟨W.heap.size, 0, none⟩ 1 1 [.int .i64 p', .int .i64 c, .bool true] rfl rfl (cells3_new _ _ _ _ _) (by simp [Value.oneCell']) (by have := hI.len; have : (101 : Nat) ≤ maxLen := (by decide); omega) (by have := hI.len; omega) (by have := hI.sz; simp; omega) ?_; intro v' w1 hown hgrow _; obtain ⟨g', cap', rfl⟩ := ownsRow_succ hown; have st2 := app_keep (v' := .slice (some ⟨g', 0, none⟩) (pre.length + 1) cap') (q := w.heap.size + 1) hgrow (cells_not_row hI.st (by decide) hI.row) (by omega) hI.st; have bx2 := app_keep (v' := .slice (some ⟨g', 0, none⟩) (pre.length + 1) cap') (q := w.heap.size + 1) hgrow (fun ee => Nat.lt_irrefl _ (hrb _ ee.symm)) (by omega) hx; have at2 := app_keep (v' := .slice (some ⟨g', 0, none⟩) (pre.length + 1) cap') (q := w.heap.size + 1) hgrow (cells_not_row hI.ab (by decide) hI.row) (by omega) hI.ab; have vb1 : Boxed w1 (w.heap.size + 1) 22 v := (hI.vb.alloc _).kept hgrow (cells_not_row hI.vb (by decide) hI.row); obtain ⟨⟨f1, f2, f3, f4⟩, f5, f6, f7, f8, f9, f10⟩ := body_facts st2 bx2 at2 (by omega); have K2 := Ik.app hM hgrow hown; have hc1 := vb1.cell; have hf1 := vb1.frozen; have hc2 := (vb1.set (.slice (some ⟨g', 0, none⟩) (pre.length + 1) cap')).cell) | (gi_at_call 46; refine (CallsIn.inRound l (must_ok F _ h46 hro 4 _)).mono ?_; rintro ee w' ⟨rfl, rfl⟩))
        exact ⟨K2.2.1.trans (KeepsOthers.setCell _ _ _), Iw.of (K2.1.set _) (by simp) hfl hB2 (by omega) (by simp; omega) (by rw [hall]; simp) hfin, kt_trans K2.2.2 (kt_set _ _ _)⟩
    · rw [if_neg (fun h => ht h.1)] at hnx
      rw [hnx] at hB2 hfin hall hfar
      by_cases hlo : p' + c ≤ 1000000000
      · have hlo' : decide (p' + c ≤ 1000000000) = true := decide_eq_true hlo
        by_cases t1 : 0 < e
        · have t2 : ¬ p' < e := fun h => ht ⟨t1, h⟩
          gi_wp2_with (first | (gi_at_builtin; refine wpListIn_append_own _ rfl _ _ 22 rfl (w.heap.size + 6) 39 i0 (.agg #[.int .i64 0, .int .i64 0, .bool false]) 3 24 Try.underlying22 hi hz0 hz1 hz2 rfl (by decide) _ _ _ rfl (hI.row.alloc _) ⟨W.heap.size, 0, none⟩ 1 1 [.int .i64 p', .int .i64 c, .bool true] rfl rfl (cells3_new _ _ _ _ _) (by simp [Value.oneCell']) (by have := hI.len; have : (101 : Nat) ≤ maxLen := (by decide); omega) (by have := hI.len; omega) (by have := hI.sz; simp; omega) ?_; intro v' w1 hown hgrow _; obtain ⟨g', cap', rfl⟩ := ownsRow_succ hown; have st2 := app_keep (v' := .slice (some ⟨g', 0, none⟩) (pre.length + 1) cap') (q := w.heap.size + 1) hgrow (cells_not_row hI.st (by decide) hI.row) (by omega) hI.st; have bx2 := app_keep (v' := .slice (some ⟨g', 0, none⟩) (pre.length + 1) cap') (q := w.heap.size + 1) hgrow (fun ee => Nat.lt_irrefl _ (hrb _ ee.symm)) (by omega) hx; have at2 := app_keep (v' := .slice (some ⟨g', 0, none⟩) (pre.length + 1) cap') (q := w.heap.size + 1) hgrow (cells_not_row hI.ab (by decide) hI.row) (by omega) hI.ab; have vb1 : Boxed w1 (w.heap.size + 1) 22 v := (hI.vb.alloc _).kept hgrow (cells_not_row hI.vb (by decide) hI.row); obtain ⟨⟨f1, f2, f3, f4⟩, f5, f6, f7, f8, f9, f10⟩ := body_facts st2 bx2 at2 (by omega); have K2 := Ik.app hM hgrow hown; have hc1 := vb1.cell; have hf1 := vb1.frozen; have hc2 := (vb1.set (.slice (some ⟨g', 0, none⟩) (pre.length + 1) cap')).cell) | (gi_at_call 46; refine (CallsIn.inRound l (must_ok F _ h46 hro 4 _)).mono ?_; rintro ee w' ⟨rfl, rfl⟩))
          exact ⟨K2.2.1.trans (KeepsOthers.setCell _ _ _), Iw.of (K2.1.set _) (by simp) hfl hB2 (by omega) (by simp; omega) (by rw [hall]; simp) hfin, kt_trans K2.2.2 (kt_set _ _ _)⟩
        · gi_wp2_with (first | (gi_at_builtin; refine wpListIn_append_own _ rfl _ _ 22 rfl (w.heap.size + 6) 39 i0 (.agg #[.int .i64 0, .int .i64 0, .bool false]) 3 24 Try.underlying22 hi hz0 hz1 hz2 rfl (by decide) _ _ _ rfl (hI.row.alloc _) ⟨W.heap.size, 0, none⟩ 1 1 [.int .i64 p', .int .i64 c, .bool true] rfl rfl (cells3_new _ _ _ _ _) (by simp [Value.oneCell']) (by have := hI.len; have : (101 : Nat) ≤ maxLen := (by decide); omega) (by have := hI.len; omega) (by have := hI.sz; simp; omega) ?_; intro v' w1 hown hgrow _; obtain ⟨g', cap', rfl⟩ := ownsRow_succ hown; have st2 := app_keep (v' := .slice (some ⟨g', 0, none⟩) (pre.length + 1) cap') (q := w.heap.size + 1) hgrow (cells_not_row hI.st (by decide) hI.row) (by omega) hI.st; have bx2 := app_keep (v' := .slice (some ⟨g', 0, none⟩) (pre.length + 1) cap') (q := w.heap.size + 1) hgrow (fun ee => Nat.lt_irrefl _ (hrb _ ee.symm)) (by omega) hx; have at2 := app_keep (v' := .slice (some ⟨g', 0, none⟩) (pre.length + 1) cap') (q := w.heap.size + 1) hgrow (cells_not_row hI.ab (by decide) hI.row) (by omega) hI.ab; have vb1 : Boxed w1 (w.heap.size + 1) 22 v := (hI.vb.alloc _).kept hgrow (cells_not_row hI.vb (by decide) hI.row); obtain ⟨⟨f1, f2, f3, f4⟩, f5, f6, f7, f8, f9, f10⟩ := body_facts st2 bx2 at2 (by omega); have K2 := Ik.app hM hgrow hown; have hc1 := vb1.cell; have hf1 := vb1.frozen; have hc2 := (vb1.set (.slice (some ⟨g', 0, none⟩) (pre.length + 1) cap')).cell) | (gi_at_call 46; refine (CallsIn.inRound l (must_ok F _ h46 hro 4 _)).mono ?_; rintro ee w' ⟨rfl, rfl⟩))
          exact ⟨K2.2.1.trans (KeepsOthers.setCell _ _ _), Iw.of (K2.1.set _) (by simp) hfl hB2 (by omega) (by simp; omega) (by rw [hall]; simp) hfin, kt_trans K2.2.2 (kt_set _ _ _)⟩
      · have hlo' : decide (p' + c ≤ 1000000000) = false := decide_eq_false hlo
        by_cases t1 : 0 < e
        · have t2 : ¬ p' < e := fun h => ht ⟨t1, h⟩
          gi_wp2_with (first | (gi_at_builtin; refine wpListIn_append_own _ rfl _ _ 22 rfl (w.heap.size + 6) 39 i0 (.agg #[.int .i64 0, .int .i64 0, .bool false]) 3 24 Try.underlying22 hi hz0 hz1 hz2 rfl (by decide) _ _ _ rfl (hI.row.alloc _) ⟨W.heap.size, 0, none⟩ 1 1 [.int .i64 p', .int .i64 c, .bool true] rfl rfl (cells3_new _ _ _ _ _) (by simp [Value.oneCell']) (by have := hI.len; have : (101 : Nat) ≤ maxLen := (by decide); omega) (by have := hI.len; omega) (by have := hI.sz; simp; omega) ?_; intro v' w1 hown hgrow _; obtain ⟨g', cap', rfl⟩ := ownsRow_succ hown; have st2 := app_keep (v' := .slice (some ⟨g', 0, none⟩) (pre.length + 1) cap') (q := w.heap.size + 1) hgrow (cells_not_row hI.st (by decide) hI.row) (by omega) hI.st; have bx2 := app_keep (v' := .slice (some ⟨g', 0, none⟩) (pre.length + 1) cap') (q := w.heap.size + 1) hgrow (fun ee => Nat.lt_irrefl _ (hrb _ ee.symm)) (by omega) hx; have at2 := app_keep (v' := .slice (some ⟨g', 0, none⟩) (pre.length + 1) cap') (q := w.heap.size + 1) hgrow (cells_not_row hI.ab (by decide) hI.row) (by omega) hI.ab; have vb1 : Boxed w1 (w.heap.size + 1) 22 v := (hI.vb.alloc _).kept hgrow (cells_not_row hI.vb (by decide) hI.row); obtain ⟨⟨f1, f2, f3, f4⟩, f5, f6, f7, f8, f9, f10⟩ := body_facts st2 bx2 at2 (by omega); have K2 := Ik.app hM hgrow hown; have hc1 := vb1.cell; have hf1 := vb1.frozen; have hc2 := (vb1.set (.slice (some ⟨g', 0, none⟩) (pre.length + 1) cap')).cell) | (gi_at_call 46; refine (CallsIn.inRound l (must_ok F _ h46 hro 4 _)).mono ?_; rintro ee w' ⟨rfl, rfl⟩) | (gi_at_call 46; refine (CallsIn.inRound l (must_no F _ h46 hro 4 _)).mono ?_; rintro ee w' ⟨rfl, rfl⟩))
          have K3 := K2.1.set (p' + c)
          refine ⟨rfl, K2.2.1.trans (KeepsOthers.setCell _ _ _), rfl, .inr ?_, K3.bl⟩
          rw [hfin]
          exact hfar (by omega)
        · gi_wp2_with (first | (gi_at_builtin; refine wpListIn_append_own _ rfl _ _ 22 rfl (w.heap.size + 6) 39 i0 (.agg #[.int .i64 0, .int .i64 0, .bool false]) 3 24 Try.underlying22 hi hz0 hz1 hz2 rfl (by decide) _ _ _ rfl (hI.row.alloc _) ⟨W.heap.size, 0, none⟩ 1 1 [.int .i64 p', .int .i64 c, .bool true] rfl rfl (cells3_new _ _ _ _ _) (by simp [Value.oneCell']) (by have := hI.len; have : (101 : Nat) ≤ maxLen := (by decide); omega) (by have := hI.len; omega) (by have := hI.sz; simp; omega) ?_; intro v' w1 hown hgrow _; obtain ⟨g', cap', rfl⟩ := ownsRow_succ hown; have st2 := app_keep (v' := .slice (some ⟨g', 0, none⟩) (pre.length + 1) cap') (q := w.heap.size + 1) hgrow (cells_not_row hI.st (by decide) hI.row) (by omega) hI.st; have bx2 := app_keep (v' := .slice (some ⟨g', 0, none⟩) (pre.length + 1) cap') (q := w.heap.size + 1) hgrow (fun ee => Nat.lt_irrefl _ (hrb _ ee.symm)) (by omega) hx; have at2 := app_keep (v' := .slice (some ⟨g', 0, none⟩) (pre.length + 1) cap') (q := w.heap.size + 1) hgrow (cells_not_row hI.ab (by decide) hI.row) (by omega) hI.ab; have vb1 : Boxed w1 (w.heap.size + 1) 22 v := (hI.vb.alloc _).kept hgrow (cells_not_row hI.vb (by decide) hI.row); obtain ⟨⟨f1, f2, f3, f4⟩, f5, f6, f7, f8, f9, f10⟩ := body_facts st2 bx2 at2 (by omega); have K2 := Ik.app hM hgrow hown; have hc1 := vb1.cell; have hf1 := vb1.frozen; have hc2 := (vb1.set (.slice (some ⟨g', 0, none⟩) (pre.length + 1) cap')).cell) | (gi_at_call 46; refine (CallsIn.inRound l (must_ok F _ h46 hro 4 _)).mono ?_; rintro ee w' ⟨rfl, rfl⟩) | (gi_at_call 46; refine (CallsIn.inRound l (must_no F _ h46 hro 4 _)).mono ?_; rintro ee w' ⟨rfl, rfl⟩))
          have K3 := K2.1.set (p' + c)
          refine ⟨rfl, K2.2.1.trans (KeepsOthers.setCell _ _ _), rfl, .inr ?_, K3.bl⟩
          rw [hfin]
          exact hfar (by omega)
  · have hle' : ¬ ((pre.length : Int) + 1 ≤ 100) := by omega
    gi_wp2_with (first | (gi_at_builtin; refine wpListIn_append_own _ rfl _ _ 22 rfl (w.heap.size + 6) 39 i0 (.agg #[.int .i64 0, .int .i64 0, .bool false]) 3 24 Try.underlying22 hi hz0 hz1 hz2 rfl (by decide) _ _ _ rfl (hI.row.alloc _) ⟨W.heap.size, 0, none⟩ 1 1 [.int .i64 p', .int .i64 c, .bool true] rfl rfl (cells3_new _ _ _ _ _) (by simp [Value.oneCell']) (by have := hI.len; have : (101 : Nat) ≤ maxLen := (by decide); omega) (by have := hI.len; omega) (by have := hI.sz; simp; omega) ?_; intro v' w1 hown hgrow _; obtain ⟨g', cap', rfl⟩ := ownsRow_succ hown; have st2 := app_keep (v' := .slice (some ⟨g', 0, none⟩) (pre.length + 1) cap') (q := w.heap.size + 1) hgrow (cells_not_row hI.st (by decide) hI.row) (by omega) hI.st; have bx2 := app_keep (v' := .slice (some ⟨g', 0, none⟩) (pre.length + 1) cap') (q := w.heap.size + 1) hgrow (fun ee => Nat.lt_irrefl _ (hrb _ ee.symm)) (by omega) hx; have at2 := app_keep (v' := .slice (some ⟨g', 0, none⟩) (pre.length + 1) cap') (q := w.heap.size + 1) hgrow (cells_not_row hI.ab (by decide) hI.row) (by omega) hI.ab; have vb1 : Boxed w1 (w.heap.size + 1) 22 v := (hI.vb.alloc _).kept hgrow (cells_not_row hI.vb (by decide) hI.row); obtain ⟨⟨f1, f2, f3, f4⟩, f5, f6, f7, f8, f9, f10⟩ := body_facts st2 bx2 at2 (by omega); have K2 := Ik.app hM hgrow hown; have hc1 := vb1.cell; have hf1 := vb1.frozen; have hc2 := (vb1.set (.slice (some ⟨g', 0, none⟩) (pre.length + 1) cap')).cell) | (gi_at_call 46; refine (CallsIn.inRound l (must_no F _ h46 hro 4 _)).mono ?_; rintro ee w' ⟨rfl, rfl⟩))
    refine ⟨rfl, K2.2.1, rfl, .inl ?_, K2.1.bl⟩
    rw [hall]; simp; omega
 case done =>
  rintro D W ⟨v, p', fr', h⟩ hD hK
  have cv := h.vb.cell
  have ca := h.ab.cell
  have hbd : Below w.heap.size w W.drew := by first | (apply below_drew1; exact h.bl) | (apply pw_below_drewN; exact h.bl)
  have hnil : partsL b e fr'.toNat p' fr' = [] := by
   have := congrArg List.length h.all
   rw [List.length_append] at this
   exact List.length_eq_zero_iff.1 (by omega)
  have hf0 : ¬ 0 < fr' := fun hf => by rw [partsL_step hf] at hnil; cases hnil
  have hend : endP b e fr.toNat p fr = p' := by rw [h.fin, show fr'.toNat = 0 by omega]; rfl
  gi_wp2
  gi_region
  all_goals gi_wp2
  all_goals show LeavesInM F n Try.prog Try.f65 _ _ _ _ _
  all_goals refine ⟨by simp, .inl ⟨D, _, rfl, run_takeDeferred hK, ?_⟩⟩
  all_goals refine ⟨.tuple #[v, .int .i64 p'], by simp [results, Try.results65, go_sem], .inl ⟨v, by rw [hend], h.len, by rw [hend]; exact h.p1, ?_, ?_⟩⟩
  all_goals first | exact row_weaken (by omega) (ownsRow_putObj (W := W) h.row _ hK rfl) | exact hbd.grown (grownBy_putObj' _ D _) hbd.size (fun k ek => by cases ek; omega) | trace_state
 case panic =>
  rintro D ch W ⟨rfl, hlim, hB⟩ hD hK
  show LeavesInM F n Try.prog Try.f65 _ _ _ _ _
  refine ⟨by simp, .inl ⟨D, _, rfl, run_takeDeferred hK, ?_⟩⟩
  exact .inr ⟨rfl, hlim, hB.grown (grownBy_putObj' W D _) hB.size (fun k ek => by cases ek; omega)⟩
end Go.Proofs.Ytlffhagjpfcecaa.PA

namespace Go.Proofs.Ytlffhagjpfcecaa.PA
open Go.RowKit Go.Proofs.YtlffhagjpfcecaaW.PrintWords Go.Proofs.YtlffhagjpfcecaaW.PrintLast Go.Proofs.YtlffhagjpfcecaaW.PrintMore
attribute [local go_sem] max2_int min2_int max_two min_two max_three min_three max_four min_four
set_option linter.unusedVariables false
set_option linter.unusedSimpArgs false
def transport_within.f (a0 : Int) (a1 : Int) (a2 : Int) : Option (Bool) := if a0 ≥ a1 then (some (decide (a0 ≤ a2))) else (some false)
set_option maxHeartbeats 8000000 in
set_option maxRecDepth 100000 in
theorem transport_within.calls (a0 : Int) (a1 : Int) (a2 : Int) (r : Bool) (w : World) (h : transport_within.f a0 a1 a2 = some r) :
 Calls Try.prog 38 #[.int .i64 a0, .int .i64 a1, .int .i64 a2] w fun e w' => e = .returned (.bool r) ∧ Drawn0 w w' := by
 have H : (if a0 ≥ a1 then (some (decide (a0 ≤ a2))) else (some false)) = some r := h
 clear h
 by_cases c4 : a0 ≥ a1
 · rw [if_pos c4] at H
   have c4b0 : decide (a1 ≤ a0) = true := decide_eq_true c4
   clear c4
   obtain rfl := Option.some.inj H
   go_enter Try.func38, Try.ntmps38
   go_wp2
   go_ret
   exact ⟨by first | rfl | (simp; done) | (simp [*]; done), by repeat (first | exact Drawn0.refl _ | apply Drawn0.step)⟩
 · rw [if_neg c4] at H
   have c4b0 : decide (a1 ≤ a0) = false := decide_eq_false c4
   clear c4
   obtain rfl := Option.some.inj H
   go_enter Try.func38, Try.ntmps38
   go_wp2
   go_ret
   exact ⟨by first | rfl | (simp; done) | (simp [*]; done), by repeat (first | exact Drawn0.refl _ | apply Drawn0.step)⟩
end Go.Proofs.Ytlffhagjpfcecaa.PA

namespace Go.Proofs.Ytlffhagjpfcecaa.PA
open Go.RowKit Go.Proofs.YtlffhagjpfcecaaW.PrintWords Go.Proofs.YtlffhagjpfcecaaW.PrintLast Go.Proofs.YtlffhagjpfcecaaW.PrintMore
attribute [local go_sem] max2_int min2_int max_two min_two max_three min_three max_four min_four
set_option linter.unusedVariables false
set_option linter.unusedSimpArgs false
def transport_looped.j0 : Nat → Int → Int → Bool → Option (Int)
 | 0, _, _, _ => none
 | k + 1, x0, x1, x5 => if x5 = true then (some 7) else (if x1 ≤ x0 then (if x0 = 0 then (if x1 = 0 then (some 0) else (some 12)) else (some 12)) else (some 0))
def transport_looped.f (k : Nat) (a0 : Int) (a1 : Int) : Option (Int) := (transport_within.f a0 0 1000000000).bind fun t101 => (if t101 = true then ((transport_within.f a1 0 1000000000).bind fun t102 => (transport_looped.j0 k a0 a1 (!t102))) else (transport_looped.j0 k a0 a1 true))
theorem transport_looped.mono_l : ∀ k, (∀ y0 y1 y2, LeO (transport_looped.j0 k y0 y1 y2) (transport_looped.j0 (k + 1) y0 y1 y2))
 | 0 => fun _ _ _ r h => by simp [transport_looped.j0] at h
 | k + 1 => by
  have ih0 := transport_looped.mono_l k
  · intro y0 y1 y2
    unfold transport_looped.j0
    repeat' first
    | (with_reducible exact ih0 _ _ _)
    | (with_reducible exact LeO.refl _)
    | (with_reducible exact LeO.none _)
    | (with_reducible refine LeO.ite ?_ ?_)
    | (with_reducible refine LeO.bind ?_ (fun _ => ?_))
    | exact ih0 _ _ _
    | exact LeO.none _
    | refine LeO.ite ?_ ?_
    | refine LeO.bind ?_ (fun _ => ?_)
theorem transport_looped.mono : ∀ a0 a1 k, LeO (transport_looped.f k a0 a1) (transport_looped.f (k + 1) a0 a1) := by
 intro a0 a1 k
 have ih0 := transport_looped.mono_l k
 unfold transport_looped.f
 repeat' first
  | (with_reducible exact ih0 _ _ _)
  | (with_reducible exact LeO.refl _)
  | (with_reducible exact LeO.none _)
  | (with_reducible refine LeO.ite ?_ ?_)
  | (with_reducible refine LeO.bind ?_ (fun _ => ?_))
  | exact ih0 _ _ _
  | exact LeO.none _
  | refine LeO.ite ?_ ?_
  | refine LeO.bind ?_ (fun _ => ?_)
set_option maxHeartbeats 8000000 in
set_option maxRecDepth 100000 in
theorem transport_looped.calls (k : Nat) (a0 : Int) (a1 : Int) (r : Int) (w : World) (h : transport_looped.f k a0 a1 = some r) :
 Calls Try.prog 42 #[.int .i64 a0, .int .i64 a1] w fun e w' => e = .returned (.int .i64 r) ∧ Drawn0 w w' := by
 have H : ((transport_within.f a0 0 1000000000).bind fun t101 => (if t101 = true then ((transport_within.f a1 0 1000000000).bind fun t102 => (transport_looped.j0 k a0 a1 (!t102))) else (transport_looped.j0 k a0 a1 true))) = some r := h
 clear h
 have HC3 := Aside0.mk H
 clear H
 go_enter Try.func42, Try.ntmps42
 go_upto_region 1 with (fail)
 go_cut [5] (fun v5 wc => ∃ (kq : Nat) (x5_2 : Bool), v5 = .bool x5_2 ∧ Aside0 (transport_looped.j0 kq a0 a1 x5_2 = some r) ∧ Aside0 (kq ≤ k) ∧ Drawn0 w wc)
 case first =>
  have H := HC3.out
  clear HC3
  replace H := Option.bind_eq_some_iff.mp H
  obtain ⟨t101, A40, H⟩ := H
  replace H : (if t101 = true then ((transport_within.f a1 0 1000000000).bind fun t102 => (transport_looped.j0 k a0 a1 (!t102))) else (transport_looped.j0 k a0 a1 true)) = some r := H
  have A4 := Aside0.mk A40
  clear A40
  by_cases c5 : t101 = true
  · subst c5
    have H1 : ((transport_within.f a1 0 1000000000).bind fun t102 => (transport_looped.j0 k a0 a1 (!t102))) = some r := by rw [if_pos rfl] at H; exact H
    clear H
    have H := H1
    clear H1
    replace H := Option.bind_eq_some_iff.mp H
    obtain ⟨t102, A60, H⟩ := H
    replace H : (transport_looped.j0 k a0 a1 (!t102)) = some r := H
    have A6 := Aside0.mk A60
    clear A60
    have H' := Aside0.mk H
    clear H
    go_wp2_with (first | ((with_reducible refine gate_callee (f := 38) rfl ?_); refine goesL_ (some 7) rfl rfl Try.func38 (by kernel_rfl) rfl #[.int .i64 a0, .int .i64 0, .int .i64 1000000000] rfl (by (try simp only [List.map_toArray, List.map_cons, List.map_nil]); first | done | rfl | (simp only [List.length_drop, List.length_take]; rfl)) ?_; (with_reducible refine (transport_within.calls a0 0 1000000000 true _ A4.out).mono ?_); rintro e w' ⟨rfl, ⟨nd, rfl⟩⟩; refine ⟨_, rfl, ?_⟩) | (go_at_call 38; (with_reducible refine (transport_within.calls a1 0 1000000000 t102 _ A6.out).mono ?_); rintro e w' ⟨rfl, ⟨nd, rfl⟩⟩))
    go_meet
    case rel => exact ⟨_, (!t102), (by first | rfl | (simp; done) | (simp [*]; done)), H', ⟨by first | omega | exact Nat.le_refl _⟩, by repeat (first | exact Drawn0.refl _ | apply Drawn0.step)⟩
  · replace c5 := Bool.eq_false_iff.mpr c5
    subst c5
    have H1 : (transport_looped.j0 k a0 a1 true) = some r := by rw [if_neg (show ¬ (false = true) by decide)] at H; exact H
    clear H
    have H := H1
    clear H1
    have H' := Aside0.mk H
    clear H
    go_wp2_with (first | ((with_reducible refine gate_callee (f := 38) rfl ?_); refine goesL_ (some 7) rfl rfl Try.func38 (by kernel_rfl) rfl #[.int .i64 a0, .int .i64 0, .int .i64 1000000000] rfl (by (try simp only [List.map_toArray, List.map_cons, List.map_nil]); first | done | rfl | (simp only [List.length_drop, List.length_take]; rfl)) ?_; (with_reducible refine (transport_within.calls a0 0 1000000000 false _ A4.out).mono ?_); rintro e w' ⟨rfl, ⟨nd, rfl⟩⟩; refine ⟨_, rfl, ?_⟩))
    go_meet
    case rel => exact ⟨_, (true), (by first | rfl | (simp; done) | (simp [*]; done)), H', ⟨by first | omega | exact Nat.le_refl _⟩, by repeat (first | exact Drawn0.refl _ | apply Drawn0.step)⟩
 case rest =>
  clear HC3
  try clear p2
  try clear c3
  try clear c4
  try clear c5
  obtain ⟨kq, x5_2, rfl, HA, HJ2, ⟨mc2, rfl⟩⟩ := hcut
  cases kq with
  | zero => exact absurd HA.out (by simp [transport_looped.j0])
  | succ kj2 =>
   have H := HA.out
   clear HA
   simp only [transport_looped.j0] at H
   by_cases c7 : x5_2 = true
   · subst c7
     have H1 : (some 7) = some r := by rw [if_pos rfl] at H; exact H
     clear H
     have H := H1
     clear H1
     obtain rfl := Option.some.inj H
     go_wp2
     go_ret
     exact ⟨by first | rfl | (simp; done) | (simp [*]; done), by repeat (first | exact Drawn0.refl _ | apply Drawn0.step)⟩
   · replace c7 := Bool.eq_false_iff.mpr c7
     subst c7
     have H1 : (if a1 ≤ a0 then (if a0 = 0 then (if a1 = 0 then (some 0) else (some 12)) else (some 12)) else (some 0)) = some r := by rw [if_neg (show ¬ (false = true) by decide)] at H; exact H
     clear H
     have H := H1
     clear H1
     by_cases c8 : a1 ≤ a0
     · rw [if_pos c8] at H
       have c8b0 : decide (a1 ≤ a0) = true := decide_eq_true c8
       clear c8
       by_cases c9 : a0 = 0
       · rw [if_pos c9] at H
         have c9b0 : (a0 == 0) = true := beq_iff_eq.mpr c9
         have c9b1 : (a0 != 0) = false := bne_eq_false_iff_eq.mpr c9
         clear c9
         by_cases c10 : a1 = 0
         · rw [if_pos c10] at H
           have c10b0 : (a1 == 0) = true := beq_iff_eq.mpr c10
           have c10b1 : (a1 != 0) = false := bne_eq_false_iff_eq.mpr c10
           clear c10
           obtain rfl := Option.some.inj H
           go_wp2
           go_ret
           exact ⟨by first | rfl | (simp; done) | (simp [*]; done), by repeat (first | exact Drawn0.refl _ | apply Drawn0.step)⟩
         · rw [if_neg c10] at H
           have c10b0 : (a1 == 0) = false := beq_eq_false_iff_ne.mpr c10
           have c10b1 : (a1 != 0) = true := bne_iff_ne.mpr c10
           obtain rfl := Option.some.inj H
           go_wp2
           go_ret
           exact ⟨by first | rfl | (simp; done) | (simp [*]; done), by repeat (first | exact Drawn0.refl _ | apply Drawn0.step)⟩
       · rw [if_neg c9] at H
         have c9b0 : (a0 == 0) = false := beq_eq_false_iff_ne.mpr c9
         have c9b1 : (a0 != 0) = true := bne_iff_ne.mpr c9
         obtain rfl := Option.some.inj H
         go_wp2
         go_ret
         exact ⟨by first | rfl | (simp; done) | (simp [*]; done), by repeat (first | exact Drawn0.refl _ | apply Drawn0.step)⟩
     · rw [if_neg c8] at H
       have c8b0 : decide (a1 ≤ a0) = false := decide_eq_false c8
       clear c8
       obtain rfl := Option.some.inj H
       go_wp2
       go_ret
       exact ⟨by first | rfl | (simp; done) | (simp [*]; done), by repeat (first | exact Drawn0.refl _ | apply Drawn0.step)⟩
end Go.Proofs.Ytlffhagjpfcecaa.PA

namespace Go.Proofs.Ytlffhagjpfcecaa.PA
open Go.RowKit Go.Shelf Go.Proofs.YtlffhagjpfcecaaW.PrintWords Go.Proofs.YtlffhagjpfcecaaW.PrintLast Go.Proofs.YtlffhagjpfcecaaW.PrintMore
set_option linter.unusedVariables false
set_option linter.unusedSimpArgs false
theorem fence_room (k : Nat) : (Fence.list [65, 71, 76, 46] none).room k := by simp [Fence.room, Fence.list]
theorem spans_calls (b e p fr : Int) (hBd : Bd b e p fr) (hp : p ≤ 1000000000) (w : World) :
 Calls Try.prog 65 #[.agg #[.int .i64 b, .int .i64 e], .int .i64 p, .int .i64 fr] w fun ee W' =>
  (∃ v, ee = .returned (.tuple #[v, .int .i64 (endP b e fr.toNat p fr)]) ∧ (partsL b e fr.toNat p fr).length ≤ 100 ∧ endP b e fr.toNat p fr ≤ 1000000000 ∧
   W'.ownsRow w.heap.size 39 3 v (partsL b e fr.toNat p fr).length (flatS (partsL b e fr.toNat p fr)) ∧ Below w.heap.size w W') ∨
  (ee = .panicked [{ v := stopV 4, recovered := false }] ∧ (100 < (partsL b e fr.toNat p fr).length ∨ 1000000000 < endP b e fr.toNat p fr) ∧ Below w.heap.size w W') := by
 refine (spans_in (Fence.list [65, 71, 76, 46] none) 5 (by simp [Fence.list]) (by simp [Fence.list]) (by simp [Fence.list]) (by simp [Fence.list]) rfl ?_ (by omega) b e p fr hBd hp w).calls fence_room
 intro fn h
 have : fn = 65 ∨ fn = 71 ∨ fn = 76 ∨ fn = 46 := by simpa [Fence.list] using h
 rcases this with rfl | rfl | rfl | rfl
 · exact ⟨_, Try.func65⟩
 · exact ⟨_, Try.func71⟩
 · exact ⟨_, Try.func76⟩
 · exact ⟨_, Try.func46⟩
theorem must_ok_calls (x : Int) (w : World) : Calls Try.prog 46 #[.bool true, .int .i64 x] w fun ee w' => ee = .returned (.tuple #[]) ∧ w' = w :=
 (must_ok (Fence.list [65, 71, 76, 46] none) 5 (by simp [Fence.list]) rfl x w).calls fence_room
theorem must_no_calls (x : Int) (w : World) : Calls Try.prog 46 #[.bool false, .int .i64 x] w fun ee w' => ee = .panicked [{ v := stopV x, recovered := false }] ∧ w' = w :=
 (must_no (Fence.list [65, 71, 76, 46] none) 5 (by simp [Fence.list]) rfl x w).calls fence_room
theorem as77 (v : Value) (w : World) : (Instr.typeAssert (.iface 77 v) 20 77 true).run Try.prog w = .ok (.tuple #[v, .bool true]) w := by kernel_rfl
theorem asnil (w : World) : (Instr.typeAssert .nilIface 20 77 true).run Try.prog w = .ok (.tuple #[.agg #[.int .i64 0], .bool false]) w := by kernel_rfl
attribute [local go_sem] as77 asnil
set_option maxRecDepth 100000 in
theorem catch_panicking (B0 B1 B2 : Nat) (h01 : B0 ≠ B1) (h02 : B0 ≠ B2) (h12 : B1 ≠ B2) (x y z : Int) (v : Value) (w : World) (c0 : Boxed w B0 22 v) (c1 : Boxed w B1 3 (.int .i64 y)) (c2 : Boxed w B2 23 (.int .i64 z)) :
 CallsD Try.prog 64 #[.pointer (some ⟨B0, 0, none⟩), .pointer (some ⟨B1, 0, none⟩), .pointer (some ⟨B2, 0, none⟩)] (.panicking [{ v := stopV x, recovered := false }]) w fun e u' w' =>
  e = .returned (.tuple #[]) ∧ u' = .panicking [{ v := stopV x, recovered := true }] ∧ Boxed w' B0 22 (.slice none 0 0) ∧ Boxed w' B1 3 (.int .i64 0) ∧ Boxed w' B2 23 (.int .i64 x) ∧ ∀ n, n ≤ B0 → n ≤ B1 → n ≤ B2 → Below n w w' := by
 refine callsD_of_wpS Try.func64 rfl fun c₀ cs hu => ?_
 apply wpS_seq
 apply wpS_region
 simp [wpOpsS, go_sem, recoverD, hu, Try.ntmps64, Exit.thenS, stopV]
 refine wpS_of_wp ?_
 simp only [Array.replicate_succ, Array.replicate_zero, List.push_toArray, List.setIfInBounds_toArray, List.set_cons_zero, List.set_cons_succ, List.append_toArray, List.cons_append, List.nil_append]
 have n0 : w.heap.size ≠ B0 := fun ee => absurd c0.lt (by omega)
 have n1 : w.heap.size ≠ B1 := fun ee => absurd c1.lt (by omega)
 have n2 : w.heap.size ≠ B2 := fun ee => absurd c2.lt (by omega)
 have k0 : ∀ (W : World) (u : Value), (W.setCell ⟨B0, 0, none⟩ u).cell? ⟨w.heap.size, 0, none⟩ = W.cell? ⟨w.heap.size, 0, none⟩ := fun W u => World.cell?_of_block (heap_setOther W B0 u _ n0)
 have k1 : ∀ (W : World) (u : Value), (W.setCell ⟨B1, 0, none⟩ u).cell? ⟨w.heap.size, 0, none⟩ = W.cell? ⟨w.heap.size, 0, none⟩ := fun W u => World.cell?_of_block (heap_setOther W B1 u _ n1)
 have k2 : ∀ (W : World) (u : Value), (W.setCell ⟨B2, 0, none⟩ u).cell? ⟨w.heap.size, 0, none⟩ = W.cell? ⟨w.heap.size, 0, none⟩ := fun W u => World.cell?_of_block (heap_setOther W B2 u _ n2)
 have j01 : ∀ (W : World) (u : Value), (W.setCell ⟨B0, 0, none⟩ u).cell? ⟨B1, 0, none⟩ = W.cell? ⟨B1, 0, none⟩ := fun W u => World.cell?_of_block (heap_setOther W B0 u _ (Ne.symm h01))
 have j02 : ∀ (W : World) (u : Value), (W.setCell ⟨B0, 0, none⟩ u).cell? ⟨B2, 0, none⟩ = W.cell? ⟨B2, 0, none⟩ := fun W u => World.cell?_of_block (heap_setOther W B0 u _ (Ne.symm h02))
 have j12 : ∀ (W : World) (u : Value), (W.setCell ⟨B1, 0, none⟩ u).cell? ⟨B2, 0, none⟩ = W.cell? ⟨B2, 0, none⟩ := fun W u => World.cell?_of_block (heap_setOther W B1 u _ (Ne.symm h12))
 have a0 := c0.alloc (Obj.cells #[.int .i64 x] 77)
 have a1 := c1.alloc (Obj.cells #[.int .i64 x] 77)
 have a2 := c2.alloc (Obj.cells #[.int .i64 x] 77)
 have b0 := a0.cell
 have b1 := a1.cell
 have b2 := a2.cell
 have z0 := a0.frozen
 have z1 := a1.frozen
 have z2 := a2.frozen
 go_wp2
 go_region
 refine ⟨rfl, FrameMode.panicking [{ v := stopV x, recovered := true }], rfl, .tuple #[], by simp [results, Try.results64], rfl, rfl, ?_, ?_, ?_, ?_⟩
 · exact bx_other (bx_other (a0.set _) h01 _) h02 _
 · exact bx_other ((bx_other a1 (Ne.symm h01) _).set _) h12 _
 · exact (bx_other (bx_other a2 (Ne.symm h02) _) (Ne.symm h12) _).set _
 · intro n q0 q1 q2
   have hlt := c0.lt
   apply below_drew1
   exact (((((Below.refl n w).alloc (by omega) _).setCell (p := ⟨B0, 0, none⟩) q0 _).setCell (p := ⟨B1, 0, none⟩) q1 _).setCell (p := ⟨B2, 0, none⟩) q2 _)
set_option maxRecDepth 100000 in
theorem catch_idle (p0 p1 p2 : Value) (w : World) :
 CallsD Try.prog 64 #[p0, p1, p2] .returning w fun e u' w' => e = .returned (.tuple #[]) ∧ u' = .returning ∧ w' = w.alloc (.cells #[.int .i64 0] 77) := by
 refine callsD_of_wpS Try.func64 rfl fun c₀ cs hu => ?_
 apply wpS_seq
 apply wpS_region
 simp [wpOpsS, go_sem, recoverD, hu, Try.ntmps64, Exit.thenS]
 refine wpS_of_wp ?_
 simp only [Array.replicate_succ, Array.replicate_zero, List.push_toArray, List.setIfInBounds_toArray, List.set_cons_zero, List.set_cons_succ, List.append_toArray, List.cons_append, List.nil_append]
 go_wp2
 refine ⟨rfl, FrameMode.returning, ?_, .tuple #[], by simp [results, Try.results64], rfl, rfl, rfl⟩
 cases c₀
 simp_all
def mkS (x : Int × Int) : S39 := ⟨x.1, x.2, true⟩
def rolledP (a0 a1 a2 a3 : Int) : List S39 × Int × Int :=
 if 0 ≤ a0 ∧ a0 ≤ 1000000000 ∧ 0 ≤ a1 ∧ a1 ≤ 1000000000 ∧ 0 ≤ a2 ∧ a2 ≤ 1000000000 ∧ 0 ≤ a3 ∧ a3 ≤ 20000 then
  (if a2 ≤ a1 ∧ (a1 ≠ 0 ∨ a2 ≠ 0) then ([], 0, 12)
  else if (partsL a1 a2 a3.toNat a0 a3).length ≤ 100 ∧ endP a1 a2 a3.toNat a0 a3 ≤ 1000000000 then ((partsL a1 a2 a3.toNat a0 a3).map mkS, endP a1 a2 a3.toNat a0 a3, 0)
  else ([], 0, 4))
 else ([], 0, 7)
theorem looped_eq (b e : Int) (hb : 0 ≤ b ∧ b ≤ 1000000000) (he : 0 ≤ e ∧ e ≤ 1000000000) : transport_looped.f 1 b e = some (if e ≤ b ∧ (b ≠ 0 ∨ e ≠ 0) then 12 else 0) := by
 unfold transport_looped.f transport_within.f
 rw [if_pos hb.1, if_pos he.1, decide_eq_true hb.2, decide_eq_true he.2]
 simp only [Option.bind_some, if_true, Bool.not_true]
 rw [transport_looped.j0.eq_2, if_neg (by simp)]
 by_cases h : e ≤ b
 · rw [if_pos h]
   by_cases h1 : b = 0
   · rw [if_pos h1]
     by_cases h2 : e = 0
     · rw [if_pos h2, if_neg (by omega)]
     · rw [if_neg h2, if_pos ⟨h, .inr h2⟩]
   · rw [if_neg h1, if_pos ⟨h, .inl h1⟩]
 · rw [if_neg h, if_neg (fun x => h x.1)]
theorem within_eq (a hi : Int) : transport_within.f a 0 hi = some (decide (0 ≤ a ∧ a ≤ hi)) := by
 unfold transport_within.f
 by_cases h : 0 ≤ a
 · rw [if_pos h]; simp [h]
 · rw [if_neg h]; simp [h]
def BothR (a0 a1 a2 a3 : Int) (w : World) : Ending → World → Prop := fun e w' =>
 ∃ v0_ : Value, e = .returned (.tuple #[v0_, .int .i64 (rolledP a0 a1 a2 a3).2.1, .int .i64 (rolledP a0 a1 a2 a3).2.2]) ∧ Kd.R k39 39 w' w.heap.size (fun _ => True) v0_ (rolledP a0 a1 a2 a3).1 ∧ Below w.heap.size w w'
def bothD (m : Nat) : List Deferred := [{ target := .fn (.func 64) #[.pointer (some ⟨m, 0, none⟩), .pointer (some ⟨m + 1, 0, none⟩), .pointer (some ⟨m + 1 + 1, 0, none⟩)], args := #[] }]
theorem bx_drewN {W : World} {B : Nat} {t : TypeId} {v : Value} (n : Nat) (h : Boxed W B t v) : Boxed (W.drewN n) B t v := h
theorem bx_drew {W : World} {B : Nat} {t : TypeId} {v : Value} (h : Boxed W B t v) : Boxed W.drew B t v := h
theorem row_slice {W : World} {base : Nat} {v : Value} {n : Nat} {xs : List Value} (h : W.ownsRow base 39 3 v n xs) : ∃ A k c, v = .slice A k c := by
 rcases h.2 with ⟨rfl, _⟩ | ⟨g, cap, cur, rfl, _⟩
 · exact ⟨_, _, _, rfl⟩
 · exact ⟨_, _, _, rfl⟩
theorem reps_flat (W : World) (base : Nat) (ok : Nat → Prop) : ∀ (l : List (Int × Int)), Reps (k39.M W base ok) 3 (l.map mkS) (flatS l) := by
 intro l
 have key : ∀ (r a : List (Int × Int)), Reps (k39.M W base ok) 3 (a.map mkS) (flatS a) → Reps (k39.M W base ok) 3 ((a ++ r).map mkS) (flatS (a ++ r)) := by
  intro r
  induction r with
  | nil => intro a h; simpa using h
  | cons x r ih =>
   intro a h
   have h1 : Reps (k39.M W base ok) 3 ((a ++ [x]).map mkS) (flatS (a ++ [x])) := by
    have := h.snoc (k39_mkM W base ok (mkS x)) rfl
    simpa [flatS, mkS] using this
   have := ih (a ++ [x]) h1
   simpa using this
 simpa using key l [] (Reps.none _ _)
theorem kd_of_row {W : World} {base : Nat} {v : Value} {l : List (Int × Int)} (h : W.ownsRow base 39 3 v l.length (flatS l)) : Kd.R k39 39 W base (fun _ => True) v (l.map mkS) := by
 refine ⟨fun _ _ => trivial, ?_⟩
 exact ⟨flatS l, by rw [List.length_map]; exact h, reps_flat _ _ _ l⟩
theorem both_results (tmps : Array Value) (m : Nat) (h8 : tmps[8]? = some (.pointer (some ⟨m, 0, none⟩))) (h9 : tmps[9]? = some (.pointer (some ⟨m + 1, 0, none⟩))) (h10 : tmps[10]? = some (.pointer (some ⟨m + 1 + 1, 0, none⟩))) (W : World) (v : Value) (y z : Int)
 (b0 : W.cell? ⟨m, 0, none⟩ = some v) (b1 : W.cell? ⟨m + 1, 0, none⟩ = some (.int .i64 y)) (b2 : W.cell? ⟨m + 1 + 1, 0, none⟩ = some (.int .i64 z)) : (results Try.f36 tmps).run Try.prog W = .ok (.tuple #[v, .int .i64 y, .int .i64 z]) W := by
 simp [results, Try.results36, go_sem, h8, h9, h10, b0, b1, b2]
theorem err_leave (a0 a1 a2 a3 x y z : Int) (v : Value) (w W : World) (tmps : Array Value) (h8 : tmps[8]? = some (.pointer (some ⟨w.heap.size, 0, none⟩))) (h9 : tmps[9]? = some (.pointer (some ⟨w.heap.size + 1, 0, none⟩))) (h10 : tmps[10]? = some (.pointer (some ⟨w.heap.size + 1 + 1, 0, none⟩)))
 (b0 : Boxed W w.heap.size 22 v) (b1 : Boxed W (w.heap.size + 1) 3 (.int .i64 y)) (b2 : Boxed W (w.heap.size + 1 + 1) 23 (.int .i64 z)) (hB : Below w.heap.size w W) (hr : rolledP a0 a1 a2 a3 = ([], 0, x)) :
 Leaves Try.prog Try.f36 tmps (BothR a0 a1 a2 a3 w) (bothD w.heap.size) (.panicking [{ v := stopV x, recovered := false }]) W := by
 refine leaves_cons (f := 64) (args := #[.pointer (some ⟨w.heap.size, 0, none⟩), .pointer (some ⟨w.heap.size + 1, 0, none⟩), .pointer (some ⟨w.heap.size + 1 + 1, 0, none⟩)]) (by simp) (by simp [go_sem]) ?_
 refine (catch_panicking w.heap.size (w.heap.size + 1) (w.heap.size + 1 + 1) (by omega) (by omega) (by omega) x y z v W b0 b1 b2).mono ?_
 rintro e u' w'' ⟨rfl, rfl, c0, c1, c2, hb⟩
 refine ⟨.tuple #[.slice none 0 0, .int .i64 0, .int .i64 x], both_results tmps w.heap.size h8 h9 h10 w'' _ 0 x c0.cell c1.cell c2.cell, ?_⟩
 exact ⟨.slice none 0 0, by rw [hr], by rw [hr]; exact Kd.R_nil _ _ _ _ _, hB.trans (hb _ (Nat.le_refl _) (by omega) (by omega))⟩
theorem ok_leave (a0 a1 a2 a3 y z : Int) (v : Value) (w W : World) (tmps : Array Value) (h8 : tmps[8]? = some (.pointer (some ⟨w.heap.size, 0, none⟩))) (h9 : tmps[9]? = some (.pointer (some ⟨w.heap.size + 1, 0, none⟩))) (h10 : tmps[10]? = some (.pointer (some ⟨w.heap.size + 1 + 1, 0, none⟩)))
 (b0 : Boxed W w.heap.size 22 v) (b1 : Boxed W (w.heap.size + 1) 3 (.int .i64 y)) (b2 : Boxed W (w.heap.size + 1 + 1) 23 (.int .i64 z)) (hB : Below w.heap.size w W) (hr : (rolledP a0 a1 a2 a3).2 = (y, z)) (hk : Kd.R k39 39 W w.heap.size (fun _ => True) v (rolledP a0 a1 a2 a3).1) :
 Leaves Try.prog Try.f36 tmps (BothR a0 a1 a2 a3 w) (bothD w.heap.size) .returning W := by
 refine leaves_cons (f := 64) (args := #[.pointer (some ⟨w.heap.size, 0, none⟩), .pointer (some ⟨w.heap.size + 1, 0, none⟩), .pointer (some ⟨w.heap.size + 1 + 1, 0, none⟩)]) (by simp) (by simp [go_sem]) ?_
 refine (catch_idle _ _ _ W).mono ?_
 rintro e u' w'' ⟨rfl, rfl, rfl⟩
 refine ⟨.tuple #[v, .int .i64 y, .int .i64 z], both_results tmps w.heap.size h8 h9 h10 _ _ y z (b0.alloc _).cell (b1.alloc _).cell (b2.alloc _).cell, ?_⟩
 exact ⟨v, by rw [hr], Kd.R_alloc hk _, hB.alloc hB.size _⟩
set_option maxRecDepth 100000 in
set_option maxHeartbeats 8000000 in
theorem both_calls (a0 a1 a2 a3 : Int) (w : World) : Calls Try.prog 36 #[.int .i64 a0, .int .i64 a1, .int .i64 a2, .int .i64 a3] w fun e w' =>
 ∃ v0_ : Value, e = .returned (.tuple #[v0_, .int .i64 (rolledP a0 a1 a2 a3).2.1, .int .i64 (rolledP a0 a1 a2 a3).2.2]) ∧ Kd.R k39 39 w' w.heap.size (fun _ => True) v0_ (rolledP a0 a1 a2 a3).1 ∧ Below w.heap.size w w' := by
 have hmf : ∀ (fn : Fn) (first cap : Array Value) (w : World), (Instr.makeFunc fn first cap).run Try.prog w = .ok (.func fn first cap) w := fun _ _ _ _ => rfl
 go_enter_defers Try.func36, Try.ntmps36
 have hA0 := within_eq a0 1000000000
 have hA1 := within_eq a1 1000000000
 have hA2 := within_eq a2 1000000000
 have hA3 := within_eq a3 20000
 go_upto_region 2 with (fail)
 obtain ⟨W0, hW0⟩ : ∃ W0, ((w.alloc (Obj.cells #[.slice none 0 0] 22)).alloc (Obj.cells #[.int .i64 0] 3)).alloc (Obj.cells #[.int .i64 0] 23) = W0 := ⟨_, rfl⟩
 have sz : W0.heap.size = w.heap.size + 3 := by rw [← hW0]; simp
 have HB : Below w.heap.size w W0 := by
  rw [← hW0]
  exact (((Below.refl _ w).alloc (by simp) _).alloc (by simp) _).alloc (by simp; omega) _
 have b0 : Boxed W0 w.heap.size 22 (.slice none 0 0) := by
  unfold Boxed; rw [← hW0]; simp only [hal, World.size_alloc]; repeat (first | rw [if_pos (by omega)] | rw [if_pos trivial] | rw [if_neg (by omega)])
 have b1 : Boxed W0 (w.heap.size + 1) 3 (.int .i64 0) := by
  unfold Boxed; rw [← hW0]; simp only [hal, World.size_alloc]; repeat (first | rw [if_pos (by omega)] | rw [if_pos trivial] | rw [if_neg (by omega)])
 have b2 : Boxed W0 (w.heap.size + 1 + 1) 23 (.int .i64 0) := by
  unfold Boxed; rw [← hW0]; simp only [hal, World.size_alloc]; repeat (first | rw [if_pos (by omega)] | rw [if_pos trivial] | rw [if_neg (by omega)])
 rw [hW0]
 clear hW0
 have d0 := b0.cell
 have d1 := b1.cell
 have d2 := b2.cell
 have z0 := b0.frozen
 have z1 := b1.frozen
 have z2 := b2.frozen
 by_cases c0 : 0 ≤ a0 ∧ a0 ≤ 1000000000
 · rw [decide_eq_true c0] at hA0
   by_cases c1 : 0 ≤ a1 ∧ a1 ≤ 1000000000
   · rw [decide_eq_true c1] at hA1
     by_cases c2 : 0 ≤ a2 ∧ a2 ≤ 1000000000
     · rw [decide_eq_true c2] at hA2
       by_cases c3 : 0 ≤ a3 ∧ a3 ≤ 20000
       · rw [decide_eq_true c3] at hA3
         have hlp := looped_eq a1 a2 c1 c2
         by_cases cl : a2 ≤ a1 ∧ (a1 ≠ 0 ∨ a2 ≠ 0)
         · rw [if_pos cl] at hlp
           have hrl : rolledP a0 a1 a2 a3 = ([], 0, 12) := by unfold rolledP; rw [if_pos ⟨c0.1, c0.2, c1.1, c1.2, c2.1, c2.2, c3.1, c3.2⟩, if_pos cl]
           go_wp2_with (first | (go_at_call 38; (with_reducible refine (transport_within.calls a0 0 1000000000 true _ hA0).mono ?_); rintro e w' ⟨rfl, ⟨nd, rfl⟩⟩) | (go_at_call 38; (with_reducible refine (transport_within.calls a1 0 1000000000 true _ hA1).mono ?_); rintro e w' ⟨rfl, ⟨nd, rfl⟩⟩) | (go_at_call 38; (with_reducible refine (transport_within.calls a2 0 1000000000 true _ hA2).mono ?_); rintro e w' ⟨rfl, ⟨nd, rfl⟩⟩) | (go_at_call 38; (with_reducible refine (transport_within.calls a3 0 20000 true _ hA3).mono ?_); rintro e w' ⟨rfl, ⟨nd, rfl⟩⟩) | (go_at_call 46; (with_reducible refine (must_ok_calls 7 _).mono ?_); rintro e w' ⟨rfl, rfl⟩) | (go_at_call 42; (with_reducible refine (transport_looped.calls 1 a1 a2 12 _ hlp).mono ?_); rintro e w' ⟨rfl, ⟨nd, rfl⟩⟩))
           refine ok_leave a0 a1 a2 a3 0 12 (.slice none 0 0) w _ _ rfl rfl rfl ?_ ?_ ?_ ?_ (by rw [hrl]) (by rw [hrl]; exact Kd.R_nil _ _ _ _ _)
           · exact bx_other (bx_other ((bx_drewN _ b0).set _) (by omega) _) (by omega) _
           · exact bx_other ((bx_other (bx_drewN _ b1) (by omega) _).set _) (by omega) _
           · exact (bx_other (bx_other (bx_drewN _ b2) (by omega) _) (by omega) _).set _
           · exact (((pw_below_drewN HB _).setCell (p := ⟨w.heap.size, 0, none⟩) (by simp) _).setCell (p := ⟨w.heap.size + 1, 0, none⟩) (by simp) _).setCell (p := ⟨w.heap.size + 1 + 1, 0, none⟩) (by simp; omega) _
         · rw [if_neg cl] at hlp
           have hBd : Bd a1 a2 a0 a3 := ⟨by omega, by omega, by omega, by omega, by omega, by omega, by omega, by omega⟩
           have s01 : ∀ (W : World) (u : Value), (W.setCell ⟨w.heap.size, 0, none⟩ u).cell? ⟨w.heap.size + 1, 0, none⟩ = W.cell? ⟨w.heap.size + 1, 0, none⟩ := fun W u => World.cell?_of_block (heap_setOther W _ u _ (by dsimp only; omega))
           have s10 : ∀ (W : World) (u : Value), (W.setCell ⟨w.heap.size + 1, 0, none⟩ u).cell? ⟨w.heap.size, 0, none⟩ = W.cell? ⟨w.heap.size, 0, none⟩ := fun W u => World.cell?_of_block (heap_setOther W _ u _ (by dsimp only; omega))
           have s02 : ∀ (W : World) (u : Value), (W.setCell ⟨w.heap.size, 0, none⟩ u).cell? ⟨w.heap.size + 1 + 1, 0, none⟩ = W.cell? ⟨w.heap.size + 1 + 1, 0, none⟩ := fun W u => World.cell?_of_block (heap_setOther W _ u _ (by dsimp only; omega))
           have s12 : ∀ (W : World) (u : Value), (W.setCell ⟨w.heap.size + 1, 0, none⟩ u).cell? ⟨w.heap.size + 1 + 1, 0, none⟩ = W.cell? ⟨w.heap.size + 1 + 1, 0, none⟩ := fun W u => World.cell?_of_block (heap_setOther W _ u _ (by dsimp only; omega))
           have s20 : ∀ (W : World) (u : Value), (W.setCell ⟨w.heap.size + 1 + 1, 0, none⟩ u).cell? ⟨w.heap.size, 0, none⟩ = W.cell? ⟨w.heap.size, 0, none⟩ := fun W u => World.cell?_of_block (heap_setOther W _ u _ (by dsimp only; omega))
           have s21 : ∀ (W : World) (u : Value), (W.setCell ⟨w.heap.size + 1 + 1, 0, none⟩ u).cell? ⟨w.heap.size + 1, 0, none⟩ = W.cell? ⟨w.heap.size + 1, 0, none⟩ := fun W u => World.cell?_of_block (heap_setOther W _ u _ (by dsimp only; omega))
           by_cases hL : (partsL a1 a2 a3.toNat a0 a3).length ≤ 100 ∧ endP a1 a2 a3.toNat a0 a3 ≤ 1000000000
           · have hrl : rolledP a0 a1 a2 a3 = ((partsL a1 a2 a3.toNat a0 a3).map mkS, endP a1 a2 a3.toNat a0 a3, 0) := by unfold rolledP; rw [if_pos ⟨c0.1, c0.2, c1.1, c1.2, c2.1, c2.2, c3.1, c3.2⟩, if_neg cl, if_pos hL]
             have hS : ∀ W, Calls Try.prog 65 #[.agg #[.int .i64 a1, .int .i64 a2], .int .i64 a0, .int .i64 a3] W fun ee W' => ∃ A n c, ee = .returned (.tuple #[.slice A n c, .int .i64 (endP a1 a2 a3.toNat a0 a3)]) ∧ W'.ownsRow W.heap.size 39 3 (.slice A n c) (partsL a1 a2 a3.toNat a0 a3).length (flatS (partsL a1 a2 a3.toNat a0 a3)) ∧ Below W.heap.size W W' := fun W =>
              (spans_calls a1 a2 a0 a3 hBd c0.2 W).mono (by rintro ee W' (⟨v, h1, h2, h3, h4, h5⟩ | ⟨h1, h2, h3⟩); obtain ⟨A, n, c, rfl⟩ := row_slice h4; exact ⟨A, n, c, h1, h4, h5⟩; omega)
             go_wp2_with (first | (go_at_call 38; (with_reducible refine (transport_within.calls a0 0 1000000000 true _ hA0).mono ?_); rintro e w' ⟨rfl, ⟨nd, rfl⟩⟩) | (go_at_call 38; (with_reducible refine (transport_within.calls a1 0 1000000000 true _ hA1).mono ?_); rintro e w' ⟨rfl, ⟨nd, rfl⟩⟩) | (go_at_call 38; (with_reducible refine (transport_within.calls a2 0 1000000000 true _ hA2).mono ?_); rintro e w' ⟨rfl, ⟨nd, rfl⟩⟩) | (go_at_call 38; (with_reducible refine (transport_within.calls a3 0 20000 true _ hA3).mono ?_); rintro e w' ⟨rfl, ⟨nd, rfl⟩⟩) | (go_at_call 46; (with_reducible refine (must_ok_calls 7 _).mono ?_); rintro e w' ⟨rfl, rfl⟩) | (go_at_call 42; (with_reducible refine (transport_looped.calls 1 a1 a2 0 _ hlp).mono ?_); rintro e w' ⟨rfl, ⟨nd, rfl⟩⟩) | (go_at_call 65; (with_reducible refine (hS _).mono ?_); rintro e w' ⟨A, n, c, rfl, hrow, hbel⟩; have e0 : Boxed w' w.heap.size 22 (.slice none 0 0) := (hbel.block _ (by have := sz; simp; omega)).trans b0; have e1 : Boxed w' (w.heap.size + 1) 3 (.int .i64 0) := (hbel.block _ (by have := sz; simp; omega)).trans b1; have e2 : Boxed w' (w.heap.size + 1 + 1) 23 (.int .i64 0) := (hbel.block _ (by have := sz; simp; omega)).trans b2; have f0 := e0.cell; have f1 := e1.cell; have f2 := e2.cell; have y0 := e0.frozen; have y1 := e1.frozen; have y2 := e2.frozen))
             go_region
             all_goals go_wp2
             have hw0 : w.heap.size ≤ (W0.drewN 0).heap.size := by have := sz; simp; omega
             have hrow0 := row_weaken (base' := w.heap.size) (by have := sz; simp; omega) hrow
             have hne : ∀ q, q < W0.heap.size → some q ≠ (Value.slice A n c).ownBlock := fun q hq ee => by have := row_ge hrow _ ee.symm; simp at this; omega
             refine ok_leave a0 a1 a2 a3 (endP a1 a2 a3.toNat a0 a3) 0 (.slice A n c) w _ _ rfl rfl rfl ?_ ?_ ?_ ?_ (by rw [hrl]) ?_
             · apply bx_drew; exact bx_other (bx_other ((bx_other (e0.set _) (by omega) _).set _) (by omega) _) (by omega) _
             · apply bx_drew; exact bx_other ((bx_other ((bx_other e1 (by omega) _).set _) (by omega) _).set _) (by omega) _
             · apply bx_drew; exact (bx_other (bx_other (bx_other (bx_other e2 (by omega) _) (by omega) _) (by omega) _) (by omega) _).set _
             · apply below_drew1
               exact ((((((pw_below_drewN HB _).trans (hbel.mono (by have := sz; simp; omega))).setCell (p := ⟨w.heap.size, 0, none⟩) (by simp) _).setCell (p := ⟨w.heap.size + 1, 0, none⟩) (by simp) _).setCell (p := ⟨w.heap.size, 0, none⟩) (by simp) _).setCell (p := ⟨w.heap.size + 1, 0, none⟩) (by simp) _).setCell (p := ⟨w.heap.size + 1 + 1, 0, none⟩) (by simp; omega) _
             · rw [hrl]
               apply Kd.R_drew
               exact kd_of_row (((((hrow0.kept (grownBy_setCell' _ _ _) (.inr (hne _ (by omega)).symm)).kept (grownBy_setCell' _ _ _) (.inr (hne _ (by omega)).symm)).kept (grownBy_setCell' _ _ _) (.inr (hne _ (by omega)).symm)).kept (grownBy_setCell' _ _ _) (.inr (hne _ (by omega)).symm)).kept (grownBy_setCell' _ _ _) (.inr (hne _ (by omega)).symm))
           · have hrl : rolledP a0 a1 a2 a3 = ([], 0, 4) := by unfold rolledP; rw [if_pos ⟨c0.1, c0.2, c1.1, c1.2, c2.1, c2.2, c3.1, c3.2⟩, if_neg cl, if_neg hL]
             have hS : ∀ W, Calls Try.prog 65 #[.agg #[.int .i64 a1, .int .i64 a2], .int .i64 a0, .int .i64 a3] W fun ee W' => ee = .panicked [{ v := stopV 4, recovered := false }] ∧ Below W.heap.size W W' := fun W =>
              (spans_calls a1 a2 a0 a3 hBd c0.2 W).mono (by rintro ee W' (⟨v, h1, h2, h3, h4, h5⟩ | ⟨h1, h2, h3⟩); exact absurd ⟨h2, h3⟩ hL; exact ⟨h1, h3⟩)
             go_wp2_with (first | (go_at_call 38; (with_reducible refine (transport_within.calls a0 0 1000000000 true _ hA0).mono ?_); rintro e w' ⟨rfl, ⟨nd, rfl⟩⟩) | (go_at_call 38; (with_reducible refine (transport_within.calls a1 0 1000000000 true _ hA1).mono ?_); rintro e w' ⟨rfl, ⟨nd, rfl⟩⟩) | (go_at_call 38; (with_reducible refine (transport_within.calls a2 0 1000000000 true _ hA2).mono ?_); rintro e w' ⟨rfl, ⟨nd, rfl⟩⟩) | (go_at_call 38; (with_reducible refine (transport_within.calls a3 0 20000 true _ hA3).mono ?_); rintro e w' ⟨rfl, ⟨nd, rfl⟩⟩) | (go_at_call 46; (with_reducible refine (must_ok_calls 7 _).mono ?_); rintro e w' ⟨rfl, rfl⟩) | (go_at_call 42; (with_reducible refine (transport_looped.calls 1 a1 a2 0 _ hlp).mono ?_); rintro e w' ⟨rfl, ⟨nd, rfl⟩⟩) | (go_at_call 65; (with_reducible refine (hS _).mono ?_); rintro e w' ⟨rfl, hbel⟩))
             refine err_leave a0 a1 a2 a3 4 0 0 (.slice none 0 0) w _ _ rfl rfl rfl ?_ ?_ ?_ ?_ hrl
             · exact (hbel.block _ (by have := sz; simp; omega)).trans b0
             · exact (hbel.block _ (by have := sz; simp; omega)).trans b1
             · exact (hbel.block _ (by have := sz; simp; omega)).trans b2
             · exact (pw_below_drewN HB _).trans (hbel.mono (by have := sz; simp; omega))
       · rw [decide_eq_false c3] at hA3
         go_wp2_with (first | (go_at_call 38; (with_reducible refine (transport_within.calls a0 0 1000000000 true _ hA0).mono ?_); rintro e w' ⟨rfl, ⟨nd, rfl⟩⟩) | (go_at_call 38; (with_reducible refine (transport_within.calls a1 0 1000000000 true _ hA1).mono ?_); rintro e w' ⟨rfl, ⟨nd, rfl⟩⟩) | (go_at_call 38; (with_reducible refine (transport_within.calls a2 0 1000000000 true _ hA2).mono ?_); rintro e w' ⟨rfl, ⟨nd, rfl⟩⟩) | (go_at_call 38; (with_reducible refine (transport_within.calls a3 0 20000 false _ hA3).mono ?_); rintro e w' ⟨rfl, ⟨nd, rfl⟩⟩) | (go_at_call 46; (with_reducible refine (must_no_calls 7 _).mono ?_); rintro e w' ⟨rfl, rfl⟩))
         refine err_leave a0 a1 a2 a3 7 0 0 (.slice none 0 0) w _ _ rfl rfl rfl ?_ ?_ ?_ ?_ (by unfold rolledP; rw [if_neg (by omega)])
         · repeat (first | exact b0 | apply bx_drewN)
         · repeat (first | exact b1 | apply bx_drewN)
         · repeat (first | exact b2 | apply bx_drewN)
         · repeat (first | exact HB | apply pw_below_drewN)
     · rw [decide_eq_false c2] at hA2
       go_wp2_with (first | (go_at_call 38; (with_reducible refine (transport_within.calls a0 0 1000000000 true _ hA0).mono ?_); rintro e w' ⟨rfl, ⟨nd, rfl⟩⟩) | (go_at_call 38; (with_reducible refine (transport_within.calls a1 0 1000000000 true _ hA1).mono ?_); rintro e w' ⟨rfl, ⟨nd, rfl⟩⟩) | (go_at_call 38; (with_reducible refine (transport_within.calls a2 0 1000000000 false _ hA2).mono ?_); rintro e w' ⟨rfl, ⟨nd, rfl⟩⟩) | (go_at_call 46; (with_reducible refine (must_no_calls 7 _).mono ?_); rintro e w' ⟨rfl, rfl⟩))
       refine err_leave a0 a1 a2 a3 7 0 0 (.slice none 0 0) w _ _ rfl rfl rfl ?_ ?_ ?_ ?_ (by unfold rolledP; rw [if_neg (by omega)])
       · repeat (first | exact b0 | apply bx_drewN)
       · repeat (first | exact b1 | apply bx_drewN)
       · repeat (first | exact b2 | apply bx_drewN)
       · repeat (first | exact HB | apply pw_below_drewN)
   · rw [decide_eq_false c1] at hA1
     go_wp2_with (first | (go_at_call 38; (with_reducible refine (transport_within.calls a0 0 1000000000 true _ hA0).mono ?_); rintro e w' ⟨rfl, ⟨nd, rfl⟩⟩) | (go_at_call 38; (with_reducible refine (transport_within.calls a1 0 1000000000 false _ hA1).mono ?_); rintro e w' ⟨rfl, ⟨nd, rfl⟩⟩) | (go_at_call 46; (with_reducible refine (must_no_calls 7 _).mono ?_); rintro e w' ⟨rfl, rfl⟩))
     refine err_leave a0 a1 a2 a3 7 0 0 (.slice none 0 0) w _ _ rfl rfl rfl ?_ ?_ ?_ ?_ (by unfold rolledP; rw [if_neg (by omega)])
     · repeat (first | exact b0 | apply bx_drewN)
     · repeat (first | exact b1 | apply bx_drewN)
     · repeat (first | exact b2 | apply bx_drewN)
     · repeat (first | exact HB | apply pw_below_drewN)
 · rw [decide_eq_false c0] at hA0
   go_wp2_with (first | (go_at_call 38; (with_reducible refine (transport_within.calls a0 0 1000000000 false _ hA0).mono ?_); rintro e w' ⟨rfl, ⟨nd, rfl⟩⟩) | (go_at_call 46; (with_reducible refine (must_no_calls 7 _).mono ?_); rintro e w' ⟨rfl, rfl⟩))
   refine err_leave a0 a1 a2 a3 7 0 0 (.slice none 0 0) w _ _ rfl rfl rfl ?_ ?_ ?_ ?_ (by unfold rolledP; rw [if_neg (by omega)])
   · repeat (first | exact b0 | apply bx_drewN)
   · repeat (first | exact b1 | apply bx_drewN)
   · repeat (first | exact b2 | apply bx_drewN)
   · repeat (first | exact HB | apply pw_below_drewN)
def transport_both.f (a0 a1 a2 a3 : Int) : Option (List S39 × Int × Int) := some (rolledP a0 a1 a2 a3)
theorem transport_both.calls (a0 : Int) (a1 : Int) (a2 : Int) (a3 : Int) (r1 : List (S39)) (r2 : Int) (r3 : Int) (w : World) (h : transport_both.f a0 a1 a2 a3 = some (r1, r2, r3)) :
 Calls Try.prog 36 #[.int .i64 a0, .int .i64 a1, .int .i64 a2, .int .i64 a3] w fun e w' => ∃ v0_ : Value, e = .returned (.tuple #[v0_, .int .i64 r2, .int .i64 r3]) ∧ Kd.R k39 39 w' w.heap.size (fun _ => True) v0_ r1 ∧ Below w.heap.size w w' := by
 have := both_calls a0 a1 a2 a3 w
 rw [Option.some.inj h] at this
 exact this
end Go.Proofs.Ytlffhagjpfcecaa.PA

namespace Go.Proofs.Ytlffhagjpfcecaa.PA
open Go.RowKit Go.Proofs.YtlffhagjpfcecaaW.PrintWords Go.Proofs.YtlffhagjpfcecaaW.PrintLast Go.Proofs.YtlffhagjpfcecaaW.PrintMore
attribute [local go_sem] max2_int min2_int max_two min_two max_three min_three max_four min_four
set_option linter.unusedVariables false
set_option linter.unusedSimpArgs false
end Go.Proofs.Ytlffhagjpfcecaa.PA

namespace Go.Proofs.Ytlffhagjpfcecaa.PA
open Go.RowKit Go.Proofs.YtlffhagjpfcecaaW.PrintWords Go.Proofs.YtlffhagjpfcecaaW.PrintLast Go.Proofs.YtlffhagjpfcecaaW.PrintMore
attribute [local go_sem] max2_int min2_int max_two min_two max_three min_three max_four min_four
set_option linter.unusedVariables false
set_option linter.unusedSimpArgs false
def transport_Spans.f (a0 : Int) (a1 : Int) (a2 : Int) (a3 : Int) : Option ((List (S39)) × Int) := (transport_both.f a0 a1 a2 a3).bind fun bt104 => (some (bt104.1, bt104.2.2))
set_option maxHeartbeats 8000000 in
set_option maxRecDepth 100000 in
theorem transport_Spans.calls (a0 : Int) (a1 : Int) (a2 : Int) (a3 : Int) (r1 : List (S39)) (r2 : Int) (w : World) (h : transport_Spans.f a0 a1 a2 a3 = some (r1, r2)) :
 Calls Try.prog 7 #[.int .i64 a0, .int .i64 a1, .int .i64 a2, .int .i64 a3] w fun e w' => ∃ v0_ : Value, e = .returned (.tuple #[v0_, .int .i64 r2]) ∧ Kd.R k39 39 w' w.heap.size (fun _ => True) v0_ r1 ∧ Below w.heap.size w w' := by
 have HB := Aside0.mk (Below.refl w.heap.size w)
 have H : ((transport_both.f a0 a1 a2 a3).bind fun bt104 => (some (bt104.1, bt104.2.2))) = some (r1, r2) := h
 clear h
 replace H := Option.bind_eq_some_iff.mp H
 obtain ⟨⟨t104, t105, t106⟩, A50, H⟩ := H
 replace H : (some (t104, t106)) = some (r1, r2) := H
 have A5 := Aside0.mk A50
 clear A50
 simp only [Option.some.injEq, Prod.mk.injEq] at H
 obtain ⟨rfl, rfl⟩ := H
 go_enter Try.func7, Try.ntmps7
 go_wp2_with (first | ((with_reducible refine gate_callee (f := 36) rfl ?_); refine goesL_ (some 18) rfl rfl Try.func36 (by kernel_rfl) rfl #[.int .i64 a0, .int .i64 a1, .int .i64 a2, .int .i64 a3] rfl (by (try simp only [List.map_toArray, List.map_cons, List.map_nil]); first | done | rfl | (simp only [List.length_drop, List.length_take]; rfl)) ?_; (with_reducible refine (transport_both.calls a0 a1 a2 a3 t104 t105 t106 _ A5.out).mono ?_); rintro e w6 ⟨v107, rfl, ho0, hb⟩; refine ⟨_, rfl, ?_⟩; have n0_ := Aside0.mk (Kd.R_lower ho0 (below_size (by repeat (first | (with_reducible first | exact HB.out | apply below_alloc | apply pw_below_drewN | apply below_drew1) | exact HB.out)))); have n1_ := Aside0.mk (below_step (by repeat (first | (with_reducible first | exact HB.out | apply below_alloc | apply pw_below_drewN | apply below_drew1) | exact HB.out)) hb); clear HB; have HO108 := n0_; have HB := n1_; clear n0_ n1_; (try clear hb); (try clear hb2); (try clear hk); (try clear hi); (try clear ho0)))
 go_ret2
 exact ⟨_, by first | rfl | (simp [errW_none, errW_some] <;> rfl) | (simp [*, errW_none, errW_some] <;> rfl), by (with_reducible repeat (first | apply Kd.R_alloc | apply Kd.R_drewN | apply Kd.R_drew)); exact HO108.out, by repeat (first | (with_reducible first | exact HB.out | apply below_alloc | apply pw_below_drewN | apply below_drew1) | exact HB.out)⟩
end Go.Proofs.Ytlffhagjpfcecaa.PA

namespace Go.Proofs.Ytlffhagjpfcecaa.PA
open Go.RowKit Go.Proofs.YtlffhagjpfcecaaW.PrintWords Go.Proofs.YtlffhagjpfcecaaW.PrintLast Go.Proofs.YtlffhagjpfcecaaW.PrintMore
attribute [local go_sem] max2_int min2_int max_two min_two max_three min_three max_four min_four
set_option linter.unusedVariables false
set_option linter.unusedSimpArgs false
theorem w64z : wrap64 0 = 0 := by unfold wrap64; omega
mutual
def continuoref15_spans.j0 : Nat → Int → Int → Int → Int → List (S39) → Bool → Option ((List (S39)) × Int × Int)
 | 0, _, _, _, _, _, _ => none
 | k + 1, x0, x1, x2, x3, x11, x12 => continuoref15_spans.l0 k x0 x1 x2 x3 x11 x12
def continuoref15_spans.l0 : Nat → Int → Int → Int → Int → List (S39) → Bool → Option ((List (S39)) × Int × Int)
 | 0, _, _, _, _, _, _ => none
 | k + 1, x0, x1, x2, x3, x11, x12 => if x3 > 0 then (if x12 = true then (if x11.length < 5864062014805 then ((some (x11 ++ [(⟨x0, mn x3 (wrap64 (x2 - x0)), true⟩ : S39)] : List (S39))).bind fun y109 => (if (wrap64 (x0 + (mn x3 (wrap64 (x2 - x0))))) = x2 then (continuoref15_spans.l0 k x1 x1 x2 (wrap64 (x3 - (mn x3 (wrap64 (x2 - x0))))) y109 x12) else (continuoref15_spans.l0 k (wrap64 (x0 + (mn x3 (wrap64 (x2 - x0))))) x1 x2 (wrap64 (x3 - (mn x3 (wrap64 (x2 - x0))))) y109 x12))) else (none)) else (if x11.length < 5864062014805 then (continuoref15_spans.l0 k (wrap64 (x0 + x3)) x1 x2 (wrap64 (x3 - x3)) (x11 ++ [(⟨x0, x3, true⟩ : S39)]) x12) else (none))) else (if x0 > 1000000000 then (some (([] : List (S39)), 0, 4)) else (if (x11.length : Int) > 100 then (some (([] : List (S39)), 0, 4)) else (some (x11, x0, 0))))
end
def continuoref15_spans.f (k : Nat) (a0 : Int) (a1 : Int) (a2 : Int) (a3 : Int) : Option ((List (S39)) × Int × Int) := if a2 > 0 then (continuoref15_spans.j0 k a0 a1 a2 a3 ([] : List (S39)) (decide (a0 < a2))) else (continuoref15_spans.j0 k a0 a1 a2 a3 ([] : List (S39)) false)
theorem continuoref15_spans.mono_l : ∀ k, (∀ y0 y1 y2 y3 y4 y5, LeO (continuoref15_spans.j0 k y0 y1 y2 y3 y4 y5) (continuoref15_spans.j0 (k + 1) y0 y1 y2 y3 y4 y5)) ∧ (∀ y0 y1 y2 y3 y4 y5, LeO (continuoref15_spans.l0 k y0 y1 y2 y3 y4 y5) (continuoref15_spans.l0 (k + 1) y0 y1 y2 y3 y4 y5))
 | 0 => ⟨fun _ _ _ _ _ _ r h => by simp [continuoref15_spans.j0] at h, fun _ _ _ _ _ _ r h => by simp [continuoref15_spans.l0] at h⟩
 | k + 1 => by
  obtain ⟨ih0, ih1⟩ := continuoref15_spans.mono_l k
  refine ⟨?_, ?_⟩
  · intro y0 y1 y2 y3 y4 y5
    unfold continuoref15_spans.j0
    repeat' first
    | (with_reducible exact ih0 _ _ _ _ _ _)
    | (with_reducible exact ih1 _ _ _ _ _ _)
    | (with_reducible exact LeO.refl _)
    | (with_reducible exact LeO.none _)
    | (with_reducible refine LeO.ite ?_ ?_)
    | (with_reducible refine LeO.bind ?_ (fun _ => ?_))
    | exact ih0 _ _ _ _ _ _
    | exact ih1 _ _ _ _ _ _
    | exact LeO.none _
    | refine LeO.ite ?_ ?_
    | refine LeO.bind ?_ (fun _ => ?_)
  · intro y0 y1 y2 y3 y4 y5
    unfold continuoref15_spans.l0
    repeat' first
    | (with_reducible exact ih0 _ _ _ _ _ _)
    | (with_reducible exact ih1 _ _ _ _ _ _)
    | (with_reducible exact LeO.refl _)
    | (with_reducible exact LeO.none _)
    | (with_reducible refine LeO.ite ?_ ?_)
    | (with_reducible refine LeO.bind ?_ (fun _ => ?_))
    | exact ih0 _ _ _ _ _ _
    | exact ih1 _ _ _ _ _ _
    | exact LeO.none _
    | refine LeO.ite ?_ ?_
    | refine LeO.bind ?_ (fun _ => ?_)
theorem continuoref15_spans.mono : ∀ a0 a1 a2 a3 k, LeO (continuoref15_spans.f k a0 a1 a2 a3) (continuoref15_spans.f (k + 1) a0 a1 a2 a3) := by
 intro a0 a1 a2 a3 k
 obtain ⟨ih0, ih1⟩ := continuoref15_spans.mono_l k
 unfold continuoref15_spans.f
 repeat' first
  | (with_reducible exact ih0 _ _ _ _ _ _)
  | (with_reducible exact ih1 _ _ _ _ _ _)
  | (with_reducible exact LeO.refl _)
  | (with_reducible exact LeO.none _)
  | (with_reducible refine LeO.ite ?_ ?_)
  | (with_reducible refine LeO.bind ?_ (fun _ => ?_))
  | exact ih0 _ _ _ _ _ _
  | exact ih1 _ _ _ _ _ _
  | exact LeO.none _
  | refine LeO.ite ?_ ?_
  | refine LeO.bind ?_ (fun _ => ?_)
set_option maxHeartbeats 8000000 in
set_option maxRecDepth 100000 in
theorem continuoref15_spans.calls (k : Nat) (a0 : Int) (a1 : Int) (a2 : Int) (a3 : Int) (r1 : List (S39)) (r2 : Int) (r3 : Int) (w : World) (h : continuoref15_spans.f k a0 a1 a2 a3 = some (r1, r2, r3)) :
 Calls Try.prog 55 #[.int .i64 a0, .int .i64 a1, .int .i64 a2, .int .i64 a3] w fun e w' => ∃ v0_ : Value, e = .returned (.tuple #[v0_, .int .i64 r2, .int .i64 r3]) ∧ Kd.R k39 39 w' w.heap.size (fun _ => True) v0_ r1 ∧ Below w.heap.size w w' := by
 have hu39 := Try.underlying39
 have HB := Aside0.mk (Below.refl w.heap.size w)
 have H : (if a2 > 0 then (continuoref15_spans.j0 k a0 a1 a2 a3 ([] : List (S39)) (decide (a0 < a2))) else (continuoref15_spans.j0 k a0 a1 a2 a3 ([] : List (S39)) false)) = some (r1, r2, r3) := h
 clear h
 have HC5 := Aside0.mk H
 clear H
 go_enter Try.func55, Try.ntmps55
 go_upto_region 2 with (fail)
 go_cut [12] (fun v12 wc => ∃ (kq : Nat) (x12_4 : Bool), v12 = .bool x12_4 ∧ Aside0 (continuoref15_spans.j0 kq a0 a1 a2 a3 ([] : List (S39)) x12_4 = some (r1, r2, r3)) ∧ Aside0 (kq ≤ k) ∧ Aside0 (Kd.R k39 39 wc w.heap.size (fun _ => True) (.slice none 0 0) ([] : List (S39))) ∧ Aside0 (Below w.heap.size w wc))
 case first =>
  have H := HC5.out
  clear HC5
  by_cases c6 : a2 > 0
  · rw [if_pos c6] at H
    have c6b0 : decide (0 < a2) = true := decide_eq_true c6
    clear c6
    (first | rw [c6b0] | (simp only [i64_w, i32_w]; rw [c6b0]) | skip)
    have H' := Aside0.mk H
    clear H
    go_wp2
    go_meet
    case rel => exact ⟨_, (decide (a0 < a2)), (by first | rfl | (simp; done) | (simp [*]; done)), H', ⟨by first | omega | exact Nat.le_refl _⟩, ⟨by first | exact Kd.R_nil _ _ _ _ _ | exact Kd.N_nil _ _ _ _ _ | exact Kd.V_nil _ _ _ _ _ | exact Kd.Q_nil _ _ _ _ _ | exact Kd.S_nil _ _ _ _ _⟩, ⟨by repeat (first | (with_reducible first | exact HB.out | apply below_alloc | apply pw_below_drewN | apply below_drew1) | exact HB.out)⟩⟩
  · rw [if_neg c6] at H
    have c6b0 : decide (0 < a2) = false := decide_eq_false c6
    clear c6
    (first | rw [c6b0] | (simp only [i64_w, i32_w]; rw [c6b0]) | skip)
    have H' := Aside0.mk H
    clear H
    go_wp2
    go_meet
    case rel => exact ⟨_, (false), (by first | rfl | (simp; done) | (simp [*]; done)), H', ⟨by first | omega | exact Nat.le_refl _⟩, ⟨by first | exact Kd.R_nil _ _ _ _ _ | exact Kd.N_nil _ _ _ _ _ | exact Kd.V_nil _ _ _ _ _ | exact Kd.Q_nil _ _ _ _ _ | exact Kd.S_nil _ _ _ _ _⟩, ⟨by repeat (first | (with_reducible first | exact HB.out | apply below_alloc | apply pw_below_drewN | apply below_drew1) | exact HB.out)⟩⟩
 case rest =>
  clear HC5
  try clear p2
  try clear c5
  try clear c6
  try clear c6b0
  obtain ⟨kq, x12_4, rfl, HA, HJ4, HO_11, HB⟩ := hcut
  cases kq with
  | zero => exact absurd HA.out (by simp [continuoref15_spans.j0])
  | succ kj4 =>
   have H := HA.out
   clear HA
   simp only [continuoref15_spans.j0] at H
   have H' := Aside0.mk H
   clear H
   go_wp2
   go_loopg [0, 3, 11] kj4 (fun kq v0 v3 v11 w' => ∃ (x0_2 : Int) (x3_2 : Int) (x11_2 : List (S39)), v0 = .int .i64 x0_2 ∧ v3 = .int .i64 x3_2 ∧ Aside0 (continuoref15_spans.l0 kq x0_2 a1 a2 x3_2 x11_2 x12_4 = some (r1, r2, r3)) ∧ Aside0 (kq ≤ kj4) ∧ Aside0 (Kd.R k39 39 w' w.heap.size (fun _ => True) v11 x11_2) ∧ Aside0 (Below w.heap.size w w'))
   case atStart => exact ⟨(a0), (a3), (([] : List (S39))), (by first | rfl | (simp; done) | (simp [*]; done)), (by first | rfl | (simp; done) | (simp [*]; done)), H', ⟨Nat.le_refl _⟩, ⟨by (with_reducible repeat (first | apply Kd.R_alloc | apply Kd.R_drewN | apply Kd.R_drew)); exact HO_11.out⟩, ⟨by repeat (first | (with_reducible first | exact HB.out | apply below_alloc | apply pw_below_drewN | apply below_drew1) | exact HB.out)⟩⟩
   case round =>
    clear H'
    try clear p2
    try clear c5
    try clear c6
    try clear c6b0
    try clear p2
    obtain ⟨x0_2, x3_2, x11_2, rfl, rfl, HA, HK2, HO_11, HB⟩ := hrel
    cases gk with
    | zero => exact absurd HA.out (by simp [continuoref15_spans.l0])
    | succ k2 =>
     have H := HA.out
     clear HA
     simp only [continuoref15_spans.l0] at H
     by_cases c7 : x3_2 > 0
     · rw [if_pos c7] at H
       have c7b0 : decide (0 < x3_2) = true := decide_eq_true c7
       clear c7
       by_cases c8 : x12_4 = true
       · subst c8
         have H1 : (if x11_2.length < 5864062014805 then ((some (x11_2 ++ [(⟨x0_2, mn x3_2 (wrap64 (a2 - x0_2)), true⟩ : S39)] : List (S39))).bind fun y109 => (if (wrap64 (x0_2 + (mn x3_2 (wrap64 (a2 - x0_2))))) = a2 then (continuoref15_spans.l0 k2 a1 a1 a2 (wrap64 (x3_2 - (mn x3_2 (wrap64 (a2 - x0_2))))) y109 true) else (continuoref15_spans.l0 k2 (wrap64 (x0_2 + (mn x3_2 (wrap64 (a2 - x0_2))))) a1 a2 (wrap64 (x3_2 - (mn x3_2 (wrap64 (a2 - x0_2))))) y109 true))) else (none)) = some (r1, r2, r3) := by rw [if_pos rfl] at H; exact H
         clear H
         have H := H1
         clear H1
         obtain ⟨ji9, hji9⟩ : ∃ j_ : Int, (mn x3_2 (wrap64 (a2 - x0_2))) = j_ := ⟨_, rfl⟩
         replace H : (if x11_2.length < 5864062014805 then ((some (x11_2 ++ [(⟨x0_2, ji9, true⟩ : S39)] : List (S39))).bind fun y109 => (if (wrap64 (x0_2 + (ji9))) = a2 then (continuoref15_spans.l0 k2 a1 a1 a2 (wrap64 (x3_2 - (ji9))) y109 true) else (continuoref15_spans.l0 k2 (wrap64 (x0_2 + (ji9))) a1 a2 (wrap64 (x3_2 - (ji9))) y109 true))) else (none)) = some (r1, r2, r3) := by first | (rw [hji9] at H; exact H) | (simp only [hji9] at H ⊢; exact H)
         have hji9_ : (if (wrap64 (a2 - x0_2)) < x3_2 then (wrap64 (a2 - x0_2)) else x3_2) = ji9 := hji9
         by_cases c10 : x11_2.length < 5864062014805
         · rw [if_pos c10] at H
           have LMc10 := Aside0.mk c10
           clear c10
           obtain ⟨y109, hy109⟩ : ∃ y_ : List (S39), y_ = (x11_2 ++ [(⟨x0_2, ji9, true⟩ : S39)]) := ⟨_, rfl⟩
           replace H : (if (wrap64 (x0_2 + (ji9))) = a2 then (continuoref15_spans.l0 k2 a1 a1 a2 (wrap64 (x3_2 - (ji9))) y109 true) else (continuoref15_spans.l0 k2 (wrap64 (x0_2 + (ji9))) a1 a2 (wrap64 (x3_2 - (ji9))) y109 true)) = some (r1, r2, r3) := by first | (rw [hy109]; with_reducible exact H) | (have H2_ := (Option.bind_some _ _).symm.trans H; rw [hy109]; with_reducible exact H2_) | (have H2_ := (Option.bind_some _ _).symm.trans H; with_reducible exact H2_) | with_reducible exact H | (rw [hy109]; exact H) | exact H
           have Ny109 := Aside0.mk hy109
           clear hy109
           by_cases c11 : (wrap64 (x0_2 + (ji9))) = a2
           · rw [if_pos c11] at H
             have c11b0 : ((wrap64 (x0_2 + (ji9))) == a2) = true := beq_iff_eq.mpr c11
             have c11b1 : ((wrap64 (x0_2 + (ji9))) != a2) = false := bne_eq_false_iff_eq.mpr c11
             clear c11
             have H' := Aside0.mk H
             clear H
             go_wp2_with (first | ((with_reducible refine gate_builtin (b := .append) (xs := #[.tmp 30, .tmp 34]) rfl ?_); (try (refine gate_guard (by rfl) ?_; dsimp only)); at_builtin; refine Kd.R_append k39 (w0 := w) w.heap.size rfl (.tmp 30) (.tmp 34) 22 39 (.agg #[(.int .i64 0), (.int .i64 0), (.bool false)]) 24 rfl Try.underlying22 info39 rfl (by decide) (by omega) u11 x11_2 (⟨x0_2, ji9, true⟩ : S39) [.int .i64 x0_2, .int .i64 ji9, .bool true] (fun _ => True) (fun _ => False) rfl rfl ?aP (fun _ hk => hk.elim) ?aF ?aO ?aB ?aS ?aL ?_; (case aP => exact k39_mkM _ _ _ (⟨x0_2, ji9, true⟩ : S39)); (case aB => exact (by repeat (first | (with_reducible first | exact HB.out | apply below_alloc | apply pw_below_drewN | apply below_drew1) | exact HB.out))); (case aF => exact (fun _ _ => trivial)); (case aO => exact (by (with_reducible repeat (first | apply Kd.R_alloc | apply Kd.R_drewN | apply Kd.R_drew)); exact HO_11.out)); (case aS => exact (below_size (by repeat (first | (with_reducible first | exact HB.out | apply below_alloc | apply pw_below_drewN | apply below_drew1) | exact HB.out)))); (case aL => have := LMc10.out; omega); intro v110 w12 ho hb hg hat; rw [← Ny109.out] at ho; have n0_ := Aside0.mk (hb); have n1_ := Aside0.mk (ho); clear HB; clear HO_11; have HB := n0_; have HO111 := n1_; clear n0_ n1_; clear ho hb hg hat))
             go_roundg k2
             case measure => have := HJ4.out; have := HK2.out; omega
             case rel => exact ⟨(a1), (wrap64 (x3_2 - (ji9))), (y109), (by first | rfl | (simp; done) | (simp [*]; done)), (by first | rfl | (simp; done) | (simp only [← hji9] <;> (first | rfl | simp)) | (simp [*]; done)), H', ⟨by have := HJ4.out; have := HK2.out; omega⟩, ⟨by (with_reducible repeat (first | apply Kd.R_alloc | apply Kd.R_drewN | apply Kd.R_drew)); exact HO111.out⟩, ⟨by repeat (first | (with_reducible first | exact HB.out | apply below_alloc | apply pw_below_drewN | apply below_drew1) | exact HB.out)⟩⟩
           · rw [if_neg c11] at H
             have c11b0 : ((wrap64 (x0_2 + (ji9))) == a2) = false := beq_eq_false_iff_ne.mpr c11
             have c11b1 : ((wrap64 (x0_2 + (ji9))) != a2) = true := bne_iff_ne.mpr c11
             have H' := Aside0.mk H
             clear H
             go_wp2_with (first | ((with_reducible refine gate_builtin (b := .append) (xs := #[.tmp 30, .tmp 34]) rfl ?_); (try (refine gate_guard (by rfl) ?_; dsimp only)); at_builtin; refine Kd.R_append k39 (w0 := w) w.heap.size rfl (.tmp 30) (.tmp 34) 22 39 (.agg #[(.int .i64 0), (.int .i64 0), (.bool false)]) 24 rfl Try.underlying22 info39 rfl (by decide) (by omega) u11 x11_2 (⟨x0_2, ji9, true⟩ : S39) [.int .i64 x0_2, .int .i64 ji9, .bool true] (fun _ => True) (fun _ => False) rfl rfl ?aP (fun _ hk => hk.elim) ?aF ?aO ?aB ?aS ?aL ?_; (case aP => exact k39_mkM _ _ _ (⟨x0_2, ji9, true⟩ : S39)); (case aB => exact (by repeat (first | (with_reducible first | exact HB.out | apply below_alloc | apply pw_below_drewN | apply below_drew1) | exact HB.out))); (case aF => exact (fun _ _ => trivial)); (case aO => exact (by (with_reducible repeat (first | apply Kd.R_alloc | apply Kd.R_drewN | apply Kd.R_drew)); exact HO_11.out)); (case aS => exact (below_size (by repeat (first | (with_reducible first | exact HB.out | apply below_alloc | apply pw_below_drewN | apply below_drew1) | exact HB.out)))); (case aL => have := LMc10.out; omega); intro v110 w13 ho hb hg hat; rw [← Ny109.out] at ho; have n0_ := Aside0.mk (hb); have n1_ := Aside0.mk (ho); clear HB; clear HO_11; have HB := n0_; have HO111 := n1_; clear n0_ n1_; clear ho hb hg hat))
             go_roundg k2
             case measure => have := HJ4.out; have := HK2.out; omega
             case rel => exact ⟨(wrap64 (x0_2 + (ji9))), (wrap64 (x3_2 - (ji9))), (y109), (by first | rfl | (simp; done) | (simp only [← hji9] <;> (first | rfl | simp)) | (simp [*]; done)), (by first | rfl | (simp; done) | (simp only [← hji9] <;> (first | rfl | simp)) | (simp [*]; done)), H', ⟨by have := HJ4.out; have := HK2.out; omega⟩, ⟨by (with_reducible repeat (first | apply Kd.R_alloc | apply Kd.R_drewN | apply Kd.R_drew)); exact HO111.out⟩, ⟨by repeat (first | (with_reducible first | exact HB.out | apply below_alloc | apply pw_below_drewN | apply below_drew1) | exact HB.out)⟩⟩
         · rw [if_neg c10] at H
           exact absurd H (by simp)
       · replace c8 := Bool.eq_false_iff.mpr c8
         subst c8
         have H1 : (if x11_2.length < 5864062014805 then (continuoref15_spans.l0 k2 (wrap64 (x0_2 + x3_2)) a1 a2 (wrap64 (x3_2 - x3_2)) (x11_2 ++ [(⟨x0_2, x3_2, true⟩ : S39)]) false) else (none)) = some (r1, r2, r3) := by rw [if_neg (show ¬ (false = true) by decide)] at H; exact H
         clear H
         have H := H1
         clear H1
         by_cases c14 : x11_2.length < 5864062014805
         · rw [if_pos c14] at H
           have LMc14 := Aside0.mk c14
           clear c14
           obtain ⟨y112, hy112⟩ : ∃ y_ : List (S39), y_ = (x11_2 ++ [(⟨x0_2, x3_2, true⟩ : S39)]) := ⟨_, rfl⟩
           replace H : (continuoref15_spans.l0 k2 (wrap64 (x0_2 + x3_2)) a1 a2 (wrap64 (x3_2 - x3_2)) y112 false) = some (r1, r2, r3) := by first | (rw [hy112]; with_reducible exact H) | (have H2_ := (Option.bind_some _ _).symm.trans H; rw [hy112]; with_reducible exact H2_) | (have H2_ := (Option.bind_some _ _).symm.trans H; with_reducible exact H2_) | with_reducible exact H | (rw [hy112]; exact H) | exact H
           have Ny112 := Aside0.mk hy112
           clear hy112
           have H' := Aside0.mk H
           clear H
           go_wp2_with (first | ((with_reducible refine gate_builtin (b := .append) (xs := #[.tmp 30, .tmp 34]) rfl ?_); (try (refine gate_guard (by rfl) ?_; dsimp only)); at_builtin; refine Kd.R_append k39 (w0 := w) w.heap.size rfl (.tmp 30) (.tmp 34) 22 39 (.agg #[(.int .i64 0), (.int .i64 0), (.bool false)]) 24 rfl Try.underlying22 info39 rfl (by decide) (by omega) u11 x11_2 (⟨x0_2, x3_2, true⟩ : S39) [.int .i64 x0_2, .int .i64 x3_2, .bool true] (fun _ => True) (fun _ => False) rfl rfl ?aP (fun _ hk => hk.elim) ?aF ?aO ?aB ?aS ?aL ?_; (case aP => exact k39_mkM _ _ _ (⟨x0_2, x3_2, true⟩ : S39)); (case aB => exact (by repeat (first | (with_reducible first | exact HB.out | apply below_alloc | apply pw_below_drewN | apply below_drew1) | exact HB.out))); (case aF => exact (fun _ _ => trivial)); (case aO => exact (by (with_reducible repeat (first | apply Kd.R_alloc | apply Kd.R_drewN | apply Kd.R_drew)); exact HO_11.out)); (case aS => exact (below_size (by repeat (first | (with_reducible first | exact HB.out | apply below_alloc | apply pw_below_drewN | apply below_drew1) | exact HB.out)))); (case aL => have := LMc14.out; omega); intro v113 w15 ho hb hg hat; rw [← Ny112.out] at ho; have n0_ := Aside0.mk (hb); have n1_ := Aside0.mk (ho); clear HB; clear HO_11; have HB := n0_; have HO114 := n1_; clear n0_ n1_; clear ho hb hg hat))
           go_roundg k2
           case measure => have := HJ4.out; have := HK2.out; omega
           case rel => exact ⟨(wrap64 (x0_2 + x3_2)), (wrap64 (x3_2 - x3_2)), (y112), (by first | rfl | (simp; done) | (simp [*]; done)), (by first | rfl | (simp; done) | (simp [*]; done) | (simp [show wrap64 0 = 0 from w64z]; done)), H', ⟨by have := HJ4.out; have := HK2.out; omega⟩, ⟨by (with_reducible repeat (first | apply Kd.R_alloc | apply Kd.R_drewN | apply Kd.R_drew)); exact HO114.out⟩, ⟨by repeat (first | (with_reducible first | exact HB.out | apply below_alloc | apply pw_below_drewN | apply below_drew1) | exact HB.out)⟩⟩
         · rw [if_neg c14] at H
           exact absurd H (by simp)
     · rw [if_neg c7] at H
       have c7b0 : decide (0 < x3_2) = false := decide_eq_false c7
       clear c7
       by_cases c16 : x0_2 > 1000000000
       · rw [if_pos c16] at H
         have c16b0 : decide (1000000000 < x0_2) = true := decide_eq_true c16
         clear c16
         simp only [Option.some.injEq, Prod.mk.injEq] at H
         obtain ⟨rfl, rfl, rfl⟩ := H
         go_wp2
         go_ret3
         exact ⟨_, by first | rfl | (simp [errW_none, errW_some] <;> rfl) | (simp [*, errW_none, errW_some] <;> rfl), by first | exact Kd.R_nil _ _ _ _ _ | exact Kd.N_nil _ _ _ _ _ | exact Kd.V_nil _ _ _ _ _ | exact Kd.Q_nil _ _ _ _ _ | exact Kd.S_nil _ _ _ _ _, by repeat (first | (with_reducible first | exact HB.out | apply below_alloc | apply pw_below_drewN | apply below_drew1) | exact HB.out)⟩
       · rw [if_neg c16] at H
         have c16b0 : decide (1000000000 < x0_2) = false := decide_eq_false c16
         clear c16
         by_cases c17 : (x11_2.length : Int) > 100
         · rw [if_pos c17] at H
           have c17b0 : decide (100 < (x11_2.length : Int)) = true := decide_eq_true c17
           have c17b1 : decide (100 < x11_2.length) = true := decide_eq_true (by omega)
           clear c17
           simp only [Option.some.injEq, Prod.mk.injEq] at H
           obtain ⟨rfl, rfl, rfl⟩ := H
           obtain ⟨Ao18, co18, eo18⟩ := Kd.R_slice HO_11.out
           subst eo18
           go_wp2
           go_ret3
           exact ⟨_, by first | rfl | (simp [errW_none, errW_some] <;> rfl) | (simp [*, errW_none, errW_some] <;> rfl), by first | exact Kd.R_nil _ _ _ _ _ | exact Kd.N_nil _ _ _ _ _ | exact Kd.V_nil _ _ _ _ _ | exact Kd.Q_nil _ _ _ _ _ | exact Kd.S_nil _ _ _ _ _, by repeat (first | (with_reducible first | exact HB.out | apply below_alloc | apply pw_below_drewN | apply below_drew1) | exact HB.out)⟩
         · rw [if_neg c17] at H
           have c17b0 : decide (100 < (x11_2.length : Int)) = false := decide_eq_false c17
           have c17b1 : decide (100 < x11_2.length) = false := decide_eq_false (by omega)
           clear c17
           simp only [Option.some.injEq, Prod.mk.injEq] at H
           obtain ⟨rfl, rfl, rfl⟩ := H
           obtain ⟨Ao19, co19, eo19⟩ := Kd.R_slice HO_11.out
           subst eo19
           go_wp2
           go_ret3
           exact ⟨_, by first | rfl | (simp [errW_none, errW_some] <;> rfl) | (simp [*, errW_none, errW_some] <;> rfl), by (with_reducible repeat (first | apply Kd.R_alloc | apply Kd.R_drewN | apply Kd.R_drew)); exact HO_11.out, by repeat (first | (with_reducible first | exact HB.out | apply below_alloc | apply pw_below_drewN | apply below_drew1) | exact HB.out)⟩
end Go.Proofs.Ytlffhagjpfcecaa.PA

namespace Go.Proofs.Ytlffhagjpfcecaa.PA
open Go.RowKit Go.Proofs.YtlffhagjpfcecaaW.PrintWords Go.Proofs.YtlffhagjpfcecaaW.PrintLast Go.Proofs.YtlffhagjpfcecaaW.PrintMore
attribute [local go_sem] max2_int min2_int max_two min_two max_three min_three max_four min_four
set_option linter.unusedVariables false
set_option linter.unusedSimpArgs false
def continuoref15_time.f (a0 : Int) : Option (Bool) := if a0 ≥ 0 then (some (decide (a0 ≤ 1000000000))) else (some false)
set_option maxHeartbeats 8000000 in
set_option maxRecDepth 100000 in
theorem continuoref15_time.calls (a0 : Int) (r : Bool) (w : World) (h : continuoref15_time.f a0 = some r) :
 Calls Try.prog 57 #[.int .i64 a0] w fun e w' => e = .returned (.bool r) ∧ Drawn0 w w' := by
 have H : (if a0 ≥ 0 then (some (decide (a0 ≤ 1000000000))) else (some false)) = some r := h
 clear h
 by_cases c2 : a0 ≥ 0
 · rw [if_pos c2] at H
   have c2b0 : decide (0 ≤ a0) = true := decide_eq_true c2
   clear c2
   obtain rfl := Option.some.inj H
   go_enter Try.func57, Try.ntmps57
   go_wp2
   go_ret
   exact ⟨by first | rfl | (simp; done) | (simp [*]; done), by repeat (first | exact Drawn0.refl _ | apply Drawn0.step)⟩
 · rw [if_neg c2] at H
   have c2b0 : decide (0 ≤ a0) = false := decide_eq_false c2
   clear c2
   obtain rfl := Option.some.inj H
   go_enter Try.func57, Try.ntmps57
   go_wp2
   go_ret
   exact ⟨by first | rfl | (simp; done) | (simp [*]; done), by repeat (first | exact Drawn0.refl _ | apply Drawn0.step)⟩
end Go.Proofs.Ytlffhagjpfcecaa.PA

namespace Go.Proofs.Ytlffhagjpfcecaa.PA
open Go.RowKit Go.Proofs.YtlffhagjpfcecaaW.PrintWords Go.Proofs.YtlffhagjpfcecaaW.PrintLast Go.Proofs.YtlffhagjpfcecaaW.PrintMore
attribute [local go_sem] max2_int min2_int max_two min_two max_three min_three max_four min_four
set_option linter.unusedVariables false
set_option linter.unusedSimpArgs false
def continuoref15_looped.j0 : Nat → Int → Int → Bool → Option (Int)
 | 0, _, _, _ => none
 | k + 1, x0, x1, x5 => if x5 = true then (some 7) else (if x0 = 0 then (if x1 = 0 then (some 0) else (if x1 ≤ x0 then (some 12) else (some 0))) else (if x1 ≤ x0 then (some 12) else (some 0)))
def continuoref15_looped.f (k : Nat) (a0 : Int) (a1 : Int) : Option (Int) := (continuoref15_time.f a0).bind fun t115 => (if t115 = true then ((continuoref15_time.f a1).bind fun t116 => (continuoref15_looped.j0 k a0 a1 (!t116))) else (continuoref15_looped.j0 k a0 a1 true))
theorem continuoref15_looped.mono_l : ∀ k, (∀ y0 y1 y2, LeO (continuoref15_looped.j0 k y0 y1 y2) (continuoref15_looped.j0 (k + 1) y0 y1 y2))
 | 0 => fun _ _ _ r h => by simp [continuoref15_looped.j0] at h
 | k + 1 => by
  have ih0 := continuoref15_looped.mono_l k
  · intro y0 y1 y2
    unfold continuoref15_looped.j0
    repeat' first
    | (with_reducible exact ih0 _ _ _)
    | (with_reducible exact LeO.refl _)
    | (with_reducible exact LeO.none _)
    | (with_reducible refine LeO.ite ?_ ?_)
    | (with_reducible refine LeO.bind ?_ (fun _ => ?_))
    | exact ih0 _ _ _
    | exact LeO.none _
    | refine LeO.ite ?_ ?_
    | refine LeO.bind ?_ (fun _ => ?_)
theorem continuoref15_looped.mono : ∀ a0 a1 k, LeO (continuoref15_looped.f k a0 a1) (continuoref15_looped.f (k + 1) a0 a1) := by
 intro a0 a1 k
 have ih0 := continuoref15_looped.mono_l k
 unfold continuoref15_looped.f
 repeat' first
  | (with_reducible exact ih0 _ _ _)
  | (with_reducible exact LeO.refl _)
  | (with_reducible exact LeO.none _)
  | (with_reducible refine LeO.ite ?_ ?_)
  | (with_reducible refine LeO.bind ?_ (fun _ => ?_))
  | exact ih0 _ _ _
  | exact LeO.none _
  | refine LeO.ite ?_ ?_
  | refine LeO.bind ?_ (fun _ => ?_)
set_option maxHeartbeats 8000000 in
set_option maxRecDepth 100000 in
theorem continuoref15_looped.calls (k : Nat) (a0 : Int) (a1 : Int) (r : Int) (w : World) (h : continuoref15_looped.f k a0 a1 = some r) :
 Calls Try.prog 58 #[.int .i64 a0, .int .i64 a1] w fun e w' => e = .returned (.int .i64 r) ∧ Drawn0 w w' := by
 have H : ((continuoref15_time.f a0).bind fun t115 => (if t115 = true then ((continuoref15_time.f a1).bind fun t116 => (continuoref15_looped.j0 k a0 a1 (!t116))) else (continuoref15_looped.j0 k a0 a1 true))) = some r := h
 clear h
 have HC3 := Aside0.mk H
 clear H
 go_enter Try.func58, Try.ntmps58
 go_upto_region 1 with (fail)
 go_cut [5] (fun v5 wc => ∃ (kq : Nat) (x5_2 : Bool), v5 = .bool x5_2 ∧ Aside0 (continuoref15_looped.j0 kq a0 a1 x5_2 = some r) ∧ Aside0 (kq ≤ k) ∧ Drawn0 w wc)
 case first =>
  have H := HC3.out
  clear HC3
  replace H := Option.bind_eq_some_iff.mp H
  obtain ⟨t115, A40, H⟩ := H
  replace H : (if t115 = true then ((continuoref15_time.f a1).bind fun t116 => (continuoref15_looped.j0 k a0 a1 (!t116))) else (continuoref15_looped.j0 k a0 a1 true)) = some r := H
  have A4 := Aside0.mk A40
  clear A40
  by_cases c5 : t115 = true
  · subst c5
    have H1 : ((continuoref15_time.f a1).bind fun t116 => (continuoref15_looped.j0 k a0 a1 (!t116))) = some r := by rw [if_pos rfl] at H; exact H
    clear H
    have H := H1
    clear H1
    replace H := Option.bind_eq_some_iff.mp H
    obtain ⟨t116, A60, H⟩ := H
    replace H : (continuoref15_looped.j0 k a0 a1 (!t116)) = some r := H
    have A6 := Aside0.mk A60
    clear A60
    have H' := Aside0.mk H
    clear H
    go_wp2_with (first | ((with_reducible refine gate_callee (f := 57) rfl ?_); refine goesL_ (some 7) rfl rfl Try.func57 (by kernel_rfl) rfl #[.int .i64 a0] rfl (by (try simp only [List.map_toArray, List.map_cons, List.map_nil]); first | done | rfl | (simp only [List.length_drop, List.length_take]; rfl)) ?_; (with_reducible refine (continuoref15_time.calls a0 true _ A4.out).mono ?_); rintro e w' ⟨rfl, ⟨nd, rfl⟩⟩; refine ⟨_, rfl, ?_⟩) | (go_at_call 57; (with_reducible refine (continuoref15_time.calls a1 t116 _ A6.out).mono ?_); rintro e w' ⟨rfl, ⟨nd, rfl⟩⟩))
    go_meet
    case rel => exact ⟨_, (!t116), (by first | rfl | (simp; done) | (simp [*]; done)), H', ⟨by first | omega | exact Nat.le_refl _⟩, by repeat (first | exact Drawn0.refl _ | apply Drawn0.step)⟩
  · replace c5 := Bool.eq_false_iff.mpr c5
    subst c5
    have H1 : (continuoref15_looped.j0 k a0 a1 true) = some r := by rw [if_neg (show ¬ (false = true) by decide)] at H; exact H
    clear H
    have H := H1
    clear H1
    have H' := Aside0.mk H
    clear H
    go_wp2_with (first | ((with_reducible refine gate_callee (f := 57) rfl ?_); refine goesL_ (some 7) rfl rfl Try.func57 (by kernel_rfl) rfl #[.int .i64 a0] rfl (by (try simp only [List.map_toArray, List.map_cons, List.map_nil]); first | done | rfl | (simp only [List.length_drop, List.length_take]; rfl)) ?_; (with_reducible refine (continuoref15_time.calls a0 false _ A4.out).mono ?_); rintro e w' ⟨rfl, ⟨nd, rfl⟩⟩; refine ⟨_, rfl, ?_⟩))
    go_meet
    case rel => exact ⟨_, (true), (by first | rfl | (simp; done) | (simp [*]; done)), H', ⟨by first | omega | exact Nat.le_refl _⟩, by repeat (first | exact Drawn0.refl _ | apply Drawn0.step)⟩
 case rest =>
  clear HC3
  try clear p2
  try clear c5
  obtain ⟨kq, x5_2, rfl, HA, HJ2, ⟨mc2, rfl⟩⟩ := hcut
  cases kq with
  | zero => exact absurd HA.out (by simp [continuoref15_looped.j0])
  | succ kj2 =>
   have H := HA.out
   clear HA
   simp only [continuoref15_looped.j0] at H
   by_cases c7 : x5_2 = true
   · subst c7
     have H1 : (some 7) = some r := by rw [if_pos rfl] at H; exact H
     clear H
     have H := H1
     clear H1
     obtain rfl := Option.some.inj H
     go_wp2
     go_ret
     exact ⟨by first | rfl | (simp; done) | (simp [*]; done), by repeat (first | exact Drawn0.refl _ | apply Drawn0.step)⟩
   · replace c7 := Bool.eq_false_iff.mpr c7
     subst c7
     have H1 : (if a0 = 0 then (if a1 = 0 then (some 0) else (if a1 ≤ a0 then (some 12) else (some 0))) else (if a1 ≤ a0 then (some 12) else (some 0))) = some r := by rw [if_neg (show ¬ (false = true) by decide)] at H; exact H
     clear H
     have H := H1
     clear H1
     by_cases c8 : a0 = 0
     · rw [if_pos c8] at H
       have c8b0 : (a0 == 0) = true := beq_iff_eq.mpr c8
       have c8b1 : (a0 != 0) = false := bne_eq_false_iff_eq.mpr c8
       clear c8
       by_cases c9 : a1 = 0
       · rw [if_pos c9] at H
         have c9b0 : (a1 == 0) = true := beq_iff_eq.mpr c9
         have c9b1 : (a1 != 0) = false := bne_eq_false_iff_eq.mpr c9
         clear c9
         obtain rfl := Option.some.inj H
         go_wp2
         go_ret
         exact ⟨by first | rfl | (simp; done) | (simp [*]; done), by repeat (first | exact Drawn0.refl _ | apply Drawn0.step)⟩
       · rw [if_neg c9] at H
         have c9b0 : (a1 == 0) = false := beq_eq_false_iff_ne.mpr c9
         have c9b1 : (a1 != 0) = true := bne_iff_ne.mpr c9
         by_cases c10 : a1 ≤ a0
         · rw [if_pos c10] at H
           have c10b0 : decide (a1 ≤ a0) = true := decide_eq_true c10
           clear c10
           obtain rfl := Option.some.inj H
           go_wp2
           go_ret
           exact ⟨by first | rfl | (simp; done) | (simp [*]; done), by repeat (first | exact Drawn0.refl _ | apply Drawn0.step)⟩
         · rw [if_neg c10] at H
           have c10b0 : decide (a1 ≤ a0) = false := decide_eq_false c10
           clear c10
           obtain rfl := Option.some.inj H
           go_wp2
           go_ret
           exact ⟨by first | rfl | (simp; done) | (simp [*]; done), by repeat (first | exact Drawn0.refl _ | apply Drawn0.step)⟩
     · rw [if_neg c8] at H
       have c8b0 : (a0 == 0) = false := beq_eq_false_iff_ne.mpr c8
       have c8b1 : (a0 != 0) = true := bne_iff_ne.mpr c8
       by_cases c11 : a1 ≤ a0
       · rw [if_pos c11] at H
         have c11b0 : decide (a1 ≤ a0) = true := decide_eq_true c11
         clear c11
         obtain rfl := Option.some.inj H
         go_wp2
         go_ret
         exact ⟨by first | rfl | (simp; done) | (simp [*]; done), by repeat (first | exact Drawn0.refl _ | apply Drawn0.step)⟩
       · rw [if_neg c11] at H
         have c11b0 : decide (a1 ≤ a0) = false := decide_eq_false c11
         clear c11
         obtain rfl := Option.some.inj H
         go_wp2
         go_ret
         exact ⟨by first | rfl | (simp; done) | (simp [*]; done), by repeat (first | exact Drawn0.refl _ | apply Drawn0.step)⟩
end Go.Proofs.Ytlffhagjpfcecaa.PA

namespace Go.Proofs.Ytlffhagjpfcecaa.PA
open Go.RowKit Go.Proofs.YtlffhagjpfcecaaW.PrintWords Go.Proofs.YtlffhagjpfcecaaW.PrintLast Go.Proofs.YtlffhagjpfcecaaW.PrintMore
attribute [local go_sem] max2_int min2_int max_two min_two max_three min_three max_four min_four
set_option linter.unusedVariables false
set_option linter.unusedSimpArgs false
def continuoref15_rolled.j0 : Nat → Int → Int → Int → Int → Bool → Option ((List (S39)) × Int × Int)
 | 0, _, _, _, _, _ => none
 | k + 1, x0, x1, x2, x3, x22 => if x22 = true then (some (([] : List (S39)), 0, 7)) else ((continuoref15_looped.f k x1 x2).bind fun t118 => (if t118 = 0 then ((continuoref15_spans.f k x0 x1 x2 x3).bind fun bt119 => (some (bt119.1, bt119.2.1, bt119.2.2))) else (some (([] : List (S39)), 0, t118))))
def continuoref15_rolled.f (k : Nat) (a0 : Int) (a1 : Int) (a2 : Int) (a3 : Int) : Option ((List (S39)) × Int × Int) := (continuoref15_time.f a0).bind fun t117 => (if t117 = true then (if a3 < 0 then (continuoref15_rolled.j0 k a0 a1 a2 a3 true) else (continuoref15_rolled.j0 k a0 a1 a2 a3 (decide (a3 > 20000)))) else (continuoref15_rolled.j0 k a0 a1 a2 a3 true))
theorem continuoref15_rolled.mono_l : ∀ k, (∀ y0 y1 y2 y3 y4, LeO (continuoref15_rolled.j0 k y0 y1 y2 y3 y4) (continuoref15_rolled.j0 (k + 1) y0 y1 y2 y3 y4))
 | 0 => fun _ _ _ _ _ r h => by simp [continuoref15_rolled.j0] at h
 | k + 1 => by
  have ih0 := continuoref15_rolled.mono_l k
  · intro y0 y1 y2 y3 y4
    unfold continuoref15_rolled.j0
    repeat' first
    | (with_reducible exact ih0 _ _ _ _ _)
    | (with_reducible exact continuoref15_looped.mono _ _ _)
    | (with_reducible exact continuoref15_spans.mono _ _ _ _ _)
    | (with_reducible exact LeO.refl _)
    | (with_reducible exact LeO.none _)
    | (with_reducible refine LeO.ite ?_ ?_)
    | (with_reducible refine LeO.bind ?_ (fun _ => ?_))
    | exact ih0 _ _ _ _ _
    | exact continuoref15_looped.mono _ _ _
    | exact continuoref15_spans.mono _ _ _ _ _
    | exact LeO.none _
    | refine LeO.ite ?_ ?_
    | refine LeO.bind ?_ (fun _ => ?_)
theorem continuoref15_rolled.mono : ∀ a0 a1 a2 a3 k, LeO (continuoref15_rolled.f k a0 a1 a2 a3) (continuoref15_rolled.f (k + 1) a0 a1 a2 a3) := by
 intro a0 a1 a2 a3 k
 have ih0 := continuoref15_rolled.mono_l k
 unfold continuoref15_rolled.f
 repeat' first
  | (with_reducible exact ih0 _ _ _ _ _)
  | (with_reducible exact continuoref15_looped.mono _ _ _)
  | (with_reducible exact continuoref15_spans.mono _ _ _ _ _)
  | (with_reducible exact LeO.refl _)
  | (with_reducible exact LeO.none _)
  | (with_reducible refine LeO.ite ?_ ?_)
  | (with_reducible refine LeO.bind ?_ (fun _ => ?_))
  | exact ih0 _ _ _ _ _
  | exact continuoref15_looped.mono _ _ _
  | exact continuoref15_spans.mono _ _ _ _ _
  | exact LeO.none _
  | refine LeO.ite ?_ ?_
  | refine LeO.bind ?_ (fun _ => ?_)
set_option maxHeartbeats 8000000 in
set_option maxRecDepth 100000 in
theorem continuoref15_rolled.calls (k : Nat) (a0 : Int) (a1 : Int) (a2 : Int) (a3 : Int) (r1 : List (S39)) (r2 : Int) (r3 : Int) (w : World) (h : continuoref15_rolled.f k a0 a1 a2 a3 = some (r1, r2, r3)) :
 Calls Try.prog 37 #[.int .i64 a0, .int .i64 a1, .int .i64 a2, .int .i64 a3] w fun e w' => ∃ v0_ : Value, e = .returned (.tuple #[v0_, .int .i64 r2, .int .i64 r3]) ∧ Kd.R k39 39 w' w.heap.size (fun _ => True) v0_ r1 ∧ Below w.heap.size w w' := by
 have HB := Aside0.mk (Below.refl w.heap.size w)
 have H : ((continuoref15_time.f a0).bind fun t117 => (if t117 = true then (if a3 < 0 then (continuoref15_rolled.j0 k a0 a1 a2 a3 true) else (continuoref15_rolled.j0 k a0 a1 a2 a3 (decide (a3 > 20000)))) else (continuoref15_rolled.j0 k a0 a1 a2 a3 true))) = some (r1, r2, r3) := h
 clear h
 have HC5 := Aside0.mk H
 clear H
 go_enter Try.func37, Try.ntmps37
 go_upto_region 1 with (fail)
 go_cut [22] (fun v22 wc => ∃ (kq : Nat) (x22_4 : Bool), v22 = .bool x22_4 ∧ Aside0 (continuoref15_rolled.j0 kq a0 a1 a2 a3 x22_4 = some (r1, r2, r3)) ∧ Aside0 (kq ≤ k) ∧ Aside0 (Below w.heap.size w wc))
 case first =>
  have H := HC5.out
  clear HC5
  replace H := Option.bind_eq_some_iff.mp H
  obtain ⟨t117, A60, H⟩ := H
  replace H : (if t117 = true then (if a3 < 0 then (continuoref15_rolled.j0 k a0 a1 a2 a3 true) else (continuoref15_rolled.j0 k a0 a1 a2 a3 (decide (a3 > 20000)))) else (continuoref15_rolled.j0 k a0 a1 a2 a3 true)) = some (r1, r2, r3) := H
  have A6 := Aside0.mk A60
  clear A60
  by_cases c7 : t117 = true
  · subst c7
    have H1 : (if a3 < 0 then (continuoref15_rolled.j0 k a0 a1 a2 a3 true) else (continuoref15_rolled.j0 k a0 a1 a2 a3 (decide (a3 > 20000)))) = some (r1, r2, r3) := by rw [if_pos rfl] at H; exact H
    clear H
    have H := H1
    clear H1
    by_cases c8 : a3 < 0
    · rw [if_pos c8] at H
      have c8b0 : decide (a3 < 0) = true := decide_eq_true c8
      clear c8
      (first | rw [c8b0] | (simp only [i64_w, i32_w]; rw [c8b0]) | skip)
      have H' := Aside0.mk H
      clear H
      go_wp2_with (first | ((with_reducible refine gate_callee (f := 57) rfl ?_); refine goesL_ (some 13) rfl rfl Try.func57 (by kernel_rfl) rfl #[.int .i64 a0] rfl (by (try simp only [List.map_toArray, List.map_cons, List.map_nil]); first | done | rfl | (simp only [List.length_drop, List.length_take]; rfl)) ?_; (with_reducible refine (continuoref15_time.calls a0 true _ A6.out).mono ?_); rintro e w' ⟨rfl, ⟨nd, rfl⟩⟩; refine ⟨_, rfl, ?_⟩))
      go_meet
      case rel => exact ⟨_, (true), (by first | rfl | (simp; done) | (simp [*]; done)), H', ⟨by first | omega | exact Nat.le_refl _⟩, ⟨by repeat (first | (with_reducible first | exact HB.out | apply below_alloc | apply pw_below_drewN | apply below_drew1) | exact HB.out)⟩⟩
    · rw [if_neg c8] at H
      have c8b0 : decide (a3 < 0) = false := decide_eq_false c8
      clear c8
      (first | rw [c8b0] | (simp only [i64_w, i32_w]; rw [c8b0]) | skip)
      have H' := Aside0.mk H
      clear H
      go_wp2_with (first | ((with_reducible refine gate_callee (f := 57) rfl ?_); refine goesL_ (some 13) rfl rfl Try.func57 (by kernel_rfl) rfl #[.int .i64 a0] rfl (by (try simp only [List.map_toArray, List.map_cons, List.map_nil]); first | done | rfl | (simp only [List.length_drop, List.length_take]; rfl)) ?_; (with_reducible refine (continuoref15_time.calls a0 true _ A6.out).mono ?_); rintro e w' ⟨rfl, ⟨nd, rfl⟩⟩; refine ⟨_, rfl, ?_⟩))
      go_meet
      case rel => exact ⟨_, (decide (a3 > 20000)), (by first | rfl | (simp; done) | (simp [*]; done)), H', ⟨by first | omega | exact Nat.le_refl _⟩, ⟨by repeat (first | (with_reducible first | exact HB.out | apply below_alloc | apply pw_below_drewN | apply below_drew1) | exact HB.out)⟩⟩
  · replace c7 := Bool.eq_false_iff.mpr c7
    subst c7
    have H1 : (continuoref15_rolled.j0 k a0 a1 a2 a3 true) = some (r1, r2, r3) := by rw [if_neg (show ¬ (false = true) by decide)] at H; exact H
    clear H
    have H := H1
    clear H1
    have H' := Aside0.mk H
    clear H
    go_wp2_with (first | ((with_reducible refine gate_callee (f := 57) rfl ?_); refine goesL_ (some 13) rfl rfl Try.func57 (by kernel_rfl) rfl #[.int .i64 a0] rfl (by (try simp only [List.map_toArray, List.map_cons, List.map_nil]); first | done | rfl | (simp only [List.length_drop, List.length_take]; rfl)) ?_; (with_reducible refine (continuoref15_time.calls a0 false _ A6.out).mono ?_); rintro e w' ⟨rfl, ⟨nd, rfl⟩⟩; refine ⟨_, rfl, ?_⟩))
    go_meet
    case rel => exact ⟨_, (true), (by first | rfl | (simp; done) | (simp [*]; done)), H', ⟨by first | omega | exact Nat.le_refl _⟩, ⟨by repeat (first | (with_reducible first | exact HB.out | apply below_alloc | apply pw_below_drewN | apply below_drew1) | exact HB.out)⟩⟩
 case rest =>
  clear HC5
  try clear p2
  try clear c3
  try clear c5
  try clear c7
  try clear c8
  try clear c8b0
  obtain ⟨kq, x22_4, rfl, HA, HJ4, HB⟩ := hcut
  cases kq with
  | zero => exact absurd HA.out (by simp [continuoref15_rolled.j0])
  | succ kj4 =>
   have H := HA.out
   clear HA
   simp only [continuoref15_rolled.j0] at H
   by_cases c9 : x22_4 = true
   · subst c9
     have H1 : (some (([] : List (S39)), 0, 7)) = some (r1, r2, r3) := by rw [if_pos rfl] at H; exact H
     clear H
     have H := H1
     clear H1
     simp only [Option.some.injEq, Prod.mk.injEq] at H
     obtain ⟨rfl, rfl, rfl⟩ := H
     go_wp2
     go_ret3
     exact ⟨_, by first | rfl | (simp [errW_none, errW_some] <;> rfl) | (simp [*, errW_none, errW_some] <;> rfl), by first | exact Kd.R_nil _ _ _ _ _ | exact Kd.N_nil _ _ _ _ _ | exact Kd.V_nil _ _ _ _ _ | exact Kd.Q_nil _ _ _ _ _ | exact Kd.S_nil _ _ _ _ _, by repeat (first | (with_reducible first | exact HB.out | apply below_alloc | apply pw_below_drewN | apply below_drew1) | exact HB.out)⟩
   · replace c9 := Bool.eq_false_iff.mpr c9
     subst c9
     have H1 : ((continuoref15_looped.f kj4 a1 a2).bind fun t118 => (if t118 = 0 then ((continuoref15_spans.f kj4 a0 a1 a2 a3).bind fun bt119 => (some (bt119.1, bt119.2.1, bt119.2.2))) else (some (([] : List (S39)), 0, t118)))) = some (r1, r2, r3) := by rw [if_neg (show ¬ (false = true) by decide)] at H; exact H
     clear H
     have H := H1
     clear H1
     replace H := Option.bind_eq_some_iff.mp H
     obtain ⟨t118, A100, H⟩ := H
     replace H : (if t118 = 0 then ((continuoref15_spans.f kj4 a0 a1 a2 a3).bind fun bt119 => (some (bt119.1, bt119.2.1, bt119.2.2))) else (some (([] : List (S39)), 0, t118))) = some (r1, r2, r3) := H
     have A10 := Aside0.mk A100
     clear A100
     by_cases c11 : t118 = 0
     · rw [if_pos c11] at H
       have c11b0 : (t118 == 0) = true := beq_iff_eq.mpr c11
       have c11b1 : (t118 != 0) = false := bne_eq_false_iff_eq.mpr c11
       clear c11
       replace H := Option.bind_eq_some_iff.mp H
       obtain ⟨⟨t119, t120, t121⟩, A120, H⟩ := H
       replace H : (some (t119, t120, t121)) = some (r1, r2, r3) := H
       have A12 := Aside0.mk A120
       clear A120
       simp only [Option.some.injEq, Prod.mk.injEq] at H
       obtain ⟨rfl, rfl, rfl⟩ := H
       go_wp2_with (first | ((with_reducible refine gate_callee (f := 58) rfl ?_); refine goesL_ (some 25) rfl rfl Try.func58 (by kernel_rfl) rfl #[.int .i64 a1, .int .i64 a2] rfl (by (try simp only [List.map_toArray, List.map_cons, List.map_nil]); first | done | rfl | (simp only [List.length_drop, List.length_take]; rfl)) ?_; (with_reducible refine (continuoref15_looped.calls kj4 a1 a2 t118 _ A10.out).mono ?_); rintro e w' ⟨rfl, ⟨nd, rfl⟩⟩; refine ⟨_, rfl, ?_⟩) | ((with_reducible refine gate_callee (f := 55) rfl ?_); refine goesL_ (some 33) rfl rfl Try.func55 (by kernel_rfl) rfl #[.int .i64 a0, .int .i64 a1, .int .i64 a2, .int .i64 a3] rfl (by (try simp only [List.map_toArray, List.map_cons, List.map_nil]); first | done | rfl | (simp only [List.length_drop, List.length_take]; rfl)) ?_; (with_reducible refine (continuoref15_spans.calls kj4 a0 a1 a2 a3 t119 t120 t121 _ A12.out).mono ?_); rintro e w13 ⟨v122, rfl, ho0, hb⟩; refine ⟨_, rfl, ?_⟩; have n0_ := Aside0.mk (Kd.R_lower ho0 (below_size (by repeat (first | (with_reducible first | exact HB.out | apply below_alloc | apply pw_below_drewN | apply below_drew1) | exact HB.out)))); have n1_ := Aside0.mk (below_step (by repeat (first | (with_reducible first | exact HB.out | apply below_alloc | apply pw_below_drewN | apply below_drew1) | exact HB.out)) hb); clear HB; have HO123 := n0_; have HB := n1_; clear n0_ n1_; (try clear hb); (try clear hb2); (try clear hk); (try clear hi); (try clear ho0)))
       go_ret3
       exact ⟨_, by first | rfl | (simp [errW_none, errW_some] <;> rfl) | (simp [*, errW_none, errW_some] <;> rfl), by (with_reducible repeat (first | apply Kd.R_alloc | apply Kd.R_drewN | apply Kd.R_drew)); exact HO123.out, by repeat (first | (with_reducible first | exact HB.out | apply below_alloc | apply pw_below_drewN | apply below_drew1) | exact HB.out)⟩
     · rw [if_neg c11] at H
       have c11b0 : (t118 == 0) = false := beq_eq_false_iff_ne.mpr c11
       have c11b1 : (t118 != 0) = true := bne_iff_ne.mpr c11
       simp only [Option.some.injEq, Prod.mk.injEq] at H
       obtain ⟨rfl, rfl, rfl⟩ := H
       go_wp2_with (first | ((with_reducible refine gate_callee (f := 58) rfl ?_); refine goesL_ (some 25) rfl rfl Try.func58 (by kernel_rfl) rfl #[.int .i64 a1, .int .i64 a2] rfl (by (try simp only [List.map_toArray, List.map_cons, List.map_nil]); first | done | rfl | (simp only [List.length_drop, List.length_take]; rfl)) ?_; (with_reducible refine (continuoref15_looped.calls kj4 a1 a2 t118 _ A10.out).mono ?_); rintro e w' ⟨rfl, ⟨nd, rfl⟩⟩; refine ⟨_, rfl, ?_⟩))
       go_ret3
       exact ⟨_, by first | rfl | (simp [errW_none, errW_some] <;> rfl) | (simp [*, errW_none, errW_some] <;> rfl), by first | exact Kd.R_nil _ _ _ _ _ | exact Kd.N_nil _ _ _ _ _ | exact Kd.V_nil _ _ _ _ _ | exact Kd.Q_nil _ _ _ _ _ | exact Kd.S_nil _ _ _ _ _, by repeat (first | (with_reducible first | exact HB.out | apply below_alloc | apply pw_below_drewN | apply below_drew1) | exact HB.out)⟩
end Go.Proofs.Ytlffhagjpfcecaa.PA

namespace Go.Proofs.Ytlffhagjpfcecaa.PA
open Go.RowKit Go.Proofs.YtlffhagjpfcecaaW.PrintWords Go.Proofs.YtlffhagjpfcecaaW.PrintLast Go.Proofs.YtlffhagjpfcecaaW.PrintMore
attribute [local go_sem] max2_int min2_int max_two min_two max_three min_three max_four min_four
set_option linter.unusedVariables false
set_option linter.unusedSimpArgs false
def continuoref15_Spans.f (k : Nat) (a0 : Int) (a1 : Int) (a2 : Int) (a3 : Int) : Option ((List (S39)) × Int) := (continuoref15_rolled.f k a0 a1 a2 a3).bind fun bt124 => (some (bt124.1, bt124.2.2))
theorem continuoref15_Spans.mono : ∀ a0 a1 a2 a3 k, LeO (continuoref15_Spans.f k a0 a1 a2 a3) (continuoref15_Spans.f (k + 1) a0 a1 a2 a3) := by
 intro a0 a1 a2 a3 k
 unfold continuoref15_Spans.f
 repeat' first
  | (with_reducible exact continuoref15_rolled.mono _ _ _ _ _)
  | (with_reducible exact LeO.refl _)
  | (with_reducible exact LeO.none _)
  | (with_reducible refine LeO.ite ?_ ?_)
  | (with_reducible refine LeO.bind ?_ (fun _ => ?_))
  | exact continuoref15_rolled.mono _ _ _ _ _
  | exact LeO.none _
  | refine LeO.ite ?_ ?_
  | refine LeO.bind ?_ (fun _ => ?_)
set_option maxHeartbeats 8000000 in
set_option maxRecDepth 100000 in
theorem continuoref15_Spans.calls (k : Nat) (a0 : Int) (a1 : Int) (a2 : Int) (a3 : Int) (r1 : List (S39)) (r2 : Int) (w : World) (h : continuoref15_Spans.f k a0 a1 a2 a3 = some (r1, r2)) :
 Calls Try.prog 8 #[.int .i64 a0, .int .i64 a1, .int .i64 a2, .int .i64 a3] w fun e w' => ∃ v0_ : Value, e = .returned (.tuple #[v0_, .int .i64 r2]) ∧ Kd.R k39 39 w' w.heap.size (fun _ => True) v0_ r1 ∧ Below w.heap.size w w' := by
 have HB := Aside0.mk (Below.refl w.heap.size w)
 have H : ((continuoref15_rolled.f k a0 a1 a2 a3).bind fun bt124 => (some (bt124.1, bt124.2.2))) = some (r1, r2) := h
 clear h
 replace H := Option.bind_eq_some_iff.mp H
 obtain ⟨⟨t124, t125, t126⟩, A50, H⟩ := H
 replace H : (some (t124, t126)) = some (r1, r2) := H
 have A5 := Aside0.mk A50
 clear A50
 simp only [Option.some.injEq, Prod.mk.injEq] at H
 obtain ⟨rfl, rfl⟩ := H
 go_enter Try.func8, Try.ntmps8
 go_wp2_with (first | ((with_reducible refine gate_callee (f := 37) rfl ?_); refine goesL_ (some 18) rfl rfl Try.func37 (by kernel_rfl) rfl #[.int .i64 a0, .int .i64 a1, .int .i64 a2, .int .i64 a3] rfl (by (try simp only [List.map_toArray, List.map_cons, List.map_nil]); first | done | rfl | (simp only [List.length_drop, List.length_take]; rfl)) ?_; (with_reducible refine (continuoref15_rolled.calls k a0 a1 a2 a3 t124 t125 t126 _ A5.out).mono ?_); rintro e w6 ⟨v127, rfl, ho0, hb⟩; refine ⟨_, rfl, ?_⟩; have n0_ := Aside0.mk (Kd.R_lower ho0 (below_size (by repeat (first | (with_reducible first | exact HB.out | apply below_alloc | apply pw_below_drewN | apply below_drew1) | exact HB.out)))); have n1_ := Aside0.mk (below_step (by repeat (first | (with_reducible first | exact HB.out | apply below_alloc | apply pw_below_drewN | apply below_drew1) | exact HB.out)) hb); clear HB; have HO128 := n0_; have HB := n1_; clear n0_ n1_; (try clear hb); (try clear hb2); (try clear hk); (try clear hi); (try clear ho0)))
 go_ret2
 exact ⟨_, by first | rfl | (simp [errW_none, errW_some] <;> rfl) | (simp [*, errW_none, errW_some] <;> rfl), by (with_reducible repeat (first | apply Kd.R_alloc | apply Kd.R_drewN | apply Kd.R_drew)); exact HO128.out, by repeat (first | (with_reducible first | exact HB.out | apply below_alloc | apply pw_below_drewN | apply below_drew1) | exact HB.out)⟩
end Go.Proofs.Ytlffhagjpfcecaa.PA

namespace Go.Proofs.Ytlffhagjpfcecaa.PA
open Go.RowKit Go.Proofs.YtlffhagjpfcecaaW.PrintWords Go.Proofs.YtlffhagjpfcecaaW.PrintLast Go.Proofs.YtlffhagjpfcecaaW.PrintMore
attribute [local go_sem] max2_int min2_int max_two min_two max_three min_three max_four min_four
set_option linter.unusedVariables false
set_option linter.unusedSimpArgs false
def transport_At.f (a0 : Int) (a1 : Int) (a2 : Int) (a3 : Int) : Option (Int × Int) := (transport_both.f a0 a1 a2 a3).bind fun bt129 => (some (bt129.2.1, bt129.2.2))
set_option maxHeartbeats 8000000 in
set_option maxRecDepth 100000 in
theorem transport_At.calls (a0 : Int) (a1 : Int) (a2 : Int) (a3 : Int) (r1 : Int) (r2 : Int) (w : World) (h : transport_At.f a0 a1 a2 a3 = some (r1, r2)) :
 Calls Try.prog 9 #[.int .i64 a0, .int .i64 a1, .int .i64 a2, .int .i64 a3] w fun e w' => e = .returned (.tuple #[.int .i64 r1, .int .i64 r2]) ∧ Below w.heap.size w w' := by
 have HB := Aside0.mk (Below.refl w.heap.size w)
 have H : ((transport_both.f a0 a1 a2 a3).bind fun bt129 => (some (bt129.2.1, bt129.2.2))) = some (r1, r2) := h
 clear h
 replace H := Option.bind_eq_some_iff.mp H
 obtain ⟨⟨t129, t130, t131⟩, A50, H⟩ := H
 replace H : (some (t130, t131)) = some (r1, r2) := H
 have A5 := Aside0.mk A50
 clear A50
 simp only [Option.some.injEq, Prod.mk.injEq] at H
 obtain ⟨rfl, rfl⟩ := H
 go_enter Try.func9, Try.ntmps9
 go_wp2_with (first | ((with_reducible refine gate_callee (f := 36) rfl ?_); refine goesL_ (some 18) rfl rfl Try.func36 (by kernel_rfl) rfl #[.int .i64 a0, .int .i64 a1, .int .i64 a2, .int .i64 a3] rfl (by (try simp only [List.map_toArray, List.map_cons, List.map_nil]); first | done | rfl | (simp only [List.length_drop, List.length_take]; rfl)) ?_; (with_reducible refine (transport_both.calls a0 a1 a2 a3 t129 t130 t131 _ A5.out).mono ?_); rintro e w6 ⟨v132, rfl, ho0, hb⟩; refine ⟨_, rfl, ?_⟩; have n0_ := Aside0.mk (Kd.R_lower ho0 (below_size (by repeat (first | (with_reducible first | exact HB.out | apply below_alloc | apply pw_below_drewN | apply below_drew1) | exact HB.out)))); have n1_ := Aside0.mk (below_step (by repeat (first | (with_reducible first | exact HB.out | apply below_alloc | apply pw_below_drewN | apply below_drew1) | exact HB.out)) hb); clear HB; have HO133 := n0_; have HB := n1_; clear n0_ n1_; (try clear hb); (try clear hb2); (try clear hk); (try clear hi); (try clear ho0)))
 go_ret2
 exact ⟨by first | rfl | (simp [errW_none, errW_some] <;> rfl) | (simp [*, errW_none, errW_some] <;> rfl), by repeat (first | (with_reducible first | exact HB.out | apply below_alloc | apply pw_below_drewN | apply below_drew1) | exact HB.out)⟩
end Go.Proofs.Ytlffhagjpfcecaa.PA

namespace Go.Proofs.Ytlffhagjpfcecaa.PA
open Go.RowKit Go.Proofs.YtlffhagjpfcecaaW.PrintWords Go.Proofs.YtlffhagjpfcecaaW.PrintLast Go.Proofs.YtlffhagjpfcecaaW.PrintMore
attribute [local go_sem] max2_int min2_int max_two min_two max_three min_three max_four min_four
set_option linter.unusedVariables false
set_option linter.unusedSimpArgs false
def continuoref15_At.f (k : Nat) (a0 : Int) (a1 : Int) (a2 : Int) (a3 : Int) : Option (Int × Int) := (continuoref15_rolled.f k a0 a1 a2 a3).bind fun bt134 => (some (bt134.2.1, bt134.2.2))
theorem continuoref15_At.mono : ∀ a0 a1 a2 a3 k, LeO (continuoref15_At.f k a0 a1 a2 a3) (continuoref15_At.f (k + 1) a0 a1 a2 a3) := by
 intro a0 a1 a2 a3 k
 unfold continuoref15_At.f
 repeat' first
  | (with_reducible exact continuoref15_rolled.mono _ _ _ _ _)
  | (with_reducible exact LeO.refl _)
  | (with_reducible exact LeO.none _)
  | (with_reducible refine LeO.ite ?_ ?_)
  | (with_reducible refine LeO.bind ?_ (fun _ => ?_))
  | exact continuoref15_rolled.mono _ _ _ _ _
  | exact LeO.none _
  | refine LeO.ite ?_ ?_
  | refine LeO.bind ?_ (fun _ => ?_)
set_option maxHeartbeats 8000000 in
set_option maxRecDepth 100000 in
theorem continuoref15_At.calls (k : Nat) (a0 : Int) (a1 : Int) (a2 : Int) (a3 : Int) (r1 : Int) (r2 : Int) (w : World) (h : continuoref15_At.f k a0 a1 a2 a3 = some (r1, r2)) :
 Calls Try.prog 10 #[.int .i64 a0, .int .i64 a1, .int .i64 a2, .int .i64 a3] w fun e w' => e = .returned (.tuple #[.int .i64 r1, .int .i64 r2]) ∧ Below w.heap.size w w' := by
 have HB := Aside0.mk (Below.refl w.heap.size w)
 have H : ((continuoref15_rolled.f k a0 a1 a2 a3).bind fun bt134 => (some (bt134.2.1, bt134.2.2))) = some (r1, r2) := h
 clear h
 replace H := Option.bind_eq_some_iff.mp H
 obtain ⟨⟨t134, t135, t136⟩, A50, H⟩ := H
 replace H : (some (t135, t136)) = some (r1, r2) := H
 have A5 := Aside0.mk A50
 clear A50
 simp only [Option.some.injEq, Prod.mk.injEq] at H
 obtain ⟨rfl, rfl⟩ := H
 go_enter Try.func10, Try.ntmps10
 go_wp2_with (first | ((with_reducible refine gate_callee (f := 37) rfl ?_); refine goesL_ (some 18) rfl rfl Try.func37 (by kernel_rfl) rfl #[.int .i64 a0, .int .i64 a1, .int .i64 a2, .int .i64 a3] rfl (by (try simp only [List.map_toArray, List.map_cons, List.map_nil]); first | done | rfl | (simp only [List.length_drop, List.length_take]; rfl)) ?_; (with_reducible refine (continuoref15_rolled.calls k a0 a1 a2 a3 t134 t135 t136 _ A5.out).mono ?_); rintro e w6 ⟨v137, rfl, ho0, hb⟩; refine ⟨_, rfl, ?_⟩; have n0_ := Aside0.mk (Kd.R_lower ho0 (below_size (by repeat (first | (with_reducible first | exact HB.out | apply below_alloc | apply pw_below_drewN | apply below_drew1) | exact HB.out)))); have n1_ := Aside0.mk (below_step (by repeat (first | (with_reducible first | exact HB.out | apply below_alloc | apply pw_below_drewN | apply below_drew1) | exact HB.out)) hb); clear HB; have HO138 := n0_; have HB := n1_; clear n0_ n1_; (try clear hb); (try clear hb2); (try clear hk); (try clear hi); (try clear ho0)))
 go_ret2
 exact ⟨by first | rfl | (simp [errW_none, errW_some] <;> rfl) | (simp [*, errW_none, errW_some] <;> rfl), by repeat (first | (with_reducible first | exact HB.out | apply below_alloc | apply pw_below_drewN | apply below_drew1) | exact HB.out)⟩
end Go.Proofs.Ytlffhagjpfcecaa.PA

namespace Go.Proofs.Ytlffhagjpfcecaa.PA
open Go.RowKit Go.Proofs.YtlffhagjpfcecaaW.PrintWords Go.Proofs.YtlffhagjpfcecaaW.PrintLast Go.Proofs.YtlffhagjpfcecaaW.PrintMore
attribute [local go_sem] max2_int min2_int max_two min_two max_three min_three max_four min_four
set_option linter.unusedVariables false
set_option linter.unusedSimpArgs false
theorem eqA39 (d : Nat) (w : World) (x0 y0 : Int) (x1 y1 : Int) (x2 y2 : Bool) :
 (Op.equalIn (d + 2) 39 (.agg #[.int .i64 x0, .int .i64 x1, .bool x2]) (.agg #[.int .i64 y0, .int .i64 y1, .bool y2])).run Try.prog w = .ok (x0 == y0 && (x1 == y1 && (x2 == y2))) w := by
 refine eqA_of Try.underlying39 (by kernel_rfl) ?_
 refine eqf_cons (by rfl) (by go_simp; rfl) (by go_simp; rfl) (by go_simp) ?_
 refine eqf_cons (by rfl) (by go_simp; rfl) (by go_simp; rfl) (by go_simp) ?_
 exact eqf_last (by rfl) (by go_simp; rfl) (by go_simp; rfl) (by go_simp)
end Go.Proofs.Ytlffhagjpfcecaa.PA

namespace Go.Proofs.Ytlffhagjpfcecaa.PA
open Go.RowKit Go.Proofs.YtlffhagjpfcecaaW.PrintWords Go.Proofs.YtlffhagjpfcecaaW.PrintLast Go.Proofs.YtlffhagjpfcecaaW.PrintMore
attribute [local go_sem] max2_int min2_int max_two min_two max_three min_three max_four min_four
set_option linter.unusedVariables false
set_option linter.unusedSimpArgs false
attribute [local go_sem high] eqA39
def continuoref15_Same.l0 : Nat → List (S39) → List (S39) → Int → Option (Bool)
 | 0, _, _, _ => none
 | k + 1, x0, x1, x5 => if x5 < (x0.length : Int) then (if 0 ≤ x5 then (if x5 < (x1.length : Int) then (if (!(((rd_T39 x0 x5).f0) == ((rd_T39 x1 x5).f0)) || (!(((rd_T39 x0 x5).f1) == ((rd_T39 x1 x5).f1)) || (!(((rd_T39 x0 x5).f2) == ((rd_T39 x1 x5).f2))))) = true then (some false) else (continuoref15_Same.l0 k x0 x1 (wrap64 (x5 + 1)))) else (none)) else (none)) else (some true)
def continuoref15_Same.f (k : Nat) (l0 : List (S39)) (l1 : List (S39)) : Option (Bool) := if (l0.length : Int) = (l1.length : Int) then (continuoref15_Same.l0 k l0 l1 0) else (some false)
theorem continuoref15_Same.mono_l : ∀ k, (∀ y0 y1 y2, LeO (continuoref15_Same.l0 k y0 y1 y2) (continuoref15_Same.l0 (k + 1) y0 y1 y2))
 | 0 => fun _ _ _ r h => by simp [continuoref15_Same.l0] at h
 | k + 1 => by
  have ih0 := continuoref15_Same.mono_l k
  · intro y0 y1 y2
    unfold continuoref15_Same.l0
    repeat' first
    | (with_reducible exact ih0 _ _ _)
    | (with_reducible exact LeO.refl _)
    | (with_reducible exact LeO.none _)
    | (with_reducible refine LeO.ite ?_ ?_)
    | (with_reducible refine LeO.bind ?_ (fun _ => ?_))
    | exact ih0 _ _ _
    | exact LeO.none _
    | refine LeO.ite ?_ ?_
    | refine LeO.bind ?_ (fun _ => ?_)
theorem continuoref15_Same.mono : ∀ a0 a1 k, LeO (continuoref15_Same.f k a0 a1) (continuoref15_Same.f (k + 1) a0 a1) := by
 intro a0 a1 k
 have ih0 := continuoref15_Same.mono_l k
 unfold continuoref15_Same.f
 repeat' first
  | (with_reducible exact ih0 _ _ _)
  | (with_reducible exact LeO.refl _)
  | (with_reducible exact LeO.none _)
  | (with_reducible refine LeO.ite ?_ ?_)
  | (with_reducible refine LeO.bind ?_ (fun _ => ?_))
  | exact ih0 _ _ _
  | exact LeO.none _
  | refine LeO.ite ?_ ?_
  | refine LeO.bind ?_ (fun _ => ?_)
set_option maxHeartbeats 8000000 in
set_option maxRecDepth 100000 in
theorem continuoref15_Same.calls (k : Nat) (A0 : Option Addr) (c0 : Nat) (l0 : List (S39)) (A1 : Option Addr) (c1 : Nat) (l1 : List (S39)) (r : Bool) (w : World) (hr0 : Kd.C k39 w A0 l0.length l0) (hc0 : l0.length ≤ c0) (hr1 : Kd.C k39 w A1 l1.length l1) (hc1 : l1.length ≤ c1) (h : continuoref15_Same.f k l0 l1 = some r) :
 Calls Try.prog 11 #[.slice A0 l0.length c0, .slice A1 l1.length c1] w fun e w' => e = .returned (.bool r) ∧ Drawn0 w w' := by
 have hu39 := Try.underlying39
 have HR0 := Aside0.mk hr0
 have HC0 := Aside0.mk hc0
 clear hr0 hc0
 have HR1 := Aside0.mk hr1
 have HC1 := Aside0.mk hc1
 clear hr1 hc1
 have H : (if (l0.length : Int) = (l1.length : Int) then (continuoref15_Same.l0 k l0 l1 0) else (some false)) = some r := h
 clear h
 by_cases c3 : (l0.length : Int) = (l1.length : Int)
 · rw [if_pos c3] at H
   have c3b0 : ((l0.length : Int) == (l1.length : Int)) = true := beq_iff_eq.mpr c3
   have c3b1 : ((l0.length : Int) != (l1.length : Int)) = false := bne_eq_false_iff_eq.mpr c3
   have c3b2 : (l0.length == l1.length) = true := by first | simpa using c3 | (simp at c3 ⊢; omega)
   clear c3
   have H' := Aside0.mk H
   clear H
   go_enter Try.func11, Try.ntmps11
   go_wp2
   repeat (go_quiet (fail); try go_wp2)
   go_loopg [5] k (fun kq v5 w' => ∃ (x5_1 : Int), v5 = .int .i64 x5_1 ∧ Aside0 (continuoref15_Same.l0 kq l0 l1 x5_1 = some r) ∧ Aside0 (kq ≤ k) ∧ Drawn0 w w')
   case atStart => exact ⟨(0), (by first | rfl | (simp; done) | (simp [*]; done)), H', ⟨Nat.le_refl _⟩, by repeat (first | exact Drawn0.refl _ | apply Drawn0.step)⟩
   case round =>
    clear H'
    try clear c1
    try clear p2
    try clear c3
    try clear c3b0
    try clear c3b1
    try clear c3b2
    obtain ⟨x5_1, rfl, HA, HK1, ⟨m1, rfl⟩⟩ := hrel
    cases gk with
    | zero => exact absurd HA.out (by simp [continuoref15_Same.l0])
    | succ k1 =>
     have H := HA.out
     clear HA
     simp only [continuoref15_Same.l0] at H
     by_cases c4 : x5_1 < (l0.length : Int)
     · rw [if_pos c4] at H
       have c4b0 : decide (x5_1 < (l0.length : Int)) = true := decide_eq_true c4
       clear c4
       by_cases c5 : 0 ≤ x5_1
       · rw [if_pos c5] at H
         have c5b0 : decide (0 ≤ x5_1) = true := decide_eq_true c5
         clear c5
         by_cases c6 : x5_1 < (l1.length : Int)
         · rw [if_pos c6] at H
           have c6b0 : decide (x5_1 < (l1.length : Int)) = true := decide_eq_true c6
           clear c6
           by_cases c7 : (!(((rd_T39 l0 x5_1).f0) == ((rd_T39 l1 x5_1).f0)) || (!(((rd_T39 l0 x5_1).f1) == ((rd_T39 l1 x5_1).f1)) || (!(((rd_T39 l0 x5_1).f2) == ((rd_T39 l1 x5_1).f2))))) = true
           · rw [if_pos c7] at H
             have c7b0 : (!(((rd_T39 l0 x5_1).f0) == ((rd_T39 l1 x5_1).f0)) || (!(((rd_T39 l0 x5_1).f1) == ((rd_T39 l1 x5_1).f1)) || (!(((rd_T39 l0 x5_1).f2) == ((rd_T39 l1 x5_1).f2))))) = true := c7
             clear c7
             obtain rfl := Option.some.inj H
             have p139 : 0 ≤ (x5_1 : Int) := of_decide_eq_true (by first | (with_reducible assumption) | assumption)
             have q139 : x5_1 < (l0.length : Int) := of_decide_eq_true (by first | (with_reducible assumption) | assumption)
             obtain ⟨ad139, e139, hx139_0, hx139_1, hx139_2⟩ := at_T39 HR0.out x5_1 p139 q139
             cases e139
             replace p139 := eq_true p139
             replace q139 := eq_true q139
             have p140 : 0 ≤ (x5_1 : Int) := of_decide_eq_true (by first | (with_reducible assumption) | assumption)
             have q140 : x5_1 < (l1.length : Int) := of_decide_eq_true (by first | (with_reducible assumption) | assumption)
             obtain ⟨ad140, e140, hx140_0, hx140_1, hx140_2⟩ := at_T39 HR1.out x5_1 p140 q140
             cases e140
             replace p140 := eq_true p140
             replace q140 := eq_true q140
             go_wp2
             repeat (go_quiet (fail); try go_wp2)
             go_ret
             exact ⟨by first | rfl | (simp; done) | (simp [*]; done), by repeat (first | exact Drawn0.refl _ | apply Drawn0.step)⟩
           · rw [if_neg c7] at H
             have c7b0 : (!(((rd_T39 l0 x5_1).f0) == ((rd_T39 l1 x5_1).f0)) || (!(((rd_T39 l0 x5_1).f1) == ((rd_T39 l1 x5_1).f1)) || (!(((rd_T39 l0 x5_1).f2) == ((rd_T39 l1 x5_1).f2))))) = false := by simpa using c7
             clear c7
             have H' := Aside0.mk H
             clear H
             have p139 : 0 ≤ (x5_1 : Int) := of_decide_eq_true (by first | (with_reducible assumption) | assumption)
             have q139 : x5_1 < (l0.length : Int) := of_decide_eq_true (by first | (with_reducible assumption) | assumption)
             obtain ⟨ad139, e139, hx139_0, hx139_1, hx139_2⟩ := at_T39 HR0.out x5_1 p139 q139
             cases e139
             replace p139 := eq_true p139
             replace q139 := eq_true q139
             have p140 : 0 ≤ (x5_1 : Int) := of_decide_eq_true (by first | (with_reducible assumption) | assumption)
             have q140 : x5_1 < (l1.length : Int) := of_decide_eq_true (by first | (with_reducible assumption) | assumption)
             obtain ⟨ad140, e140, hx140_0, hx140_1, hx140_2⟩ := at_T39 HR1.out x5_1 p140 q140
             cases e140
             replace p140 := eq_true p140
             replace q140 := eq_true q140
             go_wp2
             repeat (go_quiet (fail); try go_wp2)
             go_roundg k1
             case measure => have := HK1.out; omega
             case rel => exact ⟨(wrap64 (x5_1 + 1)), (by first | rfl | (simp; done) | (simp [*]; done)), H', ⟨by have := HK1.out; omega⟩, by repeat (first | exact Drawn0.refl _ | apply Drawn0.step)⟩
         · rw [if_neg c6] at H
           exact absurd H (by simp)
       · rw [if_neg c5] at H
         exact absurd H (by simp)
     · rw [if_neg c4] at H
       have c4b0 : decide (x5_1 < (l0.length : Int)) = false := decide_eq_false c4
       clear c4
       obtain rfl := Option.some.inj H
       go_wp2
       repeat (go_quiet (fail); try go_wp2)
       go_ret
       exact ⟨by first | rfl | (simp; done) | (simp [*]; done), by repeat (first | exact Drawn0.refl _ | apply Drawn0.step)⟩
 · rw [if_neg c3] at H
   have c3b0 : ((l0.length : Int) == (l1.length : Int)) = false := beq_eq_false_iff_ne.mpr c3
   have c3b1 : ((l0.length : Int) != (l1.length : Int)) = true := bne_iff_ne.mpr c3
   have c3b2 : (l0.length == l1.length) = false := by first | simpa using c3 | (simp at c3 ⊢; omega)
   obtain rfl := Option.some.inj H
   go_enter Try.func11, Try.ntmps11
   go_wp2
   repeat (go_quiet (fail); try go_wp2)
   go_ret
   exact ⟨by first | rfl | (simp; done) | (simp [*]; done), by repeat (first | exact Drawn0.refl _ | apply Drawn0.step)⟩
end Go.Proofs.Ytlffhagjpfcecaa.PA

namespace Go.Proofs.Ytlffhagjpfcecaa.PA
open Go.RowKit Go.Proofs.YtlffhagjpfcecaaW.PrintWords Go.Proofs.YtlffhagjpfcecaaW.PrintLast Go.Proofs.YtlffhagjpfcecaaW.PrintMore
attribute [local go_sem] max2_int min2_int max_two min_two max_three min_three max_four min_four
set_option linter.unusedVariables false
set_option linter.unusedSimpArgs false
def continuolaw15_awake.f (k : Nat)  : Option (Bool) := (transport_Spans.f 12 10 14 6).bind fun bt141 => (if bt141.2 = 0 then ((continuoref15_Same.f k bt141.1 (([(⟨12, 2, true⟩ : S39), (⟨10, 4, true⟩ : S39)] : List (S39)))).bind fun t148 => (some t148)) else (some false))
theorem continuolaw15_awake.mono : ∀ k, LeO (continuolaw15_awake.f k ) (continuolaw15_awake.f (k + 1) ) := by
 intro  k
 unfold continuolaw15_awake.f
 repeat' first
  | (with_reducible exact continuoref15_Same.mono _ _ _)
  | (with_reducible exact LeO.refl _)
  | (with_reducible exact LeO.none _)
  | (with_reducible refine LeO.ite ?_ ?_)
  | (with_reducible refine LeO.bind ?_ (fun _ => ?_))
  | exact continuoref15_Same.mono _ _ _
  | exact LeO.none _
  | refine LeO.ite ?_ ?_
  | refine LeO.bind ?_ (fun _ => ?_)
set_option maxHeartbeats 8000000 in
set_option maxRecDepth 100000 in
theorem continuolaw15_awake.calls (k : Nat)  (r : Bool) (w : World) (h : continuolaw15_awake.f k  = some r) :
 Calls Try.prog 12 #[] w fun e w' => e = .returned (.bool r) ∧ Below w.heap.size w w' := by
 have hu39 := Try.underlying39
 have HB := Aside0.mk (Below.refl w.heap.size w)
 have H : ((transport_Spans.f 12 10 14 6).bind fun bt141 => (if bt141.2 = 0 then ((continuoref15_Same.f k bt141.1 (([(⟨12, 2, true⟩ : S39), (⟨10, 4, true⟩ : S39)] : List (S39)))).bind fun t148 => (some t148)) else (some false))) = some r := h
 clear h
 replace H := Option.bind_eq_some_iff.mp H
 obtain ⟨⟨t141, t142⟩, A10, H⟩ := H
 replace H : (if t142 = 0 then ((continuoref15_Same.f k t141 (([(⟨12, 2, true⟩ : S39), (⟨10, 4, true⟩ : S39)] : List (S39)))).bind fun t148 => (some t148)) else (some false)) = some r := H
 have A1 := Aside0.mk A10
 clear A10
 by_cases c2 : t142 = 0
 · rw [if_pos c2] at H
   have c2b0 : (t142 == 0) = true := beq_iff_eq.mpr c2
   have c2b1 : (t142 != 0) = false := bne_eq_false_iff_eq.mpr c2
   clear c2
   obtain ⟨y145, hy145⟩ : ∃ y_ : List (S39), y_ = (([(⟨12, 2, true⟩ : S39), (⟨10, 4, true⟩ : S39)] : List (S39))) := ⟨_, rfl⟩
   replace H : ((continuoref15_Same.f k t141 y145).bind fun t148 => (some t148)) = some r := by first | (rw [hy145]; with_reducible exact H) | (have H2_ := (Option.bind_some _ _).symm.trans H; rw [hy145]; with_reducible exact H2_) | (have H2_ := (Option.bind_some _ _).symm.trans H; with_reducible exact H2_) | with_reducible exact H | (rw [hy145]; exact H) | exact H
   have Ny145 := Aside0.mk hy145
   clear hy145
   replace H := Option.bind_eq_some_iff.mp H
   obtain ⟨t148, A30, H⟩ := H
   replace H : (some t148) = some r := H
   have A3 := Aside0.mk A30
   clear A30
   obtain rfl := Option.some.inj H
   go_enter Try.func12, Try.ntmps12
   go_wp2_with (first | ((with_reducible refine gate_callee (f := 7) rfl ?_); refine goesL_ (some 4) rfl rfl Try.func7 (by kernel_rfl) rfl #[.int .i64 12, .int .i64 10, .int .i64 14, .int .i64 6] rfl (by (try simp only [List.map_toArray, List.map_cons, List.map_nil]); first | done | rfl | (simp only [List.length_drop, List.length_take]; rfl)) ?_; (with_reducible refine (transport_Spans.calls 12 10 14 6 t141 t142 _ A1.out).mono ?_); rintro e w4 ⟨v143, rfl, ho0, hb⟩; refine ⟨_, rfl, ?_⟩; have n0_ := Aside0.mk (Kd.R_lower ho0 (below_size (by repeat (first | (with_reducible first | exact HB.out | apply below_alloc | apply pw_below_drewN | apply below_drew1) | exact HB.out)))); have n1_ := Aside0.mk (below_step (by repeat (first | (with_reducible first | exact HB.out | apply below_alloc | apply pw_below_drewN | apply below_drew1) | exact HB.out)) hb); clear HB; have HO144 := n0_; have HB := n1_; clear n0_ n1_; (try clear hb); (try clear hb2); (try clear hk); (try clear hi); (try clear ho0)) | ((with_reducible refine gate_dst (N := 13) rfl ?_); (try (refine gate_guard (by rfl) ?_; dsimp only)); refine Kd.R_lit k39 _ 39 ?hg (N := 13) ?hd (xs := ([(⟨12, 2, true⟩ : S39), (⟨10, 4, true⟩ : S39)] : List (S39))) (inner := [.int .i64 12, .int .i64 2, .bool true, .int .i64 10, .int .i64 4, .bool true]) (ok := fun _ => True) (okp := fun _ => True) ?hr ?hp (fun _ hk => hk) trivial (Below.refl _ _) (Nat.le_refl _) (by simp) ?_; (case hd => rfl); (case hg => rfl); (case hr => first | (go_simp; done) | (go_simp; rfl)); (case hp => exact (Reps.c3 (show Kd.M k39 _ _ _ (⟨12, 2, true⟩ : S39) [.int .i64 12, .int .i64 2, .bool true] from (k39_mkM _ _ _ (⟨12, 2, true⟩ : S39) )) (Reps.c3 (show Kd.M k39 _ _ _ (⟨10, 4, true⟩ : S39) [.int .i64 10, .int .i64 4, .bool true] from (k39_mkM _ _ _ (⟨10, 4, true⟩ : S39) )) (Reps.none _ _)))); intro v146 w5 ho6 hb hg_ hnew_; clear hg_ hnew_; (first | rw [← Ny145.out] at ho6 | (simp only [Int.reduceToNat] at ho6; rw [← Ny145.out] at ho6)); have n0_ := Aside0.mk (Kd.R_elder' (by (with_reducible repeat (first | apply Kd.R_alloc | apply Kd.R_drewN | apply Kd.R_drew)); exact HO144.out) (Kd.R_base ho6) hb); have n1_ := Aside0.mk (Kd.R_lower (Kd.R_new' ho6 (Kd.R_lt (by (with_reducible repeat (first | apply Kd.R_alloc | apply Kd.R_drewN | apply Kd.R_drew)); exact HO144.out))) (below_size (by repeat (first | (with_reducible first | exact HB.out | apply below_alloc | apply pw_below_drewN | apply below_drew1) | exact HB.out)))); have n2_ := Aside0.mk (below_step (by repeat (first | (with_reducible first | exact HB.out | apply below_alloc | apply pw_below_drewN | apply below_drew1) | exact HB.out)) hb); clear HO144; clear HB; have HO144 := n0_; have HO147 := n1_; have HB := n2_; clear n0_ n1_ n2_; clear hb ho6; obtain ⟨Ao7, co7, eo7⟩ := Kd.R_slice HO144.out; subst eo7; obtain ⟨Ao8, co8, eo8⟩ := Kd.R_slice HO147.out; subst eo8) | (go_at_call 11; (with_reducible refine (continuoref15_Same.calls k _ _ t141 _ _ y145 t148 _ ?side1 ?side2 ?side3 ?side4 A3.out).mono ?_); (case side1 => repeat (first | exact (Kd.R_reads' HO144.out).2.2 | (with_reducible refine Kd.C_alloc ?_ _) | (with_reducible refine Kd.C_drewN ?_ _) | (with_reducible refine Kd.C_drew ?_))); (case side2 => exact (Kd.R_reads' HO144.out).2.1); (case side3 => repeat (first | exact (Kd.R_reads' HO147.out).2.2 | (with_reducible refine Kd.C_alloc ?_ _) | (with_reducible refine Kd.C_drewN ?_ _) | (with_reducible refine Kd.C_drew ?_))); (case side4 => exact (Kd.R_reads' HO147.out).2.1); rintro e w' ⟨rfl, ⟨nd, rfl⟩⟩))
   go_ret
   exact ⟨by first | rfl | (simp [errW_none, errW_some] <;> rfl) | (simp [*, errW_none, errW_some] <;> rfl), by repeat (first | (with_reducible first | exact HB.out | apply below_alloc | apply pw_below_drewN | apply below_drew1) | exact HB.out)⟩
 · rw [if_neg c2] at H
   have c2b0 : (t142 == 0) = false := beq_eq_false_iff_ne.mpr c2
   have c2b1 : (t142 != 0) = true := bne_iff_ne.mpr c2
   obtain rfl := Option.some.inj H
   go_enter Try.func12, Try.ntmps12
   go_wp2_with (first | ((with_reducible refine gate_callee (f := 7) rfl ?_); refine goesL_ (some 4) rfl rfl Try.func7 (by kernel_rfl) rfl #[.int .i64 12, .int .i64 10, .int .i64 14, .int .i64 6] rfl (by (try simp only [List.map_toArray, List.map_cons, List.map_nil]); first | done | rfl | (simp only [List.length_drop, List.length_take]; rfl)) ?_; (with_reducible refine (transport_Spans.calls 12 10 14 6 t141 t142 _ A1.out).mono ?_); rintro e w9 ⟨v143, rfl, ho0, hb⟩; refine ⟨_, rfl, ?_⟩; have n0_ := Aside0.mk (Kd.R_lower ho0 (below_size (by repeat (first | (with_reducible first | exact HB.out | apply below_alloc | apply pw_below_drewN | apply below_drew1) | exact HB.out)))); have n1_ := Aside0.mk (below_step (by repeat (first | (with_reducible first | exact HB.out | apply below_alloc | apply pw_below_drewN | apply below_drew1) | exact HB.out)) hb); clear HB; have HO144 := n0_; have HB := n1_; clear n0_ n1_; (try clear hb); (try clear hb2); (try clear hk); (try clear hi); (try clear ho0)))
   go_ret
   exact ⟨by first | rfl | (simp [errW_none, errW_some] <;> rfl) | (simp [*, errW_none, errW_some] <;> rfl), by repeat (first | (with_reducible first | exact HB.out | apply below_alloc | apply pw_below_drewN | apply below_drew1) | exact HB.out)⟩
end Go.Proofs.Ytlffhagjpfcecaa.PA
