/- VideoNothing, part 1: what the row is built on. -/
import Derived.Below
import Derived.Deep.Draws
import Derived.Deep.AppendLies
import Derived.Maps.AppendAt
import Derived.OwnWalk
import Derived.Laws.BytesArg
import Derived.Laws.MakeOwn
import Derived.Laws.OwnMore
import Derived.Deep.OwnRows
import Derived.Tactics
import Derived.Lib.ConvBytes
import Derived.Laws.Slices
import Derived.WalkKit
import Derived.KernelRfl
import Derived.RowKit3
import Derived.Deep.LoopGhost
import Derived.Deep.QuietTactic
import Derived.BigQuiet
import Derived.WideLaws
import Derived.Deep.DeepCutAuto
import Derived.Deep.CutBlock
import Derived.Deep.RegionHeld3
import Derived.Laws.Rows
import Derived.Lib.AppendStr
import Derived.ArgAppend
import Derived.Laws.IdiomCopy
import Derived.RowKit
import Derived.OrdersHeld
import Derived.Laws.BitsLemmas
import Derived.Laws.StructEq
import Derived.Test.YthbajahklnpkcaaProg
import Derived.Deep.Slices
import Derived.Deep.Fields
import Derived.ChangeSame
import Derived.Lib.SmallJoins
import Derived.Ground.Names8Prog
import Derived.Shelf.SortM.Plain
import Derived.Shelf.SlGeneric
import Derived.Shelf.SlicesG.CompactI
import Derived.Shelf.Spec.SlicesGrow
import Derived.Ground.SlgmProg
import Derived.Ground.SlgnProg
import Derived.RangeFuncNested
import Derived.RangeFuncBound
import Derived.RangeFuncCalls
import Derived.RangeFuncLeaves
import Derived.Lib.Hide
import Derived.LoopTactic
import Derived.Shelf.Abstract
import Derived.Laws.EntriesVeiled
import Derived.Shelf.SortM.SortNone
import Derived.Sort.OwnSortedInts
import Derived.Lib.RowBridge
import Derived.RangeFuncBox
import Derived.Shelf.RegionOpen
import Derived.OwnWalkIn
import Derived.TacticsInMore
import Derived.LoopNIn
import Derived.LoopIn
import Derived.Sort.BigQuietIn
set_option linter.unusedVariables false
set_option linter.unusedSimpArgs false
namespace Go.Proofs.YthbajahklnpkcaaW.PrintWords
open Go.RowKit
structure Aside0 (p : Prop) : Prop where mk :: (out : p)
structure Drawn0 (w w' : World) : Prop where mk :: (out : ∃ n, w' = w.drewN n)
theorem Drawn0.refl (w : World) : Drawn0 w w := ⟨⟨0, rfl⟩⟩
theorem Drawn0.step {w w' : World} (h : Drawn0 w w') (n : Nat) : Drawn0 w (w'.drewN n) := by
 obtain ⟨m, rfl⟩ := h
 exact ⟨⟨m + n, World.drewN_drewN ..⟩⟩
theorem Drawn0.grown {w w' : World} (h : Drawn0 w w') : Grown w w' := by
 obtain ⟨n, rfl⟩ := h
 induction n with
 | zero => exact Grown.refl _
 | succ n ih => rw [← World.drew_drewN]; exact Grown.drew ih
theorem Drawn0.below {w w' : World} (h : Drawn0 w w') : Below w.heap.size w w' := by
 obtain ⟨n, rfl⟩ := h
 induction n with
 | zero => exact Below.refl _ _
 | succ n ih => rw [← World.drew_drewN]; exact ih.drew
theorem below_alloc {w W : World} (h : Below w.heap.size w W) (o : Obj) : Below w.heap.size w (W.alloc o) := h.alloc h.size o
theorem below_drew {B : Nat} {w W : World} (h : Below B w W) : Below B w W.drew := ⟨h.os, h.tape, h.output, h.size, h.block⟩
theorem pw_below_drewN {B : Nat} {w W : World} (h : Below B w W) (n : Nat) : Below B w (W.drewN n) := ⟨h.os, h.tape, h.output, h.size, h.block⟩
theorem below_then {B : Nat} {w w1 w2 : World} (h : Below B w w1) (hB : B ≤ w1.heap.size) (k : Below w1.heap.size w1 w2) : Below B w w2 :=
 h.trans ⟨k.os, k.tape, k.output, k.size, fun i hi => k.block i (Nat.lt_of_lt_of_le hi hB)⟩
theorem grown_of_below {w w1 : World} (h : Below w.heap.size w w1) (row : Option Nat) : w.grownBy w1 row := ⟨h.os, h.tape, h.output, h.size, fun i hi _ => h.block i hi⟩
theorem pw_cell_below {w w1 : World} (h : Below w.heap.size w w1) {a : Addr} {v : Value} (hc : w.cell? a = some v) : w1.cell? a = some v := (h.cell (World.block_lt_of_cell? w a hc)).trans hc
def ReadsInt (w : World) (k : IntKind) (A : Option Addr) (n : Nat) (xs : List Int) : Prop :=
 xs.length = n ∧ n ≤ 9223372036854775807 ∧ (0 < n → ∃ ad, A = some ad ∧ ∀ j, j < n → w.cell? (ad.add j) = some (.int k (xs.getD j 0)))
theorem ReadsInt.below {w w1 : World} {k : IntKind} {A : Option Addr} {n : Nat} {xs : List Int} (h : ReadsInt w k A n xs) (hb : Below w.heap.size w w1) : ReadsInt w1 k A n xs :=
 ⟨h.1, h.2.1, fun hn => by
  obtain ⟨ad, e, hc⟩ := h.2.2 hn
  exact ⟨ad, e, fun j hj => pw_cell_below hb (hc j hj)⟩⟩
theorem own_nil (W : World) (base : Nat) (e : TypeId) (size : Nat) : W.ownsRow base e size (.slice none 0 0) 0 [] := ⟨by simp, .inl ⟨rfl, rfl⟩⟩
theorem own_base {w : World} {base : Nat} {e : TypeId} {size n : Nat} {v : Value} {xs : List Value} (h : w.ownsRow base e size v n xs) (k : Nat) (hk : v.ownBlock = some k) : base ≤ k := by
 rcases h.2 with ⟨rfl, _⟩ | ⟨g, cap, cur, rfl, hb, _⟩
 · simp [Value.ownBlock] at hk
 · have : g = k := by simpa [Value.ownBlock] using hk
   omega
theorem own_lt {w : World} {base : Nat} {e : TypeId} {size n : Nat} {v : Value} {xs : List Value} (h : w.ownsRow base e size v n xs) (k : Nat) (hk : v.ownBlock = some k) : k < w.heap.size := by
 rcases h.2 with ⟨rfl, _⟩ | ⟨g, cap, cur, rfl, hb, hh, _⟩
 · simp [Value.ownBlock] at hk
 · have : g = k := by simpa [Value.ownBlock] using hk
   subst this
   exact (Array.getElem?_eq_some_iff.1 hh).1
theorem pw_own_below {w w1 : World} {base : Nat} {e : TypeId} {size n : Nat} {v : Value} {xs : List Value} (h : w.ownsRow base e size v n xs) (hb : Below w.heap.size w w1) : w1.ownsRow base e size v n xs :=
 h.kept (grown_of_below hb none) (by cases v.ownBlock <;> simp)
theorem own_other {w w1 : World} {base : Nat} {e : TypeId} {size n : Nat} {v : Value} {xs : List Value} (h : w.ownsRow base e size v n xs) {row : Option Nat} (hg : w.grownBy w1 row) (hne : v.ownBlock = none ∨ v.ownBlock ≠ row) : w1.ownsRow base e size v n xs := h.kept hg hne
def LeO {α : Type} (a b : Option α) : Prop := ∀ r, a = some r → b = some r
theorem LeO.refl {α : Type} (a : Option α) : LeO a a := fun _ h => h
theorem LeO.none {α : Type} (b : Option α) : LeO Option.none b := fun _ h => by cases h
theorem LeO.trans {α : Type} {a b c : Option α} (h : LeO a b) (k : LeO b c) : LeO a c := fun r hr => k r (h r hr)
theorem LeO.ite {α : Type} {c : Prop} [Decidable c] {a a' b b' : Option α} (h : LeO a a') (k : LeO b b') : LeO (if c then a else b) (if c then a' else b') := by
 split
 · exact h
 · exact k
theorem LeO.bind {α β : Type} {a a' : Option α} {f f' : α → Option β} (h : LeO a a') (k : ∀ x, LeO (f x) (f' x)) : LeO (a.bind f) (a'.bind f') := by
 intro r hr
 obtain ⟨x, hx, hf⟩ := Option.bind_eq_some_iff.1 hr
 exact Option.bind_eq_some_iff.2 ⟨x, h x hx, k x r hf⟩
theorem LeO.map {α β : Type} {a a' : Option α} (f : α → β) (h : LeO a a') : LeO (a.map f) (a'.map f) := by
 intro r hr
 obtain ⟨x, hx, hf⟩ := Option.map_eq_some_iff.1 hr
 exact Option.map_eq_some_iff.2 ⟨x, h x hx, hf⟩
def Reps {α : Type} (R : α → List Value → Prop) (size : Nat) (ps : List α) (cs : List Value) : Prop :=
 cs.length = ps.length * size ∧ ∀ j p, ps[j]? = some p → R p ((cs.drop (j * size)).take size)
theorem Reps.none {α : Type} (R : α → List Value → Prop) (size : Nat) : Reps R size [] [] := ⟨by simp, fun j p h => by simp at h⟩
theorem Reps.snoc {α : Type} {R : α → List Value → Prop} {size : Nat} {ps : List α} {cs c : List Value} {p : α} (h : Reps R size ps cs) (hp : R p c) (hc : c.length = size) : Reps R size (ps ++ [p]) (cs ++ c) := by
 refine ⟨by rw [List.length_append, h.1, hc, List.length_append, List.length_singleton, Nat.add_mul, Nat.one_mul], fun j q hq => ?_⟩
 rcases Nat.lt_or_ge j ps.length with hj | hj
 · rw [List.getElem?_append_left hj] at hq
   have h1 : j * size + size ≤ cs.length := by rw [h.1, ← Nat.succ_mul]; exact Nat.mul_le_mul_right _ hj
   have h2 := h.2 j q hq
   rw [List.drop_append_of_le_length (by omega), List.take_append_of_le_length (by rw [List.length_drop]; omega)]
   exact h2
 · have hj' : j = ps.length := by
    have := (List.getElem?_eq_some_iff.1 hq).1
    rw [List.length_append, List.length_singleton] at this
    omega
   subst hj'
   have hq' : p = q := by simpa using hq
   subst hq'
   rw [← h.1, List.drop_left, ← hc, List.take_length]
   exact hp
theorem Reps.imp_ {α : Type} {R R' : α → List Value → Prop} {size : Nat} {ps : List α} {cs : List Value} (h : Reps R size ps cs) (hR : ∀ p c, R p c → R' p c) : Reps R' size ps cs := ⟨h.1, fun j p hj => hR _ _ (h.2 j p hj)⟩
def ReadsRow {α : Type} (R : α → List Value → Prop) (size : Nat) (w : World) (A : Option Addr) (n : Nat) (ps : List α) : Prop :=
 ps.length = n ∧ n ≤ 9223372036854775807 ∧ (0 < n → ∃ ad, A = some ad ∧ ∀ j p, ps[j]? = some p → ∃ c, c.length = size ∧ R p c ∧ ∀ i u, c[i]? = some u → w.cell? (ad.add (j * size + i)) = some u)
theorem ReadsRow.get_ {α : Type} {R : α → List Value → Prop} {size : Nat} {w : World} {A : Option Addr} {n : Nat} {ps : List α} (h : ReadsRow R size w A n ps) (d : α) (i : Int) (h0 : 0 ≤ i) (h1 : i < n) :
 ∃ ad c, A = some ad ∧ c.length = size ∧ R (ps.getD i.toNat d) c ∧ ∀ j u, c[j]? = some u → w.cell? (ad.add (i.toNat * size + j)) = some u := by
 obtain ⟨ad, e, hc⟩ := h.2.2 (by omega)
 have hl : i.toNat < ps.length := by have := h.1; omega
 obtain ⟨c, hs, hr, hcell⟩ := hc i.toNat _ (List.getElem?_eq_getElem hl)
 refine ⟨ad, c, e, hs, ?_, hcell⟩
 rw [List.getD_eq_getElem?_getD, List.getElem?_eq_getElem hl]
 exact hr
theorem ReadsRow.imp_ {α : Type} {R R' : α → List Value → Prop} {size : Nat} {w w1 : World} {A : Option Addr} {n : Nat} {ps : List α} (h : ReadsRow R size w A n ps) (hb : Below w.heap.size w w1) (hR : ∀ p c, R p c → R' p c) : ReadsRow R' size w1 A n ps :=
 ⟨h.1, h.2.1, fun hn => by
  obtain ⟨ad, e, hc⟩ := h.2.2 hn
  refine ⟨ad, e, fun j p hj => ?_⟩
  obtain ⟨c, hs, hr, hcell⟩ := hc j p hj
  exact ⟨c, hs, hR _ _ hr, fun i u hu => pw_cell_below hb (hcell i u hu)⟩⟩
theorem own_reads_row {α : Type} {R : α → List Value → Prop} {w : World} {base n size : Nat} {e : TypeId} {v : Value} {ps : List α} {cs : List Value} (h : w.ownsRow base e size v n cs) (hR : Reps R size ps cs) (hn : ps.length = n) :
 ∃ A c, v = .slice A n c ∧ ReadsRow R size w A n ps := by
 rcases Nat.eq_zero_or_pos n with h0 | h0
 · rcases h.2 with ⟨rfl, rfl⟩ | ⟨g, cap, cur, rfl, _⟩
   · exact ⟨none, 0, rfl, hn, by omega, fun hp => absurd hp (by omega)⟩
   · exact ⟨_, cap, rfl, hn, by omega, fun hp => absurd hp (by omega)⟩
 · obtain ⟨g, cap, rfl, _, _⟩ := h.form h0
   have hm : n ≤ 9223372036854775807 := by
    rcases h.2 with ⟨_, h1⟩ | ⟨g', cap', cur, he, _, _, h1, h2, _⟩
    · omega
    · simp only [maxLen] at h2
      omega
   refine ⟨_, cap, rfl, hn, hm, fun _ => ⟨_, rfl, fun j p hj => ⟨(cs.drop (j * size)).take size, ?_, hR.2 j p hj, fun i u hu => ?_⟩⟩⟩
   · have hjl := (List.getElem?_eq_some_iff.1 hj).1
     have h1 : j * size + size ≤ cs.length := by rw [hR.1, ← Nat.succ_mul]; exact Nat.mul_le_mul_right _ hjl
     rw [List.length_take, List.length_drop]
     omega
   · refine h.cells (g := g) rfl _ u ?_
     rw [List.getElem?_take] at hu
     split at hu
     · rw [List.getElem?_drop] at hu
       exact hu
     · cases hu
theorem add_field (ad : Addr) (m j : Nat) (hj : 0 < j) : ad.add (m + j) = ⟨(ad.add m).block, (ad.add m).off + j, none⟩ := by
 unfold Addr.add
 by_cases hm : m = 0
 · subst hm
   simp [Nat.ne_of_gt hj]
 · simp [hm, Nat.add_assoc]
section
variable {P : Program} {ops : Array Oper} {rest : List Oper} {o : Oper} {a : Act} {Q : Exit → Act → World → Prop}
theorem print_append_cells {w0 W : World} (base : Nat) (hgd : o.guard = none) (s x : Operand) (t e : TypeId) (z : Value) (size bytes : Nat)
 (ho : o.op = .call { callee := .builtin .append, args := #[s, x], argTypes := #[t, t] })
 (ht : P.underlying t = some (.slice e)) (hinfo : (P.info? e).map (fun i => (i.zero, i.size, i.bytes)) = some (some z, size, bytes)) (hz : z.cells.size = size) (hs0 : 0 < size) (hb0 : 0 < bytes)
 (v : Value) (n : Nat) (xs ys : List Value) (hs : a.eval s = v) (hx : a.eval x = .slice (some ⟨W.heap.size, 0, none⟩) 1 1) (hys : ys.length = size) (h1 : ∀ u ∈ ys, u.oneCell' = true)
 (HO : W.ownsRow base e size v n xs) (HB : Below base w0 W) (hbase : base ≤ W.heap.size) (hl : (n + 1) * bytes ≤ 140737488355328)
 (h : ∀ v1 w1, w1.ownsRow base e size v1 (n + 1) (xs ++ ys) → Below base w0 w1 → W.grownBy w1 v.ownBlock → (v1.ownBlock = v.ownBlock ∨ ∃ b, v1.ownBlock = some b ∧ W.heap.size ≤ b) → wpList P ops Q rest (a.put o.dst v1) w1) :
 wpList P ops Q (o :: rest) a (W.alloc (.cells ys.toArray e)) := by
 obtain ⟨i0, hi, hzz⟩ := Option.map_eq_some_iff.1 hinfo
 simp only [Prod.mk.injEq] at hzz
 obtain ⟨hz0, hz1, hz2⟩ := hzz
 have hlen : n + 1 ≤ 140737488355328 := Nat.le_trans (Nat.le_mul_of_pos_right _ hb0) hl
 refine wpList_append_own_at (W.alloc (.cells ys.toArray e)) hgd s x t ho base e i0 z size bytes ht hi hz0 hz1 hz2 hz hs0 v n xs hs (HO.alloc _) ⟨W.heap.size, 0, none⟩ 1 1 ys hx (by rw [hys]; simp)
  (by simpa using World.news_of_block (cs := ys.toArray) (t := e) (fr := (0, 0)) (heap_alloc_new W (.cells ys.toArray e))) h1 (by simp only [maxLen]; omega) hl (by simp; omega) ?_
 intro v1 w1 hown hg _ hat
 refine h v1 w1 hown ((HB.alloc hbase _).grown hg (by simp; omega) (own_base HO)) (World.grownBy.trans (World.grownBy_alloc W _ _) hg) ?_
 rcases hat with hat | hat
 · exact .inl hat
 · exact .inr ⟨_, hat, by simp⟩
end
theorem own_ne {w : World} {base : Nat} {e t : TypeId} {size n g : Nat} {v : Value} {xs : List Value} {cs : Array Value} (h : w.ownsRow base e size v n xs) (hg : w.heap[g]? = some (.cells cs t (0, 0))) (hne : e ≠ t) : some g ≠ v.ownBlock := by
 rcases h.2 with ⟨rfl, _⟩ | ⟨g', cap, cur, rfl, _, hh, _⟩
 · simp [Value.ownBlock]
 · intro he
   have : g = g' := by simpa [Value.ownBlock] using he
   subst this
   rw [hg] at hh
   injection hh with hh
   injection hh with _ ht
   exact hne ht.symm
theorem blk_set {w : World} {g : Nat} {t : TypeId} {cs : Array Value} (h : w.heap[g]? = some (.cells cs t (0, 0))) (i : Nat) (u : Value) : (w.setCell ⟨g, i, none⟩ u).heap[g]? = some (.cells (cs.setIfInBounds i u) t (0, 0)) := by
 simp [World.setCell, Array.getElem?_modify, h]
theorem blk_lt {w : World} {g : Nat} {o : Obj} (h : w.heap[g]? = some o) : g < w.heap.size := (Array.getElem?_eq_some_iff.1 h).1
theorem blk_cell {w : World} {g : Nat} {t : TypeId} {cs : Array Value} (h : w.heap[g]? = some (.cells cs t (0, 0))) (i : Nat) : w.cell? ⟨g, i, none⟩ = cs[i]? := cell_of_row w g i cs t (0, 0) h
theorem blk_frozen {w : World} {g : Nat} {t : TypeId} {cs : Array Value} (h : w.heap[g]? = some (.cells cs t (0, 0))) (i : Nat) : w.frozen? ⟨g, i, none⟩ = false := by simp [World.frozen?, h]
def KeepBut (w w' : World) (g : Nat) (row : Option Nat) : Prop := w.heap.size ≤ w'.heap.size ∧ ∀ i, i < w.heap.size → i ≠ g → some i ≠ row → w'.heap[i]? = w.heap[i]?
theorem KeepBut.refl (w : World) (g : Nat) (row : Option Nat) : KeepBut w w g row := ⟨Nat.le_refl _, fun _ _ _ _ => rfl⟩
theorem KeepBut.of_below {w w1 : World} (h : Below w.heap.size w w1) (g : Nat) (row : Option Nat) : KeepBut w w1 g row := ⟨h.size, fun i hi _ _ => h.block i hi⟩
theorem KeepBut.trans {w w1 w2 : World} {g : Nat} {row row1 : Option Nat} (h : KeepBut w w1 g row) (k : KeepBut w1 w2 g row1) (hr : row1 = row ∨ ∃ b, row1 = some b ∧ w.heap.size ≤ b) : KeepBut w w2 g row :=
 ⟨Nat.le_trans h.1 k.1, fun i hi hg hn => by
  refine (k.2 i (Nat.lt_of_lt_of_le hi h.1) hg ?_).trans (h.2 i hi hg hn)
  rcases hr with rfl | ⟨b, rfl, hb⟩
  · exact hn
  · intro e
    injection e with e
    omega⟩
theorem KeepBut.blk {w w1 : World} {g g' : Nat} {row : Option Nat} {o : Obj} (h : KeepBut w w1 g row) (hb : w.heap[g']? = some o) (hg : g' ≠ g) (hr : some g' ≠ row) : w1.heap[g']? = some o := (h.2 g' (blk_lt hb) hg hr).trans hb
theorem KeepBut.own {w w1 : World} {g : Nat} {row : Option Nat} {base : Nat} {e : TypeId} {size n : Nat} {v : Value} {xs : List Value} (h : KeepBut w w1 g row) (ho : w.ownsRow base e size v n xs) (hg : v.ownBlock ≠ some g) (hr : v.ownBlock = none ∨ v.ownBlock ≠ row) : w1.ownsRow base e size v n xs := by
 obtain ⟨h1, h2⟩ := ho
 refine ⟨h1, ?_⟩
 rcases h2 with h2 | ⟨b, cap, cur, rfl, hb, hh, r⟩
 · exact .inl h2
 · refine .inr ⟨b, cap, cur, rfl, hb, h.blk hh ?_ ?_, r⟩
   · intro e
     exact hg (by rw [← e]; rfl)
   · rcases hr with hr | hr
     · simp [Value.ownBlock] at hr
     · exact hr
def Ev {α : Type} (g : Nat → Option α) (r : α) : Prop := ∃ K, ∀ k, K ≤ k → g k = some r
theorem Ev.bind {α β : Type} {g : Nat → Option α} {f : Nat → α → Option β} {a : α} {r : β} (h : Ev g a) (k : Ev (fun n => f n a) r) : Ev (fun n => (g n).bind (f n)) r := by
 obtain ⟨K, h⟩ := h
 obtain ⟨K', k⟩ := k
 refine ⟨max K K', fun n hn => ?_⟩
 have h1 := h n (by omega)
 have h2 := k n (by omega)
 simp only [h1, Option.bind_some]
 exact h2
theorem Ev.step {α : Type} {g f : Nat → Option α} {r : α} (h : ∀ k, g (k + 1) = f k) (k : Ev f r) : Ev g r := by
 obtain ⟨K, k⟩ := k
 refine ⟨K + 1, fun n hn => ?_⟩
 obtain ⟨m, rfl⟩ : ∃ m, n = m + 1 := ⟨n - 1, by omega⟩
 rw [h]
 exact k m (by omega)
theorem Ev.congr {α : Type} {g f : Nat → Option α} {r : α} (h : ∀ k, g k = f k) (k : Ev f r) : Ev g r := by
 obtain ⟨K, k⟩ := k
 exact ⟨K, fun n hn => (h n).trans (k n hn)⟩
theorem own_weaken {w : World} {base base' : Nat} {e : TypeId} {size n : Nat} {v : Value} {xs : List Value} (h : w.ownsRow base e size v n xs) (hb : base' ≤ base) : w.ownsRow base' e size v n xs := by
 obtain ⟨h1, h2⟩ := h
 refine ⟨h1, ?_⟩
 rcases h2 with h2 | ⟨g, cap, cur, rfl, hg, r⟩
 · exact .inl h2
 · exact .inr ⟨g, cap, cur, rfl, Nat.le_trans hb hg, r⟩
section
variable {α : Type} {enc : α → Value} {d : α}
def ReadsOf (enc : α → Value) (d : α) (w : World) (A : Option Addr) (n : Nat) (xs : List α) : Prop :=
 xs.length = n ∧ n ≤ 9223372036854775807 ∧ (0 < n → ∃ ad, A = some ad ∧ ∀ j, j < n → w.cell? (ad.add j) = some (enc (xs.getD j d)))
theorem ReadsOf.below {w w1 : World} {A : Option Addr} {n : Nat} {xs : List α} (h : ReadsOf enc d w A n xs) (hb : Below w.heap.size w w1) : ReadsOf enc d w1 A n xs :=
 ⟨h.1, h.2.1, fun hn => by
  obtain ⟨ad, e, hc⟩ := h.2.2 hn
  exact ⟨ad, e, fun j hj => pw_cell_below hb (hc j hj)⟩⟩
end
theorem blk_alloc {w : World} {g : Nat} {o : Obj} (h : w.heap[g]? = some o) (o' : Obj) : (w.alloc o').heap[g]? = some o := (Below.heap_alloc w o' g (blk_lt h)).trans h
theorem blk_drew {w : World} {g : Nat} {o : Obj} (h : w.heap[g]? = some o) : w.drew.heap[g]? = some o := h
theorem blk_drewN {w : World} {g : Nat} {o : Obj} (h : w.heap[g]? = some o) (n : Nat) : (w.drewN n).heap[g]? = some o := h
theorem blk_below {w w1 : World} {g : Nat} {o : Obj} (h : w.heap[g]? = some o) (hb : Below w.heap.size w w1) : w1.heap[g]? = some o := (hb.block g (blk_lt h)).trans h
theorem blk_new (w : World) (o : Obj) : (w.alloc o).heap[w.heap.size]? = some o := heap_alloc_new w o
section
variable {P : Program}
theorem results_ct {fn : Func} {p u : Tmp} {ty : TypeId} (h : fn.results = #[.cell p ty, .tmp u]) (tmps : Array Value) (w : World) (g : Nat) (t : TypeId) (cs : Array Value) (fr : Nat × Nat) (d : TypeDesc)
 (hp : tmps.getD p undef = .pointer (some ⟨g, 0, none⟩)) (hg : w.heap[g]? = some (.cells cs t fr))
 (hu : P.underlying ty = some d) (hd : (match d with | .struct _ | .array _ _ => true | _ => false) = true) (hi : (P.info? ty).map (·.size) = some cs.size) :
 (results fn tmps).run P w = .ok (.tuple #[.agg cs, tmps.getD u undef]) w := by
 have hp' : tmps[p]?.getD undef = .pointer (some ⟨g, 0, none⟩) := by simpa using hp
 simp [results, h, hp', asAddr, run_loadVar_row w g t ty cs fr d hg hu hd hi]
end
theorem own_le {w : World} {base n m c size : Nat} {e : TypeId} {A : Option Addr} {xs : List Value} (h : w.ownsRow base e size (.slice A m c) n xs) : m ≤ c := by
 rcases h.2 with ⟨he, _⟩ | ⟨g, cap, cur, he, _, _, hnc, _⟩
 · injection he with _ h2 h3
   omega
 · injection he with _ h2 h3
   omega
def OwnRow {α : Type} (R : α → List Value → Prop) (e : TypeId) (size : Nat) (w : World) (base : Nat) (v : Value) (ps : List α) : Prop :=
 ∃ inner, w.ownsRow base e size v ps.length inner ∧ Reps R size ps inner
section
variable {α : Type} {R R' : α → List Value → Prop} {e : TypeId} {size : Nat} {w w1 : World} {base : Nat} {v : Value} {ps : List α}
theorem OwnRow.none_ (R : α → List Value → Prop) (e : TypeId) (size : Nat) (w : World) (base : Nat) : OwnRow R e size w base (.slice none 0 0) [] := ⟨[], own_nil _ _ _ _, Reps.none _ _⟩
theorem OwnRow.imp_ (h : OwnRow R e size w base v ps) (hR : ∀ p c, R p c → R' p c) : OwnRow R' e size w base v ps := by
 obtain ⟨inner, ho, hr⟩ := h
 exact ⟨inner, ho, hr.imp_ hR⟩
theorem OwnRow.below (h : OwnRow R e size w base v ps) (hb : Below w.heap.size w w1) : OwnRow R e size w1 base v ps := by
 obtain ⟨inner, ho, hr⟩ := h
 exact ⟨inner, pw_own_below ho hb, hr⟩
theorem OwnRow.other (h : OwnRow R e size w base v ps) {row : Option Nat} (hg : w.grownBy w1 row) (hne : v.ownBlock = none ∨ v.ownBlock ≠ row) : OwnRow R e size w1 base v ps := by
 obtain ⟨inner, ho, hr⟩ := h
 exact ⟨inner, own_other ho hg hne, hr⟩
theorem OwnRow.keep (h : OwnRow R e size w base v ps) {g : Nat} {t : TypeId} {cells : Array Value} (hb : w.heap[g]? = some (.cells cells t (0, 0))) (ht : e ≠ t) (hk : KeepBut w w1 g none) : OwnRow R e size w1 base v ps := by
 obtain ⟨inner, ho, hr⟩ := h
 exact ⟨inner, hk.own ho (Ne.symm (own_ne ho hb ht)) (by cases v.ownBlock <;> simp), hr⟩
theorem OwnRow.reads (h : OwnRow R e size w base v ps) : ∃ A c, v = .slice A ps.length c ∧ ps.length ≤ c ∧ ReadsRow R size w A ps.length ps := by
 obtain ⟨inner, ho, hr⟩ := h
 obtain ⟨A, c, rfl, hrow⟩ := own_reads_row ho hr rfl
 exact ⟨A, c, rfl, own_le ho, hrow⟩
end
section
variable {P : Program} {ops : Array Oper} {rest : List Oper} {o : Oper} {a : Act} {Q : Exit → Act → World → Prop} {α : Type} {R : α → List Value → Prop}
theorem OwnRow.append {w0 W : World} (base : Nat) (hgd : o.guard = none) (s x : Operand) (t e : TypeId) (z : Value) (size bytes : Nat)
 (ho : o.op = .call { callee := .builtin .append, args := #[s, x], argTypes := #[t, t] })
 (ht : P.underlying t = some (.slice e)) (hinfo : (P.info? e).map (fun i => (i.zero, i.size, i.bytes)) = some (some z, size, bytes)) (hz : z.cells.size = size) (hs0 : 0 < size) (hb0 : 0 < bytes)
 (v : Value) (ps : List α) (p : α) (cs : List Value) (hs : a.eval s = v) (hx : a.eval x = .slice (some ⟨W.heap.size, 0, none⟩) 1 1) (hp : R p cs) (hcs : cs.length = size) (h1 : ∀ u ∈ cs, u.oneCell' = true)
 (HO : OwnRow R e size W base v ps) (HB : Below base w0 W) (hbase : base ≤ W.heap.size) (hl : (ps.length + 1) * bytes ≤ 140737488355328)
 (h : ∀ v1 w1, OwnRow R e size w1 base v1 (ps ++ [p]) → Below base w0 w1 → W.grownBy w1 v.ownBlock → (v1.ownBlock = v.ownBlock ∨ ∃ b, v1.ownBlock = some b ∧ W.heap.size ≤ b) → wpList P ops Q rest (a.put o.dst v1) w1) :
 wpList P ops Q (o :: rest) a (W.alloc (.cells cs.toArray e)) := by
 obtain ⟨inner, hown, hr⟩ := HO
 refine print_append_cells base hgd s x t e z size bytes ho ht hinfo hz hs0 hb0 v ps.length inner cs hs hx hcs h1 hown HB hbase hl ?_
 intro v1 w1 hown1 hb1 hg1 hat1
 exact h v1 w1 ⟨inner ++ cs, by rw [List.length_append, List.length_singleton]; exact hown1, hr.snoc hp hcs⟩ hb1 hg1 hat1
end
theorem ReadsRow.inner_ {α : Type} {R : α → List Value → Prop} {size : Nat} {w : World} {ad : Addr} {n : Nat} {ps : List α} (h : ReadsRow R size w (some ad) n ps) :
 ∃ inner, Reps R size ps inner ∧ ∀ j u, inner[j]? = some u → w.cell? (ad.add j) = some u := by
 have key : ∀ m, m ≤ ps.length → ∃ inner, Reps R size (ps.take m) inner ∧ ∀ j u, inner[j]? = some u → w.cell? (ad.add j) = some u := by
  intro m
  induction m with
  | zero => exact fun _ => ⟨[], Reps.none _ _, fun j u hu => by simp at hu⟩
  | succ m ih =>
   intro hm
   obtain ⟨inner, hr, hc⟩ := ih (by omega)
   obtain ⟨ad', he, hcell⟩ := h.2.2 (by have := h.1; omega)
   injection he with he
   subst he
   obtain ⟨c, hcl, hp, hcc⟩ := hcell m _ (List.getElem?_eq_getElem (show m < ps.length by omega))
   refine ⟨inner ++ c, ?_, fun j u hu => ?_⟩
   · rw [List.take_succ_eq_append_getElem (show m < ps.length by omega)]
     exact hr.snoc hp hcl
   · have hil : inner.length = m * size := by rw [hr.1, List.length_take, Nat.min_eq_left (by omega)]
     rcases Nat.lt_or_ge j inner.length with hj | hj
     · rw [List.getElem?_append_left hj] at hu
       exact hc j u hu
     · rw [List.getElem?_append_right hj] at hu
       have := hcc (j - inner.length) u hu
       rwa [hil, Nat.add_sub_cancel' (by omega)] at this
 obtain ⟨inner, hr, hc⟩ := key ps.length (Nat.le_refl _)
 rw [List.take_length] at hr
 exact ⟨inner, hr, hc⟩
structure Kd (α : Type) where
 sz : Nat
 E : List Nat
 K : World → α → List Value → Prop
 M : World → Nat → (Nat → Prop) → α → List Value → Prop
 K_len : ∀ {w x cs}, K w x cs → cs.length = sz
 K_one : ∀ {w x cs}, K w x cs → ∀ u ∈ cs, u.oneCell' = true
 K_below : ∀ {w w1 : World} {x cs}, Below w.heap.size w w1 → K w x cs → K w1 x cs
 K_of_M : ∀ {w base ok x cs}, M w base ok x cs → K w x cs
 M_mono : ∀ {w base ok ok' x cs}, (∀ k, ok k → ok' k) → M w base ok x cs → M w base ok' x cs
 M_bound : ∀ {w : World} {base ok x cs}, M w base ok x cs → M w base (fun k => ok k ∧ base ≤ k ∧ k < w.heap.size ∧ ∃ q, q ∈ E ∧ ∃ cells, w.heap[k]? = some (.cells cells q (0, 0))) x cs
 M_move : ∀ {w w1 : World} {base ok x cs}, (∀ k, ok k → w1.heap[k]? = w.heap[k]?) → M w base ok x cs → M w1 base ok x cs
 M_lower : ∀ {w base base' ok x cs}, base' ≤ base → M w base ok x cs → M w base' ok x cs
theorem own_move {w w1 : World} {base : Nat} {e : TypeId} {size n : Nat} {v : Value} {xs : List Value} (h : w.ownsRow base e size v n xs) (hm : ∀ k, v.ownBlock = some k → w1.heap[k]? = w.heap[k]?) : w1.ownsRow base e size v n xs := by
 obtain ⟨h1, h2⟩ := h
 refine ⟨h1, ?_⟩
 rcases h2 with h2 | ⟨g, cap, cur, rfl, hg, hh, r⟩
 · exact .inl h2
 · exact .inr ⟨g, cap, cur, rfl, hg, (hm g (by simp [Value.ownBlock])).trans hh, r⟩
theorem own_typed {w : World} {base : Nat} {e : TypeId} {size n : Nat} {v : Value} {xs : List Value} (h : w.ownsRow base e size v n xs) (k : Nat) (hk : v.ownBlock = some k) : ∃ cells, w.heap[k]? = some (.cells cells e (0, 0)) := by
 rcases h.2 with ⟨rfl, _⟩ | ⟨g, cap, cur, rfl, hg, hh, r⟩
 · simp [Value.ownBlock] at hk
 · have : g = k := by simpa [Value.ownBlock] using hk
   subst this
   exact ⟨cur, hh⟩
namespace Kd
def C {α : Type} (d : Kd α) (w : World) (A : Option Addr) (n : Nat) (xs : List α) : Prop := ReadsRow (d.K w) d.sz w A n xs
def R {α : Type} (d : Kd α) (e : Nat) (w : World) (base : Nat) (ok : Nat → Prop) (v : Value) (xs : List α) : Prop :=
 (∀ k, v.ownBlock = some k → ok k) ∧ OwnRow (d.M w base (fun k => ok k ∧ some k ≠ v.ownBlock)) e d.sz w base v xs
section
variable {α : Type} {d : Kd α} {e : Nat} {w w1 : World} {base : Nat} {ok ok' : Nat → Prop} {v : Value} {xs : List α}
theorem C_below {A : Option Addr} {n : Nat} (h : d.C w A n xs) (hb : Below w.heap.size w w1) : d.C w1 A n xs := ReadsRow.imp_ h hb (fun _ _ hp => d.K_below hb hp)
theorem R_nil (d : Kd α) (e : Nat) (w : World) (base : Nat) (ok : Nat → Prop) : d.R e w base ok (.slice none 0 0) [] := ⟨fun k hk => by simp [Value.ownBlock] at hk, OwnRow.none_ _ _ _ _ _⟩
theorem R_mono (h : d.R e w base ok v xs) (hok : ∀ k, ok k → ok' k) : d.R e w base ok' v xs := ⟨fun k hk => hok k (h.1 k hk), h.2.imp_ (fun _ _ hp => d.M_mono (fun k hk => ⟨hok k hk.1, hk.2⟩) hp)⟩
theorem R_bound (h : d.R e w base ok v xs) : d.R e w base (fun k => ok k ∧ base ≤ k ∧ k < w.heap.size ∧ ∃ q, q ∈ e :: d.E ∧ ∃ cells, w.heap[k]? = some (.cells cells q (0, 0))) v xs := by
 obtain ⟨h0, inner, ho, hr⟩ := h
 refine ⟨fun k hk => ?_, inner, ho, hr.imp_ (fun _ _ hp => d.M_mono (fun k hk => ?_) (d.M_bound hp))⟩
 · obtain ⟨cells, hc⟩ := own_typed ho k hk
   exact ⟨h0 k hk, own_base ho k hk, own_lt ho k hk, e, List.mem_cons_self, cells, hc⟩
 · obtain ⟨⟨h1, h2⟩, h3, h4, q, hq, hc⟩ := hk
   exact ⟨⟨h1, h3, h4, q, List.mem_cons_of_mem _ hq, hc⟩, h2⟩
theorem R_move (h : d.R e w base ok v xs) (hm : ∀ k, ok k → w1.heap[k]? = w.heap[k]?) : d.R e w1 base ok v xs := by
 obtain ⟨h0, inner, ho, hr⟩ := h
 exact ⟨h0, inner, own_move ho (fun k hk => hm k (h0 k hk)), hr.imp_ (fun _ _ hp => d.M_move (fun k hk => hm k hk.1) hp)⟩
theorem R_lower {base' : Nat} (h : d.R e w base ok v xs) (hb : base' ≤ base) : d.R e w base' ok v xs := by
 obtain ⟨h0, inner, ho, hr⟩ := h
 exact ⟨h0, inner, own_weaken ho hb, hr.imp_ (fun _ _ hp => d.M_lower hb hp)⟩
theorem R_step (h : d.R e w base ok v xs) (hm : ∀ k, ok k → k < w.heap.size → w1.heap[k]? = w.heap[k]?) : d.R e w1 base ok v xs :=
 R_mono (R_move (R_bound h) (fun k hk => hm k hk.1 hk.2.2.1)) (fun _ hk => hk.1)
theorem M_step {x : α} {cs : List Value} (h : d.M w base ok x cs) (hm : ∀ k, ok k → k < w.heap.size → w1.heap[k]? = w.heap[k]?) : d.M w1 base ok x cs :=
 d.M_mono (fun _ hk => hk.1) (d.M_move (fun k hk => hm k hk.1 hk.2.2.1) (d.M_bound h))
theorem R_below (h : d.R e w base ok v xs) (hb : Below w.heap.size w w1) : d.R e w1 base ok v xs := R_step h (fun k _ hk => hb.block k hk)
theorem M_below {x : α} {cs : List Value} (h : d.M w base ok x cs) (hb : Below w.heap.size w w1) : d.M w1 base ok x cs := M_step h (fun k _ hk => hb.block k hk)
theorem R_reads (h : d.R e w base ok v xs) : ∃ A c, v = .slice A xs.length c ∧ xs.length ≤ c ∧ d.C w A xs.length xs := by
 obtain ⟨A, c, he, hl, hr⟩ := OwnRow.reads h.2
 exact ⟨A, c, he, hl, hr.imp_ (Below.refl _ _) (fun _ _ hp => d.K_of_M hp)⟩
theorem R_slice (h : d.R e w base ok v xs) : ∃ A c, v = .slice A xs.length c := by
 obtain ⟨A, c, he, _⟩ := R_reads h
 exact ⟨A, c, he⟩
end
def scalar {α : Type} (enc : α → Value) (h1 : ∀ x, (enc x).oneCell' = true) : Kd α where
 sz := 1
 E := []
 K := fun _ x cs => cs = [enc x]
 M := fun _ _ _ x cs => cs = [enc x]
 K_len := fun h => by rw [h]; rfl
 K_one := fun h u hu => by
  rw [h] at hu
  rw [List.mem_singleton.1 hu]
  exact h1 _
 K_below := fun _ h => h
 K_of_M := fun h => h
 M_mono := fun _ h => h
 M_bound := fun h => h
 M_move := fun _ h => h
 M_lower := fun _ h => h
def int (k : IntKind) : Kd Int := scalar (Value.int k) (fun _ => rfl)
def bool : Kd Bool := scalar Value.bool (fun _ => rfl)
def string : Kd ByteArray := scalar Value.string (fun _ => rfl)
def slice {α : Type} (e : Nat) (d : Kd α) : Kd (List α) where
 sz := 1
 E := e :: d.E
 K := fun w xs cs => ∃ A c, cs = [.slice A xs.length c] ∧ xs.length ≤ c ∧ d.C w A xs.length xs
 M := fun w base ok xs cs => ∃ v, cs = [v] ∧ d.R e w base ok v xs
 K_len := by
  rintro w x cs ⟨A, c, rfl, _⟩
  rfl
 K_one := by
  rintro w x cs ⟨A, c, rfl, _⟩ u hu
  rw [List.mem_singleton.1 hu]
  rfl
 K_below := by
  rintro w w1 x cs hb ⟨A, c, rfl, hl, hr⟩
  exact ⟨A, c, rfl, hl, C_below hr hb⟩
 K_of_M := by
  rintro w base ok x cs ⟨v, rfl, h⟩
  obtain ⟨A, c, rfl, hl, hr⟩ := R_reads h
  exact ⟨A, c, rfl, hl, hr⟩
 M_mono := by
  rintro w base ok ok' x cs hok ⟨v, rfl, h⟩
  exact ⟨v, rfl, R_mono h hok⟩
 M_bound := by
  rintro w base ok x cs ⟨v, rfl, h⟩
  exact ⟨v, rfl, R_bound h⟩
 M_move := by
  rintro w w1 base ok x cs hm ⟨v, rfl, h⟩
  exact ⟨v, rfl, R_move h hm⟩
 M_lower := by
  rintro w base base' ok x cs hb ⟨v, rfl, h⟩
  exact ⟨v, rfl, R_lower h hb⟩
def pair {α β : Type} (a : Kd α) (b : Kd β) : Kd (α × β) where
 sz := a.sz + b.sz
 E := a.E ++ b.E
 K := fun w x cs => ∃ c0 c1, cs = c0 ++ c1 ∧ a.K w x.1 c0 ∧ b.K w x.2 c1
 M := fun w base ok x cs => ∃ c0 c1, cs = c0 ++ c1 ∧ a.M w base ok x.1 c0 ∧ b.M w base ok x.2 c1
 K_len := by
  rintro w x cs ⟨c0, c1, rfl, h0, h1⟩
  rw [List.length_append, a.K_len h0, b.K_len h1]
 K_one := by
  rintro w x cs ⟨c0, c1, rfl, h0, h1⟩ u hu
  rcases List.mem_append.1 hu with hu | hu
  · exact a.K_one h0 u hu
  · exact b.K_one h1 u hu
 K_below := by
  rintro w w1 x cs hb ⟨c0, c1, rfl, h0, h1⟩
  exact ⟨c0, c1, rfl, a.K_below hb h0, b.K_below hb h1⟩
 K_of_M := by
  rintro w base ok x cs ⟨c0, c1, rfl, h0, h1⟩
  exact ⟨c0, c1, rfl, a.K_of_M h0, b.K_of_M h1⟩
 M_mono := by
  rintro w base ok ok' x cs hok ⟨c0, c1, rfl, h0, h1⟩
  exact ⟨c0, c1, rfl, a.M_mono hok h0, b.M_mono hok h1⟩
 M_bound := by
  rintro w base ok x cs ⟨c0, c1, rfl, h0, h1⟩
  refine ⟨c0, c1, rfl, a.M_mono ?_ (a.M_bound h0), b.M_mono ?_ (b.M_bound h1)⟩
  · rintro k ⟨h2, h3, h4, q, hq, hc⟩
    exact ⟨h2, h3, h4, q, List.mem_append_left _ hq, hc⟩
  · rintro k ⟨h2, h3, h4, q, hq, hc⟩
    exact ⟨h2, h3, h4, q, List.mem_append_right _ hq, hc⟩
 M_move := by
  rintro w w1 base ok x cs hm ⟨c0, c1, rfl, h0, h1⟩
  exact ⟨c0, c1, rfl, a.M_move hm h0, b.M_move hm h1⟩
 M_lower := by
  rintro w base base' ok x cs hb ⟨c0, c1, rfl, h0, h1⟩
  exact ⟨c0, c1, rfl, a.M_lower hb h0, b.M_lower hb h1⟩
def iso {α β : Type} (d : Kd α) (f : β → α) : Kd β where
 sz := d.sz
 E := d.E
 K := fun w x cs => d.K w (f x) cs
 M := fun w base ok x cs => d.M w base ok (f x) cs
 K_len := d.K_len
 K_one := d.K_one
 K_below := d.K_below
 K_of_M := d.K_of_M
 M_mono := d.M_mono
 M_bound := d.M_bound
 M_move := d.M_move
 M_lower := d.M_lower
def bot {α : Type} (sz : Nat) (E : List Nat) : Kd α where
 sz := sz
 E := E
 K := fun _ _ _ => False
 M := fun _ _ _ _ _ => False
 K_len := fun h => h.elim
 K_one := fun h => h.elim
 K_below := fun _ h => h
 K_of_M := fun h => h
 M_mono := fun _ h => h
 M_bound := fun h => h
 M_move := fun _ h => h
 M_lower := fun _ h => h
def upto {α : Type} (F : Kd α → Kd α) (sz : Nat) (E : List Nat) : Nat → Kd α
 | 0 => bot sz E
 | n + 1 => F (upto F sz E n)
theorem C_get {α : Type} {d : Kd α} {w : World} {A : Option Addr} {n : Nat} {xs : List α} (h : d.C w A n xs) (z : α) (i : Int) (h0 : 0 ≤ i) (h1 : i < n) :
 ∃ ad c, A = some ad ∧ c.length = d.sz ∧ d.K w (xs.getD i.toNat z) c ∧ ∀ j u, c[j]? = some u → w.cell? (ad.add (i.toNat * d.sz + j)) = some u := ReadsRow.get_ h z i h0 h1
end Kd
namespace Kd
structure Mono {α β : Type} (F : Kd α → Kd β) : Prop where
 sz : ∀ d d' : Kd α, d.sz = d'.sz → (F d).sz = (F d').sz
 K : ∀ d d' : Kd α, d.sz = d'.sz → (∀ w x cs, d.K w x cs → d'.K w x cs) → ∀ w x cs, (F d).K w x cs → (F d').K w x cs
 M : ∀ d d' : Kd α, d.sz = d'.sz → (∀ w base ok x cs, d.M w base ok x cs → d'.M w base ok x cs) → ∀ w base ok x cs, (F d).M w base ok x cs → (F d').M w base ok x cs
end Kd
namespace Kd
section
variable {α β : Type} {d : Kd α} {d' : Kd β} {e e' : Nat} {w w1 W : World} {base b b' : Nat} {ok ok' okv oku : Nat → Prop} {v u : Value} {xs : List α} {ys : List β}
theorem R_alloc (h : d.R e w base ok v xs) (o : Obj) : d.R e (w.alloc o) base ok v xs := R_below h (below_alloc (Below.refl _ _) o)
theorem R_drew (h : d.R e w base ok v xs) : d.R e w.drew base ok v xs := R_below h (below_drew (Below.refl _ _))
theorem R_drewN (h : d.R e w base ok v xs) (m : Nat) : d.R e (w.drewN m) base ok v xs := R_below h (pw_below_drewN (Below.refl _ _) m)
theorem C_alloc {A : Option Addr} {n : Nat} (h : d.C w A n xs) (o : Obj) : d.C (w.alloc o) A n xs := C_below h (below_alloc (Below.refl _ _) o)
theorem C_drew {A : Option Addr} {n : Nat} (h : d.C w A n xs) : d.C w.drew A n xs := C_below h (below_drew (Below.refl _ _))
theorem C_drewN {A : Option Addr} {n : Nat} (h : d.C w A n xs) (m : Nat) : d.C (w.drewN m) A n xs := C_below h (pw_below_drewN (Below.refl _ _) m)
theorem C_max {A : Option Addr} {n : Nat} (h : d.C w A n xs) : n ≤ 9223372036854775807 := h.2.1
theorem R_reads' {A : Option Addr} {n c : Nat} (h : d.R e w base ok (.slice A n c) xs) : n = xs.length ∧ n ≤ c ∧ d.C w A xs.length xs := by
 obtain ⟨A', c', he, hl, hr⟩ := R_reads h
 injection he with h1 h2 h3
 subst h1
 exact ⟨h2, by omega, hr⟩
end
section
variable {P : Program} {ops : Array Oper} {rest : List Oper} {o : Oper} {a : Act} {Q : Exit → Act → World → Prop}
theorem event_run {W w1 : World} {v : Value} (hgd : o.guard = none) (hrun : (execOp a.eval o).run P W = .ok (.value v) w1) (h : wpList P ops Q rest (a.put o.dst v) w1) : wpList P ops Q (o :: rest) a W := by
 refine wpList_plain hgd fun K hK => ?_
 unfold Oper.wp
 rw [hrun]
 exact hK _ _ h
variable {α : Type}
theorem R_lit (d : Kd α) {w0 W : World} (base e : Nat) (hgd : o.guard = none) {N : Tmp} (_hd : o.dst = some N) {xs : List α} {inner : List Value} {ok okp : Nat → Prop}
 (hrun : (execOp a.eval o).run P W = .ok (.value (.slice (some ⟨W.heap.size, 0, none⟩) xs.length xs.length)) (W.alloc (.cells inner.toArray e)))
 (hrep : Reps (d.M W base okp) d.sz xs inner) (hok : ∀ k, okp k → ok k) (hfresh : ok W.heap.size) (HB : Below base w0 W) (hbase : base ≤ W.heap.size) (hm : xs.length ≤ 9223372036854775807)
 (h : ∀ v1 w1, d.R e w1 base ok v1 xs → Below base w0 w1 → W.grownBy w1 none → (∃ b, v1.ownBlock = some b ∧ W.heap.size ≤ b) → wpList P ops Q rest (a.put o.dst v1) w1) : wpList P ops Q (o :: rest) a W := by
 refine event_run hgd hrun (h _ _ ⟨fun k hk => ?_, inner, ?_, ?_⟩ (HB.alloc hbase _) (World.grownBy_alloc W _ none) ⟨W.heap.size, by simp [Value.ownBlock], Nat.le_refl _⟩)
 · have : W.heap.size = k := by simpa [Value.ownBlock] using hk
   subst this
   exact hfresh
 · have h2 := World.ownsRow_lit (base := base) (e := e) (size := d.sz) W inner.toArray xs.length hbase (by simpa [maxLen] using hm) (by simpa using hrep.1)
   simpa using h2
 · refine hrep.imp_ (fun p c hp => d.M_mono (fun k hk => ⟨hok k hk.1, fun he => ?_⟩) (M_below (d.M_bound hp) (below_alloc (Below.refl _ _) _)))
   have h3 : k = W.heap.size := by simpa [Value.ownBlock] using he
   have := hk.2.2.1
   omega
end
end Kd
def QRow (w : World) (base : Nat) (e : TypeId) (size : Nat) (v : Value) (n : Nat) (xs : List Value) : Prop :=
 xs.length = n * size ∧
 ((n = 0 ∧ ∃ A, v = .slice A 0 0 ∧ ∀ a, A = some a → base ≤ a.block ∧ ∃ cur, w.heap[a.block]? = some (.cells cur e (0, 0))) ∨
  ∃ g off cap cur, v = .slice (some ⟨g, off * size, none⟩) n cap ∧ base ≤ g ∧ w.heap[g]? = some (.cells cur e (0, 0)) ∧ n ≤ cap ∧ off + cap ≤ maxLen ∧ cur.size = (off + cap) * size ∧ (cur.toList.drop (off * size)).take (n * size) = xs)
namespace Kd
def Q {α : Type} (d : Kd α) (e : Nat) (w : World) (base : Nat) (ok : Nat → Prop) (v : Value) (xs : List α) : Prop :=
 (∀ k, v.ownBlock = some k → ok k) ∧ ∃ inner, QRow w base e d.sz v xs.length inner ∧ Reps (d.M w base (fun k => ok k ∧ some k ≠ v.ownBlock)) d.sz xs inner
end Kd
namespace Kd
theorem reps_append {α : Type} {R : α → List Value → Prop} {size : Nat} {ps qs : List α} {cs ds : List Value} (h : Reps R size ps cs) (h' : Reps R size qs ds) : Reps R size (ps ++ qs) (cs ++ ds) := by
 refine ⟨by rw [List.length_append, List.length_append, h.1, h'.1, Nat.add_mul], fun j p hj => ?_⟩
 rcases Nat.lt_or_ge j ps.length with hlt | hge
 · rw [List.getElem?_append_left hlt] at hj
   have hle : j * size + size ≤ cs.length := by rw [h.1, ← Nat.succ_mul]; exact Nat.mul_le_mul_right _ hlt
   rw [List.drop_append_of_le_length (by omega), List.take_append_of_le_length (by rw [List.length_drop]; omega)]
   exact h.2 j p hj
 · rw [List.getElem?_append_right hge] at hj
   have h2 := h'.2 (j - ps.length) p hj
   have hle : ps.length * size ≤ j * size := Nat.mul_le_mul_right _ hge
   rw [List.drop_append, List.drop_eq_nil_of_le (by rw [h.1]; exact hle), List.nil_append, h.1, ← Nat.sub_mul]
   exact h2
section
variable {P : Program} {ops : Array Oper} {rest : List Oper} {o : Oper} {a : Act} {Q : Exit → Act → World → Prop} {α : Type}
theorem R_append_rows (d : Kd α) {Rr : α → List Value → Prop} {w0 W : World} (base : Nat) (hgd : o.guard = none) (s x : Operand) (t e : TypeId) (z : Value) (bytes : Nat)
 (ho : o.op = .call { callee := .builtin .append, args := #[s, x], argTypes := #[t, t] })
 (ht : P.underlying t = some (.slice e)) (hinfo : (P.info? e).map (fun i => (i.zero, i.size, i.bytes)) = some (some z, d.sz, bytes)) (hz : z.cells.size = d.sz) (hs0 : 0 < d.sz) (hb0 : 0 < bytes)
 (v : Value) (xs ys : List α) (A : Option Addr) (m c : Nat) (ok okp : Nat → Prop) (hs : a.eval s = v) (hx : a.eval x = .slice A m c)
 (HO : d.R e W base ok v xs) (HR : ReadsRow Rr d.sz W A m ys) (hKM : ∀ x cs, Rr x cs → d.M W base okp x cs) (hokp : ∀ k, okp k → ok k ∧ some k ≠ v.ownBlock) (hfresh : ∀ k, W.heap.size ≤ k → ok k)
 (HB : Below base w0 W) (hbase : base ≤ W.heap.size) (hl : (xs.length + m) * bytes ≤ 140737488355328)
 (h : ∀ v1 w1, d.R e w1 base ok v1 (xs ++ ys) → Below base w0 w1 → W.grownBy w1 v.ownBlock → (v1.ownBlock = v.ownBlock ∨ ∃ b, v1.ownBlock = some b ∧ W.heap.size ≤ b) → wpList P ops Q rest (a.put o.dst v1) w1) :
 wpList P ops Q (o :: rest) a W := by
 obtain ⟨i0, hi, hzz⟩ := Option.map_eq_some_iff.1 hinfo
 simp only [Prod.mk.injEq] at hzz
 obtain ⟨hz0, hz1, hz2⟩ := hzz
 have hm : ys.length = m := HR.1
 have hlen : xs.length + m ≤ 140737488355328 := Nat.le_trans (Nat.le_mul_of_pos_right _ hb0) hl
 obtain ⟨hok, inner, hown, hr⟩ := HO
 have hrun : ∃ v1 w1, (Builtin.append_ #[t, t] o.type #[v, .slice A m c]).run P W = .ok v1 w1 ∧ d.R e w1 base ok v1 (xs ++ ys) ∧ W.grownBy w1 v.ownBlock ∧ (v1.ownBlock = v.ownBlock ∨ ∃ b, v1.ownBlock = some b ∧ W.heap.size ≤ b) := by
  rcases A with _ | ad
  · have h0 : m = 0 := by
     rcases Nat.eq_zero_or_pos m with h0 | h0
     · exact h0
     · obtain ⟨ad, h, _⟩ := HR.2.2 h0
       cases h
    subst h0
    obtain rfl : ys = [] := List.eq_nil_of_length_eq_zero hm
    refine ⟨v, W, ?_, by rw [List.append_nil]; exact ⟨hok, inner, hown, hr⟩, World.grownBy.refl W _, .inl rfl⟩
    rcases hown.2 with ⟨rfl, hn⟩ | ⟨g, cap, cur, rfl, _, _, hnc, _⟩
    · simp [Builtin.append_, run_underlying ht, sizeOf, typeInfo, hi, Builtin.lenOf, Builtin.firstCells]
    · simp [Builtin.append_, run_underlying ht, sizeOf, typeInfo, hi, Builtin.lenOf, Builtin.firstCells, hnc, storeCells]
  · obtain ⟨news, hnr, hnc⟩ := ReadsRow.inner_ HR
    have hnM : Reps (d.M W base okp) d.sz ys news := hnr.imp_ (fun p c hp => hKM p c hp)
    have hone : ∀ u ∈ news, u.oneCell' = true := by
     intro u hu
     obtain ⟨q, hq, rfl⟩ := List.mem_iff_getElem.1 hu
     have hql : q / d.sz < ys.length := by
      rw [Nat.div_lt_iff_lt_mul hs0]
      rw [← hnM.1]
      exact hq
     have hc := hnM.2 (q / d.sz) _ (List.getElem?_eq_getElem hql)
     refine d.K_one (d.K_of_M hc) _ ?_
     rw [List.mem_iff_getElem?]
     refine ⟨q % d.sz, ?_⟩
     rw [List.getElem?_take, if_pos (Nat.mod_lt _ hs0), List.getElem?_drop, Nat.mul_comm, Nat.div_add_mod, List.getElem?_eq_getElem hq]
    obtain ⟨v1, w1, hrun, h2, hg, _, hat⟩ := run_append_own_at (P := P) W base t o.type e i0 z d.sz bytes ht hi hz0 hz1 hz2 hz hs0 v xs.length inner hown ad m c news (by rw [hnM.1, hm]) hnc hone (by simp only [maxLen]; omega) hl hbase
    have hat' : v1.ownBlock = v.ownBlock ∨ ∃ b, v1.ownBlock = some b ∧ W.heap.size ≤ b := by
     rcases hat with hat | hat
     · exact .inl hat
     · exact .inr ⟨_, hat, Nat.le_refl _⟩
    have hne : ∀ k, some k ≠ v.ownBlock → k < W.heap.size → some k ≠ v1.ownBlock := by
     intro k hk hlt
     rcases hat' with hat | ⟨b, hb, hle⟩
     · rw [hat]; exact hk
     · rw [hb]
       intro he
       injection he with he
       omega
    have step : ∀ {q : α} {c : List Value} {o : Nat → Prop}, d.M W base o q c → (∀ k, o k → ok k ∧ some k ≠ v.ownBlock) → d.M w1 base (fun k => ok k ∧ some k ≠ v1.ownBlock) q c := by
     intro q c o hq ho
     have h1 := d.M_move (w1 := w1) (fun k hk => hg.block k hk.2.2.1 (ho k hk.1).2) (d.M_bound hq)
     exact d.M_mono (fun k hk => ⟨(ho k hk.1).1, hne k (ho k hk.1).2 hk.2.2.1⟩) h1
    refine ⟨v1, w1, hrun, ⟨fun k hk => ?_, inner ++ news, by rw [List.length_append, hm]; exact h2, reps_append (hr.imp_ (fun _ _ hq => step hq (fun _ hk => hk))) (hnM.imp_ (fun _ _ hq => step hq hokp))⟩, hg, hat'⟩
    rcases hat' with hat | ⟨b, hb, hle⟩
    · exact hok k (hat ▸ hk)
    · rw [hb] at hk
      injection hk with hk
      exact hfresh k (by omega)
 obtain ⟨v1, w1, hr1, h1, hg, hat⟩ := hrun
 refine wpList_plain hgd fun K hK => ?_
 unfold Oper.wp execOp
 simp only [ho, resolve, invoke, builtin, Sem.run_bind, Sem.run_pure, Result.andThen_ok, List.map_toArray, List.map_cons, List.map_nil, hs, hx, hr1]
 exact hK _ _ (h v1 w1 h1 (HB.grown hg hbase (own_base hown)) hg hat)
end
end Kd
theorem below_size {w W : World} (h : Below w.heap.size w W) : w.heap.size ≤ W.heap.size := h.size
theorem below_step {w W w2 : World} (h : Below w.heap.size w W) (k : Below W.heap.size W w2) : Below w.heap.size w w2 := below_then h h.size k
theorem ReadsInt.nil (W : World) (k : IntKind) : ReadsInt W k none ([] : List Int).length [] := ⟨rfl, by simp, fun h => absurd h (Nat.lt_irrefl 0)⟩
theorem ReadsInt.drewN {W : World} {k : IntKind} {A : Option Addr} {n : Nat} {xs : List Int} (h : ReadsInt W k A n xs) (m : Nat) : ReadsInt (W.drewN m) k A n xs := h
theorem below_set {w W : World} {g j : Nat} {v : Value} (h : Below w.heap.size w W) (hg : w.heap.size ≤ g) : Below w.heap.size w (W.setCell ⟨g, j, none⟩ v) := h.setCell hg _
theorem keep_cell {w W : World} {g : Nat} (h : KeepBut w W g none) {a : Addr} {v : Value} (hc : w.cell? a = some v) (hne : a.block ≠ g) : W.cell? a = some v := by
 have := h.2 a.block (World.block_lt_of_cell? w a hc) hne (by simp)
 simpa [World.cell?, this] using hc
theorem add_block (a : Addr) (i : Nat) : (a.add i).block = a.block := by unfold Addr.add; split <;> rfl
theorem ReadsOf.nil {α : Type} (enc : α → Value) (d : α) (W : World) : ReadsOf enc d W none ([] : List α).length [] := ⟨rfl, by simp, fun h => absurd h (Nat.lt_irrefl 0)⟩
theorem ReadsOf.drewN {α : Type} {enc : α → Value} {d : α} {W : World} {A : Option Addr} {n : Nat} {xs : List α} (h : ReadsOf enc d W A n xs) (m : Nat) : ReadsOf enc d (W.drewN m) A n xs := h
theorem ReadsInt.keep {w W : World} {k : IntKind} {A : Option Addr} {n g : Nat} {xs : List Int} (h : ReadsInt w k A n xs) (hk : KeepBut w W g none) (hf : ∀ ad, A = some ad → 0 < n → ad.block ≠ g) : ReadsInt W k A n xs :=
 ⟨h.1, h.2.1, fun hn => by
  obtain ⟨ad, e, hc⟩ := h.2.2 hn
  exact ⟨ad, e, fun j hj => keep_cell hk (hc j hj) (by rw [add_block]; exact hf ad e hn)⟩⟩
theorem ReadsOf.keep {α : Type} {enc : α → Value} {d : α} {w W : World} {A : Option Addr} {n g : Nat} {xs : List α} (h : ReadsOf enc d w A n xs) (hk : KeepBut w W g none) (hf : ∀ ad, A = some ad → 0 < n → ad.block ≠ g) : ReadsOf enc d W A n xs :=
 ⟨h.1, h.2.1, fun hn => by
  obtain ⟨ad, e, hc⟩ := h.2.2 hn
  exact ⟨ad, e, fun j hj => keep_cell hk (hc j hj) (by rw [add_block]; exact hf ad e hn)⟩⟩
theorem blk_put {w : World} {g : Nat} {t : TypeId} {cs cs' : Array Value} (h : w.heap[g]? = some (.cells cs t (0, 0))) (i : Nat) (u : Value) (e : cs.setIfInBounds i u = cs') : (w.setCell ⟨g, i, none⟩ u).heap[g]? = some (.cells cs' t (0, 0)) := e ▸ blk_set h i u
theorem below_drew1 {base : Nat} {w W : World} (h : Below base w W) : Below base w W.drew := h.drew
section
variable {P : Program} {ops : Array Oper} {rest : List Oper} {o : Oper} {a : Act} {Q : Exit → Act → World → Prop}
theorem box_event {W : World} (hgd : o.guard = none) {N : Tmp} (_hd : o.dst = some N) {cs : Array Value} {t : TypeId}
 (hrun : (execOp a.eval o).run P W = .ok (.value (.pointer (some ⟨W.heap.size, 0, none⟩))) (W.alloc (.cells cs t (0, 0))))
 (h : ∀ g, g = W.heap.size → ∀ w1, w1.heap[g]? = some (.cells cs t (0, 0)) → Below W.heap.size W w1 → wpList P ops Q rest (a.put o.dst (.pointer (some ⟨g, 0, none⟩))) w1) : wpList P ops Q (o :: rest) a W :=
 Kd.event_run hgd hrun (h _ rfl _ (blk_new W _) (below_alloc (Below.refl _ _) _))
end
section
variable {P : Program} {ops : Array Oper} {rest : List Oper} {o : Oper} {a : Act} {Q : Exit → Act → World → Prop} {W : World}
theorem gate_dst {N : Tmp} (_hN : o.dst = some N) (h : wpList P ops Q (o :: rest) a W) : wpList P ops Q (o :: rest) a W := h
end
inductive Vals (P : Program) (tmps : Array Value) (w : World) : List ResultVar → List Value → Prop where
 | nil : Vals P tmps w [] []
 | tmp {u : Tmp} {rs : List ResultVar} {vs : List Value} (h : Vals P tmps w rs vs) : Vals P tmps w (.tmp u :: rs) (tmps.getD u undef :: vs)
 | cell {p : Tmp} {ty : TypeId} {rs : List ResultVar} {vs : List Value} (g : Nat) (t : TypeId) (cs : Array Value) (fr : Nat × Nat) (d : TypeDesc)
  (hp : tmps.getD p undef = .pointer (some ⟨g, 0, none⟩)) (hg : w.heap[g]? = some (.cells cs t fr))
  (hu : P.underlying ty = some d) (hd : (match d with | .struct _ | .array _ _ => true | _ => false) = true) (hi : (P.info? ty).map (·.size) = some cs.size)
  (h : Vals P tmps w rs vs) : Vals P tmps w (.cell p ty :: rs) (.agg cs :: vs)
end Go.Proofs.YthbajahklnpkcaaW.PrintWords

namespace Go.Proofs.YthbajahklnpkcaaW.PrintLast
section
variable {P : Program} {ops : Array Oper} {Q : Exit → Act → World → Prop} {md : Region.Mode} {S : World → Prop} {ds : List Nat}
def ListedClosed (md : Region.Mode) (ops : Array Oper) (listed : Array Bool) : Prop :=
 ∀ j oj, ops[j]? = some oj → listed.getD j false = true → ∀ e ∈ oj.after, Region.binds md e = true → listed.getD e.on false = true
theorem ListedClosed.set {listed : Array Bool} {i : Nat} (h : ListedClosed md ops listed) (hi : i ∈ Region.ready md ops listed) : ListedClosed md ops (listed.setIfInBounds i true) := by
 obtain ⟨_, oi, hoi, hall⟩ := mem_ready.1 hi
 intro j oj hj hl e he hb
 by_cases hij : i = j
 · subst hij
   have : oj = oi := Option.some.inj (hj.symm.trans hoi)
   subst this
   exact getD_set_true (hall e he hb)
 · rw [getD_set_ne false hij] at hl
   exact getD_set_true (h j oj hj hl e he hb)
def wpAnyLast (P : Program) (md : Region.Mode) (ops : Array Oper) (Q : Exit → Act → World → Prop) (S : World → Prop) (ds : List Nat) : Nat → Array Bool → Act → World → Prop
 | 0, listed, a, w => Region.ready md ops listed = [] ∧ Q .normal a w
 | fuel + 1, listed, a, w =>
  (Region.ready md ops listed = [] → Q .normal a w) ∧
  ∀ i ∈ Region.ready md ops listed, wpOp P ops Q i (fun a' w' => (i ∉ ds → S w → S w') ∧ wpAnyLast P md ops Q S ds fuel (listed.setIfInBounds i true) a' w') a w
end
section
variable {P : Program} {ops : Array Oper} {Q : Exit → Act → World → Prop} {md : Region.Mode} {S : World → Prop} {ds : List Nat}
def AllReadyL (P : Program) (md : Region.Mode) (ops : Array Oper) (Q : Exit → Act → World → Prop) (S : World → Prop) (ds : List Nat) (fuel : Nat) (listed : Array Bool) (a : Act) (w : World) (rs : List Nat) : Prop :=
 ∀ i ∈ rs, wpOp P ops Q i (fun a' w' => (i ∉ ds → S w → S w') ∧ wpAnyLast P md ops Q S ds fuel (listed.setIfInBounds i true) a' w') a w
theorem AllReadyL.nil {fuel : Nat} {listed : Array Bool} {a : Act} {w : World} : AllReadyL P md ops Q S ds fuel listed a w [] := fun _ h => by cases h
theorem AllReadyL.cons {fuel : Nat} {listed : Array Bool} {a : Act} {w : World} {i : Nat} {o : Oper} {rs : List Nat} (ho : ops[i]? = some o) (hd : i ∉ ds)
 (h : ∀ K' : Act → World → Prop, Shut (∀ a w, S w → (S w → wpAnyLast P md ops Q S ds fuel (listed.setIfInBounds i true) a w) → K' a w) → if Region.wanted o (yielded ops a.tmps) = true then Oper.wp P o a w K' Q else K' (a.put o.dst undef) w)
 (hs : AllReadyL P md ops Q S ds fuel listed a w rs) : AllReadyL P md ops Q S ds fuel listed a w (i :: rs) := fun j hj => by
 rcases List.mem_cons.1 hj with rfl | hj
 · exact wpOp_step ho (fun K' hK => h K' (fun a w hS hW => hK a w ⟨fun _ _ => hS, hW hS⟩))
 · exact hs j hj
theorem enters_ {f : FuncId} {fn : Func} (hf : P.funcs[f]? = some fn) (hname : (fn.name == "runtime.NumGoroutine") = false) (hb : fn.body.isSome = true) (args : Array Value) (w : World) : (callFunc f args).run P w = .ok (.enter f args) w := by
 have h1 : fn.name ≠ "runtime.NumGoroutine" := by simpa using hname
 obtain ⟨c, hc⟩ := Option.isSome_iff_exists.1 hb
 simp [callFunc, hf, h1, hc]
theorem goesL_ {rest : List Oper} {oi : Oper} {a : Act} {w : World} (N : Option Tmp) (hd : oi.dst = N) (hg : oi.guard = none) {f : FuncId} {fn : Func} {as_ : Array Operand} {ts : Array TypeId} (hf : P.funcs[f]? = some fn) (hname : (fn.name == "runtime.NumGoroutine") = false) (hb : fn.body.isSome = true) (args : Array Value)
 (hop : oi.op = .call { callee := .value (.func f), args := as_, argTypes := ts }) (hargs : as_.map a.eval = args)
 (h : Calls P f args w fun e w' => ∃ v, e = .returned v ∧ wpList P ops Q rest (a.put N v) w') : wpList P ops Q (oi :: rest) a w := by
 refine wpList_plain hg fun K hK => ?_
 have he := enters_ hf hname hb args w
 have hrun : (execOp a.eval oi).run P w = .ok (.enter f args) w := by
  unfold execOp
  simp [hop, resolve, Deferred.ofValue, invoke, Act.eval, hargs, he]
 unfold Oper.wp
 rw [hrun, Oper.upon_enter]
 refine h.mono fun e w'' hh => ?_
 obtain ⟨v, rfl, hk⟩ := hh
 subst hd
 exact hK _ _ hk
theorem i64_w (n : Int) : IntKind.i64.wrap n = Go.RowKit.wrap64 n := by unfold Go.RowKit.wrap64; exact IntKind.wrap_i64 n
end
end Go.Proofs.YthbajahklnpkcaaW.PrintLast







namespace Go.Proofs.YthbajahklnpkcaaW.PrintWords
open Go.RowKit
namespace Kd
def tag {α : Type} (f : Nat → Nat) (d : Kd α) : Kd (α × Nat) where
 sz := d.sz
 E := d.E
 K := fun w x cs => d.K w x.1 cs
 M := fun w base ok x cs => d.M w base (fun k => ok k ∧ f k = x.2) x.1 cs
 K_len := fun h => d.K_len h
 K_one := fun h => d.K_one h
 K_below := fun hb h => d.K_below hb h
 K_of_M := fun h => d.K_of_M h
 M_mono := fun hok h => d.M_mono (fun k hk => ⟨hok k hk.1, hk.2⟩) h
 M_bound := fun h => d.M_mono (fun _ hk => ⟨⟨hk.1.1, hk.2⟩, hk.1.2⟩) (d.M_bound h)
 M_move := fun hm h => d.M_move (fun k hk => hm k hk.1) h
 M_lower := fun hb h => d.M_lower hb h
def raw (sz : Nat) : Kd (List Value) where
 sz := sz
 E := []
 K := fun _ x cs => cs = x ∧ cs.length = sz ∧ ∀ u ∈ cs, u.oneCell' = true
 M := fun _ _ _ x cs => cs = x ∧ cs.length = sz ∧ ∀ u ∈ cs, u.oneCell' = true
 K_len := fun h => h.2.1
 K_one := fun h => h.2.2
 K_below := fun _ h => h
 K_of_M := fun h => h
 M_mono := fun _ h => h
 M_bound := fun h => h
 M_move := fun _ h => h
 M_lower := fun _ h => h
def S {α : Type} (d : Kd α) (e : Nat) (w : World) (base : Nat) (ok : Nat → Prop) (v : Value) (xs : List α) : Prop := ∃ f, (tag f d).R e w base ok v xs.zipIdx
def gap {α : Type} (f : Nat → Nat) (d : Kd α) (i : Nat) (c : List Value) : Kd (α × Nat) where
 sz := d.sz
 E := d.E
 K := fun w x cs => (x.2 = i → cs = c ∧ cs.length = d.sz ∧ ∀ u ∈ cs, u.oneCell' = true) ∧ (x.2 ≠ i → d.K w x.1 cs)
 M := fun w base ok x cs => (x.2 = i → cs = c ∧ cs.length = d.sz ∧ ∀ u ∈ cs, u.oneCell' = true) ∧ (x.2 ≠ i → d.M w base (fun k => ok k ∧ f k = x.2) x.1 cs)
 K_len := fun {w x cs} h => by
  by_cases hx : x.2 = i
  · exact (h.1 hx).2.1
  · exact d.K_len (h.2 hx)
 K_one := fun {w x cs} h => by
  by_cases hx : x.2 = i
  · exact (h.1 hx).2.2
  · exact d.K_one (h.2 hx)
 K_below := fun hb h => ⟨h.1, fun hx => d.K_below hb (h.2 hx)⟩
 K_of_M := fun h => ⟨h.1, fun hx => d.K_of_M (h.2 hx)⟩
 M_mono := fun hok h => ⟨h.1, fun hx => d.M_mono (fun k hk => ⟨hok k hk.1, hk.2⟩) (h.2 hx)⟩
 M_bound := fun h => ⟨h.1, fun hx => d.M_mono (fun _ hk => ⟨⟨hk.1.1, hk.2⟩, hk.1.2⟩) (d.M_bound (h.2 hx))⟩
 M_move := fun hm h => ⟨h.1, fun hx => d.M_move (fun k hk => hm k hk.1) (h.2 hx)⟩
 M_lower := fun hb h => ⟨h.1, fun hx => d.M_lower hb (h.2 hx)⟩
def H {α : Type} (d : Kd α) (e : Nat) (w : World) (base : Nat) (ok : Nat → Prop) (v : Value) (xs : List α) (i : Int) (oki : Nat → Prop) (c : List Value) : Prop :=
 (∀ k, oki k → ok k) ∧ ∃ f, (gap f d i.toNat c).R e w base (fun k => ok k ∧ ¬ oki k) v xs.zipIdx
end Kd
end Go.Proofs.YthbajahklnpkcaaW.PrintWords





namespace Go.Proofs.YthbajahklnpkcaaW.PrintWords
open Go.RowKit
namespace Kd
structure Heap {α : Type} (d : Kd α) : Prop where
 K : ∀ {w w1 : World} {x : α} {cs : List Value}, (∀ k, k < w.heap.size → w1.heap[k]? = w.heap[k]?) → d.K w x cs → d.K w1 x cs
theorem cell_heap {w w1 : World} (hb : ∀ k, k < w.heap.size → w1.heap[k]? = w.heap[k]?) {a : Addr} {v : Value} (h : w.cell? a = some v) : w1.cell? a = some v := by
 have := hb a.block (World.block_lt_of_cell? w a h)
 simpa [World.cell?, this] using h
theorem Heap.C {α : Type} {d : Kd α} (hd : Heap d) {w w1 : World} {A : Option Addr} {n : Nat} {xs : List α} (hb : ∀ k, k < w.heap.size → w1.heap[k]? = w.heap[k]?) (h : d.C w A n xs) : d.C w1 A n xs :=
 ⟨h.1, h.2.1, fun hn => by
  obtain ⟨ad, e, hc⟩ := h.2.2 hn
  refine ⟨ad, e, fun j p hj => ?_⟩
  obtain ⟨c, hs, hr, hcell⟩ := hc j p hj
  exact ⟨c, hs, hd.K hb hr, fun i u hu => cell_heap hb (hcell i u hu)⟩⟩
end Kd
end Go.Proofs.YthbajahklnpkcaaW.PrintWords

namespace Go.Proofs.YthbajahklnpkcaaW.PrintWords
open Go.RowKit
def Kept (w W : World) (S : Nat → Prop) : Prop := w.heap.size ≤ W.heap.size ∧ ∀ i, i < w.heap.size → ¬ S i → W.heap[i]? = w.heap[i]?
section
variable {w W W2 : World} {S S2 S' : Nat → Prop}
theorem Kept.refl (w : World) (S : Nat → Prop) : Kept w w S := ⟨Nat.le_refl _, fun _ _ _ => rfl⟩
theorem Kept.of_below (h : Below w.heap.size w W) (S : Nat → Prop) : Kept w W S := ⟨h.size, fun i hi _ => h.block i hi⟩
theorem Kept.mono (h : Kept w W S) (hs : ∀ k, S k → S' k) : Kept w W S' := ⟨h.1, fun i hi hn => h.2 i hi (fun hk => hn (hs i hk))⟩
theorem Kept.then_ (h : Kept w W S) (k : Kept W W2 S2) (hs : ∀ k, S2 k → S k ∨ w.heap.size ≤ k) : Kept w W2 S :=
 ⟨Nat.le_trans h.1 k.1, fun i hi hn => (k.2 i (Nat.lt_of_lt_of_le hi h.1) (fun h2 => (hs i h2).elim hn (fun h3 => by omega))).trans (h.2 i hi hn)⟩
theorem Kept.below (h : Kept w W S) (hb : Below W.heap.size W W2) : Kept w W2 S := h.then_ (Kept.of_below hb (fun _ => False)) (fun _ hk => hk.elim)
theorem Kept.alloc (h : Kept w W S) (o : Obj) : Kept w (W.alloc o) S := h.below (below_alloc (Below.refl _ _) o)
theorem Kept.drew (h : Kept w W S) : Kept w W.drew S := h
theorem Kept.drewN (h : Kept w W S) (m : Nat) : Kept w (W.drewN m) S := h
theorem Kept.setCell (h : Kept w W S) {p : Addr} (hp : S p.block ∨ w.heap.size ≤ p.block) (u : Value) : Kept w (W.setCell p u) S :=
 h.then_ (S2 := fun k => k = p.block) ⟨by simp [World.setCell], fun i _ hn => Below.heap_setCell W p u i hn⟩ (fun k hk => by rw [hk]; exact hp)
theorem Kept.keep {g : Nat} (h : KeepBut w W g none) (k : Kept W W2 S2) (hs : ∀ k, S2 k → w.heap.size ≤ k) : KeepBut w W2 g none :=
 ⟨Nat.le_trans h.1 k.1, fun i hi hg hr => (k.2 i (Nat.lt_of_lt_of_le hi h.1) (fun h2 => by have := hs i h2; omega)).trans (h.2 i hi hg hr)⟩
end
end Go.Proofs.YthbajahklnpkcaaW.PrintWords

namespace Go.Proofs.YthbajahklnpkcaaW.PrintWords
open Go.RowKit
def Foot (P : World → Prop) (W : World) (ok : Nat → Prop) : Prop := ∀ W' : World, (∀ k, ok k → k < W.heap.size → W'.heap[k]? = W.heap[k]?) → P W'
theorem heap_lt {W W1 : World} {k : Nat} (h : W1.heap[k]? = W.heap[k]?) (hlt : k < W.heap.size) : k < W1.heap.size := by
 rw [Array.getElem?_eq_getElem hlt] at h
 exact (Array.getElem?_eq_some_iff.1 h).1
namespace Foot
variable {P Q : World → Prop} {W W1 : World} {ok ok' : Nat → Prop}
theorem mono (h : Foot P W ok) (hok : ∀ k, ok k → ok' k) : Foot P W ok' := fun W' hW => h W' (fun k hk hlt => hW k (hok k hk) hlt)
theorem step (h : Foot P W ok) (hm : ∀ k, ok k → k < W.heap.size → W1.heap[k]? = W.heap[k]?) : Foot P W1 ok := fun W' hW => h W' (fun k hk hlt => (hW k hk (heap_lt (hm k hk hlt) hlt)).trans (hm k hk hlt))
end Foot
namespace Kd
def F {α : Type} (d : Kd α) (W : World) (ok : Nat → Prop) (A : Option Addr) (n : Nat) (xs : List α) : Prop := Foot (fun W => d.C W A n xs) W ok
def FK {α : Type} (d : Kd α) (W : World) (ok : Nat → Prop) (x : α) (c : List Value) : Prop := Foot (fun W => d.K W x c) W ok
end Kd
end Go.Proofs.YthbajahklnpkcaaW.PrintWords

namespace Go.Proofs.YthbajahklnpkcaaW.PrintWords
open Go.RowKit
namespace Kd
section
variable {α : Type} {d : Kd α} {e base n cc g : Nat} {ok ok' okp S : Nat → Prop} {w w1 W W1 : World} {A : Option Addr} {u v v1 : Value} {xs : List α} {x : α} {c : List Value}
def N {α : Type} (d : Kd α) (e : Nat) (w : World) (base : Nat) (ok : Nat → Prop) (v : Value) (xs : List α) : Prop :=
 (∀ k, v.ownBlock = some k → ok k) ∧ ∃ rows : List (List Value), rows.length = xs.length ∧ (raw d.sz).R e w base (fun k => some k = v.ownBlock) v rows ∧ ∀ (j : Nat) (x : α) (c : List Value), xs[j]? = some x → rows[j]? = some c → FK d w (fun k => ok k ∧ some k ≠ v.ownBlock) x c
end
end Kd
end Go.Proofs.YthbajahklnpkcaaW.PrintWords





namespace Go.Proofs.YthbajahklnpkcaaW.PrintWords
open Go.RowKit
section
variable {P : Program} {d : Nat} {xs ys : Array Value} {f : Field} {fs : List Field} {a b : Value} {r s : Bool} {w : World}
theorem eqf_last (hn : (f.name == "_") = false) (ha : (part f.type xs f.offset).run P w = .ok a w) (hb : (part f.type ys f.offset).run P w = .ok b w) (he : (Op.equalIn d f.type a b).run P w = .ok r w) : (Op.eqFields d xs ys [f]).run P w = .ok r w := by
 have hn' : f.name ≠ "_" := by simpa using hn
 simp only [Op.eqFields, if_pos hn', Sem.run_bind, ha, hb, he, Result.andThen_ok]
 cases r <;> simp
theorem eqf_cons (hn : (f.name == "_") = false) (ha : (part f.type xs f.offset).run P w = .ok a w) (hb : (part f.type ys f.offset).run P w = .ok b w) (he : (Op.equalIn d f.type a b).run P w = .ok r w) (hr : (Op.eqFields d xs ys fs).run P w = .ok s w) : (Op.eqFields d xs ys (f :: fs)).run P w = .ok (r && s) w := by
 have hn' : f.name ≠ "_" := by simpa using hn
 rw [Op.eqFields]
 simp only [if_pos hn', Sem.run_bind, ha, hb, he, Result.andThen_ok]
 cases r
 · simp
 · simpa using hr
theorem eqA_of {t : TypeId} {fs : Array Field} (hu : P.underlying t = some (.struct fs)) (hp : P.stoodInHeld t = false) (h : (Op.eqFields d xs ys fs.toList).run P w = .ok r w) : (Op.equalIn (d + 1) t (.agg xs) (.agg ys)).run P w = .ok r w := by
 have hf : P.fieldsOf t = fs := by simp [Program.fieldsOf, hu]
 rw [run_equalIn_struct (P := P) w d t xs ys (by rw [hf]; exact hu) hp, hf]
 exact h
end
end Go.Proofs.YthbajahklnpkcaaW.PrintWords

namespace Go.Proofs.YthbajahklnpkcaaW.PrintWords
theorem Reps.front {α : Type} {R : α → List Value → Prop} {size : Nat} {ps : List α} {cs c all : List Value} {p : α} (hp : R p c) (hc : c.length = size) (h : Reps R size ps cs) (ha : c ++ cs = all) : Reps R size (p :: ps) all := by
 subst ha
 refine ⟨by rw [List.length_append, hc, h.1, List.length_cons, Nat.succ_mul, Nat.add_comm], fun j q hq => ?_⟩
 cases j with
 | zero =>
  simp only [List.getElem?_cons_zero, Option.some.injEq] at hq
  subst hq
  rw [Nat.zero_mul, List.drop_zero, List.take_append_of_le_length (by omega), List.take_of_length_le (by omega)]
  exact hp
 | succ j =>
  simp only [List.getElem?_cons_succ] at hq
  have h1 := h.2 j q hq
  rw [Nat.succ_mul, List.drop_append, List.drop_of_length_le (by rw [hc]; exact Nat.le_add_left _ _), List.nil_append, hc, Nat.add_sub_cancel]
  exact h1
theorem Reps.c2 {α : Type} {R : α → List Value → Prop} {ps : List α} {cs : List Value} {p : α} {va vb : Value} (hp : R p [va, vb]) (h : Reps R 2 ps cs) : Reps R 2 (p :: ps) (va :: vb :: cs) := Reps.front hp rfl h rfl
theorem Reps.c3 {α : Type} {R : α → List Value → Prop} {ps : List α} {cs : List Value} {p : α} {va vb vc : Value} (hp : R p [va, vb, vc]) (h : Reps R 3 ps cs) : Reps R 3 (p :: ps) (va :: vb :: vc :: cs) := Reps.front hp rfl h rfl
theorem Reps.c4 {α : Type} {R : α → List Value → Prop} {ps : List α} {cs : List Value} {p : α} {va vb vc vd : Value} (hp : R p [va, vb, vc, vd]) (h : Reps R 4 ps cs) : Reps R 4 (p :: ps) (va :: vb :: vc :: vd :: cs) := Reps.front hp rfl h rfl
theorem Reps.c5 {α : Type} {R : α → List Value → Prop} {ps : List α} {cs : List Value} {p : α} {va vb vc vd ve : Value} (hp : R p [va, vb, vc, vd, ve]) (h : Reps R 5 ps cs) : Reps R 5 (p :: ps) (va :: vb :: vc :: vd :: ve :: cs) := Reps.front hp rfl h rfl
theorem Reps.c6 {α : Type} {R : α → List Value → Prop} {ps : List α} {cs : List Value} {p : α} {va vb vc vd ve vf : Value} (hp : R p [va, vb, vc, vd, ve, vf]) (h : Reps R 6 ps cs) : Reps R 6 (p :: ps) (va :: vb :: vc :: vd :: ve :: vf :: cs) := Reps.front hp rfl h rfl
theorem Reps.c7 {α : Type} {R : α → List Value → Prop} {ps : List α} {cs : List Value} {p : α} {va vb vc vd ve vf vg : Value} (hp : R p [va, vb, vc, vd, ve, vf, vg]) (h : Reps R 7 ps cs) : Reps R 7 (p :: ps) (va :: vb :: vc :: vd :: ve :: vf :: vg :: cs) := Reps.front hp rfl h rfl
theorem Reps.c8 {α : Type} {R : α → List Value → Prop} {ps : List α} {cs : List Value} {p : α} {va vb vc vd ve vf vg vh : Value} (hp : R p [va, vb, vc, vd, ve, vf, vg, vh]) (h : Reps R 8 ps cs) : Reps R 8 (p :: ps) (va :: vb :: vc :: vd :: ve :: vf :: vg :: vh :: cs) := Reps.front hp rfl h rfl
theorem Reps.c9 {α : Type} {R : α → List Value → Prop} {ps : List α} {cs : List Value} {p : α} {va vb vc vd ve vf vg vh vi : Value} (hp : R p [va, vb, vc, vd, ve, vf, vg, vh, vi]) (h : Reps R 9 ps cs) : Reps R 9 (p :: ps) (va :: vb :: vc :: vd :: ve :: vf :: vg :: vh :: vi :: cs) := Reps.front hp rfl h rfl
theorem Reps.c10 {α : Type} {R : α → List Value → Prop} {ps : List α} {cs : List Value} {p : α} {va vb vc vd ve vf vg vh vi vj : Value} (hp : R p [va, vb, vc, vd, ve, vf, vg, vh, vi, vj]) (h : Reps R 10 ps cs) : Reps R 10 (p :: ps) (va :: vb :: vc :: vd :: ve :: vf :: vg :: vh :: vi :: vj :: cs) := Reps.front hp rfl h rfl
end Go.Proofs.YthbajahklnpkcaaW.PrintWords





namespace Go.Proofs.YthbajahklnpkcaaW.PrintWords
open Go.RowKit
section
variable {P : Program} {ops : Array Oper} {rest : List Oper} {o : Oper} {a : Act} {Q : Exit → Act → World → Prop} {W : World}
theorem gate_guard (hw : Region.wanted o (yielded ops a.tmps) = true) (h : wpList P ops Q ({ o with guard := none } :: rest) a W) : wpList P ops Q (o :: rest) a W := by
 have h1 : Region.wanted { o with guard := none } (yielded ops a.tmps) = true := rfl
 unfold wpList at h ⊢
 rw [if_pos h1] at h
 rw [if_pos hw]
 exact h
end
end Go.Proofs.YthbajahklnpkcaaW.PrintWords



namespace Go.Proofs.YthbajahklnpkcaaW.PrintMore
open Go.RowKit Go.Proofs.YthbajahklnpkcaaW.PrintWords
theorem max2_int (k k' : IntKind) (x y : Int) : Builtin.max2 (.int k x) (.int k' y) = pure (.int k (if x < y then y else x)) := by simp only [Builtin.max2, gt_iff_lt]
theorem min2_int (k k' : IntKind) (x y : Int) : Builtin.min2 (.int k x) (.int k' y) = pure (.int k (if y < x then y else x)) := by simp only [Builtin.min2]
theorem max_two (ats : Array TypeId) (ty : TypeId) (a b : Value) : Builtin.max_ ats ty #[a, b] = (Builtin.max2 a b >>= fun s => pure s) := by simp only [Builtin.max_, List.foldlM_cons, List.foldlM_nil]
theorem min_two (ats : Array TypeId) (ty : TypeId) (a b : Value) : Builtin.min_ ats ty #[a, b] = (Builtin.min2 a b >>= fun s => pure s) := by simp only [Builtin.min_, List.foldlM_cons, List.foldlM_nil]
theorem max_three (ats : Array TypeId) (ty : TypeId) (a b c : Value) : Builtin.max_ ats ty #[a, b, c] = (Builtin.max2 a b >>= fun s => Builtin.max2 s c >>= fun s => pure s) := by simp only [Builtin.max_, List.foldlM_cons, List.foldlM_nil]
theorem min_three (ats : Array TypeId) (ty : TypeId) (a b c : Value) : Builtin.min_ ats ty #[a, b, c] = (Builtin.min2 a b >>= fun s => Builtin.min2 s c >>= fun s => pure s) := by simp only [Builtin.min_, List.foldlM_cons, List.foldlM_nil]
theorem max_four (ats : Array TypeId) (ty : TypeId) (a b c d : Value) : Builtin.max_ ats ty #[a, b, c, d] = (Builtin.max2 a b >>= fun s => Builtin.max2 s c >>= fun s => Builtin.max2 s d >>= fun s => pure s) := by simp only [Builtin.max_, List.foldlM_cons, List.foldlM_nil]
theorem min_four (ats : Array TypeId) (ty : TypeId) (a b c d : Value) : Builtin.min_ ats ty #[a, b, c, d] = (Builtin.min2 a b >>= fun s => Builtin.min2 s c >>= fun s => Builtin.min2 s d >>= fun s => pure s) := by simp only [Builtin.min_, List.foldlM_cons, List.foldlM_nil]
end Go.Proofs.YthbajahklnpkcaaW.PrintMore
namespace Go.Proofs.YthbajahklnpkcaaW.PrintWords
open Go.RowKit
section
variable {P : Program} {ops : Array Oper} {rest : List Oper} {o : Oper} {a : Act} {Q : Exit → Act → World → Prop} {W : World}
theorem gate_callee {f : FuncId} {as_ : Array Operand} {ts : Array TypeId} (_ho : o.op = .call { callee := .value (.func f), args := as_, argTypes := ts }) (h : wpList P ops Q (o :: rest) a W) : wpList P ops Q (o :: rest) a W := h
end
theorem drewN_self (w : World) (n : Nat) : w.drewN n = w.drewN n := rfl
end Go.Proofs.YthbajahklnpkcaaW.PrintWords

namespace Go.Proofs.Ythbajahklnpkcaa.PA
open Go.RowKit Go.Proofs.YthbajahklnpkcaaW.PrintWords Go.Proofs.YthbajahklnpkcaaW.PrintLast Go.Proofs.YthbajahklnpkcaaW.PrintMore
attribute [local go_sem] max2_int min2_int max_two min_two max_three min_three max_four min_four
set_option linter.unusedVariables false
set_option linter.unusedSimpArgs false
def errW : Option Int → Value
 | none => .nilIface
 | some c => .iface 0 (.int .i64 c)
theorem errW_none : errW none = .nilIface := rfl
theorem errW_some (c : Int) : errW (some c) = .iface 0 (.int .i64 c) := rfl
theorem info3 : (Try.prog.info? 3).map (fun i => (i.zero, i.size, i.bytes)) = some (some (.int .i64 0), 1, 8) := by kernel_rfl
theorem info43 : (Try.prog.info? 43).map (fun i => (i.zero, i.size, i.bytes)) = some (some (.agg #[(.int .i64 0), (.int .i64 0), (.int .i64 0), (.int .i64 0)]), 4, 32) := by kernel_rfl
structure S43 where
 f0 : Int
 f1 : Int
 f2 : Int
 f3 : Int
def z43 : S43 := ⟨(0 : Int), (0 : Int), (0 : Int), (0 : Int)⟩
def k43 : Kd S43 := Kd.iso (Kd.pair (Kd.int .i64) (Kd.pair (Kd.int .i64) (Kd.pair (Kd.int .i64) (Kd.int .i64)))) (fun x : S43 => (x.f0, x.f1, x.f2, x.f3))
theorem k43_open {w : World} {x : S43} {cs : List Value} (h : k43.K w x cs) : cs = [.int .i64 x.f0, .int .i64 x.f1, .int .i64 x.f2, .int .i64 x.f3] := by
 obtain ⟨_, _, rfl, rfl, ⟨_, _, rfl, rfl, ⟨_, _, rfl, rfl, rfl⟩⟩⟩ := h
 exact rfl
theorem k43_mkM (w : World) (base : Nat) (ok : Nat → Prop) (x : S43)  : k43.M w base ok x [.int .i64 x.f0, .int .i64 x.f1, .int .i64 x.f2, .int .i64 x.f3] := ⟨[.int .i64 x.f0], [.int .i64 x.f1, .int .i64 x.f2, .int .i64 x.f3], rfl, rfl, ⟨[.int .i64 x.f1], [.int .i64 x.f2, .int .i64 x.f3], rfl, rfl, ⟨[.int .i64 x.f2], [.int .i64 x.f3], rfl, rfl, rfl⟩⟩⟩
def rd_T43 (xs : List S43) (i : Int) : S43 := xs.getD i.toNat z43
theorem at_T43 {w : World} {A : Option Addr} {n : Nat} {xs : List S43} (h : Kd.C k43 w A n xs) (i : Int) (h0 : 0 ≤ i) (h1 : i < n) : ∃ ad , A = some ad ∧ w.cell? (ad.add (i.toNat * 4)) = some (.int .i64 (rd_T43 xs i).f0) ∧ w.cell? ⟨(ad.add (i.toNat * 4)).block, (ad.add (i.toNat * 4)).off + 1, none⟩ = some (.int .i64 (rd_T43 xs i).f1) ∧ w.cell? ⟨(ad.add (i.toNat * 4)).block, (ad.add (i.toNat * 4)).off + 2, none⟩ = some (.int .i64 (rd_T43 xs i).f2) ∧ w.cell? ⟨(ad.add (i.toNat * 4)).block, (ad.add (i.toNat * 4)).off + 3, none⟩ = some (.int .i64 (rd_T43 xs i).f3) := by
 obtain ⟨ad, c, e, _, hK, hc0⟩ := Kd.C_get h z43 i h0 h1
 have hc : ∀ j u, c[j]? = some u → w.cell? (ad.add (i.toNat * 4 + j)) = some u := hc0
 obtain rfl := k43_open hK
 exact ⟨ad, e, hc 0 _ rfl, by rw [← add_field _ _ 1 (by omega)]; exact hc 1 _ rfl, by rw [← add_field _ _ 2 (by omega)]; exact hc 2 _ rfl, by rw [← add_field _ _ 3 (by omega)]; exact hc 3 _ rfl⟩
structure S145 where
 f0 : Int
 f1 : Int
def z145 : S145 := ⟨(0 : Int), (0 : Int)⟩
def k145 : Kd S145 := Kd.iso (Kd.pair (Kd.int .i64) (Kd.int .i64)) (fun x : S145 => (x.f0, x.f1))
theorem k145_open {w : World} {x : S145} {cs : List Value} (h : k145.K w x cs) : cs = [.int .i64 x.f0, .int .i64 x.f1] := by
 obtain ⟨_, _, rfl, rfl, rfl⟩ := h
 exact rfl
theorem k145_mkM (w : World) (base : Nat) (ok : Nat → Prop) (x : S145)  : k145.M w base ok x [.int .i64 x.f0, .int .i64 x.f1] := ⟨[.int .i64 x.f0], [.int .i64 x.f1], rfl, rfl, rfl⟩
def rd_T145 (xs : List S145) (i : Int) : S145 := xs.getD i.toNat z145
theorem at_T145 {w : World} {A : Option Addr} {n : Nat} {xs : List S145} (h : Kd.C k145 w A n xs) (i : Int) (h0 : 0 ≤ i) (h1 : i < n) : ∃ ad , A = some ad ∧ w.cell? (ad.add (i.toNat * 2)) = some (.int .i64 (rd_T145 xs i).f0) ∧ w.cell? ⟨(ad.add (i.toNat * 2)).block, (ad.add (i.toNat * 2)).off + 1, none⟩ = some (.int .i64 (rd_T145 xs i).f1) := by
 obtain ⟨ad, c, e, _, hK, hc0⟩ := Kd.C_get h z145 i h0 h1
 have hc : ∀ j u, c[j]? = some u → w.cell? (ad.add (i.toNat * 2 + j)) = some u := hc0
 obtain rfl := k145_open hK
 exact ⟨ad, e, hc 0 _ rfl, by rw [← add_field _ _ 1 (by omega)]; exact hc 1 _ rfl⟩
structure S49 where
 f0 : Int
 f1 : Int
 f2 : Int
 f3 : Int
 f4 : ByteArray
structure S34 where
 f0 : Int
 f1 : (List Int)
structure S94 where
 f0 : Int
 f1 : Int
 f2 : Int
structure S114 where
 f0 : S43
 f1 : ByteArray
end Go.Proofs.Ythbajahklnpkcaa.PA

namespace Go.Proofs.Ythbajahklnpkcaa
open Go.ChangeShapes Go.WideShapes Go.Deep
set_option linter.unusedVariables false
section
variable {H : Type} {enc : TypeId × Value → H} {P : Program} {w : World} {base : Nat} {spare : Nat → Bool} {held : Bool}
theorem open_pic {f0 f1 f2 f3 f4 : Field} {r : Reach} {b0 : Nat} {t : TypeId} {v : Value} {d : DataW H} {p : List MemPlace} (hs : P.underlying t = some (.struct #[f0, f1, f2, f3, f4])) (hone : oneCellFields P #[f0, f1, f2, f3, f4] = true) (hC : P.cellsOf t = 5)
 (h0 : P.underlying f0.type = some (.int .i64)) (h1 : P.underlying f1.type = some (.int .i64)) (h2 : P.underlying f2.type = some (.int .i64)) (h3 : P.underlying f3.type = some (.int .i64)) (h4 : P.underlying f4.type = some .string)
 (hv : Value.okWide P w r b0 t v) (h : DataW.Trod enc P w base spare held t v d p) :
 ∃ (a0 a1 a2 a3 : Int) (s : ByteArray), v = .agg #[.int .i64 a0, .int .i64 a1, .int .i64 a2, .int .i64 a3, .string s] ∧ ((Lit.int .i64 a0).wf = true ∧ (Lit.int .i64 a1).wf = true ∧ (Lit.int .i64 a2).wf = true ∧ (Lit.int .i64 a3).wf = true) ∧ s.size ≤ maxLen := by
 obtain ⟨cs, rfl, hsz⟩ := okWide_struct hs hv
 obtain ⟨fuel, hf⟩ := h
 have hf' : DataW.trod enc P w base spare held fuel t cs.toList = some (d, p) := by simpa [Value.cells] using hf
 obtain ⟨xs, n, rfl, hx, hl, hlen, hfi⟩ := DataW.trod_struct hs hf'
 have hcl : cs.toList.length = 5 := by simp [hsz, hC]
 obtain ⟨cl⟩ := cs
 match cl, hcl with
 | [c0, c1, c2, c3, c4], _ =>
  have g : ∀ (j : Nat) (f : Field), (#[f0, f1, f2, f3, f4] : Array Field)[j]? = some f → ∃ x, DataW.trod enc P w base spare held n f.type (([c0, c1, c2, c3, c4].drop j).take 1) = some x := by
   intro j f hj
   obtain ⟨o, c1'⟩ := hone_of hone j f hj
   have h1' := hfi j f hj
   rw [o, c1'] at h1'
   have hjl : j < 5 := (Array.getElem?_eq_some_iff.1 hj).1
   have hxj : xs[j]? = some (xs[j]'(by simp at hlen; omega)) := List.getElem?_eq_getElem (by simp at hlen; omega)
   exact ⟨_, h1'.trans hxj⟩
  obtain ⟨x0, t0⟩ := g 0 f0 rfl
  obtain ⟨x1, t1⟩ := g 1 f1 rfl
  obtain ⟨x2, t2⟩ := g 2 f2 rfl
  obtain ⟨x3, t3⟩ := g 3 f3 rfl
  obtain ⟨x4, t4⟩ := g 4 f4 rfl
  obtain ⟨z0, e0, _, w0⟩ := DataW.trod_int h0 t0
  obtain ⟨z1, e1, _, w1⟩ := DataW.trod_int h1 t1
  obtain ⟨z2, e2, _, w2⟩ := DataW.trod_int h2 t2
  obtain ⟨z3, e3, _, w3⟩ := DataW.trod_int h3 t3
  obtain ⟨z4, e4, _, w4⟩ := DataW.trod_string h4 t4
  simp at e0 e1 e2 e3 e4
  subst e0 e1 e2 e3 e4
  exact ⟨z0, z1, z2, z3, z4, rfl, ⟨w0, w1, w2, w3⟩, w4⟩
end
end Go.Proofs.Ythbajahklnpkcaa

namespace Go.Proofs.Ythbajahklnpkcaa.PA
open Go.RowKit Go.Proofs.YthbajahklnpkcaaW.PrintWords Go.Proofs.YthbajahklnpkcaaW.PrintLast Go.Proofs.YthbajahklnpkcaaW.PrintMore
attribute [local go_sem] max2_int min2_int max_two min_two max_three min_three max_four min_four
set_option linter.unusedVariables false
set_option linter.unusedSimpArgs false
theorem eqA43 (d : Nat) (w : World) (x0 y0 : Int) (x1 y1 : Int) (x2 y2 : Int) (x3 y3 : Int) :
 (Op.equalIn (d + 2) 43 (.agg #[.int .i64 x0, .int .i64 x1, .int .i64 x2, .int .i64 x3]) (.agg #[.int .i64 y0, .int .i64 y1, .int .i64 y2, .int .i64 y3])).run Try.prog w = .ok (x0 == y0 && (x1 == y1 && (x2 == y2 && (x3 == y3)))) w := by
 refine eqA_of Try.underlying43 (by kernel_rfl) ?_
 refine eqf_cons (by rfl) (by go_simp; rfl) (by go_simp; rfl) (by go_simp) ?_
 refine eqf_cons (by rfl) (by go_simp; rfl) (by go_simp; rfl) (by go_simp) ?_
 refine eqf_cons (by rfl) (by go_simp; rfl) (by go_simp; rfl) (by go_simp) ?_
 exact eqf_last (by rfl) (by go_simp; rfl) (by go_simp; rfl) (by go_simp)
end Go.Proofs.Ythbajahklnpkcaa.PA

namespace Go.Proofs.Ythbajahklnpkcaa.PA
open Go.Shelf Go.Proofs
def sortL_ren : Go.Shelf.Ren := ⟨fun | 5 => 142 | 8 => 145 | 7 => 144 | 19 => 155 | 20 => 156 | 10 => 146 | 11 => 147 | 12 => 148 | 13 => 149 | 14 => 150 | 15 => 151 | 16 => 152 | 17 => 153 | 18 => 154 | 30 => 157 | 31 => 158 | 32 => 159 | 33 => 160 | 34 => 161 | 35 => 162 | 40 => 163 | n => n, fun | 23 => 32 | 25 => 3 | 3 => 3 | 32 => 173 | 22 => 32 | 0 => 0 | 44 => 184 | 46 => 186 | 4 => 4 | 36 => 176 | 35 => 175 | 41 => 181 | 5 => 5 | 9 => 9 | 53 => 187 | 57 => 191 | 63 => 193 | 64 => 164 | n => n, fun | n => n⟩
theorem sortL : Go.Proofs.SlLaysM.n5 Try.prog sortL_ren := {
 mixed := by kernel_rfl
 f5 := ⟨Try.f142.name, by decide, Try.func142.trans (congrArg some (by kernel_rfl))⟩
 f7 := ⟨Try.f144.name, by decide, Try.func144.trans (congrArg some (by kernel_rfl))⟩
 f8 := Try.func145.trans (congrArg some (by kernel_rfl))
 f10 := ⟨Try.f146.name, by decide, Try.func146.trans (congrArg some (by kernel_rfl))⟩
 f11 := ⟨Try.f147.name, by decide, Try.func147.trans (congrArg some (by kernel_rfl))⟩
 f12 := ⟨Try.f148.name, by decide, Try.func148.trans (congrArg some (by kernel_rfl))⟩
 f13 := ⟨Try.f149.name, by decide, Try.func149.trans (congrArg some (by kernel_rfl))⟩
 f14 := ⟨Try.f150.name, by decide, Try.func150.trans (congrArg some (by kernel_rfl))⟩
 f15 := ⟨Try.f151.name, by decide, Try.func151.trans (congrArg some (by kernel_rfl))⟩
 f16 := ⟨Try.f152.name, by decide, Try.func152.trans (congrArg some (by kernel_rfl))⟩
 f17 := ⟨Try.f153.name, by decide, Try.func153.trans (congrArg some (by kernel_rfl))⟩
 f18 := ⟨Try.f154.name, by decide, Try.func154.trans (congrArg some (by kernel_rfl))⟩
 f19 := Try.func155.trans (congrArg some (by kernel_rfl))
 f20 := Try.func156.trans (congrArg some (by kernel_rfl))
 f30 := ⟨Try.f157.name, by decide, Try.func157.trans (congrArg some (by kernel_rfl))⟩
 f31 := Try.func158.trans (congrArg some (by kernel_rfl))
 f32 := Try.func159.trans (congrArg some (by kernel_rfl))
 f33 := ⟨Try.f160.name, by decide, Try.func160.trans (congrArg some (by kernel_rfl))⟩
 f34 := ⟨Try.f161.name, by decide, Try.func161.trans (congrArg some (by kernel_rfl))⟩
 f35 := ⟨Try.f162.name, by decide, Try.func162.trans (congrArg some (by kernel_rfl))⟩
 f40 := ⟨Try.f163.name, by decide, Try.func163.trans (congrArg some (by kernel_rfl))⟩
 t0 := Try.underlying0
 a0 := Try.isAgg0
 z0 := Try.sizeOf0
 v0 := Try.zeroValue0
 t3 := Try.underlying3
 a3 := Try.isAgg3
 z3 := Try.sizeOf3
 v3 := Try.zeroValue3
 t4 := Try.underlying4
 a4 := Try.isAgg4
 z4 := Try.sizeOf4
 v4 := Try.zeroValue4
 t5 := Try.underlying5
 a5 := Try.isAgg5
 z5 := Try.sizeOf5
 v5 := Try.zeroValue5
 t9 := Try.underlying9
 a9 := Try.isAgg9
 z9 := Try.sizeOf9
 v9 := Try.zeroValue9
 t22 := Try.underlying32
 a22 := Try.isAgg32
 z22 := Try.sizeOf32
 v22 := Try.zeroValue32
 t23 := Try.underlying32
 a23 := Try.isAgg32
 z23 := Try.sizeOf32
 v23 := Try.zeroValue32
 t25 := Try.underlying3
 a25 := Try.isAgg3
 z25 := Try.sizeOf3
 v25 := Try.zeroValue3
 t32 := Try.underlying173
 a32 := Try.isAgg173
 z32 := Try.sizeOf173
 v32 := Try.zeroValue173
 t35 := Try.underlying175
 a35 := Try.isAgg175
 z35 := Try.sizeOf175
 v35 := Try.zeroValue175
 t36 := Try.underlying176
 a36 := Try.isAgg176
 z36 := Try.sizeOf176
 v36 := Try.zeroValue176
 t41 := Try.underlying181
 a41 := Try.isAgg181
 z41 := Try.sizeOf181
 v41 := Try.zeroValue181
 t44 := Try.underlying184
 a44 := Try.isAgg184
 z44 := Try.sizeOf184
 v44 := Try.zeroValue184
 t46 := Try.underlying186
 a46 := Try.isAgg186
 z46 := Try.sizeOf186
 v46 := Try.zeroValue186
 t53 := Try.underlying187
 a53 := Try.isAgg187
 z53 := Try.sizeOf187
 v53 := Try.zeroValue187
 t57 := Try.underlying191
 a57 := Try.isAgg191
 z57 := Try.sizeOf191
 v57 := Try.zeroValue191
 t63 := Try.underlying193
 a63 := Try.isAgg193
 z63 := Try.sizeOf193
 v63 := Try.zeroValue193
 t64 := Try.underlying164
 a64 := Try.isAgg164
 z64 := Try.sizeOf164
 v64 := Try.zeroValue164 }
def compactL_ren : Go.Shelf.Ren := ⟨fun | 43 => 143 | n => n, fun | 22 => 32 | 23 => 3 | 3 => 3 | 4 => 4 | 0 => 0 | n => n, fun | n => n⟩
theorem compactL : Go.Proofs.SlLaysN.n43 Try.prog compactL_ren := {
 mixed := by kernel_rfl
 f43 := ⟨Try.f143.name, by decide, Try.func143.trans (congrArg some (by kernel_rfl))⟩
 t0 := Try.underlying0
 a0 := Try.isAgg0
 z0 := Try.sizeOf0
 v0 := Try.zeroValue0
 t3 := Try.underlying3
 a3 := Try.isAgg3
 z3 := Try.sizeOf3
 v3 := Try.zeroValue3
 t4 := Try.underlying4
 a4 := Try.isAgg4
 z4 := Try.sizeOf4
 v4 := Try.zeroValue4
 t22 := Try.underlying32
 a22 := Try.isAgg32
 z22 := Try.sizeOf32
 v22 := Try.zeroValue32
 t23 := Try.underlying3
 a23 := Try.isAgg3
 z23 := Try.sizeOf3
 v23 := Try.zeroValue3
 i23 := by kernel_rfl }
def growL_ren : Go.Shelf.Ren := ⟨fun | 4 => 137 | n => n, fun | 22 => 22 | 25 => 43 | 3 => 3 | 4 => 4 | 9 => 9 | 20 => 20 | 0 => 0 | n => n, fun | n => n⟩
theorem growL : Go.Proofs.Lays8.n4 Try.prog growL_ren := {
 mixed := by kernel_rfl
 f4 := ⟨Try.f137.name, by decide, Try.func137.trans (congrArg some (by kernel_rfl))⟩
 t0 := Try.underlying0
 a0 := Try.isAgg0
 z0 := Try.sizeOf0
 v0 := Try.zeroValue0
 t3 := Try.underlying3
 a3 := Try.isAgg3
 z3 := Try.sizeOf3
 v3 := Try.zeroValue3
 t4 := Try.underlying4
 a4 := Try.isAgg4
 z4 := Try.sizeOf4
 v4 := Try.zeroValue4
 t9 := Try.underlying9
 a9 := Try.isAgg9
 z9 := Try.sizeOf9
 v9 := Try.zeroValue9
 t20 := Try.underlying20
 a20 := Try.isAgg20
 z20 := Try.sizeOf20
 v20 := Try.zeroValue20
 t22 := Try.underlying22
 a22 := Try.isAgg22
 z22 := Try.sizeOf22
 v22 := Try.zeroValue22 }
end Go.Proofs.Ythbajahklnpkcaa.PA

set_option linter.unusedVariables false
namespace Go.Proofs.Ythbajahklnpkcaa
open Go.RowKit
def Blk (W : World) (b : Nat) (cs : Array Value) (t : TypeId) : Prop := W.heap[b]? = some (.cells cs t (0, 0))
section
variable {W W' : World} {b : Nat} {cs : Array Value} {t : TypeId}
theorem Blk.lt (h : Blk W b cs t) : b < W.heap.size := (Array.getElem?_eq_some_iff.1 h).1
theorem Blk.cell (h : Blk W b cs t) (j : Nat) {v : Value} (hv : cs[j]? = some v) : W.cell? ⟨b, j, none⟩ = some v := by
 unfold Blk at h
 simp [World.cell?, h, hv]
theorem Blk.frozen (h : Blk W b cs t) (j : Nat) : W.frozen? ⟨b, j, none⟩ = false := by
 unfold Blk at h
 simp [World.frozen?, h]
theorem Blk.same (h : Blk W b cs t) (e : W'.heap[b]? = W.heap[b]?) : Blk W' b cs t := by unfold Blk at *; rw [e]; exact h
theorem Blk.below (h : Blk W b cs t) {B : Nat} (hb : Below B W W') (hlt : b < B) : Blk W' b cs t := h.same (hb.block b hlt)
theorem Blk.below_ (h : Blk W b cs t) (hb : Below W.heap.size W W') : Blk W' b cs t := h.same (hb.block b h.lt)
theorem Blk.alloc (h : Blk W b cs t) (o : Obj) : Blk (W.alloc o) b cs t := h.same (Below.heap_alloc W o b h.lt)
theorem Blk.drew (h : Blk W b cs t) : Blk W.drew b cs t := h
theorem Blk.drewN (h : Blk W b cs t) (n : Nat) : Blk (W.drewN n) b cs t := h
theorem Blk.new (W : World) (cs : Array Value) (t : TypeId) : Blk (W.alloc (.cells cs t)) W.heap.size cs t := World.alloc_heap_new W _
theorem Blk.other (h : Blk W b cs t) {a : Addr} (u : Value) (hne : b ≠ a.block) : Blk (W.setCell a u) b cs t := h.same (Below.heap_setCell W a u b hne)
theorem Blk.set (h : Blk W b cs t) (j : Nat) (u : Value) : Blk (W.setCell ⟨b, j, none⟩ u) b (cs.setIfInBounds j u) t := by
 unfold Blk at *
 simp [World.setCell, Array.getElem?_modify, h]
theorem Blk.kept (h : Blk W b cs t) {row : Option Nat} (hg : W.grownBy W' row) (hr : ∀ r, row = some r → ∃ o : Obj, W.heap[r]? = some o ∧ o.isCells = false) : Blk W' b cs t := by
 refine h.same (hg.block b h.lt ?_)
 intro e
 obtain ⟨o, ho, hc⟩ := hr b e.symm
 unfold Blk at h
 rw [h] at ho
 cases ho
 simp [Obj.isCells] at hc
theorem Blk.put (h : Blk W b cs t) {l : Nat} {o o' : Obj} (hl : W.heap[l]? = some o) (ho : o.isCells = false) : Blk (W.putObj l o') b cs t :=
 h.kept (grownBy_putObj' W l o') (fun r e => by cases e; exact ⟨o, hl, ho⟩)
end
end Go.Proofs.Ythbajahklnpkcaa

namespace Go
open Go.RowKit
set_option linter.unusedVariables false
variable {F : Fence} {n : Nat} {P : Program}
def offPost {α : Type} (I : List α → World → Prop) (Kt : World → World → Prop) (xs : List α) (W : World) : Exit → Act → World → Prop
 | .normal, _, W' => KeepsOthers W W' ∧ I xs W' ∧ Kt W W'
 | _, _, _ => False
def IterQ {α : Type} (F : Fence) (n : Nat) (P : Program) (g : Nat) (lb : Array Value) (Enc : World → α → Array Value → Prop) (all : List α) (Kt Ti : World → World → Prop) (w : World) : Prop :=
 ∀ (l : Nat) (J : List α → World → Prop) (W : World), Kt w W → (∀ pre A B, J pre A → Ti A B → J pre B) →
  (∀ pre x args W1, J pre W1 → Enc W1 x args → (∃ rest, pre ++ x :: rest = all) → YieldAt F (n - 1) P l args W1 fun e W' => e = .returned (.bool true) ∧ J (pre ++ [x]) W' ∧ Kt W1 W') →
  J [] W → CallsIn F n P g (#[.func (.yield l) #[] #[]] ++ lb) W fun e W' => ∃ v, e = .returned v ∧ J all W'
theorem wpIn_rangeFunc_Q {α : Type} {g : Operand} {ps : Array Tmp} {assign body : Code} {Q : Exit → Act → World → Prop} {a : Act} {w : World}
 (hro : F.round = none) (h1 : 1 ≤ n) {gf : Nat} {lb : Array Value} (hg : a.eval g = .func (.func gf) #[] lb) (hFg : F.fn gf) (eg : ∀ args w, (callFunc gf args).run P w = .ok (.enter gf args) w)
 {Enc : World → α → Array Value → Prop} {all : List α} {Kt Ti : World → World → Prop} (hseq : IterQ F (n - 1) P gf lb Enc all Kt Ti w) (hps : ∀ W x args, Enc W x args → args.size = ps.size)
 (hKt : ∀ A B C, Kt A B → Kt B C → Kt A C) (hKa : ∀ (W : World) (o : Obj), Kt W (W.alloc o)) (hKp : ∀ (W : World) (l : Nat) (o o' : Obj), W.heap[l]? = some o → o.isCells = false → Kt W (W.putObj l o'))
 (hTi : ∀ (A B : World) (k : Nat) (o : Obj), Ti A B → A.heap[k]? = some o → o.isCells = false → B.heap[k]? = some o)
 (I : List α → World → Prop) (hIa : ∀ pre (W : World) (o : Obj), I pre W → I pre (W.alloc o)) (hIp : ∀ pre (W : World) (l : Nat) (o o' : Obj), I pre W → w.heap.size ≤ l → W.heap[l]? = some o → o.isCells = false → I pre (W.putObj l o')) (hIt : ∀ pre A B, I pre A → Ti A B → I pre B)
 (h0 : I [] w) (Ax : List α → α → Act → World → Prop) (hAx : ∀ pre x a' (W : World) (l : Nat) (o o' : Obj), Ax pre x a' W → w.heap.size ≤ l → W.heap[l]? = some o → o.isCells = false → Ax pre x a' (W.putObj l o'))
 (hassign : ∀ (l : Nat) (pre : List α) (x : α) (args : Array Value) (W : World) (K : Act → World → Prop), I pre W → Enc W x args → (∀ a' W', Ax pre x a' W' → KeepsOthers W W' → Kt W W' → K a' W') →
  assign.wpIn (F.inRound l) (n - 1 - 1) P (Exit.then K (fun _ _ _ => False)) { tmps := (ps.zip args).foldl (fun t (p, v) => t.setIfInBounds p v) a.tmps, defers := [] } W)
 (hbody : ∀ (l : Nat) (pre : List α) (x : α) (a' : Act) (W : World), Ax pre x a' W → (∃ rest, pre ++ x :: rest = all) → body.wpIn (F.inRound l) (n - 1 - 1) P (offPost I Kt (pre ++ [x]) W) a' W)
 (hdone : ∀ (D : Nat) (W : World), I all W → w.heap.size ≤ D → W.heap[D]? = some (.deferred (some [])) → Q .normal { a with defers := { target := .collected D, args := #[] } :: a.defers } W) :
 (Code.rangeFunc g ps assign body).wpIn F n P Q a w := by
 refine wpIn_rangeFunc ?_
 intro fn hfn
 rw [hro]
 obtain ⟨rec, hrec⟩ : ∃ rec : LoopState → Option Code → Loop, rec = fun st pe => { state := st, pending := pe, fn, tmps := a.tmps, params := ps, assign, body, defers := w.heap.size } := ⟨_, rfl⟩
 obtain ⟨W1, hW1⟩ : ∃ W1, (w.alloc (.deferred (some []))).alloc (.loop (rec .ready none)) = W1 := ⟨_, rfl⟩
 have hL1 : W1.heap[w.heap.size + 1]? = some (.loop (rec .ready none)) := by
  rw [← hW1]; have := World.alloc_heap_new (w.alloc (.deferred (some []))) (.loop (rec .ready none)); rwa [World.size_alloc] at this
 have hK1 : W1.heap[w.heap.size]? = some (.deferred (some [])) := by
  rw [← hW1]; exact (Below.heap_alloc _ _ _ (by simp)).trans (World.alloc_heap_new w _)
 have hI1 : I [] W1 := by rw [← hW1]; exact hIa _ _ _ (hIa _ _ _ h0)
 have hb1 : Kt w W1 := by rw [← hW1]; exact hKt _ _ _ (hKa _ _) (hKa _ _)
 refine ⟨w.heap.size + 1, [{ target := .collected w.heap.size, args := #[] }], W1, { target := .fn (.func gf) lb, args := #[.func (.yield (w.heap.size + 1)) #[] #[]] }, W1, gf,
  #[.func (.yield (w.heap.size + 1)) #[] #[]] ++ lb, W1, ?_, ?_, ?_, ?_, fun _ => h1, ?_⟩
 · rw [← hW1, hrec]; exact run_enterLoop_outer _ _ _ _ _
 · simp only [resolve, hg]
   simp [go_sem]
 · intro f' hf'; simp [Target.leads] at hf'; subst hf'; exact hFg
 · simp [invoke, go_sem, eg]
 · refine (hseq (w.heap.size + 1)
    (fun pre W => I pre W ∧ W.heap[w.heap.size + 1]? = some (.loop (rec .ready none)) ∧ W.heap[w.heap.size]? = some (.deferred (some [])))
    W1 hb1
    (fun pre A B hs ht => ⟨hIt pre A B hs.1 ht, hTi A B _ _ ht hs.2.1 rfl, hTi A B _ _ ht hs.2.2 rfl⟩)
    ?_ ⟨hI1, hL1, hK1⟩).mono ?_
   ·
    rintro pre x args W ⟨hi, hl, hk⟩ henc hlen
    have hlt : w.heap.size + 1 < W.heap.size := (Array.getElem?_eq_some_iff.1 hl).1
    have hy := run_yield (P := P) (args := args) hl (by rw [hrec]; exact hps W x args henc)
    rw [hrec] at hy
    refine ⟨fn, _, assign, body, hy, roundIn_of_wpIn hfn (hassign _ pre x args W _ hi henc ?_)⟩
    intro a' Wa hax hka hkt
    have hla := hka.same _ _ hl rfl
    have hkka := hka.same _ _ hk rfl
    have hlta : w.heap.size + 1 < Wa.heap.size := (Array.getElem?_eq_some_iff.1 hla).1
    refine ⟨_, run_beginRound hla (by rw [hrec]), ?_⟩
    have hl2 : (Wa.putObj (w.heap.size + 1) (.loop { rec .ready none with state := .busy })).heap[w.heap.size + 1]? = some (.loop { rec .ready none with state := .busy }) := World.putObj_heap_same hlta
    have hk2 : (Wa.putObj (w.heap.size + 1) (.loop { rec .ready none with state := .busy })).heap[w.heap.size]? = some (.deferred (some [])) := (World.putObj_heap_other (by omega)).trans hkka
    have hkt2 : Kt W (Wa.putObj (w.heap.size + 1) (.loop { rec .ready none with state := .busy })) := hKt _ _ _ hkt (hKp _ _ _ _ hla rfl)
    refine wpIn_mono (hbody _ pre x _ _ (hAx _ _ _ _ _ _ _ hax (by omega) hla rfl) hlen) ?_
    rintro e a3 W3 hp
    cases e with
    | normal =>
     obtain ⟨hk3, hi3, hkt3⟩ := hp
     have hl3 := hk3.same _ _ hl2 rfl
     have hr := run_endRound (P := P) none hl3
     have hlt3 : w.heap.size + 1 < W3.heap.size := (Array.getElem?_eq_some_iff.1 hl3).1
     refine ⟨_, _, hr, rfl, ⟨hIp _ _ _ _ _ hi3 (by omega) hl3 rfl, ?_, (World.putObj_heap_other (by omega)).trans (hk3.same _ _ hk2 rfl)⟩, hKt _ _ _ hkt2 (hKt _ _ _ hkt3 (hKp _ _ _ _ hl3 rfl))⟩
     refine (World.putObj_heap_same hlt3).trans ?_
     rw [hrec]; rfl
    | panic ch => exact hp.elim
    | ret => exact hp.elim
    | exit id => exact hp.elim
    | goto t => exact hp.elim
    | outgrown => exact hp.elim
   ·
    rintro e W2 ⟨v, rfl, hi, hl, hk⟩
    exact ⟨none, _, by have := run_endLoop (P := P) hl (by rw [hrec]; simp); rw [hrec] at this; exact this, hdone _ _ (hIp _ _ _ _ _ hi (by omega) hl rfl) (Nat.le_refl _) ((World.putObj_heap_other (by omega)).trans hk)⟩
end Go

namespace Go.Proofs.Ythbajahklnpkcaa.PA
open Go.RowKit Go.Shelf Go.Proofs.YthbajahklnpkcaaW.PrintWords Go.Proofs.YthbajahklnpkcaaW.PrintLast Go.Proofs.YthbajahklnpkcaaW.PrintMore
set_option linter.unusedVariables false
set_option linter.unusedSimpArgs false
theorem w64 {x : Int} (h0 : -9223372036854775808 ≤ x) (h1 : x ≤ 9223372036854775807) : wrap64 x = x := by unfold wrap64; omega
theorem ret_int {k : IntKind} {a b : Int} (h : a = b) : Ending.returned (.int k a) = .returned (.int k b) := by rw [h]
def PredB {α : Type} (g : Nat) (lb : Array Value) (enc : α → Value) (p : α → Bool) (w : World) : Prop :=
 ∀ (W : World) (x : α), Below w.heap.size w W → Calls Try.prog g (#[enc x] ++ lb) W fun e w' => e = .returned (.bool (p x)) ∧ Below W.heap.size W w'
def idxFrom {α : Type} (p : α → Bool) : Int → List α → Int
 | _, [] => -1
 | i, x :: xs => if p x then i else idxFrom p (i + 1) xs
def idxOf {α : Type} (p : α → Bool) (l : List α) : Int := idxFrom p 0 l
theorem idxFrom_drop_hit {α : Type} (p : α → Bool) (l : List α) (k : Nat) (x : α) (i : Int) (hx : l[k]? = some x) (h : p x = true) : idxFrom p i (l.drop k) = i := by
 obtain ⟨hlt, rfl⟩ := List.getElem?_eq_some_iff.1 hx
 rw [List.drop_eq_getElem_cons hlt]
 simp [idxFrom, h]
theorem idxFrom_drop_miss {α : Type} (p : α → Bool) (l : List α) (k : Nat) (x : α) (i : Int) (hx : l[k]? = some x) (h : p x = false) : idxFrom p i (l.drop k) = idxFrom p (i + 1) (l.drop (k + 1)) := by
 obtain ⟨hlt, rfl⟩ := List.getElem?_eq_some_iff.1 hx
 rw [List.drop_eq_getElem_cons hlt]
 simp [idxFrom, h]
theorem idxFrom_neg {α : Type} (p : α → Bool) : ∀ (l : List α) (i : Int), 0 ≤ i → decide (0 ≤ idxFrom p i l) = l.any p
 | [], i, _ => by simp [idxFrom]
 | x :: l, i, hi => by
  cases h : p x with
  | true => simp [idxFrom, h, hi]
  | false => simp only [idxFrom, h, List.any_cons, Bool.false_or]; exact idxFrom_neg p l (i + 1) (by omega)
theorem any_idx {α : Type} (p : α → Bool) (l : List α) : decide (0 ≤ idxOf p l) = l.any p := idxFrom_neg p l 0 (Int.le_refl 0)
theorem rd_getElem43 (l : List S43) (k : Nat) (h : k < l.length) : l[k]? = some (rd_T43 l k) := by
 rw [List.getElem?_eq_getElem h]; simp [rd_T43, h]
def c43 (x : S43) : Array Value := #[.int .i64 x.f0, .int .i64 x.f1, .int .i64 x.f2, .int .i64 x.f3]
set_option maxRecDepth 100000 in
set_option maxHeartbeats 2000000 in
theorem IndexFunc_rects (p : S43 → Bool) (g : Nat) (lb : Array Value) (eg : ∀ args w, (callFunc g args).run Try.prog w = .ok (.enter g args) w) (A : Option Addr) (c : Nat) (l : List S43) (w : World)
 (hp : PredB g lb (fun x => .agg (c43 x)) p w) (hr : Kd.C k43 w A l.length l) :
 Calls Try.prog 121 #[.slice A l.length c, .func (.func g) #[] lb] w fun e w' => e = .returned (.int .i64 (idxOf p l)) ∧ Below w.heap.size w w' := by
 have HR := Aside0.mk hr
 have HP := Aside0.mk hp
 have hmax : l.length ≤ 9223372036854775807 := Kd.C_max hr
 clear hr hp
 go_enter Try.func121, Try.ntmps121
 go_wp2
 go_loopg [5, 8] l.length (fun gg _ s8 wr => ∃ kk : Nat, kk ≤ l.length ∧ l.length - kk ≤ gg ∧ s8 = .int .i64 kk ∧ Aside0 (Below w.heap.size w wr) ∧ Aside0 (idxOf p l = idxFrom p kk (l.drop kk)))
 case atStart => exact ⟨0, Nat.zero_le _, by omega, rfl, ⟨Below.refl _ w⟩, ⟨by simp [idxOf]⟩⟩
 case round =>
  obtain ⟨kk, hkk, hg, rfl, BW, AI⟩ := hrel
  by_cases hlt : kk < l.length
  · have hltz : (kk : Int) < (l.length : Int) := by omega
    obtain ⟨ad, eA, hx0, hx1, hx2, hx3⟩ := at_T43 (Kd.C_below HR.out BW.out) (kk : Int) (by omega) (by omega)
    cases eA
    simp only [Int.toNat_natCast] at hx0 hx1 hx2 hx3
    have hcall := HP.out wr (rd_T43 l kk) BW.out
    unfold c43 at hcall
    generalize hy : rd_T43 l (kk : Int) = y at hx0 hx1 hx2 hx3 hcall
    have B := Aside0.mk hy
    clear hy
    cases hq : p y with
    | true =>
     rw [hq] at hcall
     go_wp2_with (go_at_fn g; refine hcall.mono ?_; rintro e w' ⟨rfl, hb'⟩)
     go_ret
     exact ⟨ret_int (by rw [AI.out, idxFrom_drop_hit p l kk y kk (by rw [rd_getElem43 _ _ hlt, B.out]) hq]), BW.out.trans (hb'.mono BW.out.size)⟩
    | false =>
     rw [hq] at hcall
     go_wp2_with (go_at_fn g; refine hcall.mono ?_; rintro e w' ⟨rfl, hb'⟩)
     go_roundg (l.length - (kk + 1))
     case measure => omega
     case rel => exact ⟨kk + 1, by omega, by omega, by go_num, ⟨BW.out.trans (hb'.mono BW.out.size)⟩, ⟨by rw [AI.out, idxFrom_drop_miss p l kk y kk (by rw [rd_getElem43 _ _ hlt, B.out]) hq]; simp⟩⟩
  · have hltz : ¬ (kk : Int) < (l.length : Int) := by omega
    go_wp2
    go_ret
    exact ⟨ret_int (by rw [AI.out, List.drop_eq_nil_of_le (by omega)]; rfl), BW.out⟩
theorem Contains_rects (p : S43 → Bool) (g : Nat) (lb : Array Value) (eg : ∀ args w, (callFunc g args).run Try.prog w = .ok (.enter g args) w) (A : Option Addr) (c : Nat) (l : List S43) (w : World)
 (hp : PredB g lb (fun x => .agg (c43 x)) p w) (hr : Kd.C k43 w A l.length l) :
 Calls Try.prog 70 #[.slice A l.length c, .func (.func g) #[] lb] w fun e w' => e = .returned (.bool (l.any p)) ∧ Below w.heap.size w w' := by
 have HC := Aside0.mk (IndexFunc_rects p g lb eg A c l w hp hr)
 clear hp hr
 go_enter Try.func70, Try.ntmps70
 go_wp2_with (go_at_call 121; refine HC.out.mono ?_; rintro e w' ⟨rfl, hb'⟩)
 go_ret
 exact ⟨by rw [← any_idx]; rfl, hb'⟩
def okP (n : Int) : Bool := decide (-10000 ≤ n) && decide (n ≤ 10000)
def okW (n : Int) : Bool := decide (0 ≤ n) && decide (n ≤ 20000)
def okR (r : S43) : Bool := okP r.f0 && okP r.f1 && okW r.f2 && okW r.f3
set_option maxRecDepth 100000 in
theorem place_calls (n : Int) (w : World) : Calls Try.prog 122 #[.int .i64 n] w fun e w' => e = .returned (.bool (okP n)) ∧ w' = w := by
 by_cases h1 : n ≥ -10000
 · have h1b : decide (n ≥ -10000) = true := decide_eq_true h1
   by_cases h2 : n ≤ 10000
   · have h2b : decide (n ≤ 10000) = true := decide_eq_true h2
     go_enter Try.func122, Try.ntmps122
     go_wp2
     go_ret
     exact ⟨by simp [okP]; omega, rfl⟩
   · have h2b : decide (n ≤ 10000) = false := decide_eq_false h2
     go_enter Try.func122, Try.ntmps122
     go_wp2
     go_ret
     exact ⟨by simp [okP]; omega, rfl⟩
 · have h1b : decide (n ≥ -10000) = false := decide_eq_false h1
   go_enter Try.func122, Try.ntmps122
   go_wp2
   go_ret
   exact ⟨by simp [okP]; omega, rfl⟩
end Go.Proofs.Ythbajahklnpkcaa.PA

namespace Go.Proofs.Ythbajahklnpkcaa.PA
open Go.RowKit Go.Shelf Go.Proofs.YthbajahklnpkcaaW.PrintWords Go.Proofs.YthbajahklnpkcaaW.PrintLast Go.Proofs.YthbajahklnpkcaaW.PrintMore
set_option linter.unusedVariables false
set_option linter.unusedSimpArgs false
set_option maxRecDepth 100000 in
theorem wide_calls (n : Int) (w : World) : Calls Try.prog 123 #[.int .i64 n] w fun e w' => e = .returned (.bool (okW n)) ∧ w' = w := by
 by_cases h1 : n ≥ 0
 · have h1b : decide (n ≥ 0) = true := decide_eq_true h1
   by_cases h2 : n ≤ 20000
   · have h2b : decide (n ≤ 20000) = true := decide_eq_true h2
     go_enter Try.func123, Try.ntmps123
     go_wp2
     go_ret
     exact ⟨by simp [okW]; omega, rfl⟩
   · have h2b : decide (n ≤ 20000) = false := decide_eq_false h2
     go_enter Try.func123, Try.ntmps123
     go_wp2
     go_ret
     exact ⟨by simp [okW]; omega, rfl⟩
 · have h1b : decide (n ≥ 0) = false := decide_eq_false h1
   go_enter Try.func123, Try.ntmps123
   go_wp2
   go_ret
   exact ⟨by simp [okW]; omega, rfl⟩
set_option maxRecDepth 100000 in
set_option maxHeartbeats 2000000 in
theorem valid_calls (x : S43) (w : World) : Calls Try.prog 72 #[.agg (c43 x)] w fun e w' => e = .returned (.bool (okR x)) ∧ Below w.heap.size w w' := by
 obtain ⟨a, b, c, d⟩ := x
 have HB := Blk.new w #[.int .i64 a, .int .i64 b, .int .i64 c, .int .i64 d] 43
 have g0 := HB.cell 0 (v := .int .i64 a) rfl
 have g1 := HB.cell 1 (v := .int .i64 b) rfl
 have g2 := HB.cell 2 (v := .int .i64 c) rfl
 have g3 := HB.cell 3 (v := .int .i64 d) rfl
 have hB : Below w.heap.size w (w.alloc (.cells #[.int .i64 a, .int .i64 b, .int .i64 c, .int .i64 d] 43)) := (Below.refl _ w).alloc (Nat.le_refl _) _
 clear HB
 have A0 := fun w' => Lib.hid (place_calls a w')
 have A1 := fun w' => Lib.hid (place_calls b w')
 have A2 := fun w' => Lib.hid (wide_calls c w')
 have A3 := fun w' => Lib.hid (wide_calls d w')
 have hok : okR ⟨a, b, c, d⟩ = (okP a && okP b && okW c && okW d) := rfl
 rw [hok]
 unfold c43
 generalize okP a = q0 at A0 ⊢
 generalize okP b = q1 at A1 ⊢
 generalize okW c = q2 at A2 ⊢
 generalize okW d = q3 at A3 ⊢
 clear hok
 cases q0
 · go_enter Try.func72, Try.ntmps72
   go_wp2_with (first | (with_reducible refine (A0 _).out.mono ?_; rintro e w' ⟨rfl, rfl⟩))
   go_ret
   exact ⟨rfl, hB⟩
 · cases q1
   · go_enter Try.func72, Try.ntmps72
     go_wp2_with (first | (first | (with_reducible refine (A0 _).out.mono ?_; rintro e w' ⟨rfl, rfl⟩) | (with_reducible refine (A1 _).out.mono ?_; rintro e w' ⟨rfl, rfl⟩)))
     go_ret
     exact ⟨rfl, hB⟩
   · cases q2
     · go_enter Try.func72, Try.ntmps72
       go_wp2_with (first | (first | (with_reducible refine (A0 _).out.mono ?_; rintro e w' ⟨rfl, rfl⟩) | (with_reducible refine (A1 _).out.mono ?_; rintro e w' ⟨rfl, rfl⟩)) | (first | (with_reducible refine (A2 _).out.mono ?_; rintro e w' ⟨rfl, rfl⟩)))
       go_ret
       exact ⟨rfl, hB⟩
     · cases q3
       · go_enter Try.func72, Try.ntmps72
         go_wp2_with (first | (first | (with_reducible refine (A0 _).out.mono ?_; rintro e w' ⟨rfl, rfl⟩) | (with_reducible refine (A1 _).out.mono ?_; rintro e w' ⟨rfl, rfl⟩)) | (first | (with_reducible refine (A2 _).out.mono ?_; rintro e w' ⟨rfl, rfl⟩) | (with_reducible refine (A3 _).out.mono ?_; rintro e w' ⟨rfl, rfl⟩)))
         go_ret
         exact ⟨rfl, hB⟩
       · go_enter Try.func72, Try.ntmps72
         go_wp2_with (first | (first | (with_reducible refine (A0 _).out.mono ?_; rintro e w' ⟨rfl, rfl⟩) | (with_reducible refine (A1 _).out.mono ?_; rintro e w' ⟨rfl, rfl⟩)) | (first | (with_reducible refine (A2 _).out.mono ?_; rintro e w' ⟨rfl, rfl⟩) | (with_reducible refine (A3 _).out.mono ?_; rintro e w' ⟨rfl, rfl⟩)))
         go_ret
         exact ⟨rfl, hB⟩
theorem enters71 : ∀ args w, (callFunc 71 args).run Try.prog w = .ok (.enter 71 args) w := Go.Proofs.enters_of Try.func71 (by kernel_rfl) rfl
theorem enters126 : ∀ args w, (callFunc 126 args).run Try.prog w = .ok (.enter 126 args) w := Go.Proofs.enters_of Try.func126 (by kernel_rfl) rfl
set_option maxRecDepth 100000 in
theorem not71_calls (x : S43) (w : World) : Calls Try.prog 71 #[.agg (c43 x)] w fun e w' => e = .returned (.bool (!okR x)) ∧ Below w.heap.size w w' := by
 have HB := Blk.new w #[.int .i64 x.f0, .int .i64 x.f1, .int .i64 x.f2, .int .i64 x.f3] 43
 have g0 := HB.cell 0 (v := .int .i64 x.f0) rfl
 have g1 := HB.cell 1 (v := .int .i64 x.f1) rfl
 have g2 := HB.cell 2 (v := .int .i64 x.f2) rfl
 have g3 := HB.cell 3 (v := .int .i64 x.f3) rfl
 have hB : Below w.heap.size w (w.alloc (.cells #[.int .i64 x.f0, .int .i64 x.f1, .int .i64 x.f2, .int .i64 x.f3] 43)) := (Below.refl _ w).alloc (Nat.le_refl _) _
 clear HB
 have HV := fun w' => Lib.hid (valid_calls x w')
 unfold c43 at HV ⊢
 go_enter Try.func71, Try.ntmps71
 go_wp2_with (first | (go_at_call 72; refine (HV _).out.mono ?_; rintro e w' ⟨rfl, hb⟩))
 go_ret
 exact ⟨rfl, hB.trans (hb.mono (by simp))⟩
set_option maxRecDepth 100000 in
theorem not126_calls (x : S43) (w : World) : Calls Try.prog 126 #[.agg (c43 x)] w fun e w' => e = .returned (.bool (!okR x)) ∧ Below w.heap.size w w' := by
 have HB := Blk.new w #[.int .i64 x.f0, .int .i64 x.f1, .int .i64 x.f2, .int .i64 x.f3] 43
 have g0 := HB.cell 0 (v := .int .i64 x.f0) rfl
 have g1 := HB.cell 1 (v := .int .i64 x.f1) rfl
 have g2 := HB.cell 2 (v := .int .i64 x.f2) rfl
 have g3 := HB.cell 3 (v := .int .i64 x.f3) rfl
 have hB : Below w.heap.size w (w.alloc (.cells #[.int .i64 x.f0, .int .i64 x.f1, .int .i64 x.f2, .int .i64 x.f3] 43)) := (Below.refl _ w).alloc (Nat.le_refl _) _
 clear HB
 have HV := fun w' => Lib.hid (valid_calls x w')
 unfold c43 at HV ⊢
 go_enter Try.func126, Try.ntmps126
 go_wp2_with (first | (go_at_call 72; refine (HV _).out.mono ?_; rintro e w' ⟨rfl, hb⟩))
 go_ret
 exact ⟨rfl, hB.trans (hb.mono (by simp))⟩
def badL (l : List S43) : Bool := l.any fun r => !okR r
theorem bad71_calls (A : Option Addr) (c : Nat) (l : List S43) (w : World) (hr : Kd.C k43 w A l.length l) :
 Calls Try.prog 70 #[.slice A l.length c, .func (.func 71) #[] #[]] w fun e w' => e = .returned (.bool (badL l)) ∧ Below w.heap.size w w' :=
 Contains_rects (fun r => !okR r) 71 #[] enters71 A c l w (fun W x _ => not71_calls x W) hr
theorem bad126_calls (A : Option Addr) (c : Nat) (l : List S43) (w : World) (hr : Kd.C k43 w A l.length l) :
 Calls Try.prog 70 #[.slice A l.length c, .func (.func 126) #[] #[]] w fun e w' => e = .returned (.bool (badL l)) ∧ Below w.heap.size w w' :=
 Contains_rects (fun r => !okR r) 126 #[] enters126 A c l w (fun W x _ => not126_calls x W) hr
theorem enters127 : ∀ args w, (callFunc 127 args).run Try.prog w = .ok (.enter 127 args) w := Go.Proofs.enters_of Try.func127 (by kernel_rfl) rfl
def inR (x y : Int) (r : S43) : Bool := decide (r.f0 ≤ x) && decide (x < wrap64 (r.f0 + r.f2)) && decide (r.f1 ≤ y) && decide (y < wrap64 (r.f1 + r.f3))
set_option maxRecDepth 100000 in
set_option maxHeartbeats 2000000 in
theorem covers1_calls (r : S43) (bx by_ : Nat) (x y : Int) (w : World) (hx : w.cell? ⟨bx, 0, none⟩ = some (.int .i64 x)) (hy : w.cell? ⟨by_, 0, none⟩ = some (.int .i64 y)) :
 Calls Try.prog 127 #[.agg (c43 r), .pointer (some ⟨bx, 0, none⟩), .pointer (some ⟨by_, 0, none⟩)] w fun e w' => e = .returned (.bool (inR x y r)) ∧ Below w.heap.size w w' := by
 obtain ⟨a, b, c, d⟩ := r
 have HB := Blk.new w #[.int .i64 a, .int .i64 b, .int .i64 c, .int .i64 d] 43
 have g0 := HB.cell 0 (v := .int .i64 a) rfl
 have g1 := HB.cell 1 (v := .int .i64 b) rfl
 have g2 := HB.cell 2 (v := .int .i64 c) rfl
 have g3 := HB.cell 3 (v := .int .i64 d) rfl
 have hB : Below w.heap.size w (w.alloc (.cells #[.int .i64 a, .int .i64 b, .int .i64 c, .int .i64 d] 43)) := (Below.refl _ w).alloc (Nat.le_refl _) _
 have lx : bx < w.heap.size := World.block_lt_of_cell? _ _ hx
 have ly : by_ < w.heap.size := World.block_lt_of_cell? _ _ hy
 clear HB
 have hx' : (w.alloc (.cells #[.int .i64 a, .int .i64 b, .int .i64 c, .int .i64 d] 43)).cell? ⟨bx, 0, none⟩ = some (.int .i64 x) := (World.cell?_alloc_lt _ _ _ lx).trans hx
 have hy' : (w.alloc (.cells #[.int .i64 a, .int .i64 b, .int .i64 c, .int .i64 d] 43)).cell? ⟨by_, 0, none⟩ = some (.int .i64 y) := (World.cell?_alloc_lt _ _ _ ly).trans hy
 clear hx hy
 have hin : inR x y ⟨a, b, c, d⟩ = (decide (x ≥ a) && decide (x < wrap64 (a + c)) && decide (y ≥ b) && decide (y < wrap64 (b + d))) := by simp [inR]
 rw [hin]
 unfold c43
 have hq0 : ∀ q, decide (x ≥ a) = q → decide (x ≥ a) = q := fun _ h => h
 cases h0 : decide (x ≥ a)
 · go_enter Try.func127, Try.ntmps127
   go_wp2
   go_ret
   exact ⟨by simp, hB⟩
 · cases h1 : decide (x < wrap64 (a + c))
   · go_enter Try.func127, Try.ntmps127
     go_wp2
     go_ret
     exact ⟨by simp, hB⟩
   · cases h2 : decide (y ≥ b)
     · go_enter Try.func127, Try.ntmps127
       go_wp2
       go_ret
       exact ⟨by simp, hB⟩
     · go_enter Try.func127, Try.ntmps127
       go_wp2
       go_ret
       exact ⟨by simp, hB⟩
def covL (l : List S43) (x y : Int) : Bool := l.any (inR x y)
set_option maxRecDepth 100000 in
theorem covers_calls (A : Option Addr) (c : Nat) (l : List S43) (x y : Int) (w : World) (hr : Kd.C k43 w A l.length l) :
 Calls Try.prog 77 #[.slice A l.length c, .int .i64 x, .int .i64 y] w fun e w' => e = .returned (.bool (covL l x y)) ∧ Below w.heap.size w w' := by
 obtain ⟨w1, hw1⟩ : ∃ w1, (w.alloc (.cells #[.int .i64 x] 3)).alloc (.cells #[.int .i64 y] 3) = w1 := ⟨_, rfl⟩
 have B1 := ((Blk.new w #[.int .i64 x] 3).alloc (.cells #[.int .i64 y] 3))
 have B2 := (Blk.new (w.alloc (.cells #[.int .i64 x] 3)) #[.int .i64 y] 3)
 have hB : Below w.heap.size w w1 := by rw [← hw1]; exact ((Below.refl _ w).alloc (Nat.le_refl _) _).alloc (by simp) _
 rw [hw1] at B1 B2
 rw [World.size_alloc] at B2
 have HC := Aside0.mk (Contains_rects (inR x y) 127 #[.pointer (some ⟨w.heap.size, 0, none⟩), .pointer (some ⟨w.heap.size + 1, 0, none⟩)] enters127 A c l w1
  (fun W r hW => covers1_calls r w.heap.size (w.heap.size + 1) x y W ((B1.below_ hW).cell 0 rfl) ((B2.below_ hW).cell 0 rfl)) (Kd.C_below hr hB))
 clear hr B1 B2
 go_enter Try.func77, Try.ntmps77
 go_wp2_with (first | (go_at_call 70; first | rw [hw1] | skip; refine HC.out.mono ?_; rintro e w' ⟨rfl, hb2⟩))
 go_ret
 exact ⟨rfl, hB.trans (hb2.mono hB.size)⟩
end Go.Proofs.Ythbajahklnpkcaa.PA

namespace Go.Proofs.Ythbajahklnpkcaa.PA
open Go.RowKit Go.Shelf Go.Sort Go.Proofs.YthbajahklnpkcaaW.PrintWords Go.Proofs.YthbajahklnpkcaaW.PrintLast Go.Proofs.YthbajahklnpkcaaW.PrintMore
set_option linter.unusedVariables false
set_option linter.unusedSimpArgs false
def sortI (zs : List Int) : List Int := zs.mergeSort fun x y => decide (x ≤ y)
abbrev ints (zs : List Int) : List Value := zs.map (Value.int .i64)
theorem grown_self (W : World) (r : Option Nat) : W.grownBy W r := World.grownBy.refl _ _
theorem grown_below {B : Nat} {X W W' : World} {row : Option Nat} (h : Below B X W) (hB : B ≤ W.heap.size) (hg : W.grownBy W' row) (hr : ∀ k, row = some k → B ≤ k) : Below B X W' := h.grown hg hB hr
theorem row_same {W W' : World} {base : Nat} {e : TypeId} {size : Nat} {v : Value} {n : Nat} {xs : List Value} (h : W.ownsRow base e size v n xs) (hs : ∀ k, v.ownBlock = some k → W'.heap[k]? = W.heap[k]?) : W'.ownsRow base e size v n xs := by
 rcases h.2 with ⟨rfl, h0⟩ | ⟨g, cap, cur, rfl, hb, hgb, hn, hm, hcs, ht⟩
 · exact ⟨h.1, .inl ⟨rfl, h0⟩⟩
 · exact ⟨h.1, .inr ⟨g, cap, cur, rfl, hb, (hs g rfl).trans hgb, hn, hm, hcs, ht⟩⟩
theorem row_bl {W : World} {base : Nat} {e : TypeId} {size : Nat} {v : Value} {n : Nat} {xs : List Value} (h : W.ownsRow base e size v n xs) {k : Nat} (hk : v.ownBlock = some k) : base ≤ k ∧ k < W.heap.size := by
 rcases h.2 with ⟨rfl, h0⟩ | ⟨g, cap, cur, rfl, hb, hgb, hn, hm, hcs, ht⟩
 · cases hk
 · cases hk; exact ⟨hb, (Array.getElem?_eq_some_iff.1 hgb).1⟩
theorem row_bel {W W' : World} {base : Nat} {e : TypeId} {size : Nat} {v : Value} {n : Nat} {xs : List Value} (h : W.ownsRow base e size v n xs) (hb : Below W.heap.size W W') : W'.ownsRow base e size v n xs := row_same h (fun k hk => hb.block k (row_bl h hk).2)
theorem row_base {W : World} {base base' : Nat} {e : TypeId} {size : Nat} {v : Value} {n : Nat} {xs : List Value} (h : W.ownsRow base e size v n xs) (hb : base' ≤ base) : W.ownsRow base' e size v n xs := by
 rcases h.2 with ⟨rfl, h0⟩ | ⟨g, cap, cur, rfl, hb', hgb, hn, hm, hcs, ht⟩
 · exact ⟨h.1, .inl ⟨rfl, h0⟩⟩
 · exact ⟨h.1, .inr ⟨g, cap, cur, rfl, Nat.le_trans hb hb', hgb, hn, hm, hcs, ht⟩⟩
theorem sort_own {W : World} {base : Nat} {A : Option Addr} {cap : Nat} {zs : List Int} (h : W.ownsRow base 3 1 (.slice A zs.length cap) zs.length (ints zs)) (hsz : zs.length < 4611686018427387904) :
 Calls Try.prog 142 #[.slice A zs.length cap] W fun e w' => e = .returned (.tuple #[]) ∧ W.grownBy w' (Value.slice A zs.length cap).ownBlock ∧ w'.ownsRow base 3 1 (.slice A zs.length cap) zs.length (ints (sortI zs)) := by
 rcases h.2 with ⟨e, h0⟩ | ⟨g', cap', cur, e, hb, hgb, hn, hm, hcs, ht⟩
 · have hz : zs = [] := List.length_eq_zero_iff.1 (by simpa using h0)
   subst hz
   cases e
   refine (AnyM.slices_Sort_int_none sortL none 0 W).mono ?_
   rintro e w' ⟨rfl, hw'⟩
   rw [hw']
   have e0 : sortI [] = [] := by simp [sortI]
   rw [e0]
   exact ⟨rfl, grown_self W _, h⟩
 cases e
 rw [Nat.mul_one] at ht
 refine (AnyM.slices_Sort_int sortL g' 0 cap zs W (holds_of_blockI hgb ht) (Array.getElem?_eq_some_iff.1 hgb).1 hsz).mono ?_
 rintro e w' ⟨rfl, n, os, rfl⟩
 exact ⟨rfl, grownBy_sortedI _, ownsRow_sortedI (by simp) hb hgb hn hm hcs⟩
theorem compact_own {W : World} {base : Nat} {A : Option Addr} {cap : Nat} {zs : List Int} (h : W.ownsRow base 3 1 (.slice A zs.length cap) zs.length (ints zs)) (hsz : zs.length < 4611686018427387904) :
 Calls Try.prog 143 #[.slice A zs.length cap] W fun e w' => e = .returned (.slice A (Lib.compact zs).length cap) ∧ W.grownBy w' (Value.slice A zs.length cap).ownBlock ∧ w'.ownsRow base 3 1 (.slice A (Lib.compact zs).length cap) (Lib.compact zs).length (ints (Lib.compact zs)) := by
 rcases h.2 with ⟨e, h0⟩ | ⟨g', cap', cur, e, hb, hgb, hn, hm, hcs, ht⟩
 · have hz : zs = [] := List.length_eq_zero_iff.1 (by simpa using h0)
   subst hz
   cases e
   refine (AnyG.slices_Compact_int_empty compactL none 0 W).mono ?_
   rintro e w' ⟨rfl, hw'⟩
   rw [hw']
   exact ⟨rfl, grown_self W _, h⟩
 cases e
 rw [Nat.mul_one] at ht
 refine (AnyG.slices_Compact_int compactL g' 0 cap zs W (holds_of_blockI hgb ht) (by omega) hn).mono ?_
 rintro e w' ⟨rfl, q, rfl⟩
 have hle : (Lib.compact zs).length ≤ zs.length := Lib.compact_length_le zs
 have e1 : (putRow (Value.int .i64) (Sort.ahead W q) g' 0 (Lib.compact zs ++ List.replicate (zs.length - (Lib.compact zs).length) 0).toArray) = grow (putRow (Value.int .i64) (Sort.ahead W q) g' 0 (Lib.compact zs ++ List.replicate (zs.length - (Lib.compact zs).length) 0).toArray) #[] := (grow_empty _).symm
 rw [e1]
 have h2 := ownsRow_sortedI (n := q) (os := #[]) (ss := zs) (ts := Lib.compact zs ++ List.replicate (zs.length - (Lib.compact zs).length) 0) (by simp; omega) hb hgb hn hm hcs
 refine ⟨rfl, grownBy_sortedI _, ?_⟩
 rcases h2.2 with ⟨e, _⟩ | ⟨g2, cap2, cur', e, hb', hgb', hn', hm', hcs', ht'⟩
 · cases e
 cases e
 refine ⟨by simp, .inr ⟨g', cap, cur', rfl, hb', hgb', by omega, hm', hcs', ?_⟩⟩
 rw [Nat.mul_one] at ht' ⊢
 have := congrArg (List.take (Lib.compact zs).length) ht'
 rw [List.take_take, Nat.min_eq_left hle, List.map_append] at this
 rw [this]
 simp
def PairB (g : Nat) (fa fb : S43 → Int) : Prop :=
 ∀ (W : World) (x : S43), Calls Try.prog g #[.agg (c43 x)] W fun e w' => e = .returned (.tuple #[.int .i64 (fa x), .int .i64 (fb x)]) ∧ Below W.heap.size W w'
theorem box4 (w : World) (x : S43) : ∀ w1, w1 = w.alloc (.cells #[.int .i64 x.f0, .int .i64 x.f1, .int .i64 x.f2, .int .i64 x.f3] 43) →
 w1.cell? ⟨w.heap.size, 0, none⟩ = some (.int .i64 x.f0) ∧ w1.cell? ⟨w.heap.size, 1, none⟩ = some (.int .i64 x.f1) ∧ w1.cell? ⟨w.heap.size, 2, none⟩ = some (.int .i64 x.f2) ∧ w1.cell? ⟨w.heap.size, 3, none⟩ = some (.int .i64 x.f3) ∧ Below w.heap.size w w1 := by
 rintro w1 rfl
 have HB := Blk.new w #[.int .i64 x.f0, .int .i64 x.f1, .int .i64 x.f2, .int .i64 x.f3] 43
 exact ⟨HB.cell 0 rfl, HB.cell 1 rfl, HB.cell 2 rfl, HB.cell 3 rfl, (Below.refl _ w).alloc (Nat.le_refl _) _⟩
set_option maxRecDepth 100000 in
theorem x139 : PairB 139 (fun r => r.f0) (fun r => wrap64 (r.f0 + r.f2)) := by
 intro w x
 obtain ⟨g0, g1, g2, g3, hB⟩ := box4 w x _ rfl
 unfold c43
 go_enter Try.func139, Try.ntmps139
 go_wp2
 repeat (go_quiet (fail); try go_wp2)
 refine bodyPost_ret (v := .tuple #[.int .i64 x.f0, .int .i64 (wrap64 (x.f0 + x.f2))]) (by simp [results, Try.results139, go_sem]) rfl ⟨rfl, ?_⟩
 first | exact pw_below_drewN hB _ | exact hB
set_option maxRecDepth 100000 in
theorem y140 : PairB 140 (fun r => r.f1) (fun r => wrap64 (r.f1 + r.f3)) := by
 intro w x
 obtain ⟨g0, g1, g2, g3, hB⟩ := box4 w x _ rfl
 unfold c43
 go_enter Try.func140, Try.ntmps140
 go_wp2
 repeat (go_quiet (fail); try go_wp2)
 refine bodyPost_ret (v := .tuple #[.int .i64 x.f1, .int .i64 (wrap64 (x.f1 + x.f3))]) (by simp [results, Try.results140, go_sem]) rfl ⟨rfl, ?_⟩
 first | exact pw_below_drewN hB _ | exact hB
def endsOf (fa fb : S43 → Int) (l : List S43) : List Int := l.flatMap fun r => if 0 < r.f2 ∧ 0 < r.f3 then [fa r, fb r] else []
def edgesL (fa fb : S43 → Int) (l : List S43) : List Int := Lib.compact (sortI (endsOf fa fb l))
theorem endsOf_len (fa fb : S43 → Int) : ∀ l : List S43, (endsOf fa fb l).length ≤ 2 * l.length
 | [] => by simp [endsOf]
 | r :: l => by
  have := endsOf_len fa fb l
  have e : endsOf fa fb (r :: l) = (if 0 < r.f2 ∧ 0 < r.f3 then [fa r, fb r] else []) ++ endsOf fa fb l := rfl
  rw [e]
  split <;> simp <;> omega
theorem endsOf_take (fa fb : S43 → Int) (l : List S43) (k : Nat) (x : S43) (hx : l[k]? = some x) : endsOf fa fb (l.take (k + 1)) = endsOf fa fb (l.take k) ++ (if 0 < x.f2 ∧ 0 < x.f3 then [fa x, fb x] else []) := by
 rw [List.take_add_one, hx, endsOf, List.flatMap_append]
 simp [endsOf]
theorem cells2_new (W : World) (a b : Value) (t : TypeId) : ∀ j u, [a, b][j]? = some u → (W.alloc (.cells #[a, b] t)).cell? ((⟨W.heap.size, 0, none⟩ : Addr).add j) = some u := by
 intro j u h
 have HB := Blk.new W #[a, b] t
 match j, h with
 | 0, h => simp at h; subst h; exact HB.cell 0 rfl
 | 1, h => simp at h; subst h; exact HB.cell 1 rfl
 | j + 2, h => simp at h
theorem own_sl {W : World} {base n : Nat} {e : TypeId} {size : Nat} {v : Value} {xs : List Value} (h : W.ownsRow base e size v n xs) : ∃ A c, v = .slice A n c := by
 rcases h.2 with ⟨rfl, h0⟩ | ⟨g, cap, cur, rfl, _⟩
 · exact ⟨none, 0, by rw [h0]⟩
 · exact ⟨_, _, rfl⟩
set_option maxRecDepth 100000 in
set_option maxHeartbeats 4000000 in
theorem edges_calls (g : Nat) (fa fb : S43 → Int) (eg : ∀ args w, (callFunc g args).run Try.prog w = .ok (.enter g args) w) (hg : PairB g fa fb) (A : Option Addr) (c : Nat) (l : List S43) (w : World) (hl : l.length ≤ 100000) (hr : Kd.C k43 w A l.length l) :
 Calls Try.prog 128 #[.slice A l.length c, .func (.func g) #[] #[]] w fun e w' => ∃ v, e = .returned v ∧ w'.ownsRow w.heap.size 3 1 v (edgesL fa fb l).length (ints (edgesL fa fb l)) ∧ Below w.heap.size w w' := by
 have HR := Aside0.mk hr
 have HG := Aside0.mk hg
 clear hr hg
 obtain ⟨i0, hi, hz0, hz1, hz2⟩ := info_parts info3
 go_enter Try.func128, Try.ntmps128
 go_wp2
 go_loopg [5, 7, 8, 9, 12] l.length (fun gg s5 _ _ _ s12 wr => ∃ (kk : Nat) (B : Option Addr) (cB : Nat), kk ≤ l.length ∧ l.length - kk ≤ gg ∧ s12 = .int .i64 kk ∧ s5 = .slice B (endsOf fa fb (l.take kk)).length cB ∧ Aside0 (Below w.heap.size w wr) ∧ Aside0 (wr.ownsRow w.heap.size 3 1 (.slice B (endsOf fa fb (l.take kk)).length cB) (endsOf fa fb (l.take kk)).length (ints (endsOf fa fb (l.take kk)))))
 case atStart => exact ⟨0, none, 0, Nat.zero_le _, by omega, rfl, rfl, ⟨Below.refl _ w⟩, ⟨World.ownsRow_nil _ _ _ _⟩⟩
 case round =>
  obtain ⟨kk, B, cB, hkk, hgg, rfl, rfl, BW, HO⟩ := hrel
  by_cases hlt : kk < l.length
  · have hltz : (kk : Int) < (l.length : Int) := by omega
    obtain ⟨ad, eA, hx0, hx1, hx2, hx3⟩ := at_T43 (Kd.C_below HR.out BW.out) (kk : Int) (by omega) (by omega)
    cases eA
    simp only [Int.toNat_natCast] at hx0 hx1 hx2 hx3
    have hel := rd_getElem43 l kk hlt
    generalize hy : rd_T43 l (kk : Int) = x at hx0 hx1 hx2 hx3
    rw [hy] at hel
    have ht := Aside0.mk (endsOf_take fa fb l kk x hel)
    have hzl := Aside0.mk (endsOf_len fa fb (l.take kk))
    have hz2l : (endsOf fa fb (l.take kk)).length ≤ 200000 := by have := hzl.out; rw [List.length_take] at this; omega
    generalize hzs : endsOf fa fb (l.take kk) = zs at HO ht hz2l ⊢
    clear hzs hzl hel hy
    obtain ⟨g0, g1, g2, g3, hB1⟩ := box4 wr x _ rfl
    have HB1 := Aside0.mk hB1
    clear hB1
    by_cases h2 : 0 < x.f2
    · have h2b : decide (x.f2 > 0) = true := decide_eq_true h2
      by_cases h3 : 0 < x.f3
      · have h3b : decide (x.f3 > 0) = true := decide_eq_true h3
        have ht2 := ht.out
        rw [if_pos ⟨h2, h3⟩] at ht2
        clear ht
        have HT := Aside0.mk ht2
        clear ht2
        have HX := Aside0.mk (HG.out (wr.alloc (.cells #[.int .i64 x.f0, .int .i64 x.f1, .int .i64 x.f2, .int .i64 x.f3] 43)) x)
        generalize fa x = ya at HT HX
        generalize fb x = yb at HT HX
        have hx := HX.out
        unfold c43 at hx
        have HX := Aside0.mk hx
        clear hx
        go_wp2_with (first | (go_at_fn g; refine HX.out.mono ?_; rintro e w5 ⟨rfl, hb5⟩; have HB5 := Aside0.mk (HB1.out.trans (hb5.mono HB1.out.size)); have HO5 := Aside0.mk (row_bel HO.out HB5.out); have hs5 := HB5.out.size; clear hb5) | (at_builtin; refine wpList_append_own _ rfl (.tmp 30) (.tmp 33) 32 rfl w.heap.size 3 i0 (.int .i64 0) 1 8 Try.underlying32 hi hz0 hz1 hz2 rfl (by decide) (.slice B zs.length cB) zs.length (ints zs) rfl (HO5.out.alloc _) ⟨w5.heap.size, 0, none⟩ 2 2 [.int .i64 ya, .int .i64 yb] rfl rfl ?c1 ?c2 ?c3 ?c4 ?c5 ?_; (case c1 => exact cells2_new _ _ _ _); (case c2 => intro u hu; simp only [List.mem_cons, List.not_mem_nil, or_false] at hu; rcases hu with rfl | rfl <;> rfl); (case c3 => unfold maxLen; omega); (case c4 => omega); (case c5 => have := BW.out.size; simp; omega); intro v' w6 hown hgr _; have HO6 := Aside0.mk hown; have HG6 := Aside0.mk hgr; clear hown hgr))
        have hge := fun k hk => (row_bl HO.out (k := k) hk).1
        have hown := HO6.out
        obtain ⟨B6, c6, rfl⟩ := own_sl hown
        have hlen : (endsOf fa fb (l.take (kk + 1))).length = zs.length + 2 := by rw [HT.out]; simp
        have hin : ints zs ++ [Value.int .i64 ya, Value.int .i64 yb] = ints (endsOf fa fb (l.take (kk + 1))) := by rw [HT.out]; simp
        rw [hin, ← hlen] at hown
        have hB5 := BW.out.trans (HB5.out.mono BW.out.size)
        have hB6 : Below w.heap.size w w6 := grown_below (hB5.alloc hB5.size _) (by have := hB5.size; simp; omega) HG6.out hge
        go_roundg (l.length - (kk + 1))
        case measure => omega
        case rel => exact ⟨kk + 1, B6, c6, by omega, by omega, by go_num, by rw [hlen], ⟨hB6⟩, ⟨hown⟩⟩
      · have h3b : decide (x.f3 > 0) = false := decide_eq_false h3
        have ht2 := ht.out
        rw [if_neg (fun h => h3 h.2), List.append_nil] at ht2
        clear ht
        go_wp2
        go_roundg (l.length - (kk + 1))
        case measure => omega
        case rel => exact ⟨kk + 1, B, cB, by omega, by omega, by go_num, by rw [ht2], ⟨BW.out.trans (HB1.out.mono BW.out.size)⟩, ⟨by rw [ht2]; exact row_bel HO.out HB1.out⟩⟩
    · have h2b : decide (x.f2 > 0) = false := decide_eq_false h2
      have ht2 := ht.out
      rw [if_neg (fun h => h2 h.1), List.append_nil] at ht2
      clear ht
      go_wp2
      go_roundg (l.length - (kk + 1))
      case measure => omega
      case rel => exact ⟨kk + 1, B, cB, by omega, by omega, by go_num, by rw [ht2], ⟨BW.out.trans (HB1.out.mono BW.out.size)⟩, ⟨by rw [ht2]; exact row_bel HO.out HB1.out⟩⟩
  · have hltz : ¬ (kk : Int) < (l.length : Int) := by omega
    obtain rfl : kk = l.length := by omega
    rw [List.take_length] at HO ⊢
    have hz2l := endsOf_len fa fb l
    generalize hzs : endsOf fa fb l = zs at HO hz2l ⊢
    have hed : edgesL fa fb l = Lib.compact (sortI zs) := by rw [← hzs]; rfl
    have HED := Aside0.mk hed
    clear hed hzs
    have hN : (sortI zs).length = zs.length := by simp [sortI]
    have HS := Aside0.mk (sort_own HO.out (by omega))
    have hge := fun k hk => (row_bl HO.out (k := k) hk).1
    go_wp2_with (first | (go_at_call 142; refine HS.out.mono ?_; rintro e w5 ⟨rfl, hg5, ho5⟩; have HG5 := Aside0.mk hg5; have ho5' := ho5; rw [← hN] at ho5'; have HC := Aside0.mk (compact_own ho5' (by omega)); rw [hN] at HC; clear hg5 ho5 ho5') | (go_at_call 143; refine HC.out.mono ?_; rintro e w6 ⟨rfl, hg6, ho6⟩))
    go_ret
    rw [HED.out]
    have hB5 : Below w.heap.size w w5 := grown_below BW.out BW.out.size HG5.out hge
    exact ⟨_, rfl, ho6, grown_below hB5 hB5.size hg6 hge⟩
end Go.Proofs.Ythbajahklnpkcaa.PA

namespace Go.Proofs.Ythbajahklnpkcaa.PA
open Go.RowKit Go.Shelf Go.Sort Go.Proofs.YthbajahklnpkcaaW.PrintWords Go.Proofs.YthbajahklnpkcaaW.PrintLast Go.Proofs.YthbajahklnpkcaaW.PrintMore
attribute [local go_sem] max2_int min2_int max_two min_two
set_option linter.unusedVariables false
set_option linter.unusedSimpArgs false
theorem grow_calls (n : Nat) (hn : n ≤ 1000000) (w : World) : Calls Try.prog 137 #[.slice none 0 0, .int .i64 n] w fun e w' => ∃ v, e = .returned v ∧ Kd.R k43 43 w' w.heap.size (fun _ => True) v [] ∧ Below w.heap.size w w' := by
 obtain ⟨i0, hi, hz0, hz1, hz2⟩ := info_parts info43
 by_cases h0 : n = 0
 · subst h0
   refine (Any8.slices_Grow_room growL none 0 0 0 w (by omega) (by omega) (by omega) (by omega)).mono ?_
   rintro e w' ⟨rfl, rfl⟩
   exact ⟨_, rfl, Kd.R_nil _ _ _ _ _, Below.refl _ _⟩
 · refine (Any8.slices_Grow_grow growL i0 _ hi hz0 (by rw [hz1]; decide) none 0 0 n [] w (by omega) (by omega) (by rw [hz2]; omega) (by omega) (by simp) (fun _ => rfl) (by intro a h; cases h)).mono ?_
   rintro e w' ⟨rfl, rfl⟩
   have hge := grownCap_ge w (0 + n) 0 (growL_ren.t 25)
   have hle := grownCap_le_maxLen w (0 + n) 0 (growL_ren.t 25) (by unfold maxLen; omega)
   refine ⟨_, rfl, ⟨fun _ _ => trivial, [], ⟨by simp, .inr ⟨w.heap.size, _, _, rfl, Nat.le_refl _, World.alloc_heap_new w.drew _, Nat.zero_le _, hle, ?_, by simp⟩⟩, Reps.none _ _⟩, ?_⟩
   · show _ = _ * 4
     simp only [Nat.zero_add] at hge ⊢
     simp only [Array.size_append, size_zeroCells, List.size_toArray, Value.cells]
     simp
     omega
   · exact (below_drew1 (Below.refl _ w)).alloc (Nat.le_refl _) _
def fl43 (l : List S43) : List Value := l.flatMap fun x => [.int .i64 x.f0, .int .i64 x.f1, .int .i64 x.f2, .int .i64 x.f3]
def partC (a b : List S43) (k : Nat) : List S43 := if k = 0 then [] else if k = 1 then a else a ++ b
set_option maxRecDepth 100000 in
set_option maxHeartbeats 4000000 in
theorem concat_calls (g : Nat) (A B : Option Addr) (cA cB : Nat) (a b : List S43) (w : World) (h0 : w.cell? ⟨g, 0, none⟩ = some (.slice A a.length cA)) (h1 : w.cell? ⟨g, 1, none⟩ = some (.slice B b.length cB))
 (hr : Kd.C k43 w A a.length a) (hr2 : Kd.C k43 w B b.length b) (hla : a.length ≤ 100000) (hlb : b.length ≤ 100000) :
 Calls Try.prog 111 #[.slice (some ⟨g, 0, none⟩) 2 2] w fun e w' => ∃ v, e = .returned v ∧ Kd.R k43 43 w' w.heap.size (fun _ => True) v (a ++ b) ∧ Below w.heap.size w w' := by
 have lg : g < w.heap.size := World.block_lt_of_cell? _ _ h0
 have HG := fun w' => Aside0.mk (grow_calls (a.length + b.length) (by omega) w')
 have HR := Aside0.mk hr
 have HR2 := Aside0.mk hr2
 clear hr hr2
 go_enter Try.func111, Try.ntmps111
 go_wp2
 go_loopg [3, 5, 11] 2 (fun gg s3 _ s11 wr => ∃ kk : Nat, kk ≤ 2 ∧ 2 - kk ≤ gg ∧ s11 = .int .i64 kk ∧ s3 = .int .i64 (partC a b kk).length ∧ wr = w)
 case atStart => exact ⟨0, by omega, by omega, rfl, rfl, rfl⟩
 case round =>
  obtain ⟨kk, hkk, hgg, rfl, rfl, hww⟩ := hrel
  obtain rfl := hww.symm
  rcases (show kk = 0 ∨ kk = 1 ∨ kk = 2 by omega) with rfl | rfl | rfl
  · have hw : wrap64 (((partC a b 0).length : Int) + (a.length : Int)) = (a.length : Int) := by simp [partC]; exact w64 (by omega) (by omega)
    have hnn : ¬ (a.length : Int) < 0 := by omega
    go_wp2
    go_roundg 1
    case measure => omega
    case rel => exact ⟨1, by omega, by omega, by go_num, by simp [partC], rfl⟩
  · have hw : wrap64 (((partC a b 1).length : Int) + (b.length : Int)) = ((a.length + b.length : Nat) : Int) := by simp [partC]; exact w64 (by omega) (by omega)
    have hnn : ¬ ((a.length + b.length : Nat) : Int) < 0 := by omega
    go_wp2
    go_roundg 0
    case measure => omega
    case rel => exact ⟨2, by omega, by omega, by go_num, by simp [partC], rfl⟩
  · have e2 : ((partC a b 2).length : Int) = ((a.length + b.length : Nat) : Int) := by simp [partC]
    rw [e2]
    clear e2
    go_wp2_with (first | (go_at_call 137; refine (HG _).out.mono ?_; rintro e w5 ⟨v5, rfl, hk5, hb5⟩; have HK5 := Aside0.mk hk5; have HB5 := Aside0.mk hb5; clear hk5 hb5))
    obtain ⟨A5, c5, rfl, hc5, hC5⟩ := Kd.R_reads HK5.out
    clear hc5 hC5
    have lg5 : g < w5.heap.size := Nat.lt_of_lt_of_le lg HB5.out.size
    go_wp2
    go_loopg [6, 8, 27] 2 (fun gg s6 _ s27 w7 => ∃ (kk : Nat) (A7 : Option Addr) (c7 : Nat), kk ≤ 2 ∧ 2 - kk ≤ gg ∧ s27 = .int .i64 kk ∧ s6 = .slice A7 (partC a b kk).length c7 ∧ Aside0 (Kd.R k43 43 w7 w.heap.size (fun _ => True) (.slice A7 (partC a b kk).length c7) (partC a b kk)) ∧ Aside0 (Below w.heap.size w w7))
    case atStart => exact ⟨0, A5, c5, by omega, by omega, rfl, rfl, HK5, HB5⟩
    case round =>
     obtain ⟨kk, A7, c7, hkk, hgg, rfl, rfl, HK7, HB7⟩ := hrel
     have hlp : (partC a b kk).length ≤ 200000 := by
      simp only [partC]
      split
      · simp
      · split
        · omega
        · simp; omega
     rcases (show kk = 0 ∨ kk = 1 ∨ kk = 2 by omega) with rfl | rfl | rfl
     · have h07 := (HB7.out.cell (p := ⟨g, 0, none⟩) lg).trans h0
       generalize hx : partC a b 0 = xs at HK7 hlp ⊢
       have hxs : xs ++ a = partC a b 1 := by rw [← hx]; simp [partC]
       clear hx
       have HX := Aside0.mk hxs
       clear hxs
       go_wp2_with (first | (at_builtin; go_loud (refine Kd.R_append_rows k43 (w0 := w) w.heap.size rfl (.tmp 31) (.tmp 32) 22 43 (.agg #[(.int .i64 0), (.int .i64 0), (.int .i64 0), (.int .i64 0)]) 32 rfl Try.underlying22 info43 rfl (by decide) (by omega) (.slice A7 xs.length c7) xs a A a.length cA (fun _ => True) (fun _ => False) rfl rfl HK7.out (Kd.C_below HR.out HB7.out) (fun _ _ h => h) (fun _ h => h.elim) (fun _ _ => trivial) HB7.out HB7.out.size ?aL ?_; (case aL => omega); intro v8 w8 ho8 hb8 hg8 hat8; have HO8 := Aside0.mk ho8; have HB8 := Aside0.mk hb8; clear ho8 hb8 hg8 hat8)))
       have ho := HO8.out
       rw [HX.out] at ho
       obtain ⟨A8, c8, rfl, -, -⟩ := Kd.R_reads ho
       go_roundg 1
       case measure => omega
       case rel => exact ⟨1, A8, c8, by omega, by omega, by go_num, rfl, ⟨ho⟩, HB8⟩
     · have h17 := (HB7.out.cell (p := ⟨g, 1, none⟩) lg).trans h1
       generalize hx : partC a b 1 = xs at HK7 hlp ⊢
       have hxs : xs ++ b = partC a b 2 := by rw [← hx]; simp [partC]
       clear hx
       have HX := Aside0.mk hxs
       clear hxs
       go_wp2_with (first | (at_builtin; refine Kd.R_append_rows k43 (w0 := w) w.heap.size rfl (.tmp 31) (.tmp 32) 22 43 (.agg #[(.int .i64 0), (.int .i64 0), (.int .i64 0), (.int .i64 0)]) 32 rfl Try.underlying22 info43 rfl (by decide) (by omega) (.slice A7 xs.length c7) xs b B b.length cB (fun _ => True) (fun _ => False) rfl rfl HK7.out (Kd.C_below HR2.out HB7.out) (fun _ _ h => h) (fun _ h => h.elim) (fun _ _ => trivial) HB7.out HB7.out.size ?aL ?_; (case aL => omega); intro v8 w8 ho8 hb8 hg8 hat8; have HO8 := Aside0.mk ho8; have HB8 := Aside0.mk hb8; clear ho8 hb8 hg8 hat8))
       have ho := HO8.out
       rw [HX.out] at ho
       obtain ⟨A8, c8, rfl, -, -⟩ := Kd.R_reads ho
       go_roundg 0
       case measure => omega
       case rel => exact ⟨2, A8, c8, by omega, by omega, by go_num, rfl, ⟨ho⟩, HB8⟩
     · have ho := HK7.out
       have e2 : partC a b 2 = a ++ b := by simp [partC]
       rw [e2] at ho
       have HO := Aside0.mk ho
       clear ho
       go_wp2
       go_ret
       exact ⟨_, rfl, by rw [e2]; exact HO.out, HB7.out⟩
end Go.Proofs.Ythbajahklnpkcaa.PA

namespace Go.Proofs.Ythbajahklnpkcaa.PA
set_option autoImplicit false
set_option linter.unusedVariables false
set_option linter.unusedSimpArgs false
abbrev Sp := Int × Int
abbrev Bd := Int × Int × List Sp
def addR (acc : List Sp) (u v : Int) (t : Bool) : List Sp :=
 if t = true then
  match acc with
  | (a, b) :: r => if b = u then (a, v) :: r else (u, v) :: (a, b) :: r
  | [] => [(u, v)]
 else acc
def unitR (p : Int → Bool) : Nat → Int → List Sp → List Sp
 | 0, _, acc => acc
 | n + 1, u, acc => unitR p n (u + 1) (addR acc u (u + 1) (p u))
def addB (acc : List Bd) (u v : Int) (s : List Sp) : List Bd :=
 match s with
 | [] => acc
 | _ :: _ =>
  match acc with
  | (a, b, t) :: r => if b = u ∧ t = s then (a, v, t) :: r else (u, v, s) :: (a, b, t) :: r
  | [] => [(u, v, s)]
def unitB (f : Int → List Sp) : Nat → Int → List Bd → List Bd
 | 0, _, acc => acc
 | n + 1, u, acc => unitB f n (u + 1) (addB acc u (u + 1) (f u))
def rows (P : Int → Int → Bool) (M : Nat) (y : Int) : List Sp := (unitR (fun x => P x y) (2 * M) (-(M : Int)) []).reverse
def form (P : Int → Int → Bool) (M : Nat) : List Bd := unitB (rows P M) (2 * M) (-(M : Int)) []
def addP (acc : List Bd) (u v : Int) (s : List Sp) : List Bd :=
 match acc with
 | (a, b, t) :: r => if b = u ∧ t = s then (a, v, t) :: r else (u, v, s) :: (a, b, t) :: r
 | [] => [(u, v, s)]
def keep (acc : List Bd) : List Bd := acc.filter fun b => !b.2.2.isEmpty
theorem gap {xs : List Int} (hp : xs.Pairwise (· < ·)) : ∀ {pre : List Int} {u v : Int} {r : List Int}, xs = pre ++ u :: v :: r → ∀ z ∈ xs, z ≤ u ∨ v ≤ z := by
 intro pre u v r e z hz
 subst e
 rw [List.pairwise_append] at hp
 obtain ⟨_, h2, h3⟩ := hp
 rw [List.pairwise_cons] at h2
 rcases List.mem_append.mp hz with hz | hz
 · have := h3 z hz u (by simp); omega
 · rcases List.mem_cons.mp hz with rfl | hz
   · omega
   · rcases List.mem_cons.mp hz with rfl | hz
     · omega
     · have := (List.pairwise_cons.mp h2.2).1 z hz; omega
def stepR (p : Int → Bool) (xs : List Int) (acc : List Sp) (k : Nat) : List Sp := addR acc (xs.getD k 0) (xs.getD (k + 1) 0) (p (xs.getD k 0))
def rowN (p : Int → Bool) (xs : List Int) (n : Nat) : List Sp := (List.range n).foldl (stepR p xs) []
theorem rowN_succ (p : Int → Bool) (xs : List Int) (n : Nat) : rowN p xs (n + 1) = stepR p xs (rowN p xs n) n := by simp [rowN, List.range_succ]
theorem addR_len (acc : List Sp) (u v : Int) (t : Bool) : (addR acc u v t).length ≤ acc.length + 1 := by
 cases t
 · simp [addR]
 · cases acc with
   | nil => simp [addR]
   | cons h r => obtain ⟨a, b⟩ := h; by_cases hb : b = u <;> simp [addR, hb]
theorem rowN_len (p : Int → Bool) (xs : List Int) : ∀ n : Nat, (rowN p xs n).length ≤ n
 | 0 => by simp [rowN]
 | n + 1 => by rw [rowN_succ]; exact Nat.le_trans (addR_len _ _ _ _) (by have := rowN_len p xs n; omega)
def bdN (f : Int → List Sp) (ys : List Int) (n : Nat) : List Bd := (List.range n).map fun i => (ys.getD i 0, ys.getD (i + 1) 0, f (ys.getD i 0))
theorem bdN_succ (f : Int → List Sp) (ys : List Int) (n : Nat) : bdN f ys (n + 1) = bdN f ys n ++ [(ys.getD n 0, ys.getD (n + 1) 0, f (ys.getD n 0))] := by simp [bdN, List.range_succ]
theorem bdN_len (f : Int → List Sp) (ys : List Int) (n : Nat) : (bdN f ys n).length = n := by simp [bdN]
theorem bdN_pre (f : Int → List Sp) (ys : List Int) {i n : Nat} (h : i < n) : ∃ rest, bdN f ys i ++ (ys.getD i 0, ys.getD (i + 1) 0, f (ys.getD i 0)) :: rest = bdN f ys n := by
 refine ⟨(bdN f ys n).drop (i + 1), ?_⟩
 have e : bdN f ys (i + 1) = (bdN f ys n).take (i + 1) := by
  simp only [bdN, ← List.map_take, List.take_range]
  rw [Nat.min_eq_left (by omega)]
 have : bdN f ys i ++ (ys.getD i 0, ys.getD (i + 1) 0, f (ys.getD i 0)) :: (bdN f ys n).drop (i + 1) = bdN f ys (i + 1) ++ (bdN f ys n).drop (i + 1) := by rw [bdN_succ]; simp
 rw [this, e, List.take_append_drop]
def accP (l : List Bd) : List Bd := l.foldl (fun acc x => addP acc x.1 x.2.1 x.2.2) []
theorem accP_snoc (l : List Bd) (x : Bd) : accP (l ++ [x]) = addP (accP l) x.1 x.2.1 x.2.2 := by simp [accP]
theorem addP_len (acc : List Bd) (u v : Int) (s : List Sp) : (addP acc u v s).length ≤ acc.length + 1 := by
 cases acc with
 | nil => simp [addP]
 | cons h r => obtain ⟨a, b, t⟩ := h; by_cases hb : b = u ∧ t = s <;> simp [addP, hb]
theorem accP_len (l : List Bd) : (accP l).length ≤ l.length := by
 have : ∀ (l : List Bd) (acc : List Bd), (l.foldl (fun acc x => addP acc x.1 x.2.1 x.2.2) acc).length ≤ acc.length + l.length := by
  intro l
  induction l with
  | nil => intro acc; simp
  | cons x l ih =>
   intro acc
   have h1 := ih (addP acc x.1 x.2.1 x.2.2)
   have h2 := addP_len acc x.1 x.2.1 x.2.2
   simp only [List.foldl_cons, List.length_cons]
   omega
 have := this l []
 simpa [accP] using this
def spansOf (is : Bool → Bool → Bool) (a b : List S43) (xs : List Int) (y : Int) : List Sp := (rowN (fun x => is (covL a x y) (covL b x y)) xs (xs.length - 1)).reverse
def bandsOf (is : Bool → Bool → Bool) (a b : List S43) (xs ys : List Int) : List Bd := bdN (spansOf is a b xs) ys (ys.length - 1)
end Go.Proofs.Ythbajahklnpkcaa.PA

namespace Go.Proofs.Ythbajahklnpkcaa.PA
open Go.RowKit Go.Shelf Go.Sort Go.Proofs.YthbajahklnpkcaaW.PrintWords Go.Proofs.YthbajahklnpkcaaW.PrintLast Go.Proofs.YthbajahklnpkcaaW.PrintMore
set_option linter.unusedVariables false
set_option linter.unusedSimpArgs false
theorem info145 : (Try.prog.info? 145).map (fun i => (i.zero, i.size, i.bytes)) = some (some (.agg #[(.int .i64 0), (.int .i64 0)]), 2, 16) := by kernel_rfl
theorem info142 : (Try.prog.info? 142).map (fun i => (i.zero, i.size, i.bytes)) = some (some (.agg #[(.int .i64 0), (.int .i64 0), .slice none 0 0]), 3, 40) := by kernel_rfl
theorem news2 (W : World) (g : Nat) (a b : Value) (t : TypeId) (h : W.heap[g]? = some (.cells #[a, b] t (0, 0))) : ∀ j u, [a, b][j]? = some u → W.cell? ((⟨g, 0, none⟩ : Addr).add j) = some u := by
 intro j u hj
 have HB : Blk W g #[a, b] t := h
 match j, hj with
 | 0, h => simp at h; subst h; exact HB.cell 0 rfl
 | 1, h => simp at h; subst h; exact HB.cell 1 rfl
 | j + 2, h => simp at h
theorem own_cell {W : World} {base g cap n size : Nat} {e : TypeId} {xs : List Value} (h : W.ownsRow base e size (.slice (some ⟨g, 0, none⟩) n cap) n xs) {j : Nat} {u : Value} (hu : xs[j]? = some u) : W.cell? ⟨g, j, none⟩ = some u ∧ W.frozen? ⟨g, j, none⟩ = false := by
 rcases h.2 with ⟨e, _⟩ | ⟨g', cap', cur, e, _, hgb, hn, _, hcs, ht⟩
 · cases e
 cases e
 have hj : j < xs.length := (List.getElem?_eq_some_iff.1 hu).1
 have hl := h.1
 have hc : cur[j]? = some u := by
  have h1 : (cur.toList.take (n * size))[j]? = some u := by rw [ht]; exact hu
  rw [List.getElem?_take, if_pos (by omega)] at h1
  simpa using h1
 exact ⟨by simp [World.cell?, hgb, hc], by simp [World.frozen?, hgb]⟩
theorem own_some {W : World} {base n size : Nat} {e : TypeId} {A : Option Addr} {c : Nat} {xs : List Value} (h : W.ownsRow base e size (.slice A n c) n xs) (hn : 0 < n) : ∃ g, A = some ⟨g, 0, none⟩ := by
 rcases h.2 with ⟨e, h0⟩ | ⟨g', cap', cur, e, _⟩
 · omega
 · cases e; exact ⟨g', rfl⟩
theorem own_set {W : World} {base g cap n size : Nat} {e : TypeId} {xs : List Value} (h : W.ownsRow base e size (.slice (some ⟨g, 0, none⟩) n cap) n xs) (i : Nat) (u : Value) : (W.setCell ⟨g, i, none⟩ u).ownsRow base e size (.slice (some ⟨g, 0, none⟩) n cap) n (xs.set i u) := by
 rcases h.2 with ⟨e, _⟩ | ⟨g', cap', cur, e, hb, hgb, hn, hm, hcs, ht⟩
 · cases e
 cases e
 refine ⟨by simpa using h.1, .inr ⟨g, cap, cur.setIfInBounds i u, rfl, hb, ?_, hn, hm, by simpa using hcs, ?_⟩⟩
 · simp [World.setCell, Array.getElem?_modify, hgb]
 · rw [← ht, Array.toList_setIfInBounds, List.take_set]
theorem ints_get {xs : List Int} {i : Nat} (h : i < xs.length) : (ints xs)[i]? = some (.int .i64 (xs.getD i 0)) := by
 simp [ints, List.getElem?_eq_getElem h, h]
def fl145 (l : List Sp) : List Value := l.flatMap fun s => [.int .i64 s.1, .int .i64 s.2]
theorem fl145_len (l : List Sp) : (fl145 l).length = l.length * 2 := by
 induction l with
 | nil => rfl
 | cons s l ih =>
  have e : fl145 (s :: l) = .int .i64 s.1 :: .int .i64 s.2 :: fl145 l := rfl
  rw [e, List.length_cons, List.length_cons, ih, List.length_cons]; omega
theorem fl145_snoc (l : List Sp) (s : Sp) : fl145 (l ++ [s]) = fl145 l ++ [.int .i64 s.1, .int .i64 s.2] := by simp [fl145]
theorem fl145_last (l : List Sp) (s : Sp) : (fl145 (l ++ [s]))[l.length * 2 + 1]? = some (.int .i64 s.2) := by
 rw [fl145_snoc, List.getElem?_append_right (by rw [fl145_len]; omega), fl145_len, show l.length * 2 + 1 - l.length * 2 = 1 by omega]
 rfl
theorem fl145_set (l : List Sp) (s : Sp) (v : Int) : (fl145 (l ++ [s])).set (l.length * 2 + 1) (.int .i64 v) = fl145 (l ++ [(s.1, v)]) := by
 rw [fl145_snoc, fl145_snoc, List.set_append_right _ _ (by rw [fl145_len]; omega), fl145_len, show l.length * 2 + 1 - l.length * 2 = 1 by omega]
 rfl
def IsB (gi : Nat) (is : Bool → Bool → Bool) : Prop := ∀ (W : World) (p q : Bool), Calls Try.prog gi #[.bool p, .bool q] W fun e w' => e = .returned (.bool (is p q)) ∧ Below W.heap.size W w'
structure EnvAt (A B : Option Addr) (cA cB : Nat) (a b : List S43) (gi : Nat) (xs ys : List Int) (X Y : Option Addr) (cX cY : Nat) (pa pb pf px py base : Nat) (W : World) : Prop where
 ba : Boxed W pa 22 (.slice A a.length cA)
 bb : Boxed W pb 22 (.slice B b.length cB)
 bf : Boxed W pf 75 (.func (.func gi) #[] #[])
 bx : Boxed W px 32 (.slice X xs.length cX)
 by_ : Boxed W py 32 (.slice Y ys.length cY)
 rx : W.ownsRow base 3 1 (.slice X xs.length cX) xs.length (ints xs)
 ry : W.ownsRow base 3 1 (.slice Y ys.length cY) ys.length (ints ys)
 ca : Kd.C k43 W A a.length a
 cb : Kd.C k43 W B b.length b
section
variable {A B : Option Addr} {cA cB : Nat} {a b : List S43} {gi : Nat} {xs ys : List Int} {X Y : Option Addr} {cX cY pa pb pf px py base : Nat} {W W' : World}
theorem box_bel {k : Nat} {t : TypeId} {v : Value} (h : Boxed W k t v) (hb : Below W.heap.size W W') : Boxed W' k t v := (hb.block k h.lt).trans h
theorem EnvAt.bel (h : EnvAt A B cA cB a b gi xs ys X Y cX cY pa pb pf px py base W) (hb : Below W.heap.size W W') : EnvAt A B cA cB a b gi xs ys X Y cX cY pa pb pf px py base W' :=
 ⟨box_bel h.ba hb, box_bel h.bb hb, box_bel h.bf hb, box_bel h.bx hb, box_bel h.by_ hb, row_bel h.rx hb, row_bel h.ry hb, Kd.C_below h.ca hb, Kd.C_below h.cb hb⟩
end
def KtN (N bl : Nat) (P Q : World) : Prop := P.heap.size ≤ Q.heap.size ∧ ∀ (k : Nat) (o : Obj), k < N → k ≠ bl → P.heap[k]? = some o → o.isCells = true → Q.heap[k]? = some o
def TiB (P Q : World) : Prop := Below P.heap.size P Q
theorem C43_keep {w W : World} {A : Option Addr} {n : Nat} {l : List S43} (h : Kd.C k43 w A n l) (hk : ∀ (k : Nat) (o : Obj), w.heap[k]? = some o → o.isCells = true → W.heap[k]? = some o) : Kd.C k43 W A n l := by
 obtain ⟨h1, h2, h3⟩ := h
 refine ⟨h1, h2, fun h0 => ?_⟩
 obtain ⟨ad, e, hc⟩ := h3 h0
 refine ⟨ad, e, fun j p hp => ?_⟩
 obtain ⟨c, hl, hK, hcell⟩ := hc j p hp
 refine ⟨c, hl, hK, fun i u hu => ?_⟩
 have h4 := hcell i u hu
 obtain ⟨o, ho, hco⟩ := cells_of_cell h4
 rw [World.cell?_of_block ((hk _ _ ho hco).trans ho.symm)]
 exact h4
theorem EnvAt.keep {A B : Option Addr} {cA cB : Nat} {a b : List S43} {gi : Nat} {xs ys : List Int} {X Y : Option Addr} {cX cY pa pb pf px py N bl : Nat} {w0 w W : World} (h : EnvAt A B cA cB a b gi xs ys X Y cX cY pa pb pf px py (bl + 1) w)
 (hN : N = w.heap.size) (hbl : bl = w0.heap.size) (hb0 : Below w0.heap.size w0 w) (hca : Kd.C k43 w0 A a.length a) (hcb : Kd.C k43 w0 B b.length b)
 (la : bl < pa) (lb : bl < pb) (lf : bl < pf) (lx : bl < px) (ly : bl < py) (hk : KtN N bl w W) : EnvAt A B cA cB a b gi xs ys X Y cX cY pa pb pf px py (bl + 1) W := by
 have hbx : ∀ {k : Nat} {t : TypeId} {v : Value}, Boxed w k t v → bl < k → Boxed W k t v := fun hb hlt => hk.2 _ _ (by rw [hN]; exact hb.lt) (by omega) hb rfl
 have hrow : ∀ {v : Value} {n : Nat} {zs : List Value}, w.ownsRow (bl + 1) 3 1 v n zs → W.ownsRow (bl + 1) 3 1 v n zs := by
  intro v n zs hr
  refine row_same hr (fun k hkk => ?_)
  have h1 := row_bl hr hkk
  obtain ⟨cells, hc⟩ := own_typed hr k hkk
  rw [hc]
  exact hk.2 k _ (by rw [hN]; exact h1.2) (by omega) hc rfl
 have hc0 : ∀ (k : Nat) (o : Obj), w0.heap[k]? = some o → o.isCells = true → W.heap[k]? = some o := by
  intro k o ho hco
  have hlt : k < w0.heap.size := (Array.getElem?_eq_some_iff.1 ho).1
  exact hk.2 k o (by rw [hN]; exact Nat.lt_of_lt_of_le hlt hb0.size) (by omega) ((hb0.block k hlt).trans ho) hco
 exact ⟨hbx h.ba la, hbx h.bb lb, hbx h.bf lf, hbx h.bx lx, hbx h.by_ ly, hrow h.rx, hrow h.ry, C43_keep hca hc0, C43_keep hcb hc0⟩
theorem ktN_trans {N bl : Nat} {P Q R : World} (h : KtN N bl P Q) (h' : KtN N bl Q R) : KtN N bl P R := ⟨Nat.le_trans h.1 h'.1, fun k o h1 h2 h3 h4 => h'.2 k o h1 h2 (h.2 k o h1 h2 h3 h4) h4⟩
theorem ktN_bel {N bl : Nat} {P Q : World} (h : Below P.heap.size P Q) : KtN N bl P Q := ⟨h.size, fun k o _ _ ho _ => (h.block k (Array.getElem?_eq_some_iff.1 ho).1).trans ho⟩
end Go.Proofs.Ythbajahklnpkcaa.PA

namespace Go.Proofs.Ythbajahklnpkcaa.PA
open Go.RowKit Go.Shelf Go.Sort Go.Proofs.YthbajahklnpkcaaW.PrintWords Go.Proofs.YthbajahklnpkcaaW.PrintLast Go.Proofs.YthbajahklnpkcaaW.PrintMore
set_option linter.unusedVariables false
set_option linter.unusedSimpArgs false
def EncB (base : Nat) (W : World) (x : Bd) (args : Array Value) : Prop := ∃ v, args = #[.agg #[.int .i64 x.1, .int .i64 x.2.1, v]] ∧ W.ownsRow base 145 2 v x.2.2.length (fl145 x.2.2)
def intOf : Value → Int
 | .int _ x => x
 | _ => 0
theorem max_zero (k k' : IntKind) (n : Nat) : Builtin.max2 (.int k 0) (.int k' ((n : Int) - 1)) = pure (.int k ((n - 1 : Nat) : Int)) := by
 simp only [Builtin.max2, gt_iff_lt]
 have : (if (0 : Int) < (n : Int) - 1 then (n : Int) - 1 else 0) = ((n - 1 : Nat) : Int) := by split <;> omega
 rw [this]
attribute [local go_sem] max_zero max_two
set_option maxRecDepth 100000 in
set_option maxHeartbeats 8000000 in
theorem bands3_it (m : Nat) (is : Bool → Bool → Bool) (gi : Nat) (eg : ∀ args w, (callFunc gi args).run Try.prog w = .ok (.enter gi args) w) (his : IsB gi is)
 (A B : Option Addr) (cA cB : Nat) (a b : List S43) (xs ys : List Int) (X Y : Option Addr) (cX cY pa pb pf px py N bl : Nat) (w0 w : World)
 (hlx : xs.length ≤ 1000000) (hly : ys.length ≤ 1000000)
 (env : EnvAt A B cA cB a b gi xs ys X Y cX cY pa pb pf px py (bl + 1) w)
 (hN : N = w.heap.size) (hbl : bl = w0.heap.size) (hb0 : Below w0.heap.size w0 w) (hca : Kd.C k43 w0 A a.length a) (hcb : Kd.C k43 w0 B b.length b)
 (la : bl < pa) (lb : bl < pb) (lf : bl < pf) (lx : bl < px) (ly : bl < py) :
 IterQ Fence.wide m Try.prog 141 #[.pointer (some ⟨py, 0, none⟩), .pointer (some ⟨px, 0, none⟩), .pointer (some ⟨pf, 0, none⟩), .pointer (some ⟨pa, 0, none⟩), .pointer (some ⟨pb, 0, none⟩)] (EncB N) (bandsOf is a b xs ys) (KtN N bl) TiB w := by
 intro l J W hK hT hY h0
 have KEEP := Aside0.mk (fun W' (hk : KtN N bl w W') => EnvAt.keep env hN hbl hb0 hca hcb la lb lf lx ly hk)
 have HN := Aside0.mk (show ∀ W', KtN N bl w W' → N ≤ W'.heap.size from fun W' hk => hN ▸ hk.1)
 clear env hca hcb
 have HK := Aside0.mk hK
 clear hK
 have HE := Aside0.mk (KEEP.out W HK.out)
 have cy := HE.out.by_.cell
 have cx := HE.out.bx.cell
 refine callsIn_wide.2 ?_
 go_enter Try.func141, Try.ntmps141
 go_wp2
 go_loopw [7, 8, 9, 10, 15] (fun s7 s8 s9 s10 s15 wr => ∃ i : Nat, i ≤ ys.length - 1 ∧ s15 = .int .i64 i ∧ J (bdN (spansOf is a b xs) ys i) wr ∧ Aside0 (KtN N bl w wr))
  (fun s7 s8 s9 s10 s15 wr => ys.length - (intOf s15).toNat)
 case atStart => exact ⟨0, Nat.zero_le _, rfl, h0, HK⟩
 case round =>
  obtain ⟨wo, hwo⟩ : ∃ wo, wo = wr := ⟨_, rfl⟩
  subst hwo
  obtain ⟨i, hi, rfl, hJ, HKr⟩ := hrel
  have HEr := Aside0.mk (KEEP.out wo HKr.out)
  by_cases hlt : i < ys.length - 1
  · have hltz : (i : Int) < ((ys.length - 1 : Nat) : Int) := by omega
    obtain ⟨gy, hgy⟩ := own_some HEr.out.ry (by omega)
    subst hgy
    have cyr := HEr.out.by_.cell
    have y0 := (own_cell HEr.out.ry (ints_get (show i < ys.length by omega))).1
    have y1 := (own_cell HEr.out.ry (ints_get (show i + 1 < ys.length by omega))).1
    have b0 : (0 : Int) ≤ (i : Int) := by omega
    have b1 : (i : Int) < (ys.length : Int) := by omega
    have b2 : (0 : Int) ≤ (i : Int) + 1 := by omega
    have b3 : (i : Int) + 1 < (ys.length : Int) := by omega
    have hwi : IntKind.i64.wrap ((i : Int) + 1) = (i : Int) + 1 := (i64_w _).trans (w64 (by omega) (by omega))
    have ly0 : py < wo.heap.size := HEr.out.by_.lt
    have ly1 : gy < wo.heap.size := World.block_lt_of_cell? _ _ y0
    have hxn := bdN_succ (spansOf is a b xs) ys i
    have hpre := bdN_pre (spansOf is a b xs) ys (show i < ys.length - 1 from hlt)
    generalize hu : ys.getD i 0 = u at y0 hxn hpre
    generalize hv : ys.getD (i + 1) 0 = v at y1 hxn hpre
    have HXN := Aside0.mk hxn
    have HPRE := Aside0.mk hpre
    have HU := Aside0.mk hu
    have HV := Aside0.mk hv
    clear hxn hpre hu hv
    go_wp2
    go_region_held3 (fun w' => w'.cell? ⟨py, 0, none⟩ = some (.slice (some ⟨gy, 0, none⟩) ys.length cY) ∧ w'.cell? ⟨gy, i, none⟩ = some (.int .i64 u) ∧ w'.cell? ⟨gy, i + 1, none⟩ = some (.int .i64 v)) (simp [go_sem, World.cell?_alloc_past, *]) (fail)
    have HX1 := (Blk.new wo #[.int .i64 u, .int .i64 v, .slice none 0 0] 142).drew
    have hB1 : Below wo.heap.size wo (wo.alloc (.cells #[.int .i64 u, .int .i64 v, .slice none 0 0] 142)).drew := below_drew1 ((Below.refl _ wo).alloc (Nat.le_refl _) _)
    generalize hw1 : (wo.alloc (.cells #[.int .i64 u, .int .i64 v, .slice none 0 0] 142)).drew = w1 at HX1 hB1 ⊢
    clear hw1 y0 y1 cyr b2 b3 hwi
    have HB1 := Aside0.mk hB1
    have HX1 := Aside0.mk HX1
    clear hB1
    have HE1 := Aside0.mk (HEr.out.bel HB1.out)
    have cx1 := HE1.out.bx.cell
    obtain ⟨p, hp⟩ : ∃ p : Int → Bool, p = fun x => is (covL a x u) (covL b x u) := ⟨_, rfl⟩
    have HSP : Aside0 (spansOf is a b xs u = (rowN p xs (xs.length - 1)).reverse) := ⟨by rw [hp]; rfl⟩
    have HP := Aside0.mk hp
    clear hp
    go_wp2
    go_loopw [9, 10, 32] (fun s9 s10 s32 w7 => ∃ (k : Nat) (A7 : Option Addr) (c7 : Nat), k ≤ xs.length - 1 ∧ s32 = .int .i64 k ∧ Aside0 (Below wo.heap.size wo w7) ∧ Aside0 (Blk w7 wo.heap.size #[.int .i64 u, .int .i64 v, .slice A7 (rowN p xs k).length c7] 142) ∧ Aside0 (w7.ownsRow (wo.heap.size + 1) 145 2 (.slice A7 (rowN p xs k).length c7) (rowN p xs k).length (fl145 (rowN p xs k).reverse)))
     (fun s9 s10 s32 w7 => xs.length - (intOf s32).toNat)
    case atStart => exact ⟨0, none, 0, Nat.zero_le _, rfl, HB1, HX1, ⟨World.ownsRow_nil _ _ _ _⟩⟩
    case round =>
     obtain ⟨k, A7, c7, hk, rfl, HB7, HX7, HO7⟩ := hrel
     have HE7 := Aside0.mk (HEr.out.bel HB7.out)
     have hs7 := HB7.out.size
     by_cases hlt2 : k < xs.length - 1
     · have hltz2 : (k : Int) < ((xs.length - 1 : Nat) : Int) := by omega
       obtain ⟨gx, hgx⟩ := own_some HE7.out.rx (by omega)
       subst hgx
       have cf7 := HE7.out.bf.cell
       have ca7 := HE7.out.ba.cell
       have cb7 := HE7.out.bb.cell
       have cx7 := HE7.out.bx.cell
       have cy7 := HE7.out.by_.cell
       have x0 := (own_cell HE7.out.rx (ints_get (show k < xs.length by omega))).1
       have y0 := (own_cell HE7.out.ry (ints_get (show i < ys.length by omega))).1
       rw [HU.out] at y0
       have e1 : (0 : Int) ≤ (k : Int) := by omega
       have e2 : (k : Int) < (xs.length : Int) := by omega
       have e3 : (0 : Int) ≤ (i : Int) := by omega
       have e4 : (i : Int) < (ys.length : Int) := by omega
       have hpk := HP.out
       have hst := rowN_succ p xs k
       unfold stepR at hst
       generalize hx0 : xs.getD k 0 = x0v at x0 hst
       have hpv : p x0v = is (covL a x0v u) (covL b x0v u) := by rw [hpk]
       have HST := Aside0.mk hst
       have HCa := fun W' (hb : Below wr.heap.size wr W') => Lib.hid ((covers_calls A cA a x0v u W' (Kd.C_below HE7.out.ca hb)).mono (fun e w' (h : _ ∧ _) => And.intro h.1 (hb.trans (h.2.mono hb.size))))
       have HCb := fun W' (hb : Below wr.heap.size wr W') => Lib.hid ((covers_calls B cB b x0v u W' (Kd.C_below HE7.out.cb hb)).mono (fun e w' (h : _ ∧ _) => And.intro h.1 (hb.trans (h.2.mono hb.size))))
       generalize covL a x0v u = q1 at HCa hpv
       generalize covL b x0v u = q2 at HCb hpv
       have HIs := fun W' (hb : Below wr.heap.size wr W') => Lib.hid ((his W' q1 q2).mono (fun e w' (h : _ ∧ _) => And.intro h.1 (hb.trans (h.2.mono hb.size))))
       clear hst hpk hx0
       rw [← hpv] at HIs
       clear hpv
       go_wp2
       have HC7 : ∀ w', Below wr.heap.size wr w' → w'.cell? ⟨pf, 0, none⟩ = some (.func (.func gi) #[] #[]) ∧ w'.cell? ⟨pa, 0, none⟩ = some (.slice A a.length cA) ∧ w'.cell? ⟨pb, 0, none⟩ = some (.slice B b.length cB) ∧ w'.cell? ⟨px, 0, none⟩ = some (.slice (some ⟨gx, 0, none⟩) xs.length cX) ∧ w'.cell? ⟨py, 0, none⟩ = some (.slice (some ⟨gy, 0, none⟩) ys.length cY) ∧ w'.cell? ⟨gx, k, none⟩ = some (.int .i64 x0v) ∧ w'.cell? ⟨gy, i, none⟩ = some (.int .i64 u) := by
        intro W' hb
        have hq : ∀ (n o : Nat) (v : Value), wr.cell? ⟨n, o, none⟩ = some v → W'.cell? ⟨n, o, none⟩ = some v := fun n o v h => (hb.cell (p := ⟨n, o, none⟩) (World.block_lt_of_cell? _ _ h)).trans h
        exact ⟨hq _ _ _ cf7, hq _ _ _ ca7, hq _ _ _ cb7, hq _ _ _ cx7, hq _ _ _ cy7, hq _ _ _ x0, hq _ _ _ y0⟩
       go_region_held3 (fun w' => w'.cell? ⟨pf, 0, none⟩ = some (.func (.func gi) #[] #[]) ∧ w'.cell? ⟨pa, 0, none⟩ = some (.slice A a.length cA) ∧ w'.cell? ⟨pb, 0, none⟩ = some (.slice B b.length cB) ∧ w'.cell? ⟨px, 0, none⟩ = some (.slice (some ⟨gx, 0, none⟩) xs.length cX) ∧ w'.cell? ⟨py, 0, none⟩ = some (.slice (some ⟨gy, 0, none⟩) ys.length cY) ∧ w'.cell? ⟨gx, k, none⟩ = some (.int .i64 x0v) ∧ w'.cell? ⟨gy, i, none⟩ = some (.int .i64 u)) (first | exact HC7 _ (below_drew1 (Below.refl _ _)) | exact HC7 _ h3b | exact HC7 _ h2b | exact HC7 _ h1b)
        (first
         | (go_at_call 77; first
          | (refine (HCa _ ?hb).out.mono ?_; (case hb => first | exact h2b | exact below_drew1 (Below.refl _ _) | exact Below.refl _ _); rintro e w' ⟨rfl, h1b⟩)
          | (refine (HCb _ ?hb).out.mono ?_; (case hb => first | exact h1b | exact below_drew1 (Below.refl _ _) | exact Below.refl _ _); rintro e w' ⟨rfl, h2b⟩))
         | (go_at_fn gi; refine (HIs _ ?hb).out.mono ?_; (case hb => first | exact h2b | exact h1b); rintro e w' ⟨rfl, h3b⟩))
       all_goals
        have HB9 := Aside0.mk (HB7.out.trans (h3b.mono hs7))
        have HX9 := Aside0.mk (HX7.out.below_ h3b)
        have HO9 := Aside0.mk (row_bel HO7.out h3b)
        have hgx := (h3b.cell (p := ⟨gx, k, none⟩) (World.block_lt_of_cell? _ _ x0)).trans x0
        have HE9 := Aside0.mk (HE7.out.bel h3b)
        clear h1b h2b h3b cf7 ca7 cb7 cx7 cy7 x0 y0 HC7 HCa HCb HIs HX7 HO7 HE7 HB7
        generalize p x0v = t at HST ⊢
        cases t with
        | false =>
         have hs := HST.out
         simp only [addR, Bool.false_eq_true, if_false] at hs
         go_wp2
         go_roundw
         case rel => exact ⟨k + 1, A7, c7, by omega, by go_num, HB9, by rw [hs]; exact HX9, by rw [hs]; exact HO9⟩
         case measure => simp [intOf]; omega
        | true =>
         have x1 := (own_cell HE9.out.rx (ints_get (show k + 1 < xs.length by omega))).1
         have cx9 := HE9.out.bx.cell
         have e5 : (0 : Int) ≤ (k : Int) + 1 := by omega
         have e6 : (k : Int) + 1 < (xs.length : Int) := by omega
         have hwk : IntKind.i64.wrap ((k : Int) + 1) = (k : Int) + 1 := (i64_w _).trans (w64 (by omega) (by omega))
         have lx9 := HE9.out.bx.lt
         have lg9 := World.block_lt_of_cell? _ _ x1
         have hs := HST.out
         generalize hx1 : xs.getD (k + 1) 0 = x1v at x1 hs
         have HS := Aside0.mk hs
         clear hs HST
         generalize hacc : rowN p xs k = acc at HX9 HO9 HS
         obtain ⟨nn, hnn⟩ : ∃ nn, acc.length = nn := ⟨_, rfl⟩
         obtain ⟨fs, hfs⟩ : ∃ fs, fl145 acc.reverse = fs := ⟨_, rfl⟩
         rw [hnn] at HX9 HO9
         rw [hfs] at HO9
         have z2 := HX9.out.cell 2 (v := .slice A7 nn c7) rfl
         have f2 := HX9.out.frozen 2
         have hal : nn ≤ 1000000 := by
          rw [← hnn, ← hacc]
          exact Nat.le_trans (rowN_len p xs k) (by omega)
         have HF := Aside0.mk hfs
         have HNN := Aside0.mk hnn
         clear hx1 hacc hfs hnn
         have hs9 := HB9.out.size
         obtain ⟨i5, hi5, hz50, hz51, hz52⟩ := info_parts info145
         have h63 : nn + 1 ≤ maxLen := by unfold maxLen; omega
         have hbytes : (nn + 1) * 16 ≤ 140737488355328 := by omega
         have hone : ∀ u ∈ [Value.int .i64 x0v, Value.int .i64 x1v], u.oneCell' = true := by intro u hu; simp only [List.mem_cons, List.not_mem_nil, or_false] at hu; rcases hu with rfl | rfl <;> rfl
         have lxo : wo.heap.size < w'.heap.size := HX9.out.lt
         have lgo : gx < wo.heap.size := (row_bl HEr.out.rx (k := gx) rfl).2
         have lpo : px < wo.heap.size := HEr.out.bx.lt
         have HC4 : ∀ W', Below w'.heap.size w' W' → W'.cell? ⟨px, 0, none⟩ = some (.slice (some ⟨gx, 0, none⟩) xs.length cX) ∧ W'.cell? ⟨gx, k, none⟩ = some (.int .i64 x0v) ∧ W'.cell? ⟨gx, k + 1, none⟩ = some (.int .i64 x1v) := by
          intro W' hb
          have hq : ∀ (n o : Nat) (v : Value), w'.cell? ⟨n, o, none⟩ = some v → W'.cell? ⟨n, o, none⟩ = some v := fun n o v h => (hb.cell (p := ⟨n, o, none⟩) (World.block_lt_of_cell? _ _ h)).trans h
          exact ⟨hq _ _ _ cx9, hq _ _ _ hgx, hq _ _ _ x1⟩
         have HG4 : ∀ W1 W', Below w'.heap.size w' W1 → W1.grownBy W' (Value.slice A7 nn c7).ownBlock → W'.cell? ⟨px, 0, none⟩ = some (.slice (some ⟨gx, 0, none⟩) xs.length cX) ∧ W'.cell? ⟨gx, k, none⟩ = some (.int .i64 x0v) ∧ W'.cell? ⟨gx, k + 1, none⟩ = some (.int .i64 x1v) := by
          intro W1 W' hb hg
          obtain ⟨j2, j3, j4⟩ := HC4 W1 hb
          have hne : ∀ n : Nat, n ≤ wo.heap.size → some n ≠ (Value.slice A7 nn c7).ownBlock := fun n hn e => by have := (row_bl HO9.out e.symm).1; omega
          have hq : ∀ (n o : Nat) (v : Value), n ≤ wo.heap.size → W1.cell? ⟨n, o, none⟩ = some v → W'.cell? ⟨n, o, none⟩ = some v := fun n o v hn h => (World.cell?_of_block (hg.block n (World.block_lt_of_cell? _ _ h) (hne n hn))).trans h
          exact ⟨hq _ _ _ (by omega) j2, hq _ _ _ (by omega) j3, hq _ _ _ (by omega) j4⟩
         have HT4 : ∀ W1 W' vv, Below w'.heap.size w' W1 → W1.grownBy W' (Value.slice A7 nn c7).ownBlock → (W'.setCell ⟨wo.heap.size, 2, none⟩ vv).cell? ⟨px, 0, none⟩ = some (.slice (some ⟨gx, 0, none⟩) xs.length cX) ∧ (W'.setCell ⟨wo.heap.size, 2, none⟩ vv).cell? ⟨gx, k, none⟩ = some (.int .i64 x0v) ∧ (W'.setCell ⟨wo.heap.size, 2, none⟩ vv).cell? ⟨gx, k + 1, none⟩ = some (.int .i64 x1v) := by
          intro W1 W' vv hb hg
          obtain ⟨j2, j3, j4⟩ := HG4 W1 W' hb hg
          have hq : ∀ (n o : Nat) (v : Value), n < wo.heap.size → W'.cell? ⟨n, o, none⟩ = some v → (W'.setCell ⟨wo.heap.size, 2, none⟩ vv).cell? ⟨n, o, none⟩ = some v := fun n o v hn h => (World.cell?_of_block (Below.heap_setCell W' ⟨wo.heap.size, 2, none⟩ vv n (by simp; omega))).trans h
          exact ⟨hq _ _ _ lpo j2, hq _ _ _ lgo j3, hq _ _ _ lgo j4⟩
         have hz2 : ∀ n, (w'.drewN n).cell? ⟨wo.heap.size, 2, none⟩ = some (.slice A7 nn c7) := fun n => z2
         have hz3 : ∀ n o, ((w'.drewN n).alloc o).cell? ⟨wo.heap.size, 2, none⟩ = some (.slice A7 nn c7) := fun n o => (World.cell?_alloc_lt _ _ _ lxo).trans z2
         have HK4 : ∀ W1 W', Below w'.heap.size w' W1 → W1.grownBy W' (Value.slice A7 nn c7).ownBlock → Blk W' wo.heap.size #[.int .i64 u, .int .i64 v, .slice A7 nn c7] 142 := by
          intro W1 W' hb hg
          have hx := HX9.out.below hb lxo
          exact hx.same (hg.block _ hx.lt (fun e => by have := (row_bl HO9.out e.symm).1; omega))
         by_cases hn0 : nn = 0
         · subst hn0
           have hnil : acc = [] := List.length_eq_zero_iff.1 HNN.out
           go_wp2
           repeat (go_quiet (fail); try go_wp2)
           refine wp_region_held_drew (S := (fun W' => W'.cell? ⟨px, 0, none⟩ = some (.slice (some ⟨gx, 0, none⟩) xs.length cX) ∧ W'.cell? ⟨gx, k, none⟩ = some (.int .i64 x0v) ∧ W'.cell? ⟨gx, k + 1, none⟩ = some (.int .i64 x1v))) (by kernel_rfl) ?_ (fun hHeld => ?_)
           · try dsimp only
             first | exact HC4 _ (below_drew1 (Below.refl _ _)) | exact HC4 _ (below_drew1 (pw_below_drewN (Below.refl _ _) _)) | exact HC4 _ (pw_below_drewN (Below.refl _ _) _) | exact HC4 _ ((pw_below_drewN (Below.refl _ _) _).alloc (Nat.le_refl _) _) | exact HG4 _ _ ((pw_below_drewN (Below.refl _ _) _).alloc (Nat.le_refl _) _) hgrow5 | exact HT4 _ _ _ ((pw_below_drewN (Below.refl _ _) _).alloc (Nat.le_refl _) _) hgrow5
           refine wpAnyH_take (i := 0) (v := ?_) rfl (by kernel_rfl) (by kernel_rfl) (by kernel_rfl) (fun _ _ _ h => h) (Or.inl ⟨by rfl, ?_⟩) (by assumption) ?_
           rotate_left
           · intro w hSw
             try dsimp only at hSw
             first | (go_simp; done) | (go_simp; with_reducible rfl)
           try simp only [Act.put, List.setIfInBounds_toArray, List.set_cons_zero, List.set_cons_succ]
           refine wpAnyH_take (i := 2) (v := ?_) rfl (by kernel_rfl) (by kernel_rfl) (by kernel_rfl) (fun _ _ _ h => h) (Or.inl ⟨by rfl, ?_⟩) (by assumption) ?_
           rotate_left
           · intro w hSw
             try dsimp only at hSw
             first | (go_simp; done) | (go_simp; with_reducible rfl)
           try simp only [Act.put, List.setIfInBounds_toArray, List.set_cons_zero, List.set_cons_succ]
           refine wpAnyH_take (i := 3) (v := ?_) rfl (by kernel_rfl) (by kernel_rfl) (by kernel_rfl) (fun _ _ _ h => h) (Or.inl ⟨by rfl, ?_⟩) (by assumption) ?_
           rotate_left
           · intro w hSw
             try dsimp only at hSw
             first | (go_simp; done) | (go_simp; with_reducible rfl)
           try simp only [Act.put, List.setIfInBounds_toArray, List.set_cons_zero, List.set_cons_succ]
           refine wpAnyH_take (i := 4) (v := ?_) rfl (by kernel_rfl) (by kernel_rfl) (by kernel_rfl) (fun _ _ _ h => h) (Or.inl ⟨by rfl, ?_⟩) (by assumption) ?_
           rotate_left
           · intro w hSw
             try dsimp only at hSw
             first | (go_simp; done) | (go_simp; with_reducible rfl)
           try simp only [Act.put, List.setIfInBounds_toArray, List.set_cons_zero, List.set_cons_succ]
           refine wpAnyH_take (i := 5) (v := ?_) rfl (by kernel_rfl) (by kernel_rfl) (by kernel_rfl) (fun _ _ _ h => h) (Or.inl ⟨by rfl, ?_⟩) (by assumption) ?_
           rotate_left
           · intro w hSw
             try dsimp only at hSw
             first | (go_simp; done) | (go_simp; with_reducible rfl)
           try simp only [Act.put, List.setIfInBounds_toArray, List.set_cons_zero, List.set_cons_succ]
           refine wpAnyH_take (i := 6) (v := ?_) rfl (by kernel_rfl) (by kernel_rfl) (by kernel_rfl) (fun _ _ _ h => h) (Or.inl ⟨by rfl, ?_⟩) (by assumption) ?_
           rotate_left
           · intro w hSw
             try dsimp only at hSw
             first | (go_simp; done) | (go_simp; with_reducible rfl)
           try simp only [Act.put, List.setIfInBounds_toArray, List.set_cons_zero, List.set_cons_succ]
           refine wpAnyH_take (i := 7) (v := ?_) rfl (by kernel_rfl) (by kernel_rfl) (by kernel_rfl) (fun _ _ _ h => h) (Or.inl ⟨by rfl, ?_⟩) (by assumption) ?_
           rotate_left
           · intro w hSw
             try dsimp only at hSw
             first | (go_simp; done) | (go_simp; with_reducible rfl)
           try simp only [Act.put, List.setIfInBounds_toArray, List.set_cons_zero, List.set_cons_succ]
           refine wpAnyH_take (i := 8) (v := ?_) rfl (by kernel_rfl) (by kernel_rfl) (by kernel_rfl) (fun _ _ _ h => h) (Or.inl ⟨by rfl, ?_⟩) (by assumption) ?_
           rotate_left
           · intro w hSw
             try dsimp only at hSw
             first | (go_simp; done) | (go_simp; with_reducible rfl)
           try simp only [Act.put, List.setIfInBounds_toArray, List.set_cons_zero, List.set_cons_succ]
           refine wpAnyH_take (i := 9) (v := ?_) rfl (by kernel_rfl) (by kernel_rfl) (by kernel_rfl) (fun _ _ _ h => h) (Or.inl ⟨by rfl, ?_⟩) (by assumption) ?_
           rotate_left
           · intro w hSw
             try dsimp only at hSw
             first | (go_simp; done) | (go_simp; with_reducible rfl)
           try simp only [Act.put, List.setIfInBounds_toArray, List.set_cons_zero, List.set_cons_succ]
           refine wpAnyH_take (i := 10) (v := ?_) rfl (by kernel_rfl) (by kernel_rfl) (by kernel_rfl) (fun _ _ _ h => h) (Or.inl ⟨by rfl, ?_⟩) (by assumption) ?_
           rotate_left
           · intro w hSw
             try dsimp only at hSw
             first | (go_simp; done) | (go_simp; with_reducible rfl)
           try simp only [Act.put, List.setIfInBounds_toArray, List.set_cons_zero, List.set_cons_succ]
           refine wpAnyH_take (i := 11) (v := ?_) rfl (by kernel_rfl) (by kernel_rfl) (by kernel_rfl) (fun _ _ _ h => h) (Or.inl ⟨by rfl, ?_⟩) (by assumption) ?_
           rotate_left
           · intro w hSw
             try dsimp only at hSw
             first | (go_simp; done) | (go_simp; with_reducible rfl)
           try simp only [Act.put, List.setIfInBounds_toArray, List.set_cons_zero, List.set_cons_succ]
           refine wpAnyH_ready (rs := [1, 12]) (by kernel_rfl) (by simp) ?_
           refine AllReadyH.cons rfl (fun K hK => ?_) (AllReadyH.cons rfl (fun K hK => ?_) AllReadyH.nil)
           · go_simp
             refine hK.out _ _ ?_ (fun hHeld => ?_)
             · try dsimp only
               first | exact HC4 _ (below_drew1 (Below.refl _ _)) | exact HC4 _ (below_drew1 (pw_below_drewN (Below.refl _ _) _)) | exact HC4 _ (pw_below_drewN (Below.refl _ _) _) | exact HC4 _ ((pw_below_drewN (Below.refl _ _) _).alloc (Nat.le_refl _) _) | exact HG4 _ _ ((pw_below_drewN (Below.refl _ _) _).alloc (Nat.le_refl _) _) hgrow5 | exact HT4 _ _ _ ((pw_below_drewN (Below.refl _ _) _).alloc (Nat.le_refl _) _) hgrow5
             clear hK K
             try simp only [Act.put, List.setIfInBounds_toArray, List.set_cons_zero, List.set_cons_succ]
             refine wpAnyH_ready (rs := [12]) (by kernel_rfl) (by simp) ?_
             refine AllReadyH.cons rfl (fun K hK => ?_) AllReadyH.nil
             go_simp
             refine hK.out _ _ ?_ (fun hHeld => ?_)
             · try dsimp only
               first | exact HC4 _ (below_drew1 (Below.refl _ _)) | exact HC4 _ (below_drew1 (pw_below_drewN (Below.refl _ _) _)) | exact HC4 _ (pw_below_drewN (Below.refl _ _) _) | exact HC4 _ ((pw_below_drewN (Below.refl _ _) _).alloc (Nat.le_refl _) _) | exact HG4 _ _ ((pw_below_drewN (Below.refl _ _) _).alloc (Nat.le_refl _) _) hgrow5 | exact HT4 _ _ _ ((pw_below_drewN (Below.refl _ _) _).alloc (Nat.le_refl _) _) hgrow5
             clear hK K
             try simp only [Act.put, List.setIfInBounds_toArray, List.set_cons_zero, List.set_cons_succ]
             refine wpAnyH_ready (rs := [13]) (by kernel_rfl) (by simp) ?_
             refine AllReadyH.cons rfl (fun K hK => ?_) AllReadyH.nil
             (refine step_append_lies _ (by rfl) _ _ _ (by rfl) (wo.heap.size + 1) 145 i5 (.agg #[.int .i64 0, .int .i64 0]) 2 16 Try.underlying140 hi5 hz50 hz51 hz52 rfl (by omega) (.slice A7 0 c7) 0 fs (by rfl) (HO9.out.alloc _) ⟨w'.heap.size, 0, none⟩ 1 1 [.int .i64 x0v, .int .i64 x1v] (by rfl) (by rfl) (news2 _ _ _ _ _ (World.alloc_heap_new _ _)) hone (by omega) h63 hbytes (by simp; omega) (w'.heap.size + 1) (by simp) ?_; intro g5 cap5 w5 hown5 hgrow5 hat5 hlt5; have hx5 := HK4 _ _ ((pw_below_drewN (Below.refl _ _) _).alloc (Nat.le_refl _) _) hgrow5; have z5 := hx5.cell 2 (v := .slice A7 0 c7) rfl; have f5 := hx5.frozen 2)
             refine hK.out _ _ ?_ (fun hHeld => ?_)
             · try dsimp only
               first | exact HC4 _ (below_drew1 (Below.refl _ _)) | exact HC4 _ (below_drew1 (pw_below_drewN (Below.refl _ _) _)) | exact HC4 _ (pw_below_drewN (Below.refl _ _) _) | exact HC4 _ ((pw_below_drewN (Below.refl _ _) _).alloc (Nat.le_refl _) _) | exact HG4 _ _ ((pw_below_drewN (Below.refl _ _) _).alloc (Nat.le_refl _) _) hgrow5 | exact HT4 _ _ _ ((pw_below_drewN (Below.refl _ _) _).alloc (Nat.le_refl _) _) hgrow5
             clear hK K
             try simp only [Act.put, List.setIfInBounds_toArray, List.set_cons_zero, List.set_cons_succ]
             refine wpAnyH_take (i := 14) (v := ?_) rfl (by kernel_rfl) (by kernel_rfl) (by kernel_rfl) (fun _ _ _ h => h) (Or.inl ⟨by rfl, ?_⟩) (by assumption) ?_
             rotate_left
             · intro w hSw
               try dsimp only at hSw
               first | (go_simp; done) | (go_simp; with_reducible rfl)
             try simp only [Act.put, List.setIfInBounds_toArray, List.set_cons_zero, List.set_cons_succ]
             refine wpAnyH_ready (rs := [15]) (by kernel_rfl) (by simp) ?_
             refine AllReadyH.cons rfl (fun K hK => ?_) AllReadyH.nil
             go_simp
             refine hK.out _ _ ?_ (fun hHeld => ?_)
             · try dsimp only
               first | exact HC4 _ (below_drew1 (Below.refl _ _)) | exact HC4 _ (below_drew1 (pw_below_drewN (Below.refl _ _) _)) | exact HC4 _ (pw_below_drewN (Below.refl _ _) _) | exact HC4 _ ((pw_below_drewN (Below.refl _ _) _).alloc (Nat.le_refl _) _) | exact HG4 _ _ ((pw_below_drewN (Below.refl _ _) _).alloc (Nat.le_refl _) _) hgrow5 | exact HT4 _ _ _ ((pw_below_drewN (Below.refl _ _) _).alloc (Nat.le_refl _) _) hgrow5
             clear hK K
             try simp only [Act.put, List.setIfInBounds_toArray, List.set_cons_zero, List.set_cons_succ]
             refine wpAnyH_done (by kernel_rfl) ?_ _
             have hadd : rowN p xs (k + 1) = (x0v, x1v) :: acc := by rw [HS.out, hnil]; rfl
             have hlen : (rowN p xs (k + 1)).length = 0 + 1 := by rw [hadd, List.length_cons, HNN.out]
             have hfl : fl145 (rowN p xs (k + 1)).reverse = fs ++ [.int .i64 x0v, .int .i64 x1v] := by rw [hadd, List.reverse_cons, fl145_snoc, HF.out]
             have hge5 := (row_bl hown5 (k := g5) rfl).1
             go_wp2
             go_roundw
             case measure => simp [intOf]; omega
             case rel =>
              refine ⟨k + 1, some ⟨g5, 0, none⟩, cap5, by omega, by go_num, ⟨?_⟩, ⟨?_⟩, ⟨?_⟩⟩
              · exact ((grown_below ((pw_below_drewN HB9.out _).alloc (Nat.le_trans HB9.out.size (Nat.le_refl _)) _) (by have := HB9.out.size; simp; omega) hgrow5 (fun kk hk => by have := (row_bl HO9.out hk).1; omega))).setCell (p := ⟨wo.heap.size, 2, none⟩) (Nat.le_refl _) _
              · rw [hlen]; exact hx5.set 2 _
              · rw [hlen, hfl]
                refine row_same hown5 (fun kk hk => Below.heap_setCell w5 ⟨wo.heap.size, 2, none⟩ _ kk ?_)
                have := (row_bl hown5 hk).1
                show kk ≠ wo.heap.size
                omega
           · go_simp
             refine hK.out _ _ ?_ (fun hHeld => ?_)
             · try dsimp only
               first | exact HC4 _ (below_drew1 (Below.refl _ _)) | exact HC4 _ (below_drew1 (pw_below_drewN (Below.refl _ _) _)) | exact HC4 _ (pw_below_drewN (Below.refl _ _) _) | exact HC4 _ ((pw_below_drewN (Below.refl _ _) _).alloc (Nat.le_refl _) _) | exact HG4 _ _ ((pw_below_drewN (Below.refl _ _) _).alloc (Nat.le_refl _) _) hgrow5 | exact HT4 _ _ _ ((pw_below_drewN (Below.refl _ _) _).alloc (Nat.le_refl _) _) hgrow5
             clear hK K
             try simp only [Act.put, List.setIfInBounds_toArray, List.set_cons_zero, List.set_cons_succ]
             refine wpAnyH_ready (rs := [1]) (by kernel_rfl) (by simp) ?_
             refine AllReadyH.cons rfl (fun K hK => ?_) AllReadyH.nil
             go_simp
             refine hK.out _ _ ?_ (fun hHeld => ?_)
             · try dsimp only
               first | exact HC4 _ (below_drew1 (Below.refl _ _)) | exact HC4 _ (below_drew1 (pw_below_drewN (Below.refl _ _) _)) | exact HC4 _ (pw_below_drewN (Below.refl _ _) _) | exact HC4 _ ((pw_below_drewN (Below.refl _ _) _).alloc (Nat.le_refl _) _) | exact HG4 _ _ ((pw_below_drewN (Below.refl _ _) _).alloc (Nat.le_refl _) _) hgrow5 | exact HT4 _ _ _ ((pw_below_drewN (Below.refl _ _) _).alloc (Nat.le_refl _) _) hgrow5
             clear hK K
             try simp only [Act.put, List.setIfInBounds_toArray, List.set_cons_zero, List.set_cons_succ]
             refine wpAnyH_ready (rs := [13]) (by kernel_rfl) (by simp) ?_
             refine AllReadyH.cons rfl (fun K hK => ?_) AllReadyH.nil
             (refine step_append_lies _ (by rfl) _ _ _ (by rfl) (wo.heap.size + 1) 145 i5 (.agg #[.int .i64 0, .int .i64 0]) 2 16 Try.underlying140 hi5 hz50 hz51 hz52 rfl (by omega) (.slice A7 0 c7) 0 fs (by rfl) (HO9.out.alloc _) ⟨w'.heap.size, 0, none⟩ 1 1 [.int .i64 x0v, .int .i64 x1v] (by rfl) (by rfl) (news2 _ _ _ _ _ (World.alloc_heap_new _ _)) hone (by omega) h63 hbytes (by simp; omega) (w'.heap.size + 1) (by simp) ?_; intro g5 cap5 w5 hown5 hgrow5 hat5 hlt5; have hx5 := HK4 _ _ ((pw_below_drewN (Below.refl _ _) _).alloc (Nat.le_refl _) _) hgrow5; have z5 := hx5.cell 2 (v := .slice A7 0 c7) rfl; have f5 := hx5.frozen 2)
             refine hK.out _ _ ?_ (fun hHeld => ?_)
             · try dsimp only
               first | exact HC4 _ (below_drew1 (Below.refl _ _)) | exact HC4 _ (below_drew1 (pw_below_drewN (Below.refl _ _) _)) | exact HC4 _ (pw_below_drewN (Below.refl _ _) _) | exact HC4 _ ((pw_below_drewN (Below.refl _ _) _).alloc (Nat.le_refl _) _) | exact HG4 _ _ ((pw_below_drewN (Below.refl _ _) _).alloc (Nat.le_refl _) _) hgrow5 | exact HT4 _ _ _ ((pw_below_drewN (Below.refl _ _) _).alloc (Nat.le_refl _) _) hgrow5
             clear hK K
             try simp only [Act.put, List.setIfInBounds_toArray, List.set_cons_zero, List.set_cons_succ]
             refine wpAnyH_take (i := 14) (v := ?_) rfl (by kernel_rfl) (by kernel_rfl) (by kernel_rfl) (fun _ _ _ h => h) (Or.inl ⟨by rfl, ?_⟩) (by assumption) ?_
             rotate_left
             · intro w hSw
               try dsimp only at hSw
               first | (go_simp; done) | (go_simp; with_reducible rfl)
             try simp only [Act.put, List.setIfInBounds_toArray, List.set_cons_zero, List.set_cons_succ]
             refine wpAnyH_ready (rs := [15]) (by kernel_rfl) (by simp) ?_
             refine AllReadyH.cons rfl (fun K hK => ?_) AllReadyH.nil
             go_simp
             refine hK.out _ _ ?_ (fun hHeld => ?_)
             · try dsimp only
               first | exact HC4 _ (below_drew1 (Below.refl _ _)) | exact HC4 _ (below_drew1 (pw_below_drewN (Below.refl _ _) _)) | exact HC4 _ (pw_below_drewN (Below.refl _ _) _) | exact HC4 _ ((pw_below_drewN (Below.refl _ _) _).alloc (Nat.le_refl _) _) | exact HG4 _ _ ((pw_below_drewN (Below.refl _ _) _).alloc (Nat.le_refl _) _) hgrow5 | exact HT4 _ _ _ ((pw_below_drewN (Below.refl _ _) _).alloc (Nat.le_refl _) _) hgrow5
             clear hK K
             try simp only [Act.put, List.setIfInBounds_toArray, List.set_cons_zero, List.set_cons_succ]
             refine wpAnyH_done (by kernel_rfl) ?_ _
             have hadd : rowN p xs (k + 1) = (x0v, x1v) :: acc := by rw [HS.out, hnil]; rfl
             have hlen : (rowN p xs (k + 1)).length = 0 + 1 := by rw [hadd, List.length_cons, HNN.out]
             have hfl : fl145 (rowN p xs (k + 1)).reverse = fs ++ [.int .i64 x0v, .int .i64 x1v] := by rw [hadd, List.reverse_cons, fl145_snoc, HF.out]
             have hge5 := (row_bl hown5 (k := g5) rfl).1
             go_wp2
             go_roundw
             case measure => simp [intOf]; omega
             case rel =>
              refine ⟨k + 1, some ⟨g5, 0, none⟩, cap5, by omega, by go_num, ⟨?_⟩, ⟨?_⟩, ⟨?_⟩⟩
              · exact ((grown_below ((pw_below_drewN HB9.out _).alloc (Nat.le_trans HB9.out.size (Nat.le_refl _)) _) (by have := HB9.out.size; simp; omega) hgrow5 (fun kk hk => by have := (row_bl HO9.out hk).1; omega))).setCell (p := ⟨wo.heap.size, 2, none⟩) (Nat.le_refl _) _
              · rw [hlen]; exact hx5.set 2 _
              · rw [hlen, hfl]
                refine row_same hown5 (fun kk hk => Below.heap_setCell w5 ⟨wo.heap.size, 2, none⟩ _ kk ?_)
                have := (row_bl hown5 hk).1
                show kk ≠ wo.heap.size
                omega
         · obtain ⟨rn, hrn⟩ : ∃ rn, nn = rn + 1 := ⟨nn - 1, by omega⟩
           subst hrn
           obtain ⟨qs, r, hqr⟩ : ∃ qs r, acc = qs :: r := by
            cases acc with
            | nil => have := HNN.out; simp at this
            | cons q r => exact ⟨q, r, rfl⟩
           have hrl : r.length = rn := by have := HNN.out; rw [hqr] at this; simpa using this
           have hrev : acc.reverse = r.reverse ++ [qs] := by rw [hqr]; simp
           have hlast : fs[rn * 2 + 1]? = some (.int .i64 qs.2) := by
            have := fl145_last r.reverse qs
            rw [List.length_reverse, hrl] at this
            rw [← HF.out, hrev]
            exact this
           obtain ⟨g7, hg7⟩ := own_some HO9.out (by omega)
           subst hg7
           obtain ⟨zl, fl⟩ := own_cell HO9.out hlast
           have hg7o := (row_bl HO9.out (k := g7) rfl).1
           have hadd0 := HS.out
           rw [hqr] at hadd0
           obtain ⟨qa, qb⟩ := qs
           have HQ := Aside0.mk hqr
           have HRL := Aside0.mk hrl
           have HRV := Aside0.mk hrev
           clear hqr hrl hrev hlast
           simp only [addR, if_true] at hadd0
           simp only at zl
           by_cases hq : qb = x0v
           · have hqb : (qb == x0v) = true := by simpa using hq
             rw [if_pos hq] at hadd0
             have HA0 := Aside0.mk hadd0
             clear hadd0
             have jn0 : (0 : Int) ≤ (rn : Int) := by omega
             have jn1 : (rn : Int) < ((rn + 1 : Nat) : Int) := by omega
             have jn2 : (rn : Int) < (rn : Int) + 1 := by omega
             have jn3 : rn < rn + 1 := by omega
             have HP4 : ∀ W' vv, Below w'.heap.size w' W' → (W'.setCell ⟨g7, rn * 2 + 1, none⟩ vv).cell? ⟨wo.heap.size, 2, none⟩ = some (.slice (some ⟨g7, 0, none⟩) (rn + 1) c7) ∧ (W'.setCell ⟨g7, rn * 2 + 1, none⟩ vv).cell? ⟨px, 0, none⟩ = some (.slice (some ⟨gx, 0, none⟩) xs.length cX) ∧ (W'.setCell ⟨g7, rn * 2 + 1, none⟩ vv).cell? ⟨gx, k + 1, none⟩ = some (.int .i64 x1v) := by
              intro W' vv hb
              have hq : ∀ (n o : Nat) (v : Value), n ≠ g7 → w'.cell? ⟨n, o, none⟩ = some v → (W'.setCell ⟨g7, rn * 2 + 1, none⟩ vv).cell? ⟨n, o, none⟩ = some v := fun n o v hn h => (World.cell?_of_block (Below.heap_setCell W' ⟨g7, rn * 2 + 1, none⟩ vv n hn)).trans ((hb.cell (p := ⟨n, o, none⟩) (World.block_lt_of_cell? _ _ h)).trans h)
              exact ⟨hq _ _ _ (by omega) z2, hq _ _ _ (by omega) cx9, hq _ _ _ (by omega) x1⟩
             go_wp2
             repeat (go_quiet (fail); try go_wp2)
             go_region_held3 (fun W' => W'.cell? ⟨wo.heap.size, 2, none⟩ = some (.slice (some ⟨g7, 0, none⟩) (rn + 1) c7) ∧ W'.cell? ⟨px, 0, none⟩ = some (.slice (some ⟨gx, 0, none⟩) xs.length cX) ∧ W'.cell? ⟨gx, k + 1, none⟩ = some (.int .i64 x1v))
              (first | exact ⟨z2, cx9, x1⟩ | exact HP4 _ _ (pw_below_drewN (Below.refl _ _) _) | exact HP4 _ _ (below_drew1 (pw_below_drewN (Below.refl _ _) _)))
              (fail)
             all_goals
              have hadd : rowN p xs (k + 1) = (qa, x1v) :: r := HA0.out
              have hlen : (rowN p xs (k + 1)).length = rn + 1 := by rw [hadd, List.length_cons, HRL.out]
              have hfl : fl145 (rowN p xs (k + 1)).reverse = fs.set (rn * 2 + 1) (.int .i64 x1v) := by
               have h1 := fl145_set r.reverse (qa, qb) x1v
               rw [List.length_reverse, HRL.out] at h1
               rw [hadd, List.reverse_cons, ← h1, ← HRV.out, HF.out]
              go_wp2
              go_roundw
              case measure => simp [intOf]; omega
              case rel =>
               refine ⟨k + 1, some ⟨g7, 0, none⟩, c7, by omega, by go_num, ⟨?_⟩, ⟨?_⟩, ⟨?_⟩⟩
               · exact (pw_below_drewN HB9.out _).setCell (p := ⟨g7, rn * 2 + 1, none⟩) (by show wo.heap.size ≤ g7; omega) _
               · rw [hlen]
                 exact (HX9.out.drewN _).other (a := ⟨g7, rn * 2 + 1, none⟩) _ (by show wo.heap.size ≠ g7; omega)
               · rw [hlen, hfl]
                 exact own_set HO9.out _ _
           · have hqb : (qb == x0v) = false := by simpa using hq
             rw [if_neg hq] at hadd0
             have HA0 := Aside0.mk hadd0
             clear hadd0
             go_wp2
             repeat (go_quiet (fail); try go_wp2)
             refine wp_region_held_drew (S := (fun W' => W'.cell? ⟨px, 0, none⟩ = some (.slice (some ⟨gx, 0, none⟩) xs.length cX) ∧ W'.cell? ⟨gx, k, none⟩ = some (.int .i64 x0v) ∧ W'.cell? ⟨gx, k + 1, none⟩ = some (.int .i64 x1v))) (by kernel_rfl) ?_ (fun hHeld => ?_)
             · try dsimp only
               first | exact HC4 _ (below_drew1 (Below.refl _ _)) | exact HC4 _ (below_drew1 (pw_below_drewN (Below.refl _ _) _)) | exact HC4 _ (pw_below_drewN (Below.refl _ _) _) | exact HC4 _ ((pw_below_drewN (Below.refl _ _) _).alloc (Nat.le_refl _) _) | exact HG4 _ _ ((pw_below_drewN (Below.refl _ _) _).alloc (Nat.le_refl _) _) hgrow5 | exact HT4 _ _ _ ((pw_below_drewN (Below.refl _ _) _).alloc (Nat.le_refl _) _) hgrow5
             refine wpAnyH_take (i := 0) (v := ?_) rfl (by kernel_rfl) (by kernel_rfl) (by kernel_rfl) (fun _ _ _ h => h) (Or.inl ⟨by rfl, ?_⟩) (by assumption) ?_
             rotate_left
             · intro w hSw
               try dsimp only at hSw
               first | (go_simp; done) | (go_simp; with_reducible rfl)
             try simp only [Act.put, List.setIfInBounds_toArray, List.set_cons_zero, List.set_cons_succ]
             refine wpAnyH_take (i := 2) (v := ?_) rfl (by kernel_rfl) (by kernel_rfl) (by kernel_rfl) (fun _ _ _ h => h) (Or.inl ⟨by rfl, ?_⟩) (by assumption) ?_
             rotate_left
             · intro w hSw
               try dsimp only at hSw
               first | (go_simp; done) | (go_simp; with_reducible rfl)
             try simp only [Act.put, List.setIfInBounds_toArray, List.set_cons_zero, List.set_cons_succ]
             refine wpAnyH_take (i := 3) (v := ?_) rfl (by kernel_rfl) (by kernel_rfl) (by kernel_rfl) (fun _ _ _ h => h) (Or.inl ⟨by rfl, ?_⟩) (by assumption) ?_
             rotate_left
             · intro w hSw
               try dsimp only at hSw
               first | (go_simp; done) | (go_simp; with_reducible rfl)
             try simp only [Act.put, List.setIfInBounds_toArray, List.set_cons_zero, List.set_cons_succ]
             refine wpAnyH_take (i := 4) (v := ?_) rfl (by kernel_rfl) (by kernel_rfl) (by kernel_rfl) (fun _ _ _ h => h) (Or.inl ⟨by rfl, ?_⟩) (by assumption) ?_
             rotate_left
             · intro w hSw
               try dsimp only at hSw
               first | (go_simp; done) | (go_simp; with_reducible rfl)
             try simp only [Act.put, List.setIfInBounds_toArray, List.set_cons_zero, List.set_cons_succ]
             refine wpAnyH_take (i := 5) (v := ?_) rfl (by kernel_rfl) (by kernel_rfl) (by kernel_rfl) (fun _ _ _ h => h) (Or.inl ⟨by rfl, ?_⟩) (by assumption) ?_
             rotate_left
             · intro w hSw
               try dsimp only at hSw
               first | (go_simp; done) | (go_simp; with_reducible rfl)
             try simp only [Act.put, List.setIfInBounds_toArray, List.set_cons_zero, List.set_cons_succ]
             refine wpAnyH_take (i := 6) (v := ?_) rfl (by kernel_rfl) (by kernel_rfl) (by kernel_rfl) (fun _ _ _ h => h) (Or.inl ⟨by rfl, ?_⟩) (by assumption) ?_
             rotate_left
             · intro w hSw
               try dsimp only at hSw
               first | (go_simp; done) | (go_simp; with_reducible rfl)
             try simp only [Act.put, List.setIfInBounds_toArray, List.set_cons_zero, List.set_cons_succ]
             refine wpAnyH_take (i := 7) (v := ?_) rfl (by kernel_rfl) (by kernel_rfl) (by kernel_rfl) (fun _ _ _ h => h) (Or.inl ⟨by rfl, ?_⟩) (by assumption) ?_
             rotate_left
             · intro w hSw
               try dsimp only at hSw
               first | (go_simp; done) | (go_simp; with_reducible rfl)
             try simp only [Act.put, List.setIfInBounds_toArray, List.set_cons_zero, List.set_cons_succ]
             refine wpAnyH_take (i := 8) (v := ?_) rfl (by kernel_rfl) (by kernel_rfl) (by kernel_rfl) (fun _ _ _ h => h) (Or.inl ⟨by rfl, ?_⟩) (by assumption) ?_
             rotate_left
             · intro w hSw
               try dsimp only at hSw
               first | (go_simp; done) | (go_simp; with_reducible rfl)
             try simp only [Act.put, List.setIfInBounds_toArray, List.set_cons_zero, List.set_cons_succ]
             refine wpAnyH_take (i := 9) (v := ?_) rfl (by kernel_rfl) (by kernel_rfl) (by kernel_rfl) (fun _ _ _ h => h) (Or.inl ⟨by rfl, ?_⟩) (by assumption) ?_
             rotate_left
             · intro w hSw
               try dsimp only at hSw
               first | (go_simp; done) | (go_simp; with_reducible rfl)
             try simp only [Act.put, List.setIfInBounds_toArray, List.set_cons_zero, List.set_cons_succ]
             refine wpAnyH_take (i := 10) (v := ?_) rfl (by kernel_rfl) (by kernel_rfl) (by kernel_rfl) (fun _ _ _ h => h) (Or.inl ⟨by rfl, ?_⟩) (by assumption) ?_
             rotate_left
             · intro w hSw
               try dsimp only at hSw
               first | (go_simp; done) | (go_simp; with_reducible rfl)
             try simp only [Act.put, List.setIfInBounds_toArray, List.set_cons_zero, List.set_cons_succ]
             refine wpAnyH_take (i := 11) (v := ?_) rfl (by kernel_rfl) (by kernel_rfl) (by kernel_rfl) (fun _ _ _ h => h) (Or.inl ⟨by rfl, ?_⟩) (by assumption) ?_
             rotate_left
             · intro w hSw
               try dsimp only at hSw
               first | (go_simp; done) | (go_simp; with_reducible rfl)
             try simp only [Act.put, List.setIfInBounds_toArray, List.set_cons_zero, List.set_cons_succ]
             refine wpAnyH_ready (rs := [1, 12]) (by kernel_rfl) (by simp) ?_
             refine AllReadyH.cons rfl (fun K hK => ?_) (AllReadyH.cons rfl (fun K hK => ?_) AllReadyH.nil)
             · go_simp
               refine hK.out _ _ ?_ (fun hHeld => ?_)
               · try dsimp only
                 first | exact HC4 _ (below_drew1 (Below.refl _ _)) | exact HC4 _ (below_drew1 (pw_below_drewN (Below.refl _ _) _)) | exact HC4 _ (pw_below_drewN (Below.refl _ _) _) | exact HC4 _ ((pw_below_drewN (Below.refl _ _) _).alloc (Nat.le_refl _) _) | exact HG4 _ _ ((pw_below_drewN (Below.refl _ _) _).alloc (Nat.le_refl _) _) hgrow5 | exact HT4 _ _ _ ((pw_below_drewN (Below.refl _ _) _).alloc (Nat.le_refl _) _) hgrow5
               clear hK K
               try simp only [Act.put, List.setIfInBounds_toArray, List.set_cons_zero, List.set_cons_succ]
               refine wpAnyH_ready (rs := [12]) (by kernel_rfl) (by simp) ?_
               refine AllReadyH.cons rfl (fun K hK => ?_) AllReadyH.nil
               go_simp
               refine hK.out _ _ ?_ (fun hHeld => ?_)
               · try dsimp only
                 first | exact HC4 _ (below_drew1 (Below.refl _ _)) | exact HC4 _ (below_drew1 (pw_below_drewN (Below.refl _ _) _)) | exact HC4 _ (pw_below_drewN (Below.refl _ _) _) | exact HC4 _ ((pw_below_drewN (Below.refl _ _) _).alloc (Nat.le_refl _) _) | exact HG4 _ _ ((pw_below_drewN (Below.refl _ _) _).alloc (Nat.le_refl _) _) hgrow5 | exact HT4 _ _ _ ((pw_below_drewN (Below.refl _ _) _).alloc (Nat.le_refl _) _) hgrow5
               clear hK K
               try simp only [Act.put, List.setIfInBounds_toArray, List.set_cons_zero, List.set_cons_succ]
               refine wpAnyH_ready (rs := [13]) (by kernel_rfl) (by simp) ?_
               refine AllReadyH.cons rfl (fun K hK => ?_) AllReadyH.nil
               (refine step_append_lies _ (by rfl) _ _ _ (by rfl) (wo.heap.size + 1) 145 i5 (.agg #[.int .i64 0, .int .i64 0]) 2 16 Try.underlying140 hi5 hz50 hz51 hz52 rfl (by omega) (.slice (some ⟨g7, 0, none⟩) (rn + 1) c7) (rn + 1) fs (by rfl) (HO9.out.alloc _) ⟨w'.heap.size, 0, none⟩ 1 1 [.int .i64 x0v, .int .i64 x1v] (by rfl) (by rfl) (news2 _ _ _ _ _ (World.alloc_heap_new _ _)) hone (by omega) h63 hbytes (by simp; omega) (w'.heap.size + 1) (by simp) ?_; intro g5 cap5 w5 hown5 hgrow5 hat5 hlt5; have hx5 := HK4 _ _ ((pw_below_drewN (Below.refl _ _) _).alloc (Nat.le_refl _) _) hgrow5; have z5 := hx5.cell 2 (v := .slice (some ⟨g7, 0, none⟩) (rn + 1) c7) rfl; have f5 := hx5.frozen 2)
               refine hK.out _ _ ?_ (fun hHeld => ?_)
               · try dsimp only
                 first | exact HC4 _ (below_drew1 (Below.refl _ _)) | exact HC4 _ (below_drew1 (pw_below_drewN (Below.refl _ _) _)) | exact HC4 _ (pw_below_drewN (Below.refl _ _) _) | exact HC4 _ ((pw_below_drewN (Below.refl _ _) _).alloc (Nat.le_refl _) _) | exact HG4 _ _ ((pw_below_drewN (Below.refl _ _) _).alloc (Nat.le_refl _) _) hgrow5 | exact HT4 _ _ _ ((pw_below_drewN (Below.refl _ _) _).alloc (Nat.le_refl _) _) hgrow5
               clear hK K
               try simp only [Act.put, List.setIfInBounds_toArray, List.set_cons_zero, List.set_cons_succ]
               refine wpAnyH_take (i := 14) (v := ?_) rfl (by kernel_rfl) (by kernel_rfl) (by kernel_rfl) (fun _ _ _ h => h) (Or.inl ⟨by rfl, ?_⟩) (by assumption) ?_
               rotate_left
               · intro w hSw
                 try dsimp only at hSw
                 first | (go_simp; done) | (go_simp; with_reducible rfl)
               try simp only [Act.put, List.setIfInBounds_toArray, List.set_cons_zero, List.set_cons_succ]
               refine wpAnyH_ready (rs := [15]) (by kernel_rfl) (by simp) ?_
               refine AllReadyH.cons rfl (fun K hK => ?_) AllReadyH.nil
               go_simp
               refine hK.out _ _ ?_ (fun hHeld => ?_)
               · try dsimp only
                 first | exact HC4 _ (below_drew1 (Below.refl _ _)) | exact HC4 _ (below_drew1 (pw_below_drewN (Below.refl _ _) _)) | exact HC4 _ (pw_below_drewN (Below.refl _ _) _) | exact HC4 _ ((pw_below_drewN (Below.refl _ _) _).alloc (Nat.le_refl _) _) | exact HG4 _ _ ((pw_below_drewN (Below.refl _ _) _).alloc (Nat.le_refl _) _) hgrow5 | exact HT4 _ _ _ ((pw_below_drewN (Below.refl _ _) _).alloc (Nat.le_refl _) _) hgrow5
               clear hK K
               try simp only [Act.put, List.setIfInBounds_toArray, List.set_cons_zero, List.set_cons_succ]
               refine wpAnyH_done (by kernel_rfl) ?_ _
               have hadd : rowN p xs (k + 1) = (x0v, x1v) :: acc := by rw [HA0.out, HQ.out]
               have hlen : (rowN p xs (k + 1)).length = (rn + 1) + 1 := by rw [hadd, List.length_cons, HNN.out]
               have hfl : fl145 (rowN p xs (k + 1)).reverse = fs ++ [.int .i64 x0v, .int .i64 x1v] := by rw [hadd, List.reverse_cons, fl145_snoc, HF.out]
               have hge5 := (row_bl hown5 (k := g5) rfl).1
               go_wp2
               go_roundw
               case measure => simp [intOf]; omega
               case rel =>
                refine ⟨k + 1, some ⟨g5, 0, none⟩, cap5, by omega, by go_num, ⟨?_⟩, ⟨?_⟩, ⟨?_⟩⟩
                · exact ((grown_below ((pw_below_drewN HB9.out _).alloc (Nat.le_trans HB9.out.size (Nat.le_refl _)) _) (by have := HB9.out.size; simp; omega) hgrow5 (fun kk hk => by have := (row_bl HO9.out hk).1; omega))).setCell (p := ⟨wo.heap.size, 2, none⟩) (Nat.le_refl _) _
                · rw [hlen]; exact hx5.set 2 _
                · rw [hlen, hfl]
                  refine row_same hown5 (fun kk hk => Below.heap_setCell w5 ⟨wo.heap.size, 2, none⟩ _ kk ?_)
                  have := (row_bl hown5 hk).1
                  show kk ≠ wo.heap.size
                  omega
             · go_simp
               refine hK.out _ _ ?_ (fun hHeld => ?_)
               · try dsimp only
                 first | exact HC4 _ (below_drew1 (Below.refl _ _)) | exact HC4 _ (below_drew1 (pw_below_drewN (Below.refl _ _) _)) | exact HC4 _ (pw_below_drewN (Below.refl _ _) _) | exact HC4 _ ((pw_below_drewN (Below.refl _ _) _).alloc (Nat.le_refl _) _) | exact HG4 _ _ ((pw_below_drewN (Below.refl _ _) _).alloc (Nat.le_refl _) _) hgrow5 | exact HT4 _ _ _ ((pw_below_drewN (Below.refl _ _) _).alloc (Nat.le_refl _) _) hgrow5
               clear hK K
               try simp only [Act.put, List.setIfInBounds_toArray, List.set_cons_zero, List.set_cons_succ]
               refine wpAnyH_ready (rs := [1]) (by kernel_rfl) (by simp) ?_
               refine AllReadyH.cons rfl (fun K hK => ?_) AllReadyH.nil
               go_simp
               refine hK.out _ _ ?_ (fun hHeld => ?_)
               · try dsimp only
                 first | exact HC4 _ (below_drew1 (Below.refl _ _)) | exact HC4 _ (below_drew1 (pw_below_drewN (Below.refl _ _) _)) | exact HC4 _ (pw_below_drewN (Below.refl _ _) _) | exact HC4 _ ((pw_below_drewN (Below.refl _ _) _).alloc (Nat.le_refl _) _) | exact HG4 _ _ ((pw_below_drewN (Below.refl _ _) _).alloc (Nat.le_refl _) _) hgrow5 | exact HT4 _ _ _ ((pw_below_drewN (Below.refl _ _) _).alloc (Nat.le_refl _) _) hgrow5
               clear hK K
               try simp only [Act.put, List.setIfInBounds_toArray, List.set_cons_zero, List.set_cons_succ]
               refine wpAnyH_ready (rs := [13]) (by kernel_rfl) (by simp) ?_
               refine AllReadyH.cons rfl (fun K hK => ?_) AllReadyH.nil
               (refine step_append_lies _ (by rfl) _ _ _ (by rfl) (wo.heap.size + 1) 145 i5 (.agg #[.int .i64 0, .int .i64 0]) 2 16 Try.underlying140 hi5 hz50 hz51 hz52 rfl (by omega) (.slice (some ⟨g7, 0, none⟩) (rn + 1) c7) (rn + 1) fs (by rfl) (HO9.out.alloc _) ⟨w'.heap.size, 0, none⟩ 1 1 [.int .i64 x0v, .int .i64 x1v] (by rfl) (by rfl) (news2 _ _ _ _ _ (World.alloc_heap_new _ _)) hone (by omega) h63 hbytes (by simp; omega) (w'.heap.size + 1) (by simp) ?_; intro g5 cap5 w5 hown5 hgrow5 hat5 hlt5; have hx5 := HK4 _ _ ((pw_below_drewN (Below.refl _ _) _).alloc (Nat.le_refl _) _) hgrow5; have z5 := hx5.cell 2 (v := .slice (some ⟨g7, 0, none⟩) (rn + 1) c7) rfl; have f5 := hx5.frozen 2)
               refine hK.out _ _ ?_ (fun hHeld => ?_)
               · try dsimp only
                 first | exact HC4 _ (below_drew1 (Below.refl _ _)) | exact HC4 _ (below_drew1 (pw_below_drewN (Below.refl _ _) _)) | exact HC4 _ (pw_below_drewN (Below.refl _ _) _) | exact HC4 _ ((pw_below_drewN (Below.refl _ _) _).alloc (Nat.le_refl _) _) | exact HG4 _ _ ((pw_below_drewN (Below.refl _ _) _).alloc (Nat.le_refl _) _) hgrow5 | exact HT4 _ _ _ ((pw_below_drewN (Below.refl _ _) _).alloc (Nat.le_refl _) _) hgrow5
               clear hK K
               try simp only [Act.put, List.setIfInBounds_toArray, List.set_cons_zero, List.set_cons_succ]
               refine wpAnyH_take (i := 14) (v := ?_) rfl (by kernel_rfl) (by kernel_rfl) (by kernel_rfl) (fun _ _ _ h => h) (Or.inl ⟨by rfl, ?_⟩) (by assumption) ?_
               rotate_left
               · intro w hSw
                 try dsimp only at hSw
                 first | (go_simp; done) | (go_simp; with_reducible rfl)
               try simp only [Act.put, List.setIfInBounds_toArray, List.set_cons_zero, List.set_cons_succ]
               refine wpAnyH_ready (rs := [15]) (by kernel_rfl) (by simp) ?_
               refine AllReadyH.cons rfl (fun K hK => ?_) AllReadyH.nil
               go_simp
               refine hK.out _ _ ?_ (fun hHeld => ?_)
               · try dsimp only
                 first | exact HC4 _ (below_drew1 (Below.refl _ _)) | exact HC4 _ (below_drew1 (pw_below_drewN (Below.refl _ _) _)) | exact HC4 _ (pw_below_drewN (Below.refl _ _) _) | exact HC4 _ ((pw_below_drewN (Below.refl _ _) _).alloc (Nat.le_refl _) _) | exact HG4 _ _ ((pw_below_drewN (Below.refl _ _) _).alloc (Nat.le_refl _) _) hgrow5 | exact HT4 _ _ _ ((pw_below_drewN (Below.refl _ _) _).alloc (Nat.le_refl _) _) hgrow5
               clear hK K
               try simp only [Act.put, List.setIfInBounds_toArray, List.set_cons_zero, List.set_cons_succ]
               refine wpAnyH_done (by kernel_rfl) ?_ _
               have hadd : rowN p xs (k + 1) = (x0v, x1v) :: acc := by rw [HA0.out, HQ.out]
               have hlen : (rowN p xs (k + 1)).length = (rn + 1) + 1 := by rw [hadd, List.length_cons, HNN.out]
               have hfl : fl145 (rowN p xs (k + 1)).reverse = fs ++ [.int .i64 x0v, .int .i64 x1v] := by rw [hadd, List.reverse_cons, fl145_snoc, HF.out]
               have hge5 := (row_bl hown5 (k := g5) rfl).1
               go_wp2
               go_roundw
               case measure => simp [intOf]; omega
               case rel =>
                refine ⟨k + 1, some ⟨g5, 0, none⟩, cap5, by omega, by go_num, ⟨?_⟩, ⟨?_⟩, ⟨?_⟩⟩
                · exact ((grown_below ((pw_below_drewN HB9.out _).alloc (Nat.le_trans HB9.out.size (Nat.le_refl _)) _) (by have := HB9.out.size; simp; omega) hgrow5 (fun kk hk => by have := (row_bl HO9.out hk).1; omega))).setCell (p := ⟨wo.heap.size, 2, none⟩) (Nat.le_refl _) _
                · rw [hlen]; exact hx5.set 2 _
                · rw [hlen, hfl]
                  refine row_same hown5 (fun kk hk => Below.heap_setCell w5 ⟨wo.heap.size, 2, none⟩ _ kk ?_)
                  have := (row_bl hown5 hk).1
                  show kk ≠ wo.heap.size
                  omega
     · obtain rfl : k = xs.length - 1 := by omega
       have hltz2 : ¬ ((xs.length - 1 : Nat) : Int) < ((xs.length - 1 : Nat) : Int) := by omega
       have z0 := HX7.out.cell 0 (v := .int .i64 u) rfl
       have z1 := HX7.out.cell 1 (v := .int .i64 v) rfl
       have z2 := HX7.out.cell 2 (v := .slice A7 (rowN p xs (xs.length - 1)).length c7) rfl
       have henc : EncB N wr (u, v, (rowN p xs (xs.length - 1)).reverse) #[.agg #[.int .i64 u, .int .i64 v, .slice A7 (rowN p xs (xs.length - 1)).length c7]] :=
        ⟨_, rfl, by rw [List.length_reverse]; exact row_base HO7.out (by have := HN.out wo HKr.out; omega)⟩
       obtain ⟨fn, tmps, assign, body, hy, hR⟩ := hY (bdN (spansOf is a b xs) ys i) (u, v, (rowN p xs (xs.length - 1)).reverse) _ wr (hT _ _ _ hJ HB7.out) henc (by have := HPRE.out; rw [HSP.out] at this; exact this)
       go_upto_region 13 with (fail)
       refine (wpIn_wide (n := m)).1 ?_
       gi_wp2
       refine ⟨fun h => absurd h (by simp [Fence.wide]), hR.mono ?_⟩
       rintro ee W3 ⟨rfl, hJ3, hk3⟩
       gi_wp2
       go_wp2
       go_roundw
       case rel => exact ⟨i + 1, by omega, by go_num, by rw [HXN.out, HSP.out]; exact hJ3, ⟨ktN_trans HKr.out (ktN_trans (ktN_bel HB7.out) hk3)⟩⟩
       case measure => simp [intOf]; omega
  · obtain rfl : i = ys.length - 1 := by omega
    have hltz : ¬ ((ys.length - 1 : Nat) : Int) < ((ys.length - 1 : Nat) : Int) := by omega
    go_wp2
    go_end0
    exact ⟨⟨_, rfl⟩, hJ⟩
end Go.Proofs.Ythbajahklnpkcaa.PA

namespace Go.Proofs.Ythbajahklnpkcaa.PA
open Go.RowKit Go.Shelf Go.Sort Go.Proofs.YthbajahklnpkcaaW.PrintWords Go.Proofs.YthbajahklnpkcaaW.PrintLast Go.Proofs.YthbajahklnpkcaaW.PrintMore
set_option linter.unusedVariables false
set_option linter.unusedSimpArgs false
def edgX (l : List S43) : List Int := edgesL (fun r => r.f0) (fun r => wrap64 (r.f0 + r.f2)) l
def edgY (l : List S43) : List Int := edgesL (fun r => r.f1) (fun r => wrap64 (r.f1 + r.f3)) l
theorem edgesL_len (fa fb : S43 → Int) (l : List S43) : (edgesL fa fb l).length ≤ 2 * l.length := by
 have h1 := endsOf_len fa fb l
 have h2 := Lib.compact_length_le (sortI (endsOf fa fb l))
 have h3 : (sortI (endsOf fa fb l)).length = (endsOf fa fb l).length := by simp [sortI]
 unfold edgesL
 omega
theorem enters139 : ∀ args w, (callFunc 139 args).run Try.prog w = .ok (.enter 139 args) w := Go.Proofs.enters_of Try.func139 (by kernel_rfl) rfl
theorem enters140 : ∀ args w, (callFunc 140 args).run Try.prog w = .ok (.enter 140 args) w := Go.Proofs.enters_of Try.func140 (by kernel_rfl) rfl
set_option maxRecDepth 100000 in
set_option maxHeartbeats 4000000 in
theorem bands_calls (gi : Nat) (A B : Option Addr) (cA cB : Nat) (a b : List S43) (w : World) (hr : Kd.C k43 w A a.length a) (hr2 : Kd.C k43 w B b.length b) (hla : a.length ≤ 40000) (hlb : b.length ≤ 40000) :
 Calls Try.prog 124 #[.slice A a.length cA, .slice B b.length cB, .func (.func gi) #[] #[]] w fun e w' => ∃ (X Y : Option Addr) (cX cY px py : Nat),
  e = .returned (.func (.func 141) #[] #[.pointer (some ⟨py, 0, none⟩), .pointer (some ⟨px, 0, none⟩), .pointer (some ⟨w.heap.size + 1 + 1, 0, none⟩), .pointer (some ⟨w.heap.size, 0, none⟩), .pointer (some ⟨w.heap.size + 1, 0, none⟩)]) ∧
  EnvAt A B cA cB a b gi (edgX (a ++ b)) (edgY (a ++ b)) X Y cX cY w.heap.size (w.heap.size + 1) (w.heap.size + 1 + 1) px py w.heap.size w' ∧ w.heap.size ≤ px ∧ w.heap.size ≤ py ∧ Below w.heap.size w w' := by
 obtain ⟨w1, hw1⟩ : ∃ w1, ((w.alloc (.cells #[.slice A a.length cA] 22)).alloc (.cells #[.slice B b.length cB] 22)).alloc (.cells #[.func (.func gi) #[] #[]] 75) = w1 := ⟨_, rfl⟩
 have hs1 : w1.heap.size = w.heap.size + 3 := by rw [← hw1]; simp
 have hB1 : Below w.heap.size w w1 := by rw [← hw1]; exact (((Below.refl _ w).alloc (Nat.le_refl _) _).alloc (by simp) _).alloc (by simp; omega) _
 have ba : Boxed w1 w.heap.size 22 (.slice A a.length cA) := by
  rw [← hw1]; exact ((Boxed.new w 22 _).alloc _).alloc _
 have bb : Boxed w1 (w.heap.size + 1) 22 (.slice B b.length cB) := by
  have := ((Boxed.new (w.alloc (.cells #[.slice A a.length cA] 22)) 22 (.slice B b.length cB)).alloc (.cells #[.func (.func gi) #[] #[]] 75))
  rw [World.size_alloc, hw1] at this
  exact this
 have bf : Boxed w1 (w.heap.size + 1 + 1) 75 (.func (.func gi) #[] #[]) := by
  have := Boxed.new ((w.alloc (.cells #[.slice A a.length cA] 22)).alloc (.cells #[.slice B b.length cB] 22)) 75 (.func (.func gi) #[] #[])
  rw [World.size_alloc, World.size_alloc, hw1] at this
  exact this
 have ca := ba.cell
 have cb := bb.cell
 have HR := Aside0.mk (Kd.C_below hr hB1)
 have HR2 := Aside0.mk (Kd.C_below hr2 hB1)
 have BA := Aside0.mk ba
 have BB := Aside0.mk bb
 have BF := Aside0.mk bf
 have HB1 := Aside0.mk hB1
 clear hr hr2 ba bb bf hB1
 obtain ⟨w2, hw2⟩ : ∃ w2, w1.alloc (.cells #[.slice A a.length cA, .slice B b.length cB] 22) = w2 := ⟨_, rfl⟩
 have HB2 : Aside0 (Below w1.heap.size w1 w2) := ⟨by rw [← hw2]; exact (Below.refl _ _).alloc (Nat.le_refl _) _⟩
 have k2 := Blk.new w1 #[.slice A a.length cA, .slice B b.length cB] 22
 rw [hw2] at k2
 have HCC := Aside0.mk (concat_calls w1.heap.size A B cA cB a b w2 (k2.cell 0 rfl) (k2.cell 1 rfl) (Kd.C_below HR.out HB2.out) (Kd.C_below HR2.out HB2.out) (by omega) (by omega))
 rw [hs1] at HCC
 have hlab : (a ++ b).length ≤ 80000 := by simp; omega
 generalize hab : a ++ b = ab at HCC hlab
 have HAB := Aside0.mk hab
 clear hab k2
 go_enter Try.func124, Try.ntmps124
 go_wp2_with (first
  | (go_at_call 111; with_reducible refine HCC.out.mono ?_; rintro e w3 ⟨v3, rfl, hk3, hb3⟩; obtain ⟨L3, c3, rfl, hcap3, hC3⟩ := Kd.R_reads hk3; have HC3 := Aside0.mk hC3; have HB3 := Aside0.mk hb3; have hEx := Aside0.mk (edges_calls 139 _ _ enters139 x139 L3 c3 ab w3 (by omega) hC3); clear hk3 hb3 hcap3 hC3)
  | (go_at_call 128; first
   | (with_reducible refine hEx.out.mono ?_; rintro e w4 ⟨v4, rfl, ho4, hb4⟩; obtain ⟨X, cX, rfl⟩ := own_sl ho4; have HO4 := Aside0.mk ho4; have HB4 := Aside0.mk hb4; have hEy := Aside0.mk (edges_calls 140 _ _ enters140 y140 L3 c3 ab (w4.alloc (.cells #[.slice X (edgesL (fun r => r.f0) (fun r => wrap64 (r.f0 + r.f2)) ab).length cX] 32)) (by omega) (Kd.C_below HC3.out (hb4.trans (((Below.refl _ w4).alloc (Nat.le_refl _) _).mono hb4.size)))); clear ho4 hb4)
   | (with_reducible refine hEy.out.mono ?_; rintro e w5 ⟨v5, rfl, ho5, hb5⟩; obtain ⟨Y, cY, rfl⟩ := own_sl ho5; have HO5 := Aside0.mk ho5; have HB5 := Aside0.mk hb5; clear ho5 hb5)))
 go_ret
 have c3_ := HB2.out.trans (HB3.out.mono HB2.out.size)
 have c4_ := c3_.trans (HB4.out.mono c3_.size)
 have c4a := c4_.alloc c4_.size (.cells #[.slice X (edgesL (fun r => r.f0) (fun r => wrap64 (r.f0 + r.f2)) ab).length cX] 32)
 have c5_ := c4a.trans (HB5.out.mono c4a.size)
 have c6_ := c5_.alloc c5_.size (.cells #[.slice Y (edgesL (fun r => r.f1) (fun r => wrap64 (r.f1 + r.f3)) ab).length cY] 32)
 have s1 := HB1.out.size
 have s3 := c3_.size
 have s4 := c4_.size
 have s5 := c5_.size
 have s4b : w4.heap.size + 1 ≤ w5.heap.size := by have := HB5.out.size; simpa using this
 have s4c : (w4.alloc (.cells #[.slice X (edgesL (fun r => r.f0) (fun r => wrap64 (r.f0 + r.f2)) ab).length cX] 32)).heap.size = w4.heap.size + 1 := by simp
 refine ⟨X, Y, cX, cY, w4.heap.size, w5.heap.size, rfl, ⟨box_bel BA.out c6_, box_bel BB.out c6_, box_bel BF.out c6_, ?_, Boxed.new w5 32 _, ?_, ?_, Kd.C_below HR.out c6_, Kd.C_below HR2.out c6_⟩, by omega, by omega, HB1.out.trans (c6_.mono s1)⟩
 · exact (box_bel (Boxed.new w4 32 _) HB5.out).alloc _
 · exact row_base ((row_bel (HO4.out.alloc _) HB5.out).alloc _) (by omega)
 · exact row_base (HO5.out.alloc _) (by omega)
end Go.Proofs.Ythbajahklnpkcaa.PA

namespace Go.Proofs.Ythbajahklnpkcaa.PA
open Go.RowKit Go.Proofs.YthbajahklnpkcaaW.PrintWords Go.Proofs.YthbajahklnpkcaaW.PrintLast Go.Proofs.YthbajahklnpkcaaW.PrintMore
attribute [local go_sem] max2_int min2_int max_two min_two max_three min_three max_four min_four
set_option linter.unusedVariables false
set_option linter.unusedSimpArgs false
theorem eqA145 (d : Nat) (w : World) (x0 y0 : Int) (x1 y1 : Int) :
 (Op.equalIn (d + 2) 145 (.agg #[.int .i64 x0, .int .i64 x1]) (.agg #[.int .i64 y0, .int .i64 y1])).run Try.prog w = .ok (x0 == y0 && (x1 == y1)) w := by
 refine eqA_of Try.underlying145 (by kernel_rfl) ?_
 refine eqf_cons (by rfl) (by go_simp; rfl) (by go_simp; rfl) (by go_simp) ?_
 exact eqf_last (by rfl) (by go_simp; rfl) (by go_simp; rfl) (by go_simp)
end Go.Proofs.Ythbajahklnpkcaa.PA

namespace Go.Proofs.Ythbajahklnpkcaa.PA
open Go.RowKit Go.Proofs.YthbajahklnpkcaaW.PrintWords Go.Proofs.YthbajahklnpkcaaW.PrintLast Go.Proofs.YthbajahklnpkcaaW.PrintMore
attribute [local go_sem] max2_int min2_int max_two min_two max_three min_three max_four min_four
set_option linter.unusedVariables false
set_option linter.unusedSimpArgs false
attribute [local go_sem high] eqA145
def video_span.l0 : Nat → List (S145) → List (S145) → Int → Int → Option (Bool)
 | 0, _, _, _, _ => none
 | k + 1, x0, x1, x12, x13 => if x13 < x12 then (if 0 ≤ x13 then (if x13 < (x0.length : Int) then (if x13 < (x1.length : Int) then (if (!(((rd_T145 x0 x13).f0) == ((rd_T145 x1 x13).f0)) || (!(((rd_T145 x0 x13).f1) == ((rd_T145 x1 x13).f1)))) = true then (some false) else (video_span.l0 k x0 x1 x12 (wrap64 (x13 + 1)))) else (none)) else (none)) else (none)) else (some true)
def video_span.f (k : Nat) (l0 : List (S145)) (l1 : List (S145)) : Option (Bool) := if (l0.length : Int) = (l1.length : Int) then (video_span.l0 k l0 l1 (l0.length : Int) 0) else (some false)
theorem video_span.mono_l : ∀ k, (∀ y0 y1 y2 y3, LeO (video_span.l0 k y0 y1 y2 y3) (video_span.l0 (k + 1) y0 y1 y2 y3))
 | 0 => fun _ _ _ _ r h => by simp [video_span.l0] at h
 | k + 1 => by
  have ih0 := video_span.mono_l k
  · intro y0 y1 y2 y3
    unfold video_span.l0
    repeat' first
    | (with_reducible exact ih0 _ _ _ _)
    | (with_reducible exact LeO.refl _)
    | (with_reducible exact LeO.none _)
    | (with_reducible refine LeO.ite ?_ ?_)
    | (with_reducible refine LeO.bind ?_ (fun _ => ?_))
    | exact ih0 _ _ _ _
    | exact LeO.none _
    | refine LeO.ite ?_ ?_
    | refine LeO.bind ?_ (fun _ => ?_)
theorem video_span.mono : ∀ a0 a1 k, LeO (video_span.f k a0 a1) (video_span.f (k + 1) a0 a1) := by
 intro a0 a1 k
 have ih0 := video_span.mono_l k
 unfold video_span.f
 repeat' first
  | (with_reducible exact ih0 _ _ _ _)
  | (with_reducible exact LeO.refl _)
  | (with_reducible exact LeO.none _)
  | (with_reducible refine LeO.ite ?_ ?_)
  | (with_reducible refine LeO.bind ?_ (fun _ => ?_))
  | exact ih0 _ _ _ _
  | exact LeO.none _
  | refine LeO.ite ?_ ?_
  | refine LeO.bind ?_ (fun _ => ?_)
set_option maxHeartbeats 8000000 in
set_option maxRecDepth 100000 in
theorem video_span.calls (k : Nat) (A0 : Option Addr) (c0 : Nat) (l0 : List (S145)) (A1 : Option Addr) (c1 : Nat) (l1 : List (S145)) (r : Bool) (w : World) (hr0 : Kd.C k145 w A0 l0.length l0) (hc0 : l0.length ≤ c0) (hr1 : Kd.C k145 w A1 l1.length l1) (hc1 : l1.length ≤ c1) (h : video_span.f k l0 l1 = some r) :
 Calls Try.prog 125 #[.slice A0 l0.length c0, .slice A1 l1.length c1] w fun e w' => e = .returned (.bool r) ∧ Drawn0 w w' := by
 have hu145 := Try.underlying145
 have HR0 := Aside0.mk hr0
 have HC0 := Aside0.mk hc0
 clear hr0 hc0
 have HR1 := Aside0.mk hr1
 have HC1 := Aside0.mk hc1
 clear hr1 hc1
 have H : (if (l0.length : Int) = (l1.length : Int) then (video_span.l0 k l0 l1 (l0.length : Int) 0) else (some false)) = some r := h
 clear h
 by_cases c3 : (l0.length : Int) = (l1.length : Int)
 · rw [if_pos c3] at H
   have c3b0 : ((l0.length : Int) == (l1.length : Int)) = true := beq_iff_eq.mpr c3
   have c3b1 : ((l0.length : Int) != (l1.length : Int)) = false := bne_eq_false_iff_eq.mpr c3
   have c3b2 : (l0.length == l1.length) = true := by first | simpa using c3 | (simp at c3 ⊢; omega)
   clear c3
   have H' := Aside0.mk H
   clear H
   go_enter Try.func125, Try.ntmps125
   go_wp2
   repeat (go_quiet (fail); try go_wp2)
   go_loopg [13] k (fun kq v13 w' => ∃ (x13_1 : Int), v13 = .int .i64 x13_1 ∧ Aside0 (video_span.l0 kq l0 l1 (l0.length : Int) x13_1 = some r) ∧ Aside0 (kq ≤ k) ∧ Drawn0 w w')
   case atStart => exact ⟨(0), (by first | rfl | (simp; done) | (simp [*]; done)), H', ⟨Nat.le_refl _⟩, by repeat (first | exact Drawn0.refl _ | apply Drawn0.step)⟩
   case round =>
    clear H'
    try clear c1
    try clear p2
    try clear c3
    try clear c3b0
    try clear c3b1
    try clear c3b2
    obtain ⟨x13_1, rfl, HA, HK1, ⟨m1, rfl⟩⟩ := hrel
    cases gk with
    | zero => exact absurd HA.out (by simp [video_span.l0])
    | succ k1 =>
     have H := HA.out
     clear HA
     simp only [video_span.l0] at H
     by_cases c4 : x13_1 < (l0.length : Int)
     · rw [if_pos c4] at H
       have c4b0 : decide (x13_1 < (l0.length : Int)) = true := decide_eq_true c4
       clear c4
       by_cases c5 : 0 ≤ x13_1
       · rw [if_pos c5] at H
         have c5b0 : decide (0 ≤ x13_1) = true := decide_eq_true c5
         clear c5
         by_cases c6 : x13_1 < (l0.length : Int)
         · rw [if_pos c6] at H
           have c6b0 : decide (x13_1 < (l0.length : Int)) = true := decide_eq_true c6
           clear c6
           by_cases c7 : x13_1 < (l1.length : Int)
           · rw [if_pos c7] at H
             have c7b0 : decide (x13_1 < (l1.length : Int)) = true := decide_eq_true c7
             clear c7
             by_cases c8 : (!(((rd_T145 l0 x13_1).f0) == ((rd_T145 l1 x13_1).f0)) || (!(((rd_T145 l0 x13_1).f1) == ((rd_T145 l1 x13_1).f1)))) = true
             · rw [if_pos c8] at H
               have c8b0 : (!(((rd_T145 l0 x13_1).f0) == ((rd_T145 l1 x13_1).f0)) || (!(((rd_T145 l0 x13_1).f1) == ((rd_T145 l1 x13_1).f1)))) = true := c8
               clear c8
               obtain rfl := Option.some.inj H
               have p236 : 0 ≤ (x13_1 : Int) := of_decide_eq_true (by first | (with_reducible assumption) | assumption)
               have q236 : x13_1 < (l0.length : Int) := of_decide_eq_true (by first | (with_reducible assumption) | assumption)
               obtain ⟨ad236, e236, hx236_0, hx236_1⟩ := at_T145 HR0.out x13_1 p236 q236
               cases e236
               replace p236 := eq_true p236
               replace q236 := eq_true q236
               have p237 : 0 ≤ (x13_1 : Int) := of_decide_eq_true (by first | (with_reducible assumption) | assumption)
               have q237 : x13_1 < (l1.length : Int) := of_decide_eq_true (by first | (with_reducible assumption) | assumption)
               obtain ⟨ad237, e237, hx237_0, hx237_1⟩ := at_T145 HR1.out x13_1 p237 q237
               cases e237
               replace p237 := eq_true p237
               replace q237 := eq_true q237
               go_wp2
               repeat (go_quiet (fail); try go_wp2)
               go_ret
               exact ⟨by first | rfl | (simp; done) | (simp [*]; done), by repeat (first | exact Drawn0.refl _ | apply Drawn0.step)⟩
             · rw [if_neg c8] at H
               have c8b0 : (!(((rd_T145 l0 x13_1).f0) == ((rd_T145 l1 x13_1).f0)) || (!(((rd_T145 l0 x13_1).f1) == ((rd_T145 l1 x13_1).f1)))) = false := by simpa using c8
               clear c8
               have H' := Aside0.mk H
               clear H
               have p236 : 0 ≤ (x13_1 : Int) := of_decide_eq_true (by first | (with_reducible assumption) | assumption)
               have q236 : x13_1 < (l0.length : Int) := of_decide_eq_true (by first | (with_reducible assumption) | assumption)
               obtain ⟨ad236, e236, hx236_0, hx236_1⟩ := at_T145 HR0.out x13_1 p236 q236
               cases e236
               replace p236 := eq_true p236
               replace q236 := eq_true q236
               have p237 : 0 ≤ (x13_1 : Int) := of_decide_eq_true (by first | (with_reducible assumption) | assumption)
               have q237 : x13_1 < (l1.length : Int) := of_decide_eq_true (by first | (with_reducible assumption) | assumption)
               obtain ⟨ad237, e237, hx237_0, hx237_1⟩ := at_T145 HR1.out x13_1 p237 q237
               cases e237
               replace p237 := eq_true p237
               replace q237 := eq_true q237
               go_wp2
               repeat (go_quiet (fail); try go_wp2)
               go_roundg k1
               case measure => have := HK1.out; omega
               case rel => exact ⟨(wrap64 (x13_1 + 1)), (by first | rfl | (simp; done) | (simp [*]; done)), H', ⟨by have := HK1.out; omega⟩, by repeat (first | exact Drawn0.refl _ | apply Drawn0.step)⟩
           · rw [if_neg c7] at H
             exact absurd H (by simp)
         · rw [if_neg c6] at H
           exact absurd H (by simp)
       · rw [if_neg c5] at H
         exact absurd H (by simp)
     · rw [if_neg c4] at H
       have c4b0 : decide (x13_1 < (l0.length : Int)) = false := decide_eq_false c4
       clear c4
       obtain rfl := Option.some.inj H
       go_wp2
       repeat (go_quiet (fail); try go_wp2)
       go_ret
       exact ⟨by first | rfl | (simp; done) | (simp [*]; done), by repeat (first | exact Drawn0.refl _ | apply Drawn0.step)⟩
 · rw [if_neg c3] at H
   have c3b0 : ((l0.length : Int) == (l1.length : Int)) = false := beq_eq_false_iff_ne.mpr c3
   have c3b1 : ((l0.length : Int) != (l1.length : Int)) = true := bne_iff_ne.mpr c3
   have c3b2 : (l0.length == l1.length) = false := by first | simpa using c3 | (simp at c3 ⊢; omega)
   obtain rfl := Option.some.inj H
   go_enter Try.func125, Try.ntmps125
   go_wp2
   repeat (go_quiet (fail); try go_wp2)
   go_ret
   exact ⟨by first | rfl | (simp; done) | (simp [*]; done), by repeat (first | exact Drawn0.refl _ | apply Drawn0.step)⟩
end Go.Proofs.Ythbajahklnpkcaa.PA

namespace Go.Proofs.Ythbajahklnpkcaa.PA
open Go.RowKit Go.Shelf Go.Sort Go.Proofs.YthbajahklnpkcaaW.PrintWords Go.Proofs.YthbajahklnpkcaaW.PrintLast Go.Proofs.YthbajahklnpkcaaW.PrintMore
set_option linter.unusedVariables false
set_option linter.unusedSimpArgs false
def mk145 (s : Sp) : S145 := ⟨s.1, s.2⟩
theorem rd_mk (s : List Sp) (j : Nat) (h : j < s.length) : rd_T145 (s.map mk145) (j : Int) = mk145 s[j] := by
 simp [rd_T145, h]
theorem span_l0 (s t : List Sp) (hl : s.length = t.length) (hs : s.length ≤ 1000000) : ∀ (k j : Nat), j ≤ s.length → s.length - j < k → video_span.l0 k (s.map mk145) (t.map mk145) (s.length : Int) (j : Int) = some (decide (s.drop j = t.drop j))
 | 0, j, _, h => by omega
 | k + 1, j, hj, hk => by
  unfold video_span.l0
  by_cases hlt : j < s.length
  · rw [if_pos (by omega), if_pos (by omega), if_pos (by simp; omega), if_pos (by simp; omega), rd_mk s j hlt, rd_mk t j (by omega)]
    rw [List.drop_eq_getElem_cons hlt, List.drop_eq_getElem_cons (show j < t.length by omega)]
    by_cases he : s[j] = t[j]
    · have h1 : (!((mk145 s[j]).f0 == (mk145 t[j]).f0) || (!((mk145 s[j]).f1 == (mk145 t[j]).f1))) = false := by rw [he]; simp
      rw [h1, if_neg (by decide), w64 (by omega) (by omega)]
      have := span_l0 s t hl hs k (j + 1) (by omega) (by omega)
      rw [show ((j + 1 : Nat) : Int) = (j : Int) + 1 by omega] at this
      rw [this]
      exact congrArg some (decide_eq_decide.mpr ⟨fun h => by rw [he, h], fun h => (List.cons.inj h).2⟩)
    · have h1 : (!((mk145 s[j]).f0 == (mk145 t[j]).f0) || (!((mk145 s[j]).f1 == (mk145 t[j]).f1))) = true := by
       rcases Classical.em (s[j].1 = t[j].1) with h | h
       · have : s[j].2 ≠ t[j].2 := fun h' => he (Prod.ext h h')
         simp [mk145, this]
       · simp [mk145, h]
      rw [h1, if_pos rfl]
      exact congrArg some (decide_eq_false (fun h => he (List.cons.inj h).1)).symm
  · rw [if_neg (by omega), List.drop_eq_nil_of_le (by omega), List.drop_eq_nil_of_le (by omega)]
    simp
theorem span_f (s t : List Sp) (hs : s.length ≤ 1000000) : video_span.f (s.length + 1) (s.map mk145) (t.map mk145) = some (decide (s = t)) := by
 unfold video_span.f
 by_cases hl : s.length = t.length
 · rw [if_pos (by simp [hl])]
   have := span_l0 s t hl hs (s.length + 1) 0 (by omega) (by omega)
   simpa using this
 · rw [if_neg (by simp; omega)]
   congr 1
   have : s ≠ t := fun h => hl (by rw [h])
   simp [this]
theorem reps145 (W : World) (base : Nat) (ok : Nat → Prop) (l : List Sp) : Reps (k145.M W base ok) 2 (l.map mk145) (fl145 l) := by
 have key : ∀ (r a : List Sp), Reps (k145.M W base ok) 2 (a.map mk145) (fl145 a) → Reps (k145.M W base ok) 2 ((a ++ r).map mk145) (fl145 (a ++ r)) := by
  intro r
  induction r with
  | nil => intro a h; simpa using h
  | cons x r ih =>
   intro a h
   have h1 : Reps (k145.M W base ok) 2 ((a ++ [x]).map mk145) (fl145 (a ++ [x])) := by
    have := h.snoc (k145_mkM W base ok (mk145 x)) rfl
    simpa [fl145, mk145] using this
   have := ih (a ++ [x]) h1
   simpa using this
 simpa using key l [] (Reps.none _ _)
theorem span_reads {W : World} {base c n : Nat} {A : Option Addr} {l : List Sp} (h : W.ownsRow base 145 2 (.slice A n c) n (fl145 l)) (hn : n = l.length) : Kd.C k145 W A (l.map mk145).length (l.map mk145) ∧ (l.map mk145).length ≤ c := by
 subst hn
 have hR : Kd.R k145 145 W base (fun _ => True) (.slice A l.length c) (l.map mk145) := ⟨fun _ _ => trivial, fl145 l, by rw [List.length_map]; exact h, reps145 _ _ _ l⟩
 obtain ⟨h1, h2, h3⟩ := Kd.R_reads' hR
 exact ⟨h3, by rw [← h1]; exact h2⟩
theorem same125 {W : World} {base base2 c c2 n n2 : Nat} {A A2 : Option Addr} {s t : List Sp} (h : W.ownsRow base 145 2 (.slice A n c) n (fl145 s)) (hn : n = s.length) (h2 : W.ownsRow base2 145 2 (.slice A2 n2 c2) n2 (fl145 t)) (hn2 : n2 = t.length) (hs : s.length ≤ 1000000) :
 Calls Try.prog 125 #[.slice A n c, .slice A2 n2 c2] W fun e w' => e = .returned (.bool (decide (s = t))) ∧ Drawn0 W w' := by
 obtain ⟨k1, k2⟩ := span_reads h hn
 obtain ⟨k3, k4⟩ := span_reads h2 hn2
 have := video_span.calls (s.length + 1) A c (s.map mk145) A2 c2 (t.map mk145) _ W k1 k2 k3 k4 (span_f s t hs)
 rw [List.length_map, List.length_map, ← hn, ← hn2] at this
 exact this
def flB (l : List (Bd × Value)) : List Value := l.flatMap fun p => [.int .i64 p.1.1, .int .i64 p.1.2.1, p.2]
theorem flB_len (l : List (Bd × Value)) : (flB l).length = l.length * 3 := by
 induction l with
 | nil => rfl
 | cons s l ih =>
  have e : flB (s :: l) = .int .i64 s.1.1 :: .int .i64 s.1.2.1 :: s.2 :: flB l := rfl
  rw [e, List.length_cons, List.length_cons, List.length_cons, ih, List.length_cons]; omega
theorem flB_snoc (l : List (Bd × Value)) (p : Bd × Value) : flB (l ++ [p]) = flB l ++ [.int .i64 p.1.1, .int .i64 p.1.2.1, p.2] := by simp [flB]
theorem flB_last (l : List (Bd × Value)) (p : Bd × Value) : (flB (l ++ [p]))[l.length * 3 + 1]? = some (.int .i64 p.1.2.1) ∧ (flB (l ++ [p]))[l.length * 3 + 2]? = some p.2 := by
 rw [flB_snoc]
 constructor
 · rw [List.getElem?_append_right (by rw [flB_len]; omega), flB_len, show l.length * 3 + 1 - l.length * 3 = 1 by omega]; rfl
 · rw [List.getElem?_append_right (by rw [flB_len]; omega), flB_len, show l.length * 3 + 2 - l.length * 3 = 2 by omega]; rfl
theorem flB_set (l : List (Bd × Value)) (a b v : Int) (s : List Sp) (x : Value) : (flB (l ++ [((a, b, s), x)])).set (l.length * 3 + 1) (.int .i64 v) = flB (l ++ [((a, v, s), x)]) := by
 rw [flB_snoc, flB_snoc, List.set_append_right _ _ (by rw [flB_len]; omega), flB_len, show l.length * 3 + 1 - l.length * 3 = 1 by omega]
 rfl
theorem flB_get : ∀ (l : List (Bd × Value)) (i : Nat) (p : Bd × Value), l[i]? = some p → (flB l)[i * 3]? = some (.int .i64 p.1.1) ∧ (flB l)[i * 3 + 1]? = some (.int .i64 p.1.2.1) ∧ (flB l)[i * 3 + 2]? = some p.2
 | [], i, p, h => by cases h
 | q :: l, 0, p, h => by cases h; exact ⟨rfl, rfl, rfl⟩
 | q :: l, i + 1, p, h => by
  obtain ⟨h1, h2, h3⟩ := flB_get l i p h
  have e : flB (q :: l) = .int .i64 q.1.1 :: .int .i64 q.1.2.1 :: q.2 :: flB l := rfl
  have e3 : (i + 1) * 3 = i * 3 + 1 + 1 + 1 := by omega
  rw [e, e3]
  exact ⟨h1, h2, h3⟩
structure MI (w : World) (N : Nat) (acc : List Bd) (LA : Option Addr) (Lc : Nat) (bp : List (Bd × Value)) (W : World) : Prop where
 vb : Boxed W w.heap.size 136 (.slice LA bp.length Lc)
 row : W.ownsRow N 142 3 (.slice LA bp.length Lc) bp.length (flB bp)
 sps : ∀ p ∈ bp, W.ownsRow N 145 2 p.2 p.1.2.2.length (fl145 p.1.2.2)
 acc_ : bp.map (·.1) = acc.reverse
 bl : Below w.heap.size w W
 sz : N ≤ W.heap.size
section
variable {w W W' : World} {N : Nat} {acc : List Bd} {LA : Option Addr} {Lc : Nat} {bp : List (Bd × Value)}
theorem MI.bel (h : MI w N acc LA Lc bp W) (hb : Below W.heap.size W W') : MI w N acc LA Lc bp W' :=
 ⟨box_bel h.vb hb, row_bel h.row hb, fun p hp => row_bel (h.sps p hp) hb, h.acc_, h.bl.trans (hb.mono h.bl.size), Nat.le_trans h.sz hb.size⟩
theorem MI.alloc (h : MI w N acc LA Lc bp W) (o : Obj) : MI w N acc LA Lc bp (W.alloc o) := h.bel ((Below.refl _ W).alloc (Nat.le_refl _) o)
theorem MI.put (h : MI w N acc LA Lc bp W) (hN : w.heap.size < N) {l : Nat} {o : Obj} (o' : Obj) (hl : N ≤ l) (ho : W.heap[l]? = some o) (hc : o.isCells = false) : MI w N acc LA Lc bp (W.putObj l o') :=
 ⟨h.vb.kept (grownBy_putObj' W l o') (fun e => by cases e; omega), ownsRow_putObj h.row o' ho hc, fun p hp => ownsRow_putObj (h.sps p hp) o' ho hc, h.acc_,
  h.bl.grown (grownBy_putObj' W l o') h.bl.size (fun k ek => by cases ek; omega), by simpa [World.putObj] using h.sz⟩
end
end Go.Proofs.Ythbajahklnpkcaa.PA

namespace Go.Proofs.Ythbajahklnpkcaa.PA
open Go.RowKit Go.Shelf Go.Sort Go.Proofs.YthbajahklnpkcaaW.PrintWords Go.Proofs.YthbajahklnpkcaaW.PrintLast Go.Proofs.YthbajahklnpkcaaW.PrintMore
attribute [local go_sem] Oper.semAt_some
set_option linter.unusedVariables false
set_option linter.unusedSimpArgs false
theorem row_cells {W : World} {base n size : Nat} {e : TypeId} {v : Value} {xs : List Value} (h : W.ownsRow base e size v n xs) (tmp : Obj) : ∀ (j : Nat) (o : Obj), v.ownBlock = some j → (W.alloc tmp).heap[j]? = some o → o.isCells = true := by
 intro j o hj ho
 obtain ⟨cells, hc⟩ := own_typed h j hj
 rw [Below.heap_alloc W tmp j (row_bl h hj).2, hc] at ho
 cases ho
 rfl
theorem cells3_new (W : World) (a b c : Value) (t : TypeId) : ∀ j u, [a, b, c][j]? = some u → (W.alloc (.cells #[a, b, c] t)).cell? ((⟨W.heap.size, 0, none⟩ : Addr).add j) = some u := by
 intro j u h
 have HB := Blk.new W #[a, b, c] t
 match j, h with
 | 0, h => simp at h; subst h; exact HB.cell 0 rfl
 | 1, h => simp at h; subst h; exact HB.cell 1 rfl
 | 2, h => simp at h; subst h; exact HB.cell 2 rfl
 | j + 3, h => simp at h
section
variable {w W w1 : World} {N : Nat} {acc : List Bd} {LA : Option Addr} {Lc : Nat} {bp : List (Bd × Value)}
theorem MI.app (h : MI w N acc LA Lc bp W) (hN : w.heap.size < N) {tmp : Obj} {x : Bd} {vv : Value} {A2 : Option Addr} {c2 : Nat}
 (hs : W.ownsRow N 145 2 vv x.2.2.length (fl145 x.2.2)) (hne : addP acc x.1 x.2.1 x.2.2 = x :: acc) (hgrow : (W.alloc tmp).grownBy w1 (Value.slice LA bp.length Lc).ownBlock)
 (hown : w1.ownsRow N 142 3 (.slice A2 (bp.length + 1) c2) (bp.length + 1) (flB bp ++ [.int .i64 x.1, .int .i64 x.2.1, vv])) :
 MI w N (addP acc x.1 x.2.1 x.2.2) A2 c2 (bp ++ [(x, vv)]) (w1.setCell ⟨w.heap.size, 0, none⟩ (.slice A2 (bp ++ [(x, vv)]).length c2)) ∧ KeepsOthers W (w1.setCell ⟨w.heap.size, 0, none⟩ (.slice A2 (bp ++ [(x, vv)]).length c2)) ∧ KtN N w.heap.size W (w1.setCell ⟨w.heap.size, 0, none⟩ (.slice A2 (bp ++ [(x, vv)]).length c2)) := by
 have hsz := h.sz
 have hlt := h.vb.lt
 have hge : ∀ k, (Value.slice LA bp.length Lc).ownBlock = some k → N ≤ k := fun k hk => (row_bl h.row hk).1
 have hs1 : W.heap.size + 1 ≤ w1.heap.size := by have := hgrow.size; simpa using this
 have hvb : Boxed w1 w.heap.size 136 (.slice LA bp.length Lc) := (h.vb.alloc tmp).kept hgrow (fun e => by have := hge _ e.symm; omega)
 have hrow : ∀ {v : Value} {n : Nat} {zs : List Value}, W.ownsRow N 145 2 v n zs → (w1.setCell ⟨w.heap.size, 0, none⟩ (.slice A2 (bp ++ [(x, vv)]).length c2)).ownsRow N 145 2 v n zs := by
  intro v n zs hz
  refine row_same hz (fun k hk => ?_)
  have hk1 := row_bl hz hk
  rw [Below.heap_setCell w1 ⟨w.heap.size, 0, none⟩ _ k (by show k ≠ w.heap.size; omega)]
  rw [hgrow.block k (by simp; omega) (fun e => ?_), Below.heap_alloc W tmp k hk1.2]
  obtain ⟨c1, h1⟩ := own_typed hz k hk
  obtain ⟨c3, h3⟩ := own_typed h.row k e.symm
  rw [h1] at h3
  cases h3
 have hlen : (bp ++ [(x, vv)]).length = bp.length + 1 := by simp
 refine ⟨⟨hvb.set _, ?_, ?_, ?_, ?_, ?_⟩, ?_, ?_⟩
 · rw [flB_snoc, hlen]
   exact row_same hown (fun k hk => Below.heap_setCell w1 ⟨w.heap.size, 0, none⟩ _ k (by have := (row_bl hown hk).1; show k ≠ w.heap.size; omega))
 · intro p hp
   rcases List.mem_append.mp hp with hp | hp
   · exact hrow (h.sps p hp)
   · simp only [List.mem_singleton] at hp
     subst hp
     exact hrow hs
 · rw [hne]; simp [h.acc_]
 · exact ((h.bl.alloc h.bl.size _).grown hgrow (by have := h.bl.size; simp; omega) (fun k hk => by have := hge k hk; omega)).setCell (p := ⟨w.heap.size, 0, none⟩) (Nat.le_refl _) _
 · have : (w1.setCell ⟨w.heap.size, 0, none⟩ (.slice A2 (bp ++ [(x, vv)]).length c2)).heap.size = w1.heap.size := by show (w1.heap.modify _ _).size = _; simp
   omega
 · exact ((KeepsOthers.alloc W tmp).trans (KeepsOthers.of_grownBy hgrow (row_cells h.row tmp))).trans (KeepsOthers.setCell _ _ _)
 · refine ⟨?_, fun k o hk hne2 ho hco => ?_⟩
   · have : (w1.setCell ⟨w.heap.size, 0, none⟩ (.slice A2 (bp ++ [(x, vv)]).length c2)).heap.size = w1.heap.size := by show (w1.heap.modify _ _).size = _; simp
     omega
   · rw [Below.heap_setCell w1 ⟨w.heap.size, 0, none⟩ _ k hne2]
     have hkl := (Array.getElem?_eq_some_iff.1 ho).1
     rw [hgrow.block k (by simp; omega) (fun e => by have := hge _ e.symm; omega), Below.heap_alloc W tmp k hkl]
     exact ho
theorem MI.mrg {g : Nat} {bp0 : List (Bd × Value)} {a b v : Int} {s : List Sp} {x : Value} {r : List Bd} (h : MI w N ((a, b, s) :: r) (some ⟨g, 0, none⟩) Lc (bp0 ++ [((a, b, s), x)]) W) (hN : w.heap.size < N) :
 MI w N ((a, v, s) :: r) (some ⟨g, 0, none⟩) Lc (bp0 ++ [((a, v, s), x)]) (W.setCell ⟨g, bp0.length * 3 + 1, none⟩ (.int .i64 v)) ∧ KeepsOthers W (W.setCell ⟨g, bp0.length * 3 + 1, none⟩ (.int .i64 v)) ∧ KtN N w.heap.size W (W.setCell ⟨g, bp0.length * 3 + 1, none⟩ (.int .i64 v)) := by
 have hg := row_bl h.row (k := g) rfl
 have hsz := h.sz
 have hszs : (W.setCell ⟨g, bp0.length * 3 + 1, none⟩ (.int .i64 v)).heap.size = W.heap.size := by show (W.heap.modify _ _).size = _; simp
 have hl : ∀ q : Bd × Value, (bp0 ++ [q]).length = bp0.length + 1 := fun q => by simp
 have hacc := h.acc_
 simp only [List.map_append, List.map_cons, List.map_nil, List.reverse_cons] at hacc
 have hacc2 : bp0.map (·.1) = r.reverse := (List.append_inj' hacc rfl).1
 have hvb := h.vb
 rw [hl] at hvb
 refine ⟨⟨?_, ?_, ?_, ?_, ?_, ?_⟩, KeepsOthers.setCell _ _ _, ?_, fun k o hk hne ho hco => ?_⟩
 · rw [hl]; exact (Below.heap_setCell W ⟨g, bp0.length * 3 + 1, none⟩ _ w.heap.size (by show w.heap.size ≠ g; omega)).trans hvb
 · have := own_set h.row (bp0.length * 3 + 1) (.int .i64 v)
   rw [flB_set, hl] at this
   rw [hl]
   exact this
 · intro p hp
   have hr : ∀ {vv : Value} {n : Nat} {zs : List Value}, W.ownsRow N 145 2 vv n zs → (W.setCell ⟨g, bp0.length * 3 + 1, none⟩ (.int .i64 v)).ownsRow N 145 2 vv n zs := by
    intro vv n zs hz
    refine row_same hz (fun k hk => Below.heap_setCell W ⟨g, bp0.length * 3 + 1, none⟩ _ k ?_)
    obtain ⟨c1, h1⟩ := own_typed hz k hk
    obtain ⟨c3, h3⟩ := own_typed h.row g rfl
    show k ≠ g
    rintro rfl
    rw [h1] at h3
    cases h3
   rcases List.mem_append.mp hp with hp | hp
   · exact hr (h.sps p (List.mem_append_left _ hp))
   · simp only [List.mem_singleton] at hp
     subst hp
     exact hr (h.sps ((a, b, s), x) (List.mem_append_right _ (by simp)))
 · simp [hacc2]
 · exact h.bl.setCell (p := ⟨g, bp0.length * 3 + 1, none⟩) (by show w.heap.size ≤ g; omega) _
 · omega
 · omega
 · rw [Below.heap_setCell W ⟨g, bp0.length * 3 + 1, none⟩ _ k (by show k ≠ g; omega)]
   exact ho
end
end Go.Proofs.Ythbajahklnpkcaa.PA

namespace Go
set_option linter.unusedVariables false
variable {F : Fence} {n : Nat} {P : Program}
theorem Oper.wpIn_round (l : Nat) {o : Oper} (hnd : ∀ c, o.op ≠ .defer c) (hro : F.round = none) {a : Act} {w : World} {K : Act → World → Prop} {Q : Exit → Act → World → Prop} (h : o.wpIn F n P a w K Q) : o.wpIn (F.inRound l) n P a w K Q := by
 refine ⟨h.1, ?_⟩
 have h2 := h.2
 rw [hro, Oper.semAt_none] at h2
 show Oper.uponIn (F.inRound l) n P o a K Q ((o.semAt (some l) a.eval).run P w)
 rw [Oper.semAt_some l _ _ hnd]
 exact h2
theorem wpAnyIn_round (l : Nat) {ops : Array Oper} (hnd : ∀ (i : Nat) (o : Oper), ops[i]? = some o → ∀ c, o.op ≠ .defer c) (hro : F.round = none) {md : Region.Mode} {Q : Exit → Act → World → Prop} : ∀ (fuel : Nat) (listed : Array Bool) (a : Act) (w : World),
 wpAnyIn F n P md ops Q fuel listed a w → wpAnyIn (F.inRound l) n P md ops Q fuel listed a w
 | 0, _, _, _, h => h
 | fuel + 1, listed, a, w, h => by
  refine ⟨h.1, fun i hi => ?_⟩
  have h2 := h.2 i hi
  unfold wpOpIn at h2 ⊢
  split
  · rename_i ho
    simp only [ho] at h2
    exact wpAnyIn_round l hnd hro fuel _ a w h2
  · rename_i o ho
    simp only [ho] at h2
    split
    · rename_i hw
      simp only [hw, if_true] at h2
      exact Oper.wpIn_round l (hnd i o ho) hro (Oper.wpIn_mono (fun a w h => wpAnyIn_round l hnd hro fuel _ a w h) h2)
    · rename_i hw
      rw [if_neg hw] at h2
      exact ⟨h2.1, wpAnyIn_round l hnd hro fuel _ _ _ h2.2⟩
def noDefer (l : List Oper) : Bool := l.all fun o => match o.op with
 | .defer _ => false
 | _ => true
theorem region_quiet_round {id l : Nat} {Q : Exit → Act → World → Prop} {a : Act} {w : World} {os : List Oper} (hro : F.round = none) (hm : P.follows .mixedOrders = true) (hB : Region.lexB .any os.toArray = true) (hd : noDefer os = true)
 (h : wpQuietIn F n P os.toArray (fun w' => ∃ n, w' = w.drewN n) (fun a' => ∀ w', (∃ n, w' = w.drewN n) → Q .normal a' w') os a) : (Code.region id os.toArray true).wpIn (F.inRound l) n P Q a w := by
 have hB' := hB
 simp only [Region.lexB, Bool.and_eq_true] at hB
 have hnd : ∀ (i : Nat) (o : Oper), os.toArray[i]? = some o → ∀ c, o.op ≠ .defer c := by
  intro i o ho c hc
  have hm : o ∈ os := by
   have := List.mem_of_getElem? (by simpa using ho : os[i]? = some o)
   exact this
  have := List.all_eq_true.mp hd o hm
  rw [hc] at this
  cases this
 refine wpIn_region_any hm (wpAnyIn_round l hnd hro _ _ _ _ ?_)
 refine wpAnyIn_of_quiet (C := fun w' => ∃ n, w' = w.drewN n) (Q := fun a' => ∀ w', (∃ n, w' = w.drewN n) → Q .normal a' w') hro (fun _ w' hw' h => h w' hw') _ _ _ _ ⟨1, rfl⟩ ?_
 have := wpAnyQIn_lex (F := F) (n := n) (C := fun w' => ∃ n, w' = w.drewN n) (md := .any) hB.1 os.toArray.toList 0 (Array.replicate os.toArray.size false) a (by simp) (by simpa using hB.2) (by simpa using h)
 simpa using this
end Go

namespace Go.Proofs.Ythbajahklnpkcaa.PA
open Go.RowKit Go.Shelf Go.Sort Go.Proofs.YthbajahklnpkcaaW.PrintWords Go.Proofs.YthbajahklnpkcaaW.PrintLast Go.Proofs.YthbajahklnpkcaaW.PrintMore
attribute [local go_sem] Oper.semAt_some
set_option linter.unusedVariables false
set_option linter.unusedSimpArgs false
theorem addP_sp {acc : List Bd} {u v : Int} {s : List Sp} {B : Nat} (h : ∀ y ∈ acc, y.2.2.length ≤ B) (hs : s.length ≤ B) : ∀ y ∈ addP acc u v s, y.2.2.length ≤ B := by
 intro y hy
 cases acc with
 | nil => simp [addP] at hy; subst hy; exact hs
 | cons q r =>
  obtain ⟨a, b, t⟩ := q
  by_cases hb : b = u ∧ t = s
  · simp only [addP, hb, and_self, if_true] at hy
    rcases List.mem_cons.mp hy with rfl | hy
    · first | exact hs | exact h (a, b, t) (by simp)
    · exact h y (by simp [hy])
  · simp only [addP, hb, if_false] at hy
    rcases List.mem_cons.mp hy with rfl | hy
    · exact hs
    · exact h y hy
theorem accP_sp (l : List Bd) {B : Nat} (h : ∀ y ∈ l, y.2.2.length ≤ B) : ∀ y ∈ accP l, y.2.2.length ≤ B := by
 have : ∀ (l : List Bd) (acc : List Bd), (∀ y ∈ l, y.2.2.length ≤ B) → (∀ y ∈ acc, y.2.2.length ≤ B) → ∀ y ∈ l.foldl (fun acc x => addP acc x.1 x.2.1 x.2.2) acc, y.2.2.length ≤ B := by
  intro l
  induction l with
  | nil => intro acc _ ha; exact ha
  | cons x l ih =>
   intro acc hl ha
   exact ih _ (fun y hy => hl y (by simp [hy])) (addP_sp ha (hl x (by simp)))
 exact this l [] h (fun y hy => by cases hy)
theorem drawn_ex {W W' : World} (h : Drawn0 W W') : ∃ m, W' = W.drewN m := by
 obtain ⟨m, hm⟩ := h
 exact ⟨m, hm⟩
def rectW (b : Bd) (s : Sp) : S43 := ⟨s.1, b.1, wrap64 (s.2 - s.1), wrap64 (b.2.1 - b.1)⟩
def flatW (l : List Bd) : List S43 := l.flatMap fun b => b.2.2.map (rectW b)
def outOf (is : Bool → Bool → Bool) (a b : List S43) : List S43 := flatW (accP (bandsOf is a b (edgX (a ++ b)) (edgY (a ++ b)))).reverse
def madeE (out : List S43) : Int := if badL out = true then 7 else if 200 < out.length then 4 else 0
def madeL (out : List S43) : List S43 := if badL out = true then [] else if 200 < out.length then [] else out
theorem fl43_snoc (l : List S43) (s : S43) : fl43 (l ++ [s]) = fl43 l ++ [.int .i64 s.f0, .int .i64 s.f1, .int .i64 s.f2, .int .i64 s.f3] := by simp [fl43]
theorem reps43 (W : World) (base : Nat) (ok : Nat → Prop) (l : List S43) : Reps (k43.M W base ok) 4 l (fl43 l) := by
 have key : ∀ (r a : List S43), Reps (k43.M W base ok) 4 a (fl43 a) → Reps (k43.M W base ok) 4 (a ++ r) (fl43 (a ++ r)) := by
  intro r
  induction r with
  | nil => intro a h; simpa using h
  | cons x r ih =>
   intro a h
   have h1 : Reps (k43.M W base ok) 4 (a ++ [x]) (fl43 (a ++ [x])) := by
    have := h.snoc (k43_mkM W base ok x) rfl
    simpa [fl43] using this
   have := ih (a ++ [x]) h1
   simpa using this
 simpa using key l [] (Reps.none _ _)
theorem rect_R {W : World} {base : Nat} {v : Value} {l : List S43} (h : W.ownsRow base 43 4 v l.length (fl43 l)) : Kd.R k43 43 W base (fun _ => True) v l := ⟨fun _ _ => trivial, fl43 l, h, reps43 _ _ _ l⟩
theorem rect_C {W : World} {base c : Nat} {A : Option Addr} {l : List S43} (h : W.ownsRow base 43 4 (.slice A l.length c) l.length (fl43 l)) : Kd.C k43 W A l.length l := (Kd.R_reads' (rect_R h)).2.2
theorem cells4_new (W : World) (a b c d : Value) (t : TypeId) : ∀ j u, [a, b, c, d][j]? = some u → (W.alloc (.cells #[a, b, c, d] t)).cell? ((⟨W.heap.size, 0, none⟩ : Addr).add j) = some u := by
 intro j u h
 have HB := Blk.new W #[a, b, c, d] t
 match j, h with
 | 0, h => simp at h; subst h; exact HB.cell 0 rfl
 | 1, h => simp at h; subst h; exact HB.cell 1 rfl
 | 2, h => simp at h; subst h; exact HB.cell 2 rfl
 | 3, h => simp at h; subst h; exact HB.cell 3 rfl
 | j + 4, h => simp at h
theorem cells4_at (W : World) (a b c d : Value) (t : TypeId) (n : Nat) (hn : n = W.heap.size) : ∀ j u, [a, b, c, d][j]? = some u → (W.alloc (.cells #[a, b, c, d] t)).cell? ((⟨n, 0, none⟩ : Addr).add j) = some u := by
 subst hn
 exact cells4_new W a b c d t
theorem flatW_len {B : Nat} : ∀ (l : List Bd), (∀ y ∈ l, y.2.2.length ≤ B) → (flatW l).length ≤ l.length * B
 | [], _ => by simp [flatW]
 | b :: l, h => by
  have h1 := flatW_len l (fun y hy => h y (by simp [hy]))
  have h2 := h b (by simp)
  have e : flatW (b :: l) = b.2.2.map (rectW b) ++ flatW l := rfl
  rw [e, List.length_append, List.length_map, List.length_cons, Nat.succ_mul]
  omega
theorem flatW_take (l : List Bd) (i : Nat) (b : Bd) (h : l[i]? = some b) : flatW (l.take (i + 1)) = flatW (l.take i) ++ b.2.2.map (rectW b) := by
 rw [List.take_add_one, h]
 simp [flatW, List.flatMap_append]
theorem fl145_get : ∀ (l : List Sp) (j : Nat) (s : Sp), l[j]? = some s → (fl145 l)[j * 2]? = some (.int .i64 s.1) ∧ (fl145 l)[j * 2 + 1]? = some (.int .i64 s.2)
 | [], j, s, h => by cases h
 | q :: l, 0, s, h => by cases h; exact ⟨rfl, rfl⟩
 | q :: l, j + 1, s, h => by
  obtain ⟨h1, h2⟩ := fl145_get l j s h
  have e : fl145 (q :: l) = .int .i64 q.1 :: .int .i64 q.2 :: fl145 l := rfl
  rw [e, show (j + 1) * 2 = j * 2 + 1 + 1 by omega]
  exact ⟨h1, h2⟩
set_option maxRecDepth 100000 in
set_option maxHeartbeats 8000000 in
theorem made_walk (is : Bool → Bool → Bool) (gi : Nat) (eg : ∀ args w, (callFunc gi args).run Try.prog w = .ok (.enter gi args) w) (his : IsB gi is)
 (A B : Option Addr) (cA cB : Nat) (a b : List S43) (w : World) (hr : Kd.C k43 w A a.length a) (hr2 : Kd.C k43 w B b.length b) (hla : a.length ≤ 40000) (hlb : b.length ≤ 40000) :
 Calls Try.prog 73 #[.slice A a.length cA, .slice B b.length cB, .func (.func gi) #[] #[]] w fun e w' => ∃ v, e = .returned (.tuple #[v, .int .i64 (madeE (outOf is a b))]) ∧ w'.ownsRow w.heap.size 43 4 v (madeL (outOf is a b)).length (fl43 (madeL (outOf is a b))) ∧ Below w.heap.size w w' := by
 have HBC := Aside0.mk (bands_calls gi A B cA cB a b (w.alloc (.cells #[.slice none 0 0] 136)) (Kd.C_alloc hr _) (Kd.C_alloc hr2 _) hla hlb)
 have HR := Aside0.mk hr
 have HR2 := Aside0.mk hr2
 clear hr hr2
 refine (callsIn_wide (n := 9)).1 ?_
 refine callsIn_of_wp_marks Try.func73 rfl trivial ?_ rfl
 simp only [Try.ntmps73, List.size_toArray, List.length_cons, List.length_nil, Nat.reduceAdd, Nat.reduceSub, Array.replicate_succ, Array.replicate_zero, List.push_toArray, List.append_toArray, List.nil_append, List.cons_append]
 gi_wp2
 refine ⟨trivial, ((callsIn_wide (n := 8)).2 HBC.out).mono ?_⟩
 rintro ee w2 ⟨X, Y, cX, cY, px, py, rfl, henv, hpx, hpy, hb2⟩
 gi_wp2
 have hs1 : (w.alloc (.cells #[.slice none 0 0] 136)).heap.size = w.heap.size + 1 := by simp
 rw [hs1] at henv hpx hpy hb2
 have hs2 := hb2.size
 rw [hs1] at hs2
 have hB2 : Below w.heap.size w w2 := ((Below.refl _ w).alloc (Nat.le_refl _) _).trans (hb2.mono (by omega))
 have hvb : Boxed w2 w.heap.size 136 (.slice none 0 0) := (hb2.block w.heap.size (by omega)).trans (Boxed.new w 136 _)
 have hxl : (edgX (a ++ b)).length ≤ 1000000 := by have := edgesL_len (fun r => r.f0) (fun r => wrap64 (r.f0 + r.f2)) (a ++ b); simp at this; unfold edgX; omega
 have hyl : (edgY (a ++ b)).length ≤ 1000000 := by have := edgesL_len (fun r => r.f1) (fun r => wrap64 (r.f1 + r.f3)) (a ++ b); simp at this; unfold edgY; omega
 obtain ⟨N, hN⟩ : ∃ N, N = w2.heap.size := ⟨_, rfl⟩
 have hwN : w.heap.size < N := by omega
 have hIt := bands3_it 8 is gi eg his A B cA cB a b (edgX (a ++ b)) (edgY (a ++ b)) X Y cX cY (w.heap.size + 1) (w.heap.size + 1 + 1) (w.heap.size + 1 + 1 + 1) px py N w.heap.size w w2 hxl hyl henv hN rfl hB2 HR.out HR2.out (by omega) (by omega) (by omega) (by omega) (by omega)
 have HSL := Aside0.mk (show ∀ x ∈ bandsOf is a b (edgX (a ++ b)) (edgY (a ++ b)), x.2.2.length ≤ 1000000 from by
  intro x hx
  simp only [bandsOf, bdN, List.mem_map] at hx
  obtain ⟨i, _, rfl⟩ := hx
  have := rowN_len (fun x => is (covL a x ((edgY (a ++ b)).getD i 0)) (covL b x ((edgY (a ++ b)).getD i 0))) (edgX (a ++ b)) ((edgX (a ++ b)).length - 1)
  simp only [spansOf, List.length_reverse]
  omega)
 have HBL := Aside0.mk (show (bandsOf is a b (edgX (a ++ b)) (edgY (a ++ b))).length ≤ 1000000 from by
  rw [bandsOf, bdN_len]; omega)
 generalize hall : bandsOf is a b (edgX (a ++ b)) (edgY (a ++ b)) = all at hIt HSL HBL
 have HALL := Aside0.mk hall
 clear hall
 refine wpIn_rangeFunc_Q (n := 9) rfl (by omega) (gf := 141) (lb := #[.pointer (some ⟨py, 0, none⟩), .pointer (some ⟨px, 0, none⟩), .pointer (some ⟨w.heap.size + 1 + 1 + 1, 0, none⟩), .pointer (some ⟨w.heap.size + 1, 0, none⟩), .pointer (some ⟨w.heap.size + 1 + 1, 0, none⟩)]) rfl trivial (enters_of Try.func141 (by kernel_rfl) rfl)
  hIt (fun W x args h => by obtain ⟨v, rfl, _⟩ := h; rfl)
  (fun A B C h h' => ktN_trans h h') (fun W o => ktN_bel ((Below.refl _ W).alloc (Nat.le_refl _) o))
  (fun W l o o' hl ho => ⟨by simp [World.putObj], fun k q _ _ hk hq => (World.putObj_heap_other (fun e => by subst e; rw [hl] at hk; cases hk; rw [ho] at hq; cases hq)).trans hk⟩)
  (fun A B k o ht hk ho => (ht.block k (Array.getElem?_eq_some_iff.1 hk).1).trans hk)
  (fun pre W => ∃ LA Lc bp, MI w N (accP pre) LA Lc bp W)
  ?Ia ?Ip ?It ?I0
  (fun pre x a' W => ∃ Bx LA Lc bp vv, MI w N (accP pre) LA Lc bp W ∧ Blk W Bx #[.int .i64 x.1, .int .i64 x.2.1, vv] 142 ∧ W.ownsRow N 145 2 vv x.2.2.length (fl145 x.2.2) ∧ N ≤ Bx ∧ a' = { tmps := #[.slice A a.length cA, .slice B b.length cB, .func (.func gi) #[] #[], undef, undef, undef, .slice none 0 0, .int .i64 0, .pointer (some ⟨w.heap.size, 0, none⟩), .pointer (some ⟨Bx, 0, none⟩), undef, undef, undef, undef, undef, undef, .slice A a.length cA, .slice B b.length cB, .func (.func gi) #[] #[], .func (.func 141) #[] #[.pointer (some ⟨py, 0, none⟩), .pointer (some ⟨px, 0, none⟩), .pointer (some ⟨w.heap.size + 1 + 1 + 1, 0, none⟩), .pointer (some ⟨w.heap.size + 1, 0, none⟩), .pointer (some ⟨w.heap.size + 1 + 1, 0, none⟩)], .agg #[.int .i64 x.1, .int .i64 x.2.1, vv], undef, undef, undef, undef, undef, undef, undef, undef, undef, undef, undef, undef, undef, undef, undef, undef, undef, undef, undef, undef, undef, undef, undef, undef, undef, undef, undef, undef, undef, undef, undef, undef, undef, undef, undef, undef, undef, undef, undef, undef, undef, undef, undef, undef, undef, undef, undef, undef, undef, undef, undef, undef, undef, undef, undef, undef, undef, undef, undef, undef, undef, undef, undef, undef, undef, undef, undef, undef, undef, undef, undef, undef, undef, undef, undef, undef], defers := [] })
  ?Axp ?assign ?body ?done
 case Ia => rintro pre W o ⟨LA, Lc, bp, h⟩; exact ⟨LA, Lc, bp, h.alloc o⟩
 case Ip => rintro pre W l o o' ⟨LA, Lc, bp, h⟩ hl ho hc; exact ⟨LA, Lc, bp, h.put hwN o' (by omega) ho hc⟩
 case It => rintro pre A B ⟨LA, Lc, bp, h⟩ ht; exact ⟨LA, Lc, bp, h.bel ht⟩
 case I0 => exact ⟨none, 0, [], ⟨hvb, World.ownsRow_nil _ _ _ _, (fun p hp => absurd hp (by simp)), rfl, hB2, by omega⟩⟩
 case Axp =>
  rintro pre x a' W l o o' ⟨Bx, LA, Lc, bp, vv, h, hx, hs, hB, rfl⟩ hl ho hc
  exact ⟨Bx, LA, Lc, bp, vv, h.put hwN o' (by omega) ho hc, hx.same (World.putObj_heap_other (fun e => by unfold Blk at hx; rw [← e, hx] at ho; cases ho; cases hc)), ownsRow_putObj hs o' ho hc, hB, rfl⟩
 case assign =>
  rintro l pre x args W K ⟨LA, Lc, bp, h⟩ ⟨vv, rfl, hs⟩ hK
  obtain ⟨Av, cv, rfl⟩ := own_sl hs
  gi_wp2
  refine hK _ _ ⟨W.heap.size, LA, Lc, bp, _, h.alloc _, Blk.new W _ _, hs.alloc _, h.sz, rfl⟩ (KeepsOthers.alloc _ _) (ktN_bel ((Below.refl _ W).alloc (Nat.le_refl _) _))
 case body =>
  rintro l pre x a' W ⟨Bx, LA, Lc, bp, vv, hM, hx, hs, hB, rfl⟩ ⟨rest, hrest⟩
  have hmix : Try.prog.follows .mixedOrders = true := by kernel_rfl
  have hn2 : 1 ≤ 9 - 1 - 1 := by omega
  have hwf : Fence.wide.fn 125 := trivial
  have hwg : (Fence.wide.fn 125) = True := rfl
  have hxm : x ∈ all := by rw [← hrest]; simp
  have hsl := HSL.out x hxm
  have hpl : pre.length ≤ 1000000 := by have := HBL.out; rw [← hrest] at this; simp at this; omega
  have hbl : bp.length ≤ 1000000 := by
   have h1 := congrArg List.length hM.acc_
   simp only [List.length_map, List.length_reverse] at h1
   have := accP_len pre
   omega
  have hsn := accP_snoc pre x
  have hpre : ∀ y ∈ pre, y.2.2.length ≤ 1000000 := fun y hy => HSL.out y (by rw [← hrest]; simp [hy])
  obtain ⟨u, v, s⟩ := x
  simp only at hx hs hsl hsn
  obtain ⟨Av, cv, rfl⟩ := own_sl hs
  have z0 := hx.cell 0 (v := .int .i64 u) rfl
  have z1 := hx.cell 1 (v := .int .i64 v) rfl
  have z2 := hx.cell 2 (v := .slice Av s.length cv) rfl
  obtain ⟨i2, hi2, hz20, hz21, hz22⟩ := info_parts info142
  rcases List.eq_nil_or_concat bp with rfl | ⟨bp0, pq, hbq⟩
  · have cl := hM.vb.cell
    simp only [List.length_nil] at cl
    have h63 : 0 + 1 ≤ maxLen := by decide
    have hbytes : (0 + 1) * 40 ≤ 140737488355328 := by decide
    have hnil : accP pre = [] := by have := hM.acc_; simpa using this.symm
    have hne : addP (accP pre) u v s = (u, v, s) :: accP pre := by rw [hnil]; rfl
    gi_wp2
    refine region_quiet_round (F := Fence.wide) rfl hmix (by kernel_rfl) (by kernel_rfl) ?_
    repeat (gi_big_quiet_step (fail))
    refine wpQuietIn_nil ?_
    intro _ hw'
    obtain ⟨nq, hw''⟩ := hw'
    subst hw''
    have hMd := hM.bel (pw_below_drewN (Below.refl W.heap.size W) nq)
    have hsd := row_bel hs (pw_below_drewN (Below.refl W.heap.size W) nq)
    have hrowd : (W.drewN nq).ownsRow N 142 3 (.slice LA 0 Lc) 0 [] := hMd.row
    have hvbd : Boxed (W.drewN nq) w.heap.size 136 (.slice LA 0 Lc) := hMd.vb
    have hbase : N ≤ ((W.drewN nq).alloc (.cells #[.int .i64 u, .int .i64 v, .slice Av s.length cv] 142)).heap.size := by have := hMd.sz; simp; simpa using Nat.le_succ_of_le this
    have hge : ∀ k, (Value.slice LA 0 Lc).ownBlock = some k → N ≤ k := fun k hk => (row_bl hMd.row (k := k) hk).1
    gi_wp2_with (first
     | (gi_at_builtin; refine wpListIn_append_own _ rfl _ _ 136 rfl N 142 i2 (.agg #[.int .i64 0, .int .i64 0, .slice none 0 0]) 3 40 Try.underlying136 hi2 hz20 hz21 hz22 rfl (by decide) _ _ _ rfl (hrowd.alloc _) ⟨W.heap.size, 0, none⟩ 1 1 [.int .i64 u, .int .i64 v, .slice Av s.length cv] rfl rfl (cells3_new (W.drewN nq) _ _ _ _) (by simp [Value.oneCell']) h63 hbytes hbase ?_; intro v' w1 hown hgrow _; obtain ⟨g', cap', rfl⟩ := ownsRow_succ hown; have vb1 : Boxed w1 w.heap.size 136 (.slice LA 0 Lc) := (hvbd.alloc _).kept hgrow (fun e => by have := hge _ e.symm; omega); have hc1 := vb1.cell; have hf1 := vb1.frozen))
    have R := MI.app hMd hwN (x := (u, v, s)) (c2 := cap') hsd hne hgrow hown
    obtain ⟨R1, R2, R3⟩ := R
    rw [show (([] : List (Bd × Value)) ++ [((u, v, s), Value.slice Av s.length cv)]).length = 1 from rfl] at R1 R2 R3
    refine ⟨(show KeepsOthers W (W.drewN nq) from ⟨Nat.le_refl _, fun _ _ h _ => h⟩).trans R2, ⟨_, _, _, hsn ▸ R1⟩, ktN_trans (ktN_bel (pw_below_drewN (Below.refl W.heap.size W) nq)) R3⟩
  · rw [List.concat_eq_append] at hbq
    subst hbq
    obtain ⟨⟨qa, qb, qt⟩, pv⟩ := pq
    have hsp : W.ownsRow N 145 2 pv qt.length (fl145 qt) := hM.sps ((qa, qb, qt), pv) (by simp)
    obtain ⟨At, ct, hpv⟩ := own_sl hsp
    subst hpv
    have hln : (bp0 ++ [((qa, qb, qt), Value.slice At qt.length ct)]).length = bp0.length + 1 := by simp
    have hrow0 := hM.row
    have hvb0 := hM.vb
    rw [hln] at hrow0 hvb0 hbl
    obtain ⟨g, rfl⟩ := own_some hrow0 (by omega)
    have cl := hvb0.cell
    obtain ⟨lb, lc⟩ := flB_last bp0 ((qa, qb, qt), Value.slice At qt.length ct)
    obtain ⟨kb, fb⟩ := own_cell hrow0 lb
    obtain ⟨kc, fc⟩ := own_cell hrow0 lc
    simp only at kb kc
    have hacc : accP pre = (qa, qb, qt) :: (bp0.map (·.1)).reverse := by
     have h := congrArg List.reverse hM.acc_
     simp only [List.map_append, List.map_cons, List.map_nil, List.reverse_append, List.reverse_cons, List.reverse_nil, List.nil_append, List.singleton_append, List.reverse_reverse] at h
     exact h.symm
    have h63 : bp0.length + 1 + 1 ≤ maxLen := by unfold maxLen; omega
    have hbytes : (bp0.length + 1 + 1) * 40 ≤ 140737488355328 := by omega
    have hqtl : qt.length ≤ 1000000 := by
     have hm : (qa, qb, qt) ∈ accP pre := by rw [hacc]; simp
     exact accP_sp pre hpre _ hm
    have HEQ : ∀ k, Calls Try.prog 125 #[.slice At qt.length ct, .slice Av s.length cv] (W.drewN k) fun e w' => e = .returned (.bool (decide (qt = s))) ∧ Drawn0 (W.drewN k) w' := fun k => same125 (row_bel hsp (pw_below_drewN (Below.refl _ _) k)) rfl (row_bel hs (pw_below_drewN (Below.refl _ _) k)) rfl hqtl
    have i0 : (0 : Int) ≤ (bp0.length : Int) := by omega
    have i1 : (bp0.length : Int) < ((bp0.length + 1 : Nat) : Int) := by omega
    by_cases hbu : qb = u
    · have hbub : (qb == u) = true := by simpa using hbu
      by_cases hts : qt = s
      · have htd : decide (qt = s) = true := decide_eq_true hts
        simp only [htd] at HEQ
        have had : addP ((qa, qb, qt) :: (bp0.map (·.1)).reverse) u v s = (qa, v, qt) :: (bp0.map (·.1)).reverse := by simp [addP, hbu, hts]
        have HAD := Aside0.mk had
        clear had hts htd
        gi_wp2
        refine region_quiet_round (F := Fence.wide) rfl hmix (by kernel_rfl) (by kernel_rfl) ?_
        repeat (gi_big_quiet_step ((exact CallsIn.quiet_of ((callsIn_wide.2 (HEQ _)).mono (fun e w' h => And.intro h.1 (drawn_ex h.2))))))
        refine wpQuietIn_nil ?_
        intro _ hw'
        obtain ⟨nq, hw''⟩ := hw'
        subst hw''
        have hMd := hM.bel (pw_below_drewN (Below.refl W.heap.size W) nq)
        have hsd := row_bel hs (pw_below_drewN (Below.refl W.heap.size W) nq)
        have kbd : (W.drewN nq).cell? ⟨g, bp0.length * 3 + 1, none⟩ = some (.int .i64 qb) := kb
        have fbd : (W.drewN nq).frozen? ⟨g, bp0.length * 3 + 1, none⟩ = false := fb
        rw [hacc] at hMd hsn
        have R := MI.mrg (v := v) hMd hwN
        obtain ⟨R1, R2, R3⟩ := R
        rw [HAD.out] at hsn
        gi_wp2
        refine ⟨(show KeepsOthers W (W.drewN nq) from ⟨Nat.le_refl _, fun _ _ h _ => h⟩).trans R2, ⟨_, _, _, hsn ▸ R1⟩, ktN_trans (ktN_bel (pw_below_drewN (Below.refl W.heap.size W) nq)) R3⟩
      · have htd : decide (qt = s) = false := decide_eq_false hts
        simp only [htd] at HEQ
        have hne : addP (accP pre) u v s = (u, v, s) :: accP pre := by rw [hacc]; simp [addP, hts]
        gi_wp2
        refine region_quiet_round (F := Fence.wide) rfl hmix (by kernel_rfl) (by kernel_rfl) ?_
        repeat (gi_big_quiet_step ((exact CallsIn.quiet_of ((callsIn_wide.2 (HEQ _)).mono (fun e w' h => And.intro h.1 (drawn_ex h.2))))))
        refine wpQuietIn_nil ?_
        intro _ hw'
        obtain ⟨nq, hw''⟩ := hw'
        subst hw''
        have hMd := hM.bel (pw_below_drewN (Below.refl W.heap.size W) nq)
        have hsd := row_bel hs (pw_below_drewN (Below.refl W.heap.size W) nq)
        have hrowd : (W.drewN nq).ownsRow N 142 3 (.slice (some ⟨g, 0, none⟩) (bp0.length + 1) Lc) (bp0.length + 1) (flB (bp0 ++ [((qa, qb, qt), .slice At qt.length ct)])) := hrow0
        have hvbd : Boxed (W.drewN nq) w.heap.size 136 (.slice (some ⟨g, 0, none⟩) (bp0.length + 1) Lc) := hvb0
        have hbase : N ≤ ((W.drewN nq).alloc (.cells #[.int .i64 u, .int .i64 v, .slice Av s.length cv] 142)).heap.size := by have := hMd.sz; simp; simpa using Nat.le_succ_of_le this
        have hge : ∀ k, (Value.slice (some ⟨g, 0, none⟩) (bp0.length + 1) Lc).ownBlock = some k → N ≤ k := fun k hk => (row_bl hrowd (k := k) hk).1
        gi_wp2_with (first
         | (gi_at_builtin; refine wpListIn_append_own _ rfl _ _ 136 rfl N 142 i2 (.agg #[.int .i64 0, .int .i64 0, .slice none 0 0]) 3 40 Try.underlying136 hi2 hz20 hz21 hz22 rfl (by decide) _ _ _ rfl (hrowd.alloc _) ⟨W.heap.size, 0, none⟩ 1 1 [.int .i64 u, .int .i64 v, .slice Av s.length cv] rfl rfl (cells3_new (W.drewN nq) _ _ _ _) (by simp [Value.oneCell']) h63 hbytes hbase ?_; intro v' w1 hown hgrow _; obtain ⟨g', cap', rfl⟩ := ownsRow_succ hown; have vb1 : Boxed w1 w.heap.size 136 (.slice (some ⟨g, 0, none⟩) (bp0.length + 1) Lc) := (hvbd.alloc _).kept hgrow (fun e => by have := hge _ e.symm; omega); have hc1 := vb1.cell; have hf1 := vb1.frozen))
        have R := MI.app hMd hwN (x := (u, v, s)) (c2 := cap') hsd hne (by rw [hln]; exact hgrow) (A2 := some ⟨g', 0, none⟩) (by rw [hln]; exact hown)
        obtain ⟨R1, R2, R3⟩ := R
        rw [show ((bp0 ++ [((qa, qb, qt), Value.slice At qt.length ct)]) ++ [((u, v, s), Value.slice Av s.length cv)]).length = bp0.length + 1 + 1 by simp] at R1 R2 R3
        refine ⟨(show KeepsOthers W (W.drewN nq) from ⟨Nat.le_refl _, fun _ _ h _ => h⟩).trans R2, ⟨_, _, _, hsn ▸ R1⟩, ktN_trans (ktN_bel (pw_below_drewN (Below.refl W.heap.size W) nq)) R3⟩
    · have hbub : (qb == u) = false := by simpa using hbu
      have hne : addP (accP pre) u v s = (u, v, s) :: accP pre := by rw [hacc]; simp [addP, hbu]
      gi_wp2
      refine region_quiet_round (F := Fence.wide) rfl hmix (by kernel_rfl) (by kernel_rfl) ?_
      repeat (gi_big_quiet_step (fail))
      refine wpQuietIn_nil ?_
      intro _ hw'
      obtain ⟨nq, hw''⟩ := hw'
      subst hw''
      have hMd := hM.bel (pw_below_drewN (Below.refl W.heap.size W) nq)
      have hsd := row_bel hs (pw_below_drewN (Below.refl W.heap.size W) nq)
      have hrowd : (W.drewN nq).ownsRow N 142 3 (.slice (some ⟨g, 0, none⟩) (bp0.length + 1) Lc) (bp0.length + 1) (flB (bp0 ++ [((qa, qb, qt), .slice At qt.length ct)])) := hrow0
      have hvbd : Boxed (W.drewN nq) w.heap.size 136 (.slice (some ⟨g, 0, none⟩) (bp0.length + 1) Lc) := hvb0
      have hbase : N ≤ ((W.drewN nq).alloc (.cells #[.int .i64 u, .int .i64 v, .slice Av s.length cv] 142)).heap.size := by have := hMd.sz; simp; simpa using Nat.le_succ_of_le this
      have hge : ∀ k, (Value.slice (some ⟨g, 0, none⟩) (bp0.length + 1) Lc).ownBlock = some k → N ≤ k := fun k hk => (row_bl hrowd (k := k) hk).1
      gi_wp2_with (first
       | (gi_at_builtin; refine wpListIn_append_own _ rfl _ _ 136 rfl N 142 i2 (.agg #[.int .i64 0, .int .i64 0, .slice none 0 0]) 3 40 Try.underlying136 hi2 hz20 hz21 hz22 rfl (by decide) _ _ _ rfl (hrowd.alloc _) ⟨W.heap.size, 0, none⟩ 1 1 [.int .i64 u, .int .i64 v, .slice Av s.length cv] rfl rfl (cells3_new (W.drewN nq) _ _ _ _) (by simp [Value.oneCell']) h63 hbytes hbase ?_; intro v' w1 hown hgrow _; obtain ⟨g', cap', rfl⟩ := ownsRow_succ hown; have vb1 : Boxed w1 w.heap.size 136 (.slice (some ⟨g, 0, none⟩) (bp0.length + 1) Lc) := (hvbd.alloc _).kept hgrow (fun e => by have := hge _ e.symm; omega); have hc1 := vb1.cell; have hf1 := vb1.frozen))
      have R := MI.app hMd hwN (x := (u, v, s)) (c2 := cap') hsd hne (by rw [hln]; exact hgrow) (A2 := some ⟨g', 0, none⟩) (by rw [hln]; exact hown)
      obtain ⟨R1, R2, R3⟩ := R
      rw [show ((bp0 ++ [((qa, qb, qt), Value.slice At qt.length ct)]) ++ [((u, v, s), Value.slice Av s.length cv)]).length = bp0.length + 1 + 1 by simp] at R1 R2 R3
      refine ⟨(show KeepsOthers W (W.drewN nq) from ⟨Nat.le_refl _, fun _ _ h _ => h⟩).trans R2, ⟨_, _, _, hsn ▸ R1⟩, ktN_trans (ktN_bel (pw_below_drewN (Below.refl W.heap.size W) nq)) R3⟩
 case done =>
  rintro D W ⟨LA, Lc, bp, hM⟩ hD hK
  have hout : outOf is a b = flatW (bp.map (·.1)) := by
   rw [outOf, HALL.out, ← hM.acc_]
  have hbl : bp.length ≤ 1000000 := by
   have h1 := congrArg List.length hM.acc_
   simp only [List.length_map, List.length_reverse] at h1
   have := accP_len all
   have := HBL.out
   omega
  have hsp : ∀ y ∈ bp.map (·.1), y.2.2.length ≤ 1000000 := by
   intro y hy
   rw [hM.acc_] at hy
   exact accP_sp all HSL.out y (by simpa using hy)
  have HOUT := Aside0.mk hout
  have HM := Aside0.mk hM
  have HSP := Aside0.mk hsp
  have HK := Aside0.mk hK
  have cl := hM.vb.cell
  have hDl : D < W.heap.size := (Array.getElem?_eq_some_iff.1 hK).1
  clear hout hM hsp hK HALL HSL HBL
  obtain ⟨i43, hi, hz0, hz1, hz2⟩ := info_parts info43
  gi_wp2
  refine wpIn_wide.2 ?_
  go_loopw [11, 13, 15, 58] (fun s11 s13 s15 s58 wr => ∃ (i : Nat) (A7 : Option Addr) (c7 : Nat), i ≤ bp.length ∧ s58 = .int .i64 i ∧ s11 = .slice A7 (flatW ((bp.map (·.1)).take i)).length c7 ∧ Aside0 (wr.ownsRow W.heap.size 43 4 (.slice A7 (flatW ((bp.map (·.1)).take i)).length c7) (flatW ((bp.map (·.1)).take i)).length (fl43 (flatW ((bp.map (·.1)).take i)))) ∧ Aside0 (Below W.heap.size W wr))
   (fun s11 s13 s15 s58 wr => bp.length - (intOf s58).toNat)
  case atStart => exact ⟨0, none, 0, Nat.zero_le _, rfl, rfl, ⟨World.ownsRow_nil _ _ _ _⟩, ⟨Below.refl _ _⟩⟩
  case round =>
   obtain ⟨i, A7, c7, hi7, rfl, rfl, HO, HB⟩ := hrel
   have hsz := HB.out.size
   have hol : (flatW ((bp.map (·.1)).take i)).length ≤ 1000000 * 1000000 := by
    have h1 := flatW_len ((bp.map (·.1)).take i) (B := 1000000) (fun y hy => HSP.out y (List.mem_of_mem_take hy))
    have h2 : ((bp.map (·.1)).take i).length ≤ 1000000 := by simp; omega
    exact Nat.le_trans h1 (Nat.mul_le_mul_right _ h2)
   by_cases hlt : i < bp.length
   · have hltz : (i : Int) < (bp.length : Int) := by omega
     have e0 : (0 : Int) ≤ (i : Int) := by omega
     obtain ⟨bb, hbb⟩ : ∃ bb, bp[i]? = some bb := ⟨bp[i], List.getElem?_eq_getElem hlt⟩
     obtain ⟨⟨u, v, s⟩, pv⟩ := bb
     have hmem : ((u, v, s), pv) ∈ bp := List.mem_of_getElem? hbb
     have hrs : W.ownsRow N 145 2 pv s.length (fl145 s) := HM.out.sps _ hmem
     obtain ⟨At, ct, hpv⟩ := own_sl hrs
     subst hpv
     have hsl : s.length ≤ 1000000 := HSP.out (u, v, s) (List.mem_map_of_mem (f := (·.1)) hmem)
     have hft := flatW_take (bp.map (·.1)) i (u, v, s) (by rw [List.getElem?_map, hbb]; rfl)
     have hrow := HM.out.row
     obtain ⟨g, hg⟩ := own_some hrow (by omega)
     subst hg
     obtain ⟨l0, l1, l2⟩ := flB_get bp i _ hbb
     have hgW := (row_bl hrow (k := g) rfl).2
     have hq : ∀ (o : Nat) (x : Value), W.cell? ⟨g, o, none⟩ = some x → wr.cell? ⟨g, o, none⟩ = some x := fun o x h => (HB.out.cell (p := ⟨g, o, none⟩) hgW).trans h
     have k0 := hq _ _ (own_cell hrow l0).1
     have k1 := hq _ _ (own_cell hrow l1).1
     have k2 := hq _ _ (own_cell hrow l2).1
     simp only at k0 k1 k2
     have HRS := Aside0.mk hrs
     have HFT := Aside0.mk hft
     generalize hol7 : flatW ((bp.map (·.1)).take i) = o7 at HO hol HFT ⊢
     clear hrs hft hrow l0 l1 l2 hq hmem hbb hol7
     have HX := Aside0.mk (Blk.new wr #[.int .i64 u, .int .i64 v, .slice At s.length ct] 142)
     have c0 := HX.out.cell 0 (v := .int .i64 u) rfl
     have c1 := HX.out.cell 1 (v := .int .i64 v) rfl
     have c2 := HX.out.cell 2 (v := .slice At s.length ct) rfl
     have HB1 : Aside0 (Below W.heap.size W (wr.alloc (.cells #[.int .i64 u, .int .i64 v, .slice At s.length ct] 142))) := ⟨HB.out.alloc hsz _⟩
     have HO1 := Aside0.mk (HO.out.alloc (.cells #[.int .i64 u, .int .i64 v, .slice At s.length ct] 142))
     go_wp2
     obtain ⟨xb, hxb⟩ : ∃ xb, xb = wr.heap.size := ⟨_, rfl⟩
     rw [← hxb] at HX ⊢
     clear hxb c0 c1 c2 k0 k1 k2
     go_loopw [11, 15, 65] (fun s11 s15 s65 w8 => ∃ (j : Nat) (A8 : Option Addr) (c8 : Nat), j ≤ s.length ∧ s65 = .int .i64 j ∧ s11 = .slice A8 (o7 ++ (s.take j).map (rectW (u, v, s))).length c8 ∧ Aside0 (w8.ownsRow W.heap.size 43 4 (.slice A8 (o7 ++ (s.take j).map (rectW (u, v, s))).length c8) (o7 ++ (s.take j).map (rectW (u, v, s))).length (fl43 (o7 ++ (s.take j).map (rectW (u, v, s))))) ∧ Aside0 (Below W.heap.size W w8) ∧ Aside0 (Blk w8 xb #[.int .i64 u, .int .i64 v, .slice At s.length ct] 142))
      (fun s11 s15 s65 w8 => s.length - (intOf s65).toNat)
     case atStart => exact ⟨0, A7, c7, Nat.zero_le _, rfl, by simp, ⟨by simpa using HO1.out⟩, HB1, HX⟩
     case round =>
      obtain ⟨j, A8, c8, hj8, rfl, rfl, HO8, HB8, HX8⟩ := hrel
      have hsz8 := HB8.out.size
      have hx0 := HX8.out.cell 0 (v := .int .i64 u) rfl
      have hx1 := HX8.out.cell 1 (v := .int .i64 v) rfl
      by_cases hlt2 : j < s.length
      · have hltz2 : (j : Int) < (s.length : Int) := by omega
        have e1 : (0 : Int) ≤ (j : Int) := by omega
        obtain ⟨q, hqj⟩ : ∃ q, s[j]? = some q := ⟨s[j], List.getElem?_eq_getElem hlt2⟩
        obtain ⟨gs, hgs⟩ := own_some HRS.out (by omega)
        subst hgs
        obtain ⟨m0, m1⟩ := fl145_get s j q hqj
        have hgsW := (row_bl HRS.out (k := gs) rfl).2
        have n0 := (HB8.out.cell (p := ⟨gs, j * 2, none⟩) hgsW).trans (own_cell HRS.out m0).1
        have n1 := (HB8.out.cell (p := ⟨gs, j * 2 + 1, none⟩) hgsW).trans (own_cell HRS.out m1).1
        have HTK : Aside0 (o7 ++ (s.take (j + 1)).map (rectW (u, v, s)) = (o7 ++ (s.take j).map (rectW (u, v, s))) ++ [rectW (u, v, s) q]) := ⟨by rw [List.take_add_one, hqj]; simp⟩
        have hol8 : (o7 ++ (s.take j).map (rectW (u, v, s))).length ≤ 1000000 * 1000000 + 1000000 := by simp; omega
        obtain ⟨q0, q1⟩ := q
        simp only at n0 n1
        clear hqj m0 m1
        generalize hoo : o7 ++ (s.take j).map (rectW (u, v, s)) = oo at HO8 HTK hol8 ⊢
        clear hoo
        have HS := Aside0.mk (Blk.new wr #[.int .i64 q0, .int .i64 q1] 145)
        have p0 := HS.out.cell 0 (v := .int .i64 q0) rfl
        have p1 := HS.out.cell 1 (v := .int .i64 q1) rfl
        have hx0' := (HX8.out.alloc (.cells #[.int .i64 q0, .int .i64 q1] 145)).cell 0 (v := .int .i64 u) rfl
        have hx1' := (HX8.out.alloc (.cells #[.int .i64 q0, .int .i64 q1] 145)).cell 1 (v := .int .i64 v) rfl
        go_wp2_with (at_builtin; (refine wpList_append_own _ rfl (.tmp 69) (.tmp 85) 22 rfl W.heap.size 43 i43 (.agg #[.int .i64 0, .int .i64 0, .int .i64 0, .int .i64 0]) 4 32 Try.underlying22 hi hz0 hz1 hz2 rfl (by decide) (.slice A8 oo.length c8) oo.length (fl43 oo) rfl ((HO8.out.alloc _).alloc _) ⟨wr.heap.size + 1, 0, none⟩ 1 1 [.int .i64 q0, .int .i64 u, .int .i64 (wrap64 (q1 - q0)), .int .i64 (wrap64 (v - u))] rfl rfl ?c1 ?c2 ?c3 ?c4 ?c5 ?_; (case c1 => refine cells4_at _ _ _ _ _ _ _ ?_; simp); (case c2 => intro u hu; simp only [List.mem_cons, List.not_mem_nil, or_false] at hu; rcases hu with rfl | rfl | rfl | rfl <;> rfl); (case c3 => unfold maxLen; omega); (case c4 => omega); (case c5 => simp; omega); intro v' w9 hown hgr _; have HO9 := Aside0.mk hown; have HG9 := Aside0.mk hgr; clear hown hgr))
        have hge : ∀ k, (Value.slice A8 oo.length c8).ownBlock = some k → W.heap.size ≤ k := fun k hk => (row_bl HO8.out (k := k) hk).1
        obtain ⟨A9, c9, hv9⟩ := own_sl HO9.out
        subst hv9
        have hlen : (o7 ++ (s.take (j + 1)).map (rectW (u, v, s))).length = oo.length + 1 := by rw [HTK.out]; simp
        have hfl : fl43 (o7 ++ (s.take (j + 1)).map (rectW (u, v, s))) = fl43 oo ++ [.int .i64 q0, .int .i64 u, .int .i64 (wrap64 (q1 - q0)), .int .i64 (wrap64 (v - u))] := by rw [HTK.out, fl43_snoc]; rfl
        have hxk : Blk w9 xb #[.int .i64 u, .int .i64 v, .slice (some ⟨gs, 0, none⟩) s.length ct] 142 := by
         have hx2 := (HX8.out.alloc (.cells #[.int .i64 q0, .int .i64 q1] 145)).alloc (.cells #[.int .i64 q0, .int .i64 u, .int .i64 (wrap64 (q1 - q0)), .int .i64 (wrap64 (v - u))] 43)
         refine hx2.same (HG9.out.block _ hx2.lt (fun e => ?_))
         obtain ⟨c3, h3⟩ := own_typed HO8.out xb e.symm
         have h4 := HX8.out
         unfold Blk at h4
         rw [h3] at h4
         cases h4
        have hb9 : Below W.heap.size W w9 := grown_below ((HB8.out.alloc hsz8 _).alloc (by simp; omega) _) (by simp; omega) HG9.out hge
        go_roundw
        case rel => exact ⟨j + 1, A9, c9, by omega, by go_num, by rw [hlen], ⟨by rw [hlen, hfl]; exact HO9.out⟩, ⟨hb9⟩, ⟨hxk⟩⟩
        case measure => simp [intOf]; omega
      · obtain rfl : j = s.length := by omega
        have hltz2 : ¬ (s.length : Int) < (s.length : Int) := by omega
        rw [List.take_length] at HO8
        rw [List.take_length]
        rw [← HFT.out] at HO8 ⊢
        go_wp2
        go_roundw
        case rel => exact ⟨i + 1, A8, c8, by omega, by go_num, rfl, HO8, HB8⟩
        case measure => simp [intOf]; omega
   · obtain rfl : i = bp.length := by omega
     have hltz : ¬ (bp.length : Int) < (bp.length : Int) := by omega
     rw [List.take_of_length_le (by simp)] at HO
     rw [List.take_of_length_le (by simp)] at hol
     rw [List.take_of_length_le (by simp)]
     rw [← HOUT.out] at HO hol ⊢
     generalize hoe : outOf is a b = out at HO hol HOUT ⊢
     have HOE := Aside0.mk hoe
     clear hoe
     have HBAD := Aside0.mk (bad126_calls A7 c7 out wr (rect_C HO.out))
     have HKr : Aside0 (wr.heap[D]? = some (.deferred (some []))) := ⟨(HB.out.block D hDl).trans HK.out⟩
     have HPB := fun (w' : World) (hb : Below wr.heap.size wr w') => Aside0.mk (show w'.heap[D]? = some (.deferred (some [])) ∧ w'.ownsRow W.heap.size 43 4 (.slice A7 out.length c7) out.length (fl43 out) ∧ Below w.heap.size w w' from ⟨(hb.block D (Array.getElem?_eq_some_iff.1 HKr.out).1).trans HKr.out, row_bel HO.out hb, HM.out.bl.trans ((HB.out.trans (hb.mono hsz)).mono HM.out.bl.size)⟩)
     cases hbad : badL out with
     | true =>
      rw [hbad] at HBAD
      go_wp2
      refine wpIn_wide.2 ?_
      go_wp2_with (first | (go_at_call 70; refine HBAD.out.mono ?_; rintro e w9 ⟨rfl, hb9⟩))
      obtain ⟨hK9, hr9, hB9⟩ := (HPB w9 hb9).out
      show LeavesInM Fence.wide 9 Try.prog Try.f73 _ _ _ _ _
      refine ⟨by simp, .inl ⟨D, _, rfl, run_takeDeferred hK9, ?_⟩⟩
      refine ⟨.tuple #[.slice none 0 0, .int .i64 7], by simp [results, Try.results73, go_sem], ?_⟩
      rw [HOE.out]
      refine ⟨_, by rw [show madeE out = 7 from by simp [madeE, hbad]], ?_, hB9.grown (grownBy_putObj' _ D _) hB9.size (fun k ek => by cases ek; omega)⟩
      rw [show madeL out = [] from by simp [madeL, hbad]]
      exact World.ownsRow_nil _ _ _ _
     | false =>
      rw [hbad] at HBAD
      by_cases h200 : 200 < out.length
      · have h2b : decide ((out.length : Int) > 200) = true := decide_eq_true (by omega)
        go_wp2
        refine wpIn_wide.2 ?_
        go_wp2_with (first | (go_at_call 70; refine HBAD.out.mono ?_; rintro e w9 ⟨rfl, hb9⟩))
        obtain ⟨hK9, hr9, hB9⟩ := (HPB w9 hb9).out
        show LeavesInM Fence.wide 9 Try.prog Try.f73 _ _ _ _ _
        refine ⟨by simp, .inl ⟨D, _, rfl, run_takeDeferred hK9, ?_⟩⟩
        refine ⟨.tuple #[.slice none 0 0, .int .i64 4], by simp [results, Try.results73, go_sem], ?_⟩
        rw [HOE.out]
        refine ⟨_, by rw [show madeE out = 4 from by simp [madeE, hbad, h200]], ?_, hB9.grown (grownBy_putObj' _ D _) hB9.size (fun k ek => by cases ek; omega)⟩
        rw [show madeL out = [] from by simp [madeL, hbad, h200]]
        exact World.ownsRow_nil _ _ _ _
      · have h2b : decide ((out.length : Int) > 200) = false := decide_eq_false (by omega)
        go_wp2
        refine wpIn_wide.2 ?_
        go_wp2_with (first | (go_at_call 70; refine HBAD.out.mono ?_; rintro e w9 ⟨rfl, hb9⟩))
        obtain ⟨hK9, hr9, hB9⟩ := (HPB w9 hb9).out
        show LeavesInM Fence.wide 9 Try.prog Try.f73 _ _ _ _ _
        refine ⟨by simp, .inl ⟨D, _, rfl, run_takeDeferred hK9, ?_⟩⟩
        refine ⟨.tuple #[.slice A7 out.length c7, .int .i64 0], by simp [results, Try.results73, go_sem], ?_⟩
        rw [HOE.out]
        refine ⟨_, by rw [show madeE out = 0 from by simp [madeE, hbad, h200]], ?_, hB9.grown (grownBy_putObj' _ D _) hB9.size (fun k ek => by cases ek; omega)⟩
        rw [show madeL out = out from by simp [madeL, hbad, h200]]
        exact ownsRow_putObj (row_base hr9 HM.out.bl.size) _ hK9 rfl
end Go.Proofs.Ythbajahklnpkcaa.PA

namespace Go.Proofs.Ythbajahklnpkcaa.PA
open Go.RowKit Go.Shelf Go.Sort Go.Proofs.YthbajahklnpkcaaW.PrintWords Go.Proofs.YthbajahklnpkcaaW.PrintLast Go.Proofs.YthbajahklnpkcaaW.PrintMore
set_option linter.unusedVariables false
set_option linter.unusedSimpArgs false
def orB (p q : Bool) : Bool := p || q
theorem enters59 : ∀ args w, (callFunc 59 args).run Try.prog w = .ok (.enter 59 args) w := Go.Proofs.enters_of Try.func59 (by kernel_rfl) rfl
theorem is59 : IsB 59 orB := by
 intro W p q
 cases p <;> cases q <;> (go_enter Try.func59, Try.ntmps59; go_wp2; go_ret; exact ⟨rfl, Below.refl _ _⟩)
theorem C43_nil (w : World) (A : Option Addr) : Kd.C k43 w A 0 [] := ⟨rfl, by omega, fun h => absurd h (by omega)⟩
def regionE (l : List S43) : Int := if badL l = true then 1 else if 200 < l.length then 4 else madeE (outOf orB l [])
def regionL (l : List S43) : List S43 := if badL l = true then [] else if 200 < l.length then [] else madeL (outOf orB l [])
def video_Region.f (l0 : List S43) : Option (List S43 × Int) := if l0.length ≤ 40000 then some (regionL l0, regionE l0) else none
set_option maxHeartbeats 2000000 in
theorem video_Region.calls (A0 : Option Addr) (c0 : Nat) (l0 : List S43) (r1 : List S43) (r2 : Int) (w : World) (hr0 : Kd.C k43 w A0 l0.length l0) (hc0 : l0.length ≤ c0) (h : video_Region.f l0 = some (r1, r2)) :
 Calls Try.prog 20 #[.slice A0 l0.length c0] w fun e w' => ∃ v0_ : Value, e = .returned (.tuple #[v0_, .int .i64 r2]) ∧ Kd.R k43 43 w' w.heap.size (fun _ => True) v0_ r1 ∧ Below w.heap.size w w' := by
 unfold video_Region.f at h
 by_cases hl : l0.length ≤ 40000
 · rw [if_pos hl] at h
   obtain ⟨rfl, rfl⟩ := Prod.mk.injEq .. ▸ (Option.some.inj h)
   have HB := Aside0.mk (bad71_calls A0 c0 l0 w hr0)
   have HR := Aside0.mk hr0
   clear hr0 h
   cases hb : badL l0 with
   | true =>
    rw [hb] at HB
    go_enter Try.func20, Try.ntmps20
    go_wp2_with (first | (go_at_call 70; refine HB.out.mono ?_; rintro e w1 ⟨rfl, hb1⟩))
    refine bodyPost_ret (v := .tuple #[.slice none 0 0, .int .i64 1]) (by simp [results, Try.results20, go_sem]) rfl ⟨_, by rw [show regionE l0 = 1 from by simp [regionE, hb]], ?_, hb1⟩
    rw [show regionL l0 = [] from by simp [regionL, hb]]
    exact Kd.R_nil _ _ _ _ _
   | false =>
    rw [hb] at HB
    by_cases h2 : 200 < l0.length
    · have h2b : decide ((l0.length : Int) > 200) = true := decide_eq_true (by omega)
      go_enter Try.func20, Try.ntmps20
      go_wp2_with (first | (go_at_call 70; refine HB.out.mono ?_; rintro e w1 ⟨rfl, hb1⟩))
      refine bodyPost_ret (v := .tuple #[.slice none 0 0, .int .i64 4]) (by simp [results, Try.results20, go_sem]) rfl ⟨_, by rw [show regionE l0 = 4 from by simp [regionE, hb, h2]], ?_, hb1⟩
      rw [show regionL l0 = [] from by simp [regionL, hb, h2]]
      exact Kd.R_nil _ _ _ _ _
    · have h2b : decide ((l0.length : Int) > 200) = false := decide_eq_false (by omega)
      have e1 : regionE l0 = madeE (outOf orB l0 []) := by simp [regionE, hb, h2]
      have e2 : regionL l0 = madeL (outOf orB l0 []) := by simp [regionL, hb, h2]
      have HM := fun w1 (hb1 : Below w.heap.size w w1) => Aside0.mk (made_walk orB 59 enters59 is59 A0 none c0 0 l0 [] w1 (Kd.C_below HR.out hb1) (C43_nil _ _) hl (by simp))
      rw [e1, e2]
      clear e1 e2
      go_enter Try.func20, Try.ntmps20
      go_wp2_with (first | (go_at_call 70; refine HB.out.mono ?_; rintro e w1 ⟨rfl, hb1⟩; have HM1 := HM w1 hb1) | (go_at_call 73; refine HM1.out.mono ?_; rintro e w2 ⟨v2, rfl, ho2, hb2⟩))
      refine bodyPost_ret (v := .tuple #[v2, .int .i64 (madeE (outOf orB l0 []))]) (by simp [results, Try.results20, go_sem]) rfl ⟨v2, rfl, ?_, hb1.trans (hb2.mono hb1.size)⟩
      exact Kd.R_lower (rect_R ho2) hb1.size
 · rw [if_neg hl] at h
   cases h
end Go.Proofs.Ythbajahklnpkcaa.PA

namespace Go.Proofs.Ythbajahklnpkcaa.PA
open Go.RowKit Go.Proofs.YthbajahklnpkcaaW.PrintWords Go.Proofs.YthbajahklnpkcaaW.PrintLast Go.Proofs.YthbajahklnpkcaaW.PrintMore
attribute [local go_sem] max2_int min2_int max_two min_two max_three min_three max_four min_four
set_option linter.unusedVariables false
set_option linter.unusedSimpArgs false
end Go.Proofs.Ythbajahklnpkcaa.PA

namespace Go.Proofs.Ythbajahklnpkcaa.PA
open Go.RowKit Go.Proofs.YthbajahklnpkcaaW.PrintWords Go.Proofs.YthbajahklnpkcaaW.PrintLast Go.Proofs.YthbajahklnpkcaaW.PrintMore
attribute [local go_sem] max2_int min2_int max_two min_two max_three min_three max_four min_four
set_option linter.unusedVariables false
set_option linter.unusedSimpArgs false
def video_modifiers.f (a0 : Int) : Option (Bool) := if a0 = 0 then (some true) else (some (a0 == 1))
set_option maxHeartbeats 8000000 in
set_option maxRecDepth 100000 in
theorem video_modifiers.calls (a0 : Int) (r : Bool) (w : World) (h : video_modifiers.f a0 = some r) :
 Calls Try.prog 95 #[.int .i64 a0] w fun e w' => e = .returned (.bool r) ∧ Drawn0 w w' := by
 have H : (if a0 = 0 then (some true) else (some (a0 == 1))) = some r := h
 clear h
 by_cases c2 : a0 = 0
 · rw [if_pos c2] at H
   have c2b0 : (a0 == 0) = true := beq_iff_eq.mpr c2
   have c2b1 : (a0 != 0) = false := bne_eq_false_iff_eq.mpr c2
   clear c2
   obtain rfl := Option.some.inj H
   go_enter Try.func95, Try.ntmps95
   go_wp2
   go_ret
   exact ⟨by first | rfl | (simp; done) | (simp [*]; done), by repeat (first | exact Drawn0.refl _ | apply Drawn0.step)⟩
 · rw [if_neg c2] at H
   have c2b0 : (a0 == 0) = false := beq_eq_false_iff_ne.mpr c2
   have c2b1 : (a0 != 0) = true := bne_iff_ne.mpr c2
   obtain rfl := Option.some.inj H
   go_enter Try.func95, Try.ntmps95
   go_wp2
   go_ret
   exact ⟨by first | rfl | (simp; done) | (simp [*]; done), by repeat (first | exact Drawn0.refl _ | apply Drawn0.step)⟩
end Go.Proofs.Ythbajahklnpkcaa.PA

namespace Go.Proofs.Ythbajahklnpkcaa.PA
open Go.RowKit Go.Proofs.YthbajahklnpkcaaW.PrintWords Go.Proofs.YthbajahklnpkcaaW.PrintLast Go.Proofs.YthbajahklnpkcaaW.PrintMore
attribute [local go_sem] max2_int min2_int max_two min_two max_three min_three max_four min_four
set_option linter.unusedVariables false
set_option linter.unusedSimpArgs false
def video_plane_size.f (a0_0 : Int) (a0_1 : Int) (a0_2 : Int) (a0_3 : Int) (a1 : Int) : Option (Int) := if a1 = 0 then (some (wrap64 ((wrap64 (a0_0 * a0_1)) * a0_2))) else (some (wrap64 ((wrap64 ((wrap64 ((wrap64 ((wrap64 (Int.tdiv (wrap64 ((wrap64 (a0_0 + 4)) - 1)) 4)) * (wrap64 (Int.tdiv (wrap64 ((wrap64 (a0_1 + 4)) - 1)) 4)))) * 4)) * 4)) * a0_2)))
set_option maxHeartbeats 8000000 in
set_option maxRecDepth 100000 in
theorem video_plane_size.calls (a0_0 : Int) (a0_1 : Int) (a0_2 : Int) (a0_3 : Int) (a1 : Int) (r : Int) (w : World) (h : video_plane_size.f a0_0 a0_1 a0_2 a0_3 a1 = some r) :
 Calls Try.prog 132 #[.agg #[.int .i64 a0_0, .int .i64 a0_1, .int .i64 a0_2, .int .i64 a0_3], .int .i64 a1] w fun e w' => e = .returned (.int .i64 r) ∧ Below w.heap.size w w' := by
 have hu154 := Try.underlying154
 have HB := Aside0.mk (Below.refl w.heap.size w)
 have H : (if a1 = 0 then (some (wrap64 ((wrap64 (a0_0 * a0_1)) * a0_2))) else (some (wrap64 ((wrap64 ((wrap64 ((wrap64 ((wrap64 (Int.tdiv (wrap64 ((wrap64 (a0_0 + 4)) - 1)) 4)) * (wrap64 (Int.tdiv (wrap64 ((wrap64 (a0_1 + 4)) - 1)) 4)))) * 4)) * 4)) * a0_2)))) = some r := h
 clear h
 by_cases c3 : a1 = 0
 · rw [if_pos c3] at H
   have c3b0 : (a1 == 0) = true := beq_iff_eq.mpr c3
   have c3b1 : (a1 != 0) = false := bne_eq_false_iff_eq.mpr c3
   clear c3
   obtain rfl := Option.some.inj H
   go_enter Try.func132, Try.ntmps132
   go_wp2_with (first | ((with_reducible refine gate_dst (N := 2) rfl ?_); refine box_event ?hg (N := 2) ?hd (cs := #[.int .i64 a0_0, .int .i64 a0_1, .int .i64 a0_2, .int .i64 a0_3]) (t := 154) ?hr ?_; (case hd => rfl); (case hg => rfl); (case hr => first | (go_simp; done) | (go_simp; rfl)); intro gb240 hg w4 hbox hb; have n0_ := Aside0.mk (below_step (by repeat (first | (with_reducible first | exact HB.out | apply below_alloc | apply pw_below_drewN | apply below_drew1) | exact HB.out)) hb); have n1_ := Aside0.mk (hbox); have n2_ := Aside0.mk ((by rw [hg]; exact (below_size (by repeat (first | (with_reducible first | exact HB.out | apply below_alloc | apply pw_below_drewN | apply below_drew1) | exact HB.out))) : w.heap.size ≤ gb240)); have n3_ := Aside0.mk ((by rw [hg]; exact (below_size (by repeat (first | (with_reducible first | exact HB.out | apply below_alloc | apply pw_below_drewN | apply below_drew1) | exact HB.out))) : w.heap.size ≤ gb240)); clear HB; have HB := n0_; have BK240 := n1_; have GW240 := n2_; have GE240 := n3_; clear n0_ n1_ n2_ n3_; clear hb hbox hg; have hcz5_0 : w4.cell? ⟨gb240, 0, none⟩ = some (.int .i64 a0_0) := (blk_cell BK240.out 0).trans rfl; have hcz5_1 : w4.cell? ⟨gb240, 1, none⟩ = some (.int .i64 a0_1) := (blk_cell BK240.out 1).trans rfl; have hcz5_2 : w4.cell? ⟨gb240, 2, none⟩ = some (.int .i64 a0_2) := (blk_cell BK240.out 2).trans rfl; have hcz5_3 : w4.cell? ⟨gb240, 3, none⟩ = some (.int .i64 a0_3) := (blk_cell BK240.out 3).trans rfl; have hfz5_0 := blk_frozen BK240.out 0; have hfz5_1 := blk_frozen BK240.out 1; have hfz5_2 := blk_frozen BK240.out 2; have hfz5_3 := blk_frozen BK240.out 3))
   go_ret
   exact ⟨by first | rfl | (simp [errW_none, errW_some] <;> rfl) | (simp [*, errW_none, errW_some] <;> rfl), by repeat (first | (with_reducible first | exact HB.out | apply below_alloc | apply pw_below_drewN | apply below_drew1 | refine below_set ?_ GE240.out) | exact HB.out)⟩
 · rw [if_neg c3] at H
   have c3b0 : (a1 == 0) = false := beq_eq_false_iff_ne.mpr c3
   have c3b1 : (a1 != 0) = true := bne_iff_ne.mpr c3
   obtain rfl := Option.some.inj H
   go_enter Try.func132, Try.ntmps132
   go_wp2_with (first | ((with_reducible refine gate_dst (N := 2) rfl ?_); refine box_event ?hg (N := 2) ?hd (cs := #[.int .i64 a0_0, .int .i64 a0_1, .int .i64 a0_2, .int .i64 a0_3]) (t := 154) ?hr ?_; (case hd => rfl); (case hg => rfl); (case hr => first | (go_simp; done) | (go_simp; rfl)); intro gb240 hg w6 hbox hb; have n0_ := Aside0.mk (below_step (by repeat (first | (with_reducible first | exact HB.out | apply below_alloc | apply pw_below_drewN | apply below_drew1) | exact HB.out)) hb); have n1_ := Aside0.mk (hbox); have n2_ := Aside0.mk ((by rw [hg]; exact (below_size (by repeat (first | (with_reducible first | exact HB.out | apply below_alloc | apply pw_below_drewN | apply below_drew1) | exact HB.out))) : w.heap.size ≤ gb240)); have n3_ := Aside0.mk ((by rw [hg]; exact (below_size (by repeat (first | (with_reducible first | exact HB.out | apply below_alloc | apply pw_below_drewN | apply below_drew1) | exact HB.out))) : w.heap.size ≤ gb240)); clear HB; have HB := n0_; have BK240 := n1_; have GW240 := n2_; have GE240 := n3_; clear n0_ n1_ n2_ n3_; clear hb hbox hg; have hcz7_0 : w6.cell? ⟨gb240, 0, none⟩ = some (.int .i64 a0_0) := (blk_cell BK240.out 0).trans rfl; have hcz7_1 : w6.cell? ⟨gb240, 1, none⟩ = some (.int .i64 a0_1) := (blk_cell BK240.out 1).trans rfl; have hcz7_2 : w6.cell? ⟨gb240, 2, none⟩ = some (.int .i64 a0_2) := (blk_cell BK240.out 2).trans rfl; have hcz7_3 : w6.cell? ⟨gb240, 3, none⟩ = some (.int .i64 a0_3) := (blk_cell BK240.out 3).trans rfl; have hfz7_0 := blk_frozen BK240.out 0; have hfz7_1 := blk_frozen BK240.out 1; have hfz7_2 := blk_frozen BK240.out 2; have hfz7_3 := blk_frozen BK240.out 3))
   go_ret
   exact ⟨by first | rfl | (simp [errW_none, errW_some] <;> rfl) | (simp [*, errW_none, errW_some] <;> rfl), by repeat (first | (with_reducible first | exact HB.out | apply below_alloc | apply pw_below_drewN | apply below_drew1 | refine below_set ?_ GE240.out) | exact HB.out)⟩
end Go.Proofs.Ythbajahklnpkcaa.PA
