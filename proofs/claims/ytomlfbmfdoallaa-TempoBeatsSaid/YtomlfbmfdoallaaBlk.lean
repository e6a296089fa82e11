/- Blocks known whole: what a block of cells holds, carried over the steps of a walk. -/
import Derived.RangeFuncNested
import Derived.WalkKit
import Derived.Below
import Derived.Deep.Draws
set_option linter.unusedVariables false
namespace Go.Proofs.Ytomlfbmfdoallaa
open Go.RowKit

/-- Block b holds the cells cs of type t, none of them frozen. -/
def Blk (W : World) (b : Nat) (cs : Array Value) (t : TypeId) : Prop := W.heap[b]? = some (.cells cs t (0, 0))

section
variable {W W' : World} {b : Nat} {cs : Array Value} {t : TypeId}
theorem Blk.lt (h : Blk W b cs t) : b < W.heap.size := (Array.getElem?_eq_some_iff.1 h).1
theorem Blk.cell (h : Blk W b cs t) (j : Nat) {v : Value} (hv : cs[j]? = some v) : W.cell? ⟨b, j, none⟩ = some v := by
  unfold Blk at h
  simp [World.cell?, h, hv]
theorem Blk.frozen (h : Blk W b cs t) (j : Nat) : W.frozen? ⟨b, j, none⟩ = false := by
  unfold Blk at h
  simp [World.frozen?, h]
theorem Blk.same (h : Blk W b cs t) (e : W'.heap[b]? = W.heap[b]?) : Blk W' b cs t := by unfold Blk at *; rw [e]; exact h
theorem Blk.below (h : Blk W b cs t) {B : Nat} (hb : Below B W W') (hlt : b < B) : Blk W' b cs t := h.same (hb.block b hlt)
theorem Blk.below_ (h : Blk W b cs t) (hb : Below W.heap.size W W') : Blk W' b cs t := h.same (hb.block b h.lt)
theorem Blk.alloc (h : Blk W b cs t) (o : Obj) : Blk (W.alloc o) b cs t := h.same (Below.heap_alloc W o b h.lt)
theorem Blk.drew (h : Blk W b cs t) : Blk W.drew b cs t := h
theorem Blk.drewN (h : Blk W b cs t) (n : Nat) : Blk (W.drewN n) b cs t := h
theorem Blk.new (W : World) (cs : Array Value) (t : TypeId) : Blk (W.alloc (.cells cs t)) W.heap.size cs t := World.alloc_heap_new W _
theorem Blk.other (h : Blk W b cs t) {a : Addr} (u : Value) (hne : b ≠ a.block) : Blk (W.setCell a u) b cs t := h.same (Below.heap_setCell W a u b hne)
theorem Blk.set (h : Blk W b cs t) (j : Nat) (u : Value) : Blk (W.setCell ⟨b, j, none⟩ u) b (cs.setIfInBounds j u) t := by
  unfold Blk at *
  simp [World.setCell, Array.getElem?_modify, h]
theorem Blk.kept (h : Blk W b cs t) {row : Option Nat} (hg : W.grownBy W' row) (hr : ∀ r, row = some r → ∃ o : Obj, W.heap[r]? = some o ∧ o.isCells = false) : Blk W' b cs t := by
  refine h.same (hg.block b h.lt ?_)
  intro e
  obtain ⟨o, ho, hc⟩ := hr b e.symm
  unfold Blk at h
  rw [h] at ho
  cases ho
  simp [Obj.isCells] at hc
theorem Blk.put (h : Blk W b cs t) {l : Nat} {o o' : Obj} (hl : W.heap[l]? = some o) (ho : o.isCells = false) : Blk (W.putObj l o') b cs t :=
  h.kept (grownBy_putObj' W l o') (fun r e => by cases e; exact ⟨o, hl, ho⟩)
end
theorem blk_own {β : Type} (b : β → Nat) (f : β → Array Value) (t : TypeId) : Own (fun s W => Blk W (b s) (f s) t) := fun s X Y row hs hg hr => hs.kept hg hr
end Go.Proofs.Ytomlfbmfdoallaa
