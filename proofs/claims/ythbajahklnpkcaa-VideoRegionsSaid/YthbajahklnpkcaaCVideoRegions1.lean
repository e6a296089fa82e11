/- VideoRegions, part 1: what the row is built on. -/
import Derived.Below
import Derived.Deep.Draws
import Derived.Deep.AppendLies
import Derived.Maps.AppendAt
import Derived.OwnWalk
import Derived.Laws.BytesArg
import Derived.Laws.MakeOwn
import Derived.Laws.OwnMore
import Derived.Deep.OwnRows
import Derived.Tactics
import Derived.Lib.ConvBytes
import Derived.Laws.Slices
import Derived.WalkKit
import Derived.KernelRfl
import Derived.RowKit3
import Derived.Deep.LoopGhost
import Derived.Deep.QuietTactic
import Derived.BigQuiet
import Derived.WideLaws
import Derived.Deep.DeepCutAuto
import Derived.Deep.CutBlock
import Derived.Deep.RegionHeld3
import Derived.Laws.Rows
import Derived.Lib.AppendStr
import Derived.ArgAppend
import Derived.Laws.IdiomCopy
import Derived.RowKit
import Derived.OrdersHeld
import Derived.Laws.BitsLemmas
import Derived.Laws.StructEq
import Derived.Test.YthbajahklnpkcaaProg
import Derived.Deep.Slices
import Derived.Deep.Fields
import Derived.ChangeSame
import Derived.Lib.SmallJoins
import Derived.Ground.Names8Prog
import Derived.Shelf.SortM.Plain
import Derived.Shelf.SlGeneric
import Derived.Shelf.SlicesG.CompactI
import Derived.Shelf.Spec.SlicesGrow
import Derived.Ground.SlgmProg
import Derived.Ground.SlgnProg
import Derived.RangeFuncNested
import Derived.RangeFuncBound
import Derived.RangeFuncCalls
import Derived.RangeFuncLeaves
import Derived.Lib.Hide
import Derived.LoopTactic
import Derived.Shelf.Abstract
import Derived.Laws.EntriesVeiled
import Derived.Shelf.SortM.SortNone
import Derived.Sort.OwnSortedInts
import Derived.Lib.RowBridge
namespace Go
abbrev U := true
abbrev Z := false
theorem V9 {α : Type _} (l : List α) (i : Nat) (a : α) : l.toArray.setIfInBounds i a = (l.set i a).toArray := List.setIfInBounds_toArray ..
theorem VA {α : Type _} {a : α} {s : List α} {b : α} : (a :: s).set 0 b = b :: s := rfl
theorem VB {α : Type _} {a : α} {s : List α} {n : Nat} {b : α} : (a :: s).set (n + 1) b = a :: s.set n b := rfl
end Go
set_option linter.unusedVariables false
set_option linter.unusedSimpArgs false
namespace Go.Proofs.YthbajahklnpkcaaW.PrintWords
open Go.RowKit
structure Zb (p : Prop) : Prop where mk :: (out : p)
structure Drawn0 (w w' : World) : Prop where mk :: (out : ∃ n,w' = w.drewN n)
theorem Drawn0.refl (w : World) : Drawn0 w w := ⟨⟨0,rfl⟩⟩
theorem Drawn0.step {w w' : World} (h : Drawn0 w w') (n : Nat) : Drawn0 w (w'.drewN n) := by
 obtain ⟨m,rfl⟩ := h;exact ⟨⟨m + n,World.drewN_drewN ..⟩⟩
theorem Drawn0.grown {w w' : World} (h : Drawn0 w w') : Grown w w' := by
 obtain ⟨n,rfl⟩ := h
 induction n with
 | zero => exact Grown.refl _
 | succ n ih => rw [← World.drew_drewN];exact Grown.drew ih
theorem Drawn0.below {w w' : World} (h : Drawn0 w w') : Below w.heap.size w w' := by
 obtain ⟨n,rfl⟩ := h
 induction n with
 | zero => exact Below.refl _ _
 | succ n ih => rw [← World.drew_drewN];exact ih.drew
def rd (xs : List Int) (i : Int) : Int := xs.getD i.toNat 0
theorem Zf {w W : World} (h : Below w.heap.size w W) (o : Obj) : Below w.heap.size w (W.alloc o) := h.alloc h.size o
theorem QX {B : Nat} {w W : World} (h : Below B w W) : Below B w W.drew := ⟨h.os,h.tape,h.output,h.size,h.block⟩
theorem Za {B : Nat} {w W : World} (h : Below B w W) (n : Nat) : Below B w (W.drewN n) := ⟨h.os,h.tape,h.output,h.size,h.block⟩
theorem below_then {B : Nat} {w w1 w2 : World} (h : Below B w w1) (hB : B ≤ w1.heap.size) (k : Below w1.heap.size w1 w2) : Below B w w2 :=
 h.trans ⟨k.os,k.tape,k.output,k.size,fun i hi => k.block i (Nat.lt_of_lt_of_le hi hB)⟩
theorem grown_of_below {w w1 : World} (h : Below w.heap.size w w1) (row : Option Nat) : w.grownBy w1 row := ⟨h.os,h.tape,h.output,h.size,fun i hi _ => h.block i hi⟩
theorem Qz {w w1 : World} (h : Below w.heap.size w w1) {a : Addr} {v : Value} (hc : w.cell? a = some v) : w1.cell? a = some v := (h.cell (World.block_lt_of_cell? w a hc)).trans hc
theorem ZT (g j : Nat) : (⟨g,0,none⟩ : Addr).add j = ⟨g,j,none⟩ := by unfold Addr.add;split <;> simp_all
def ReadsInt (w : World) (k : IntKind) (A : Option Addr) (n : Nat) (xs : List Int) : Prop :=
 xs.length = n ∧ n ≤ 9223372036854775807 ∧ (0 < n → ∃ ad,A = some ad ∧ ∀ j,j < n → w.cell? (ad.add j) = some (.int k (xs.getD j 0)))
theorem ReadsInt.at_ {w : World} {k : IntKind} {A : Option Addr} {n : Nat} {xs : List Int} (h : ReadsInt w k A n xs) (i : Int) (h0 : 0 ≤ i) (h1 : i < n) : ∃ ad,A = some ad ∧ w.cell? (ad.add i.toNat) = some (.int k (rd xs i)) := by
 obtain ⟨ad,e,hc⟩ := h.2.2 (by omega);exact ⟨ad,e,hc _ (by omega)⟩
theorem ReadsInt.below {w w1 : World} {k : IntKind} {A : Option Addr} {n : Nat} {xs : List Int} (h : ReadsInt w k A n xs) (hb : Below w.heap.size w w1) : ReadsInt w1 k A n xs :=
 ⟨h.1,h.2.1,fun hn => by
  obtain ⟨ad,e,hc⟩ := h.2.2 hn
  exact ⟨ad,e,fun j hj => Qz hb (hc j hj)⟩⟩
theorem own_nil (W : World) (base : Nat) (e : TypeId) (size : Nat) : W.ownsRow base e size (.slice none 0 0) 0 [] := ⟨by simp,.inl ⟨rfl,rfl⟩⟩
theorem Q5 {w : World} {base : Nat} {e : TypeId} {size n : Nat} {v : Value} {xs : List Value} (h : w.ownsRow base e size v n xs) (k : Nat) (hk : v.ownBlock = some k) : base ≤ k := by
 rcases h.2 with ⟨rfl,_⟩ | ⟨g,cap,cur,rfl,hb,_⟩
 · simp [Value.ownBlock] at hk
 · have : g = k := by simpa [Value.ownBlock] using hk
   omega
theorem V6 {w : World} {base : Nat} {e : TypeId} {size n : Nat} {v : Value} {xs : List Value} (h : w.ownsRow base e size v n xs) (k : Nat) (hk : v.ownBlock = some k) : k < w.heap.size := by
 rcases h.2 with ⟨rfl,_⟩ | ⟨g,cap,cur,rfl,hb,hh,_⟩
 · simp [Value.ownBlock] at hk
 · have : g = k := by simpa [Value.ownBlock] using hk
   subst this;exact (Array.getElem?_eq_some_iff.1 hh).1
theorem pw_own_below {w w1 : World} {base : Nat} {e : TypeId} {size n : Nat} {v : Value} {xs : List Value} (h : w.ownsRow base e size v n xs) (hb : Below w.heap.size w w1) : w1.ownsRow base e size v n xs :=
 h.kept (grown_of_below hb none) (by cases v.ownBlock <;> simp)
theorem own_other {w w1 : World} {base : Nat} {e : TypeId} {size n : Nat} {v : Value} {xs : List Value} (h : w.ownsRow base e size v n xs) {row : Option Nat} (hg : w.grownBy w1 row) (hne : v.ownBlock = none ∨ v.ownBlock ≠ row) : w1.ownsRow base e size v n xs := h.kept hg hne
theorem ReadsInt.take_ {w : World} {k : IntKind} {A : Option Addr} {n : Nat} {xs : List Int} (h : ReadsInt w k A n xs) (i : Nat) (hi : i ≤ n) : ReadsInt w k A i (xs.take i) := by
 refine ⟨by rw [List.length_take,h.1];omega,by have := h.2.1;omega,fun hp => ?_⟩;obtain ⟨ad,e,hc⟩ := h.2.2 (by omega);refine ⟨ad,e,fun j hj => ?_⟩;rw [hc j (by omega)];simp [List.getD_eq_getElem?_getD,hj]
def LeO {α : Type} (a b : Option α) : Prop := ∀ r,a = some r → b = some r
theorem LeO.refl {α : Type} (a : Option α) : LeO a a := fun _ h => h
theorem LeO.none {α : Type} (b : Option α) : LeO Option.none b := fun _ h => by cases h
theorem LeO.trans {α : Type} {a b c : Option α} (h : LeO a b) (k : LeO b c) : LeO a c := fun r hr => k r (h r hr)
theorem LeO.bind {α β : Type} {a a' : Option α} {f f' : α → Option β} (h : LeO a a') (k : ∀ x,LeO (f x) (f' x)) : LeO (a.bind f) (a'.bind f') := by
 intro r hr;obtain ⟨x,hx,hf⟩ := Option.bind_eq_some_iff.1 hr;exact Option.bind_eq_some_iff.2 ⟨x,h x hx,k x r hf⟩
theorem LeO.map {α β : Type} {a a' : Option α} (f : α → β) (h : LeO a a') : LeO (a.map f) (a'.map f) := by
 intro r hr;obtain ⟨x,hx,hf⟩ := Option.map_eq_some_iff.1 hr;exact Option.map_eq_some_iff.2 ⟨x,h x hx,hf⟩
def Reps {α : Type} (R : α → List Value → Prop) (size : Nat) (ps : List α) (cs : List Value) : Prop :=
 cs.length = ps.length * size ∧ ∀ j p,ps[j]? = some p → R p ((cs.drop (j * size)).take size)
theorem Reps.none {α : Type} (R : α → List Value → Prop) (size : Nat) : Reps R size [] [] := ⟨by simp,fun j p h => by simp at h⟩
theorem Reps.snoc {α : Type} {R : α → List Value → Prop} {size : Nat} {ps : List α} {cs c : List Value} {p : α} (h : Reps R size ps cs) (hp : R p c) (hc : c.length = size) : Reps R size (ps ++ [p]) (cs ++ c) := by
 refine ⟨by rw [List.length_append,h.1,hc,List.length_append,List.length_singleton,Nat.add_mul,Nat.one_mul],fun j q hq => ?_⟩
 rcases Nat.lt_or_ge j ps.length with hj | hj
 · rw [List.getElem?_append_left hj] at hq
   have h1 : j * size + size ≤ cs.length := by rw [h.1,← Nat.succ_mul];exact Nat.mul_le_mul_right _ hj
   have h2 := h.2 j q hq;rw [List.drop_append_of_le_length (by omega),List.take_append_of_le_length (by rw [List.length_drop];omega)];exact h2
 · have hj' : j = ps.length := by
    have := (List.getElem?_eq_some_iff.1 hq).1;rw [List.length_append,List.length_singleton] at this;omega
   subst hj'
   have hq' : p = q := by simpa using hq
   subst hq';rw [← h.1,List.drop_left,← hc,List.take_length];exact hp
theorem Reps.imp_ {α : Type} {R R' : α → List Value → Prop} {size : Nat} {ps : List α} {cs : List Value} (h : Reps R size ps cs) (hR : ∀ p c,R p c → R' p c) : Reps R' size ps cs := ⟨h.1,fun j p hj => hR _ _ (h.2 j p hj)⟩
def ReadsRow {α : Type} (R : α → List Value → Prop) (size : Nat) (w : World) (A : Option Addr) (n : Nat) (ps : List α) : Prop :=
 ps.length = n ∧ n ≤ 9223372036854775807 ∧ (0 < n → ∃ ad,A = some ad ∧ ∀ j p,ps[j]? = some p → ∃ c,c.length = size ∧ R p c ∧ ∀ i u,c[i]? = some u → w.cell? (ad.add (j * size + i)) = some u)
theorem ReadsRow.get_ {α : Type} {R : α → List Value → Prop} {size : Nat} {w : World} {A : Option Addr} {n : Nat} {ps : List α} (h : ReadsRow R size w A n ps) (d : α) (i : Int) (h0 : 0 ≤ i) (h1 : i < n) :
 ∃ ad c,A = some ad ∧ c.length = size ∧ R (ps.getD i.toNat d) c ∧ ∀ j u,c[j]? = some u → w.cell? (ad.add (i.toNat * size + j)) = some u := by
 obtain ⟨ad,e,hc⟩ := h.2.2 (by omega)
 have hl : i.toNat < ps.length := by have := h.1;omega
 obtain ⟨c,hs,hr,hcell⟩ := hc i.toNat _ (List.getElem?_eq_getElem hl);refine ⟨ad,c,e,hs,?_,hcell⟩;rw [List.getD_eq_getElem?_getD,List.getElem?_eq_getElem hl];exact hr
theorem ReadsRow.imp_ {α : Type} {R R' : α → List Value → Prop} {size : Nat} {w w1 : World} {A : Option Addr} {n : Nat} {ps : List α} (h : ReadsRow R size w A n ps) (hb : Below w.heap.size w w1) (hR : ∀ p c,R p c → R' p c) : ReadsRow R' size w1 A n ps :=
 ⟨h.1,h.2.1,fun hn => by
  obtain ⟨ad,e,hc⟩ := h.2.2 hn;refine ⟨ad,e,fun j p hj => ?_⟩;obtain ⟨c,hs,hr,hcell⟩ := hc j p hj
  exact ⟨c,hs,hR _ _ hr,fun i u hu => Qz hb (hcell i u hu)⟩⟩
theorem own_reads_row {α : Type} {R : α → List Value → Prop} {w : World} {base n size : Nat} {e : TypeId} {v : Value} {ps : List α} {cs : List Value} (h : w.ownsRow base e size v n cs) (hR : Reps R size ps cs) (hn : ps.length = n) :
 ∃ A c,v = .slice A n c ∧ ReadsRow R size w A n ps := by
 rcases Nat.eq_zero_or_pos n with h0 | h0
 · rcases h.2 with ⟨rfl,rfl⟩ | ⟨g,cap,cur,rfl,_⟩
   · exact ⟨none,0,rfl,hn,by omega,fun hp => absurd hp (by omega)⟩
   · exact ⟨_,cap,rfl,hn,by omega,fun hp => absurd hp (by omega)⟩
 · obtain ⟨g,cap,rfl,_,_⟩ := h.form h0
   have hm : n ≤ 9223372036854775807 := by
    rcases h.2 with ⟨_,h1⟩ | ⟨g',cap',cur,he,_,_,h1,h2,_⟩
    · omega
    · simp only [maxLen] at h2
      omega
   refine ⟨_,cap,rfl,hn,hm,fun _ => ⟨_,rfl,fun j p hj => ⟨(cs.drop (j * size)).take size,?_,hR.2 j p hj,fun i u hu => ?_⟩⟩⟩
   · have hjl := (List.getElem?_eq_some_iff.1 hj).1
     have h1 : j * size + size ≤ cs.length := by rw [hR.1,← Nat.succ_mul];exact Nat.mul_le_mul_right _ hjl
     rw [List.length_take,List.length_drop];omega
   · refine h.cells (g := g) rfl _ u ?_
     rw [List.getElem?_take] at hu;split at hu
     · rw [List.getElem?_drop] at hu
       exact hu
     · cases hu
theorem QJ (ad : Addr) (m j : Nat) (hj : 0 < j) : ad.add (m + j) = ⟨(ad.add m).block,(ad.add m).off + j,none⟩ := by
 unfold Addr.add
 by_cases hm : m = 0
 · subst hm
   simp [Nat.ne_of_gt hj]
 · simp [hm,Nat.add_assoc]
section
variable {P : Program} {ops : Array Oper} {rest : List Oper} {o : Oper} {a : Act} {Q : Exit → Act → World → Prop}
theorem Qt {w0 W : World} (base : Nat) (hgd : o.guard = none) (s x : Operand) (t e : TypeId) (z : Value) (size bytes : Nat)
 (ho : o.op = .call { callee := .builtin .append,args := #[s,x],argTypes := #[t,t] })
 (ht : P.underlying t = some (.slice e)) (hinfo : (P.info? e).map (fun i => (i.zero,i.size,i.bytes)) = some (some z,size,bytes)) (hz : z.cells.size = size) (hs0 : 0 < size) (hb0 : 0 < bytes)
 (v : Value) (n : Nat) (xs ys : List Value) (hs : a.eval s = v) (hx : a.eval x = .slice (some ⟨W.heap.size,0,none⟩) 1 1) (hys : ys.length = size) (h1 : ∀ u ∈ ys,u.oneCell' = true)
 (HO : W.ownsRow base e size v n xs) (HB : Below base w0 W) (hbase : base ≤ W.heap.size) (hl : (n + 1) * bytes ≤ 140737488355328)
 (h : ∀ v1 w1,w1.ownsRow base e size v1 (n + 1) (xs ++ ys) → Below base w0 w1 → W.grownBy w1 v.ownBlock → (v1.ownBlock = v.ownBlock ∨ ∃ b,v1.ownBlock = some b ∧ W.heap.size ≤ b) → wpList P ops Q rest (a.put o.dst v1) w1) :
 wpList P ops Q (o :: rest) a (W.alloc (.cells ys.toArray e)) := by
 obtain ⟨i0,hi,hzz⟩ := Option.map_eq_some_iff.1 hinfo;simp only [Prod.mk.injEq] at hzz;obtain ⟨hz0,hz1,hz2⟩ := hzz;have hlen : n + 1 ≤ 140737488355328 := Nat.le_trans (Nat.le_mul_of_pos_right _ hb0) hl
 refine wpList_append_own_at (W.alloc (.cells ys.toArray e)) hgd s x t ho base e i0 z size bytes ht hi hz0 hz1 hz2 hz hs0 v n xs hs (HO.alloc _) ⟨W.heap.size,0,none⟩ 1 1 ys hx (by rw [hys];simp)
  (by simpa using World.news_of_block (cs := ys.toArray) (t := e) (fr := (0,0)) (heap_alloc_new W (.cells ys.toArray e))) h1 (by simp only [maxLen];omega) hl (by simp;omega) ?_
 intro v1 w1 hown hg _ hat
 refine h v1 w1 hown ((HB.alloc hbase _).grown hg (by simp;omega) (Q5 HO)) (World.grownBy.trans (World.grownBy_alloc W _ _) hg) ?_
 rcases hat with hat | hat
 · exact .inl hat
 · exact .inr ⟨_,hat,by simp⟩
end
theorem V5 {w : World} {base : Nat} {e t : TypeId} {size n g : Nat} {v : Value} {xs : List Value} {cs : Array Value} (h : w.ownsRow base e size v n xs) (hg : w.heap[g]? = some (.cells cs t (0,0))) (hne : e ≠ t) : some g ≠ v.ownBlock := by
 rcases h.2 with ⟨rfl,_⟩ | ⟨g',cap,cur,rfl,_,hh,_⟩
 · simp [Value.ownBlock]
 · intro he
   have : g = g' := by simpa [Value.ownBlock] using he
   subst this;rw [hg] at hh
   injection hh with hh
   injection hh with _ ht
   exact hne ht.symm
theorem Vo {w : World} {g : Nat} {t : TypeId} {cs : Array Value} (h : w.heap[g]? = some (.cells cs t (0,0))) (i : Nat) (u : Value) : (w.setCell ⟨g,i,none⟩ u).heap[g]? = some (.cells (cs.setIfInBounds i u) t (0,0)) := by
 simp [World.setCell,Array.getElem?_modify,h]
theorem XJ {w : World} {g : Nat} {t : TypeId} {cs : Array Value} (h : w.heap[g]? = some (.cells cs t (0,0))) {p : Addr} (hp : g ≠ p.block) (u : Value) : (w.setCell p u).heap[g]? = some (.cells cs t (0,0)) := (Below.heap_setCell w p u g hp).trans h
theorem XR {w : World} {g : Nat} {o : Obj} (h : w.heap[g]? = some o) : g < w.heap.size := (Array.getElem?_eq_some_iff.1 h).1
theorem Zg {w : World} {g : Nat} {t : TypeId} {cs : Array Value} (h : w.heap[g]? = some (.cells cs t (0,0))) (i : Nat) : w.cell? ⟨g,i,none⟩ = cs[i]? := cell_of_row w g i cs t (0,0) h
theorem Zh {w : World} {g : Nat} {t : TypeId} {cs : Array Value} (h : w.heap[g]? = some (.cells cs t (0,0))) (i : Nat) : w.frozen? ⟨g,i,none⟩ = false := by simp [World.frozen?,h]
theorem XY {w w1 : World} {g : Nat} {o : Obj} {row : Option Nat} (h : w.heap[g]? = some o) (hg : w.grownBy w1 row) (hne : some g ≠ row) : w1.heap[g]? = some o := (hg.block g (XR h) hne).trans h
def KeepBut (w w' : World) (g : Nat) (row : Option Nat) : Prop := w.heap.size ≤ w'.heap.size ∧ ∀ i,i < w.heap.size → i ≠ g → some i ≠ row → w'.heap[i]? = w.heap[i]?
theorem KeepBut.refl (w : World) (g : Nat) (row : Option Nat) : KeepBut w w g row := ⟨Nat.le_refl _,fun _ _ _ _ => rfl⟩
theorem KeepBut.JG {w w1 : World} (h : Below w.heap.size w w1) (g : Nat) (row : Option Nat) : KeepBut w w1 g row := ⟨h.size,fun i hi _ _ => h.block i hi⟩
theorem KeepBut.trans {w w1 w2 : World} {g : Nat} {row row1 : Option Nat} (h : KeepBut w w1 g row) (k : KeepBut w1 w2 g row1) (hr : row1 = row ∨ ∃ b,row1 = some b ∧ w.heap.size ≤ b) : KeepBut w w2 g row :=
 ⟨Nat.le_trans h.1 k.1,fun i hi hg hn => by
  refine (k.2 i (Nat.lt_of_lt_of_le hi h.1) hg ?_).trans (h.2 i hi hg hn)
  rcases hr with rfl | ⟨b,rfl,hb⟩
  · exact hn
  · intro e
    injection e with e
    omega⟩
theorem KeepBut.blk {w w1 : World} {g g' : Nat} {row : Option Nat} {o : Obj} (h : KeepBut w w1 g row) (hb : w.heap[g']? = some o) (hg : g' ≠ g) (hr : some g' ≠ row) : w1.heap[g']? = some o := (h.2 g' (XR hb) hg hr).trans hb
theorem KeepBut.own {w w1 : World} {g : Nat} {row : Option Nat} {base : Nat} {e : TypeId} {size n : Nat} {v : Value} {xs : List Value} (h : KeepBut w w1 g row) (ho : w.ownsRow base e size v n xs) (hg : v.ownBlock ≠ some g) (hr : v.ownBlock = none ∨ v.ownBlock ≠ row) : w1.ownsRow base e size v n xs := by
 obtain ⟨h1,h2⟩ := ho;refine ⟨h1,?_⟩
 rcases h2 with h2 | ⟨b,cap,cur,rfl,hb,hh,r⟩
 · exact .inl h2
 · refine .inr ⟨b,cap,cur,rfl,hb,h.blk hh ?_ ?_,r⟩
   · intro e
     exact hg (by rw [← e];rfl)
   · rcases hr with hr | hr
     · simp [Value.ownBlock] at hr
     · exact hr
def Ev {α : Type} (g : Nat → Option α) (r : α) : Prop := ∃ K,∀ k,K ≤ k → g k = some r
theorem Ev.bind {α β : Type} {g : Nat → Option α} {f : Nat → α → Option β} {a : α} {r : β} (h : Ev g a) (k : Ev (fun n => f n a) r) : Ev (fun n => (g n).bind (f n)) r := by
 obtain ⟨K,h⟩ := h;obtain ⟨K',k⟩ := k;refine ⟨max K K',fun n hn => ?_⟩;have h1 := h n (by omega);have h2 := k n (by omega);simp only [h1,Option.bind_some];exact h2
theorem Ev.step {α : Type} {g f : Nat → Option α} {r : α} (h : ∀ k,g (k + 1) = f k) (k : Ev f r) : Ev g r := by
 obtain ⟨K,k⟩ := k;refine ⟨K + 1,fun n hn => ?_⟩
 obtain ⟨m,rfl⟩ : ∃ m,n = m + 1 := ⟨n - 1,by omega⟩
 rw [h];exact k m (by omega)
theorem Ev.congr {α : Type} {g f : Nat → Option α} {r : α} (h : ∀ k,g k = f k) (k : Ev f r) : Ev g r := by
 obtain ⟨K,k⟩ := k;exact ⟨K,fun n hn => (h n).trans (k n hn)⟩
section
variable {P : Program} {ops : Array Oper} {o : Oper} {a : Act} {Q : Exit → Act → World → Prop} {K : Act → World → Prop}
theorem step_append_cells {w0 W : World} (base : Nat) (hw : Region.wanted o (yielded ops a.tmps) = true) (s x : Operand) (t e : TypeId) (z : Value) (size bytes : Nat)
 (ho : o.op = .call { callee := .builtin .append,args := #[s,x],argTypes := #[t,t] })
 (ht : P.underlying t = some (.slice e)) (hinfo : (P.info? e).map (fun i => (i.zero,i.size,i.bytes)) = some (some z,size,bytes)) (hz : z.cells.size = size) (hs0 : 0 < size) (hb0 : 0 < bytes)
 (v : Value) (n : Nat) (xs ys : List Value) (hs : a.eval s = v) (hx : a.eval x = .slice (some ⟨W.heap.size,0,none⟩) 1 1) (hys : ys.length = size) (h1 : ∀ u ∈ ys,u.oneCell' = true)
 (HO : W.ownsRow base e size v n xs) (HB : Below base w0 W) (hbase : base ≤ W.heap.size) (hl : (n + 1) * bytes ≤ 140737488355328)
 (h : ∀ v1 w1,w1.ownsRow base e size v1 (n + 1) (xs ++ ys) → Below base w0 w1 → W.grownBy w1 v.ownBlock → (v1.ownBlock = v.ownBlock ∨ ∃ b,v1.ownBlock = some b ∧ W.heap.size ≤ b) → K (a.put o.dst v1) w1) :
 if Region.wanted o (yielded ops a.tmps) = true then Oper.wp P o a (W.alloc (.cells ys.toArray e)) K Q else K (a.put o.dst undef) (W.alloc (.cells ys.toArray e)) := by
 obtain ⟨i0,hi,hzz⟩ := Option.map_eq_some_iff.1 hinfo;simp only [Prod.mk.injEq] at hzz;obtain ⟨hz0,hz1,hz2⟩ := hzz;have hlen : n + 1 ≤ 140737488355328 := Nat.le_trans (Nat.le_mul_of_pos_right _ hb0) hl;rw [if_pos hw]
 obtain ⟨v1,w1,hr,hown,hg,_,hat⟩ := run_append_own_at (P := P) (W.alloc (.cells ys.toArray e)) base t o.type e i0 z size bytes ht hi hz0 hz1 hz2 hz hs0 v n xs (HO.alloc _) ⟨W.heap.size,0,none⟩ 1 1 ys (by rw [hys];simp)
  (by simpa using World.news_of_block (cs := ys.toArray) (t := e) (fr := (0,0)) (heap_alloc_new W (.cells ys.toArray e))) h1 (by simp only [maxLen];omega) hl (by simp;omega)
 unfold Oper.wp execOp;simp only [ho,resolve,invoke,builtin,Sem.run_bind,Sem.run_pure,Result.andThen_ok,List.map_toArray,List.map_cons,List.map_nil,hs,hx,hr];refine h v1 w1 hown ((HB.alloc hbase _).grown hg (by simp;omega) (Q5 HO)) (World.grownBy.trans (World.grownBy_alloc W _ _) hg) ?_
 rcases hat with hat | hat
 · exact .inl hat
 · exact .inr ⟨_,hat,by simp⟩
end
theorem own_weaken {w : World} {base base' : Nat} {e : TypeId} {size n : Nat} {v : Value} {xs : List Value} (h : w.ownsRow base e size v n xs) (hb : base' ≤ base) : w.ownsRow base' e size v n xs := by
 obtain ⟨h1,h2⟩ := h;refine ⟨h1,?_⟩
 rcases h2 with h2 | ⟨g,cap,cur,rfl,hg,r⟩
 · exact .inl h2
 · exact .inr ⟨g,cap,cur,rfl,Nat.le_trans hb hg,r⟩
section
variable {α : Type} {enc : α → Value} {d : α}
def rdOf (d : α) (xs : List α) (i : Int) : α := xs.getD i.toNat d
def ReadsOf (enc : α → Value) (d : α) (w : World) (A : Option Addr) (n : Nat) (xs : List α) : Prop :=
 xs.length = n ∧ n ≤ 9223372036854775807 ∧ (0 < n → ∃ ad,A = some ad ∧ ∀ j,j < n → w.cell? (ad.add j) = some (enc (xs.getD j d)))
theorem ReadsOf.at_ {w : World} {A : Option Addr} {n : Nat} {xs : List α} (h : ReadsOf enc d w A n xs) (i : Int) (h0 : 0 ≤ i) (h1 : i < n) : ∃ ad,A = some ad ∧ w.cell? (ad.add i.toNat) = some (enc (rdOf d xs i)) := by
 obtain ⟨ad,e,hc⟩ := h.2.2 (by omega);exact ⟨ad,e,hc _ (by omega)⟩
theorem ReadsOf.below {w w1 : World} {A : Option Addr} {n : Nat} {xs : List α} (h : ReadsOf enc d w A n xs) (hb : Below w.heap.size w w1) : ReadsOf enc d w1 A n xs :=
 ⟨h.1,h.2.1,fun hn => by
  obtain ⟨ad,e,hc⟩ := h.2.2 hn
  exact ⟨ad,e,fun j hj => Qz hb (hc j hj)⟩⟩
theorem ReadsOf.take_ {w : World} {A : Option Addr} {n : Nat} {xs : List α} (h : ReadsOf enc d w A n xs) (i : Nat) (hi : i ≤ n) : ReadsOf enc d w A i (xs.take i) := by
 refine ⟨by rw [List.length_take,h.1];omega,by have := h.2.1;omega,fun hp => ?_⟩;obtain ⟨ad,e,hc⟩ := h.2.2 (by omega);refine ⟨ad,e,fun j hj => ?_⟩;rw [hc j (by omega)];simp [List.getD_eq_getElem?_getD,hj]
end
theorem Zk {w : World} {g : Nat} {o : Obj} (h : w.heap[g]? = some o) (o' : Obj) : (w.alloc o').heap[g]? = some o := (Below.heap_alloc w o' g (XR h)).trans h
theorem Zn {w : World} {g : Nat} {o : Obj} (h : w.heap[g]? = some o) : w.drew.heap[g]? = some o := h
theorem Zl {w : World} {g : Nat} {o : Obj} (h : w.heap[g]? = some o) (n : Nat) : (w.drewN n).heap[g]? = some o := h
theorem ZG {w w1 : World} {g : Nat} {o : Obj} (h : w.heap[g]? = some o) (hb : Below w.heap.size w w1) : w1.heap[g]? = some o := (hb.block g (XR h)).trans h
theorem blk_new (w : World) (o : Obj) : (w.alloc o).heap[w.heap.size]? = some o := heap_alloc_new w o
section
variable {P : Program}
theorem XP {fn : Func} {p u : Tmp} {ty : TypeId} (h : fn.results = #[.cell p ty,.tmp u]) (tmps : Array Value) (w : World) (g : Nat) (t : TypeId) (cs : Array Value) (fr : Nat × Nat) (d : TypeDesc)
 (hp : tmps.getD p undef = .pointer (some ⟨g,0,none⟩)) (hg : w.heap[g]? = some (.cells cs t fr))
 (hu : P.underlying ty = some d) (hd : (match d with | .struct _ | .array _ _ => true | _ => false) = true) (hi : (P.info? ty).map (·.size) = some cs.size) :
 (results fn tmps).run P w = .ok (.tuple #[.agg cs,tmps.getD u undef]) w := by
 have hp' : tmps[p]?.getD undef = .pointer (some ⟨g,0,none⟩) := by simpa using hp
 simp [results,h,hp',asAddr,run_loadVar_row w g t ty cs fr d hg hu hd hi]
end
theorem own_le {w : World} {base n m c size : Nat} {e : TypeId} {A : Option Addr} {xs : List Value} (h : w.ownsRow base e size (.slice A m c) n xs) : m ≤ c := by
 rcases h.2 with ⟨he,_⟩ | ⟨g,cap,cur,he,_,_,hnc,_⟩
 · injection he with _ h2 h3
   omega
 · injection he with _ h2 h3
   omega
def OwnRow {α : Type} (R : α → List Value → Prop) (e : TypeId) (size : Nat) (w : World) (base : Nat) (v : Value) (ps : List α) : Prop :=
 ∃ inner,w.ownsRow base e size v ps.length inner ∧ Reps R size ps inner
section
variable {α : Type} {R R' : α → List Value → Prop} {e : TypeId} {size : Nat} {w w1 : World} {base : Nat} {v : Value} {ps : List α}
theorem OwnRow.none_ (R : α → List Value → Prop) (e : TypeId) (size : Nat) (w : World) (base : Nat) : OwnRow R e size w base (.slice none 0 0) [] := ⟨[],own_nil _ _ _ _,Reps.none _ _⟩
theorem OwnRow.imp_ (h : OwnRow R e size w base v ps) (hR : ∀ p c,R p c → R' p c) : OwnRow R' e size w base v ps := by
 obtain ⟨inner,ho,hr⟩ := h;exact ⟨inner,ho,hr.imp_ hR⟩
theorem OwnRow.below (h : OwnRow R e size w base v ps) (hb : Below w.heap.size w w1) : OwnRow R e size w1 base v ps := by
 obtain ⟨inner,ho,hr⟩ := h;exact ⟨inner,pw_own_below ho hb,hr⟩
theorem OwnRow.other (h : OwnRow R e size w base v ps) {row : Option Nat} (hg : w.grownBy w1 row) (hne : v.ownBlock = none ∨ v.ownBlock ≠ row) : OwnRow R e size w1 base v ps := by
 obtain ⟨inner,ho,hr⟩ := h;exact ⟨inner,own_other ho hg hne,hr⟩
theorem OwnRow.keep (h : OwnRow R e size w base v ps) {g : Nat} {t : TypeId} {cells : Array Value} (hb : w.heap[g]? = some (.cells cells t (0,0))) (ht : e ≠ t) (hk : KeepBut w w1 g none) : OwnRow R e size w1 base v ps := by
 obtain ⟨inner,ho,hr⟩ := h;exact ⟨inner,hk.own ho (Ne.symm (V5 ho hb ht)) (by cases v.ownBlock <;> simp),hr⟩
theorem OwnRow.reads (h : OwnRow R e size w base v ps) : ∃ A c,v = .slice A ps.length c ∧ ps.length ≤ c ∧ ReadsRow R size w A ps.length ps := by
 obtain ⟨inner,ho,hr⟩ := h;obtain ⟨A,c,rfl,hrow⟩ := own_reads_row ho hr rfl;exact ⟨A,c,rfl,own_le ho,hrow⟩
theorem OwnRow.ne_block (h : OwnRow R e size w base v ps) {g : Nat} {t : TypeId} {cells : Array Value} (hb : w.heap[g]? = some (.cells cells t (0,0))) (ht : e ≠ t) : some g ≠ v.ownBlock := by
 obtain ⟨inner,ho,hr⟩ := h;exact V5 ho hb ht
end
section
variable {P : Program} {ops : Array Oper} {rest : List Oper} {o : Oper} {a : Act} {Q : Exit → Act → World → Prop} {α : Type} {R : α → List Value → Prop}
theorem OwnRow.append {w0 W : World} (base : Nat) (hgd : o.guard = none) (s x : Operand) (t e : TypeId) (z : Value) (size bytes : Nat)
 (ho : o.op = .call { callee := .builtin .append,args := #[s,x],argTypes := #[t,t] })
 (ht : P.underlying t = some (.slice e)) (hinfo : (P.info? e).map (fun i => (i.zero,i.size,i.bytes)) = some (some z,size,bytes)) (hz : z.cells.size = size) (hs0 : 0 < size) (hb0 : 0 < bytes)
 (v : Value) (ps : List α) (p : α) (cs : List Value) (hs : a.eval s = v) (hx : a.eval x = .slice (some ⟨W.heap.size,0,none⟩) 1 1) (hp : R p cs) (hcs : cs.length = size) (h1 : ∀ u ∈ cs,u.oneCell' = true)
 (HO : OwnRow R e size W base v ps) (HB : Below base w0 W) (hbase : base ≤ W.heap.size) (hl : (ps.length + 1) * bytes ≤ 140737488355328)
 (h : ∀ v1 w1,OwnRow R e size w1 base v1 (ps ++ [p]) → Below base w0 w1 → W.grownBy w1 v.ownBlock → (v1.ownBlock = v.ownBlock ∨ ∃ b,v1.ownBlock = some b ∧ W.heap.size ≤ b) → wpList P ops Q rest (a.put o.dst v1) w1) :
 wpList P ops Q (o :: rest) a (W.alloc (.cells cs.toArray e)) := by
 obtain ⟨inner,hown,hr⟩ := HO;refine Qt base hgd s x t e z size bytes ho ht hinfo hz hs0 hb0 v ps.length inner cs hs hx hcs h1 hown HB hbase hl ?_;intro v1 w1 hown1 hb1 hg1 hat1;exact h v1 w1 ⟨inner ++ cs,by rw [List.length_append,List.length_singleton];exact hown1,hr.snoc hp hcs⟩ hb1 hg1 hat1
end
theorem ReadsRow.V3 {α : Type} {R : α → List Value → Prop} {size : Nat} {w : World} {ad : Addr} {n : Nat} {ps : List α} (h : ReadsRow R size w (some ad) n ps) :
 ∃ inner,Reps R size ps inner ∧ ∀ j u,inner[j]? = some u → w.cell? (ad.add j) = some u := by
 have key : ∀ m,m ≤ ps.length → ∃ inner,Reps R size (ps.take m) inner ∧ ∀ j u,inner[j]? = some u → w.cell? (ad.add j) = some u := by
  intro m
  induction m with
  | zero => exact fun _ => ⟨[],Reps.none _ _,fun j u hu => by simp at hu⟩
  | succ m ih =>
   intro hm;obtain ⟨inner,hr,hc⟩ := ih (by omega);obtain ⟨ad',he,hcell⟩ := h.2.2 (by have := h.1;omega)
   injection he with he
   subst he;obtain ⟨c,hcl,hp,hcc⟩ := hcell m _ (List.getElem?_eq_getElem (show m < ps.length by omega));refine ⟨inner ++ c,?_,fun j u hu => ?_⟩
   · rw [List.take_succ_eq_append_getElem (show m < ps.length by omega)]
     exact hr.snoc hp hcl
   · have hil : inner.length = m * size := by rw [hr.1,List.length_take,Nat.min_eq_left (by omega)]
     rcases Nat.lt_or_ge j inner.length with hj | hj
     · rw [List.getElem?_append_left hj] at hu
       exact hc j u hu
     · rw [List.getElem?_append_right hj] at hu
       have := hcc (j - inner.length) u hu
       rwa [hil,Nat.add_sub_cancel' (by omega)] at this
 obtain ⟨inner,hr,hc⟩ := key ps.length (Nat.le_refl _);rw [List.take_length] at hr;exact ⟨inner,hr,hc⟩
structure Kd (α : Type) where
 sz : Nat
 E : List Nat
 K : World → α → List Value → Prop
 M : World → Nat → (Nat → Prop) → α → List Value → Prop
 K_len : ∀ {w x cs},K w x cs → cs.length = sz
 K_one : ∀ {w x cs},K w x cs → ∀ u ∈ cs,u.oneCell' = true
 K_below : ∀ {w w1 : World} {x cs},Below w.heap.size w w1 → K w x cs → K w1 x cs
 K_of_M : ∀ {w base ok x cs},M w base ok x cs → K w x cs
 M_mono : ∀ {w base ok ok' x cs},(∀ k,ok k → ok' k) → M w base ok x cs → M w base ok' x cs
 M_bound : ∀ {w : World} {base ok x cs},M w base ok x cs → M w base (fun k => ok k ∧ base ≤ k ∧ k < w.heap.size ∧ ∃ q,q ∈ E ∧ ∃ cells,w.heap[k]? = some (.cells cells q (0,0))) x cs
 M_move : ∀ {w w1 : World} {base ok x cs},(∀ k,ok k → w1.heap[k]? = w.heap[k]?) → M w base ok x cs → M w1 base ok x cs
 M_lower : ∀ {w base base' ok x cs},base' ≤ base → M w base ok x cs → M w base' ok x cs
theorem own_move {w w1 : World} {base : Nat} {e : TypeId} {size n : Nat} {v : Value} {xs : List Value} (h : w.ownsRow base e size v n xs) (hm : ∀ k,v.ownBlock = some k → w1.heap[k]? = w.heap[k]?) : w1.ownsRow base e size v n xs := by
 obtain ⟨h1,h2⟩ := h;refine ⟨h1,?_⟩
 rcases h2 with h2 | ⟨g,cap,cur,rfl,hg,hh,r⟩
 · exact .inl h2
 · exact .inr ⟨g,cap,cur,rfl,hg,(hm g (by simp [Value.ownBlock])).trans hh,r⟩
theorem XM {w : World} {base : Nat} {e : TypeId} {size n : Nat} {v : Value} {xs : List Value} (h : w.ownsRow base e size v n xs) (k : Nat) (hk : v.ownBlock = some k) : ∃ cells,w.heap[k]? = some (.cells cells e (0,0)) := by
 rcases h.2 with ⟨rfl,_⟩ | ⟨g,cap,cur,rfl,hg,hh,r⟩
 · simp [Value.ownBlock] at hk
 · have : g = k := by simpa [Value.ownBlock] using hk
   subst this;exact ⟨cur,hh⟩
namespace Kd
def C {α : Type} (d : Kd α) (w : World) (A : Option Addr) (n : Nat) (xs : List α) : Prop := ReadsRow (d.K w) d.sz w A n xs
def R {α : Type} (d : Kd α) (e : Nat) (w : World) (base : Nat) (ok : Nat → Prop) (v : Value) (xs : List α) : Prop :=
 (∀ k,v.ownBlock = some k → ok k) ∧ OwnRow (d.M w base (fun k => ok k ∧ some k ≠ v.ownBlock)) e d.sz w base v xs
section
variable {α : Type} {d : Kd α} {e : Nat} {w w1 : World} {base : Nat} {ok ok' : Nat → Prop} {v : Value} {xs : List α}
theorem Z5 {A : Option Addr} {n : Nat} (h : d.C w A n xs) (hb : Below w.heap.size w w1) : d.C w1 A n xs := ReadsRow.imp_ h hb (fun _ _ hp => d.K_below hb hp)
theorem R_nil (d : Kd α) (e : Nat) (w : World) (base : Nat) (ok : Nat → Prop) : d.R e w base ok (.slice none 0 0) [] := ⟨fun k hk => by simp [Value.ownBlock] at hk,OwnRow.none_ _ _ _ _ _⟩
theorem ZE (h : d.R e w base ok v xs) (hok : ∀ k,ok k → ok' k) : d.R e w base ok' v xs := ⟨fun k hk => hok k (h.1 k hk),h.2.imp_ (fun _ _ hp => d.M_mono (fun k hk => ⟨hok k hk.1,hk.2⟩) hp)⟩
theorem Qj (h : d.R e w base ok v xs) : d.R e w base (fun k => ok k ∧ base ≤ k ∧ k < w.heap.size ∧ ∃ q,q ∈ e :: d.E ∧ ∃ cells,w.heap[k]? = some (.cells cells q (0,0))) v xs := by
 obtain ⟨h0,inner,ho,hr⟩ := h;refine ⟨fun k hk => ?_,inner,ho,hr.imp_ (fun _ _ hp => d.M_mono (fun k hk => ?_) (d.M_bound hp))⟩
 · obtain ⟨cells,hc⟩ := XM ho k hk
   exact ⟨h0 k hk,Q5 ho k hk,V6 ho k hk,e,List.mem_cons_self,cells,hc⟩
 · obtain ⟨⟨h1,h2⟩,h3,h4,q,hq,hc⟩ := hk
   exact ⟨⟨h1,h3,h4,q,List.mem_cons_of_mem _ hq,hc⟩,h2⟩
theorem Yr (h : d.R e w base ok v xs) (hm : ∀ k,ok k → w1.heap[k]? = w.heap[k]?) : d.R e w1 base ok v xs := by
 obtain ⟨h0,inner,ho,hr⟩ := h;exact ⟨h0,inner,own_move ho (fun k hk => hm k (h0 k hk)),hr.imp_ (fun _ _ hp => d.M_move (fun k hk => hm k hk.1) hp)⟩
theorem Xd {base' : Nat} (h : d.R e w base ok v xs) (hb : base' ≤ base) : d.R e w base' ok v xs := by
 obtain ⟨h0,inner,ho,hr⟩ := h;exact ⟨h0,inner,own_weaken ho hb,hr.imp_ (fun _ _ hp => d.M_lower hb hp)⟩
theorem Vc (h : d.R e w base ok v xs) (hm : ∀ k,ok k → k < w.heap.size → w1.heap[k]? = w.heap[k]?) : d.R e w1 base ok v xs :=
 ZE (Yr (Qj h) (fun k hk => hm k hk.1 hk.2.2.1)) (fun _ hk => hk.1)
theorem V7 {x : α} {cs : List Value} (h : d.M w base ok x cs) (hm : ∀ k,ok k → k < w.heap.size → w1.heap[k]? = w.heap[k]?) : d.M w1 base ok x cs :=
 d.M_mono (fun _ hk => hk.1) (d.M_move (fun k hk => hm k hk.1 hk.2.2.1) (d.M_bound h))
theorem Xa (h : d.R e w base ok v xs) (hb : Below w.heap.size w w1) : d.R e w1 base ok v xs := Vc h (fun k _ hk => hb.block k hk)
theorem Ve {x : α} {cs : List Value} (h : d.M w base ok x cs) (hb : Below w.heap.size w w1) : d.M w1 base ok x cs := V7 h (fun k _ hk => hb.block k hk)
theorem R_far (h : d.R e w base ok v xs) {p : Addr} (hok : ∀ k,ok k → k ≠ p.block) (u : Value) : d.R e (w.setCell p u) base ok v xs := Vc h (fun k ho _ => Below.heap_setCell w p u k (hok k ho))
theorem QL (h : d.R e w base ok v xs) {g t : Nat} {cells : Array Value} (hb : w.heap[g]? = some (.cells cells t (0,0))) (ht : ∀ q,q ∈ e :: d.E → q ≠ t) : d.R e w base (fun k => ok k ∧ k ≠ g) v xs :=
 ZE (Qj h) (fun k hk => ⟨hk.1,by
  obtain ⟨_,_,_,q,hq,cells',hc⟩ := hk;rintro rfl;rw [hc] at hb
  injection hb with hb
  injection hb with _ hb
  exact ht q hq hb⟩)
theorem XT (h : d.R e w base ok v xs) : ∃ A c,v = .slice A xs.length c ∧ xs.length ≤ c ∧ d.C w A xs.length xs := by
 obtain ⟨A,c,he,hl,hr⟩ := OwnRow.reads h.2;exact ⟨A,c,he,hl,hr.imp_ (Below.refl _ _) (fun _ _ hp => d.K_of_M hp)⟩
theorem ZS (h : d.R e w base ok v xs) : ∃ A c,v = .slice A xs.length c := by
 obtain ⟨A,c,he,_⟩ := XT h;exact ⟨A,c,he⟩
theorem R_own (h : d.R e w base ok v xs) : ∃ inner,w.ownsRow base e d.sz v xs.length inner := by
 obtain ⟨_,inner,ho,_⟩ := h;exact ⟨inner,ho⟩
theorem R_ne (h : d.R e w base ok v xs) {g t : Nat} {cells : Array Value} (hb : w.heap[g]? = some (.cells cells t (0,0))) (ht : e ≠ t) : some g ≠ v.ownBlock := OwnRow.ne_block h.2 hb ht
end
def scalar {α : Type} (enc : α → Value) (h1 : ∀ x,(enc x).oneCell' = true) : Kd α where
 sz := 1
 E := []
 K := fun _ x cs => cs = [enc x]
 M := fun _ _ _ x cs => cs = [enc x]
 K_len := fun h => by rw [h];rfl
 K_one := fun h u hu => by
  rw [h] at hu;rw [List.mem_singleton.1 hu];exact h1 _
 K_below := fun _ h => h
 K_of_M := fun h => h
 M_mono := fun _ h => h
 M_bound := fun h => h
 M_move := fun _ h => h
 M_lower := fun _ h => h
def int (k : IntKind) : Kd Int := scalar (Value.int k) (fun _ => rfl)
def bool : Kd Bool := scalar Value.bool (fun _ => rfl)
def string : Kd ByteArray := scalar Value.string (fun _ => rfl)
def slice {α : Type} (e : Nat) (d : Kd α) : Kd (List α) where
 sz := 1
 E := e :: d.E
 K := fun w xs cs => ∃ A c,cs = [.slice A xs.length c] ∧ xs.length ≤ c ∧ d.C w A xs.length xs
 M := fun w base ok xs cs => ∃ v,cs = [v] ∧ d.R e w base ok v xs
 K_len := by
  rintro w x cs ⟨A,c,rfl,_⟩;rfl
 K_one := by
  rintro w x cs ⟨A,c,rfl,_⟩ u hu;rw [List.mem_singleton.1 hu];rfl
 K_below := by
  rintro w w1 x cs hb ⟨A,c,rfl,hl,hr⟩;exact ⟨A,c,rfl,hl,Z5 hr hb⟩
 K_of_M := by
  rintro w base ok x cs ⟨v,rfl,h⟩;obtain ⟨A,c,rfl,hl,hr⟩ := XT h;exact ⟨A,c,rfl,hl,hr⟩
 M_mono := by
  rintro w base ok ok' x cs hok ⟨v,rfl,h⟩;exact ⟨v,rfl,ZE h hok⟩
 M_bound := by
  rintro w base ok x cs ⟨v,rfl,h⟩;exact ⟨v,rfl,Qj h⟩
 M_move := by
  rintro w w1 base ok x cs hm ⟨v,rfl,h⟩;exact ⟨v,rfl,Yr h hm⟩
 M_lower := by
  rintro w base base' ok x cs hb ⟨v,rfl,h⟩;exact ⟨v,rfl,Xd h hb⟩
def pair {α β : Type} (a : Kd α) (b : Kd β) : Kd (α × β) where
 sz := a.sz + b.sz
 E := a.E ++ b.E
 K := fun w x cs => ∃ c0 c1,cs = c0 ++ c1 ∧ a.K w x.1 c0 ∧ b.K w x.2 c1
 M := fun w base ok x cs => ∃ c0 c1,cs = c0 ++ c1 ∧ a.M w base ok x.1 c0 ∧ b.M w base ok x.2 c1
 K_len := by
  rintro w x cs ⟨c0,c1,rfl,h0,h1⟩;rw [List.length_append,a.K_len h0,b.K_len h1]
 K_one := by
  rintro w x cs ⟨c0,c1,rfl,h0,h1⟩ u hu
  rcases List.mem_append.1 hu with hu | hu
  · exact a.K_one h0 u hu
  · exact b.K_one h1 u hu
 K_below := by
  rintro w w1 x cs hb ⟨c0,c1,rfl,h0,h1⟩;exact ⟨c0,c1,rfl,a.K_below hb h0,b.K_below hb h1⟩
 K_of_M := by
  rintro w base ok x cs ⟨c0,c1,rfl,h0,h1⟩;exact ⟨c0,c1,rfl,a.K_of_M h0,b.K_of_M h1⟩
 M_mono := by
  rintro w base ok ok' x cs hok ⟨c0,c1,rfl,h0,h1⟩;exact ⟨c0,c1,rfl,a.M_mono hok h0,b.M_mono hok h1⟩
 M_bound := by
  rintro w base ok x cs ⟨c0,c1,rfl,h0,h1⟩;refine ⟨c0,c1,rfl,a.M_mono ?_ (a.M_bound h0),b.M_mono ?_ (b.M_bound h1)⟩
  · rintro k ⟨h2,h3,h4,q,hq,hc⟩
    exact ⟨h2,h3,h4,q,List.mem_append_left _ hq,hc⟩
  · rintro k ⟨h2,h3,h4,q,hq,hc⟩
    exact ⟨h2,h3,h4,q,List.mem_append_right _ hq,hc⟩
 M_move := by
  rintro w w1 base ok x cs hm ⟨c0,c1,rfl,h0,h1⟩;exact ⟨c0,c1,rfl,a.M_move hm h0,b.M_move hm h1⟩
 M_lower := by
  rintro w base base' ok x cs hb ⟨c0,c1,rfl,h0,h1⟩;exact ⟨c0,c1,rfl,a.M_lower hb h0,b.M_lower hb h1⟩
def iso {α β : Type} (d : Kd α) (f : β → α) : Kd β where
 sz := d.sz
 E := d.E
 K := fun w x cs => d.K w (f x) cs
 M := fun w base ok x cs => d.M w base ok (f x) cs
 K_len := d.K_len
 K_one := d.K_one
 K_below := d.K_below
 K_of_M := d.K_of_M
 M_mono := d.M_mono
 M_bound := d.M_bound
 M_move := d.M_move
 M_lower := d.M_lower
def bot {α : Type} (sz : Nat) (E : List Nat) : Kd α where
 sz := sz
 E := E
 K := fun _ _ _ => False
 M := fun _ _ _ _ _ => False
 K_len := fun h => h.elim
 K_one := fun h => h.elim
 K_below := fun _ h => h
 K_of_M := fun h => h
 M_mono := fun _ h => h
 M_bound := fun h => h
 M_move := fun _ h => h
 M_lower := fun _ h => h
def upto {α : Type} (F : Kd α → Kd α) (sz : Nat) (E : List Nat) : Nat → Kd α
 | 0 => bot sz E
 | n + 1 => F (upto F sz E n)
theorem C_get {α : Type} {d : Kd α} {w : World} {A : Option Addr} {n : Nat} {xs : List α} (h : d.C w A n xs) (z : α) (i : Int) (h0 : 0 ≤ i) (h1 : i < n) :
 ∃ ad c,A = some ad ∧ c.length = d.sz ∧ d.K w (xs.getD i.toNat z) c ∧ ∀ j u,c[j]? = some u → w.cell? (ad.add (i.toNat * d.sz + j)) = some u := ReadsRow.get_ h z i h0 h1
theorem YB {α : Type} {d : Kd α} {e base : Nat} {ok okp : Nat → Prop} {W w1 : World} {v v1 : Value} {xs : List α} {p : α} {inner cs : List Value} (h0 : ∀ k,v.ownBlock = some k → ok k) (hr : Reps (d.M W base (fun k => ok k ∧ some k ≠ v.ownBlock)) d.sz xs inner) (hp : d.M W base okp p cs) (hokp : ∀ k,okp k → ok k ∧ some k ≠ v.ownBlock) (hfresh : ∀ k,W.heap.size ≤ k → ok k)
 (hown : w1.ownsRow base e d.sz v1 (xs.length + 1) (inner ++ cs)) (hg : W.grownBy w1 v.ownBlock) (hat : v1.ownBlock = v.ownBlock ∨ ∃ b,v1.ownBlock = some b ∧ W.heap.size ≤ b) : d.R e w1 base ok v1 (xs ++ [p]) := by
 have hne : ∀ k,some k ≠ v.ownBlock → k < W.heap.size → some k ≠ v1.ownBlock := by
  intro k hk hlt
  rcases hat with hat | ⟨b,hb,hle⟩
  · rw [hat];exact hk
  · rw [hb]
    intro he
    injection he with he
    omega
 have step : ∀ {q : α} {c : List Value} {o : Nat → Prop},d.M W base o q c → (∀ k,o k → ok k ∧ some k ≠ v.ownBlock) → d.M w1 base (fun k => ok k ∧ some k ≠ v1.ownBlock) q c := by
  intro q c o hq ho;have h1 := d.M_move (w1 := w1) (fun k hk => hg.block k hk.2.2.1 (ho k hk.1).2) (d.M_bound hq);exact d.M_mono (fun k hk => ⟨(ho k hk.1).1,hne k (ho k hk.1).2 hk.2.2.1⟩) h1
 refine ⟨fun k hk => ?_,inner ++ cs,by rw [List.length_append,List.length_singleton];exact hown,?_⟩
 · rcases hat with hat | ⟨b,hb,hle⟩
   · exact h0 k (hat ▸ hk)
   · rw [hb] at hk
     injection hk with hk
     exact hfresh k (by omega)
 · exact (hr.imp_ (fun _ _ hq => step hq (fun _ hk => hk))).snoc (step hp hokp) (d.K_len (d.K_of_M hp))
section
variable {P : Program} {ops : Array Oper} {rest : List Oper} {o : Oper} {a : Act} {Q : Exit → Act → World → Prop} {α : Type}
theorem YY (d : Kd α) {w0 W : World} (base : Nat) (hgd : o.guard = none) (s x : Operand) (t e : TypeId) (z : Value) (bytes : Nat)
 (ho : o.op = .call { callee := .builtin .append,args := #[s,x],argTypes := #[t,t] })
 (ht : P.underlying t = some (.slice e)) (hinfo : (P.info? e).map (fun i => (i.zero,i.size,i.bytes)) = some (some z,d.sz,bytes)) (hz : z.cells.size = d.sz) (hs0 : 0 < d.sz) (hb0 : 0 < bytes)
 (v : Value) (xs : List α) (p : α) (cs : List Value) (ok okp : Nat → Prop) (hs : a.eval s = v) (hx : a.eval x = .slice (some ⟨W.heap.size,0,none⟩) 1 1) (hp : d.M W base okp p cs) (hokp : ∀ k,okp k → ok k ∧ some k ≠ v.ownBlock) (hfresh : ∀ k,W.heap.size ≤ k → ok k)
 (HO : d.R e W base ok v xs) (HB : Below base w0 W) (hbase : base ≤ W.heap.size) (hl : (xs.length + 1) * bytes ≤ 140737488355328)
 (h : ∀ v1 w1,d.R e w1 base ok v1 (xs ++ [p]) → Below base w0 w1 → W.grownBy w1 v.ownBlock → (v1.ownBlock = v.ownBlock ∨ ∃ b,v1.ownBlock = some b ∧ W.heap.size ≤ b) → wpList P ops Q rest (a.put o.dst v1) w1) :
 wpList P ops Q (o :: rest) a (W.alloc (.cells cs.toArray e)) := by
 obtain ⟨h0,inner,hown,hr⟩ := HO;refine Qt base hgd s x t e z d.sz bytes ho ht hinfo hz hs0 hb0 v xs.length inner cs hs hx (d.K_len (d.K_of_M hp)) (d.K_one (d.K_of_M hp)) hown HB hbase hl ?_;intro v1 w1 hown1 hb1 hg1 hat1;exact h v1 w1 (YB h0 hr hp hokp hfresh hown1 hg1 hat1) hb1 hg1 hat1
end
section
variable {P : Program} {ops : Array Oper} {o : Oper} {a : Act} {Q : Exit → Act → World → Prop} {Kc : Act → World → Prop} {α : Type}
theorem QS (d : Kd α) {w0 W : World} (base : Nat) (hw : Region.wanted o (yielded ops a.tmps) = true) (s x : Operand) (t e : TypeId) (z : Value) (bytes : Nat)
 (ho : o.op = .call { callee := .builtin .append,args := #[s,x],argTypes := #[t,t] })
 (ht : P.underlying t = some (.slice e)) (hinfo : (P.info? e).map (fun i => (i.zero,i.size,i.bytes)) = some (some z,d.sz,bytes)) (hz : z.cells.size = d.sz) (hs0 : 0 < d.sz) (hb0 : 0 < bytes)
 (v : Value) (xs : List α) (p : α) (cs : List Value) (ok okp : Nat → Prop) (hs : a.eval s = v) (hx : a.eval x = .slice (some ⟨W.heap.size,0,none⟩) 1 1) (hp : d.M W base okp p cs) (hokp : ∀ k,okp k → ok k ∧ some k ≠ v.ownBlock) (hfresh : ∀ k,W.heap.size ≤ k → ok k)
 (HO : d.R e W base ok v xs) (HB : Below base w0 W) (hbase : base ≤ W.heap.size) (hl : (xs.length + 1) * bytes ≤ 140737488355328)
 (h : ∀ v1 w1,d.R e w1 base ok v1 (xs ++ [p]) → Below base w0 w1 → W.grownBy w1 v.ownBlock → (v1.ownBlock = v.ownBlock ∨ ∃ b,v1.ownBlock = some b ∧ W.heap.size ≤ b) → Kc (a.put o.dst v1) w1) :
 if Region.wanted o (yielded ops a.tmps) = true then Oper.wp P o a (W.alloc (.cells cs.toArray e)) Kc Q else Kc (a.put o.dst undef) (W.alloc (.cells cs.toArray e)) := by
 obtain ⟨h0,inner,hown,hr⟩ := HO;refine step_append_cells base hw s x t e z d.sz bytes ho ht hinfo hz hs0 hb0 v xs.length inner cs hs hx (d.K_len (d.K_of_M hp)) (d.K_one (d.K_of_M hp)) hown HB hbase hl ?_;intro v1 w1 hown1 hb1 hg1 hat1;exact h v1 w1 (YB h0 hr hp hokp hfresh hown1 hg1 hat1) hb1 hg1 hat1
end
theorem reads_of_C {α : Type} {enc : α → Value} {d : α} {h1 : ∀ x,(enc x).oneCell' = true} {w : World} {A : Option Addr} {n : Nat} {xs : List α} (h : (scalar enc h1).C w A n xs) : ReadsOf enc d w A n xs := by
 refine ⟨h.1,h.2.1,fun hn => ?_⟩;obtain ⟨ad,e,hc⟩ := h.2.2 hn;refine ⟨ad,e,fun j hj => ?_⟩
 have hl : j < xs.length := by have := h.1;omega
 obtain ⟨c,_,hK,hcell⟩ := hc j _ (List.getElem?_eq_getElem hl);have hK' : c = [enc xs[j]] := hK;subst hK';have := hcell 0 _ rfl
 simpa [scalar,List.getD_eq_getElem?_getD,List.getElem?_eq_getElem hl] using this
end Kd
namespace Kd
structure Mono {α β : Type} (F : Kd α → Kd β) : Prop where
 sz : ∀ d d' : Kd α,d.sz = d'.sz → (F d).sz = (F d').sz
 K : ∀ d d' : Kd α,d.sz = d'.sz → (∀ w x cs,d.K w x cs → d'.K w x cs) → ∀ w x cs,(F d).K w x cs → (F d').K w x cs
 M : ∀ d d' : Kd α,d.sz = d'.sz → (∀ w base ok x cs,d.M w base ok x cs → d'.M w base ok x cs) → ∀ w base ok x cs,(F d).M w base ok x cs → (F d').M w base ok x cs
end Kd
namespace Kd
theorem Xt {α : Type} {d : Kd α} {e base : Nat} {ok : Nat → Prop} {W w1 : World} {u v v1 : Value} {xs : List α} (h : d.R e W base (fun k => ok k ∧ some k ≠ v.ownBlock) u xs) (hg : W.grownBy w1 v.ownBlock) (hat : v1.ownBlock = v.ownBlock ∨ ∃ b,v1.ownBlock = some b ∧ W.heap.size ≤ b) : d.R e w1 base (fun k => ok k ∧ some k ≠ v1.ownBlock) u xs := by
 refine ZE (Yr (Qj h) (fun k hk => hg.block k hk.2.2.1 hk.1.2)) (fun k hk => ⟨hk.1.1,?_⟩)
 rcases hat with hat | ⟨b,hb,hle⟩
 · rw [hat];exact hk.1.2
 · rw [hb]
   intro he
   injection he with he
   have := hk.2.2.1;omega
theorem M_row {α : Type} {d : Kd α} {e base : Nat} {ok : Nat → Prop} {w : World} {v : Value} {xs : List α} (h : d.R e w base ok v xs) : (slice e d).M w base ok xs [v] := ⟨v,rfl,h⟩
end Kd
namespace Kd
section
variable {α β : Type} {d : Kd α} {d' : Kd β} {e e' : Nat} {w w1 W : World} {base b b' : Nat} {ok ok' okv oku : Nat → Prop} {v u : Value} {xs : List α} {ys : List β}
theorem Zj (h : d.R e w base ok v xs) (o : Obj) : d.R e (w.alloc o) base ok v xs := Xa h (Zf (Below.refl _ _) o)
theorem Zm (h : d.R e w base ok v xs) : d.R e w.drew base ok v xs := Xa h (QX (Below.refl _ _))
theorem Zi (h : d.R e w base ok v xs) (m : Nat) : d.R e (w.drewN m) base ok v xs := Xa h (Za (Below.refl _ _) m)
theorem Z9 {A : Option Addr} {n : Nat} (h : d.C w A n xs) (o : Obj) : d.C (w.alloc o) A n xs := Z5 h (Zf (Below.refl _ _) o)
theorem ZO {A : Option Addr} {n : Nat} (h : d.C w A n xs) : d.C w.drew A n xs := Z5 h (QX (Below.refl _ _))
theorem ZA {A : Option Addr} {n : Nat} (h : d.C w A n xs) (m : Nat) : d.C (w.drewN m) A n xs := Z5 h (Za (Below.refl _ _) m)
theorem C_nil (d : Kd α) (w : World) : d.C w none ([] : List α).length [] := ⟨rfl,by simp,fun h => absurd h (Nat.lt_irrefl 0)⟩
theorem C_max {A : Option Addr} {n : Nat} (h : d.C w A n xs) : n ≤ 9223372036854775807 := h.2.1
theorem Z3 {A : Option Addr} {n c : Nat} (h : d.R e w base ok (.slice A n c) xs) : n = xs.length ∧ n ≤ c ∧ d.C w A xs.length xs := by
 obtain ⟨A',c',he,hl,hr⟩ := XT h
 injection he with h1 h2 h3
 subst h1;exact ⟨h2,by omega,hr⟩
theorem R_lt (h : d.R e w base ok v xs) : ∀ k,v.ownBlock = some k → k < w.heap.size := by
 obtain ⟨inner,ho⟩ := R_own h;exact V6 ho
theorem Xn (h : d.R e w base ok v xs) : ∀ k,v.ownBlock = some k → base ≤ k := by
 obtain ⟨inner,ho⟩ := R_own h;exact Q5 ho
theorem JA (h : d.R e w base ok v xs) (hp : 0 < xs.length) : ∃ g cap,v = .slice (some ⟨g,0,none⟩) xs.length cap ∧ base ≤ g ∧ g < w.heap.size ∧ ∃ cells,w.heap[g]? = some (.cells cells e (0,0)) := by
 obtain ⟨inner,ho⟩ := R_own h;obtain ⟨g,cap,he,hb,hl⟩ := ho.form hp;obtain ⟨cells,hc⟩ := XM ho g (by rw [he];simp [Value.ownBlock]);exact ⟨g,cap,he,hb,hl,cells,hc⟩
end
section
variable {w W : World} {A : Option Addr} {n : Nat}
theorem XW {k : IntKind} {xs : List Int} (h : (Kd.int k).C w A n xs) (i : Int) (h0 : 0 ≤ i) (h1 : i < n) : ∃ ad,A = some ad ∧ w.cell? (ad.add i.toNat) = some (.int k (rd xs i)) :=
 ReadsOf.at_ (reads_of_C (enc := Value.int k) (d := (0 : Int)) (h1 := fun _ => rfl) h) i h0 h1
variable {α : Type} {enc : α → Value} {h1 : ∀ x,(enc x).oneCell' = true} {e base g cap : Nat} {ok : Nat → Prop} {xs : List α}
end
section
variable {P : Program} {ops : Array Oper} {rest : List Oper} {o : Oper} {a : Act} {Q : Exit → Act → World → Prop}
theorem Jd {W w1 : World} {v : Value} (hgd : o.guard = none) (hrun : (execOp a.eval o).run P W = .ok (.value v) w1) (h : wpList P ops Q rest (a.put o.dst v) w1) : wpList P ops Q (o :: rest) a W := by
 refine wpList_plain hgd fun K hK => ?_
 unfold Oper.wp;rw [hrun];exact hK _ _ h
variable {α : Type}
theorem R_lit (d : Kd α) {w0 W : World} (base e : Nat) (hgd : o.guard = none) {N : Tmp} (_hd : o.dst = some N) {xs : List α} {inner : List Value} {ok okp : Nat → Prop}
 (hrun : (execOp a.eval o).run P W = .ok (.value (.slice (some ⟨W.heap.size,0,none⟩) xs.length xs.length)) (W.alloc (.cells inner.toArray e)))
 (hrep : Reps (d.M W base okp) d.sz xs inner) (hok : ∀ k,okp k → ok k) (hfresh : ok W.heap.size) (HB : Below base w0 W) (hbase : base ≤ W.heap.size) (hm : xs.length ≤ 9223372036854775807)
 (h : ∀ v1 w1,d.R e w1 base ok v1 xs → Below base w0 w1 → W.grownBy w1 none → (∃ b,v1.ownBlock = some b ∧ W.heap.size ≤ b) → wpList P ops Q rest (a.put o.dst v1) w1) : wpList P ops Q (o :: rest) a W := by
 refine Jd hgd hrun (h _ _ ⟨fun k hk => ?_,inner,?_,?_⟩ (HB.alloc hbase _) (World.grownBy_alloc W _ none) ⟨W.heap.size,by simp [Value.ownBlock],Nat.le_refl _⟩)
 · have : W.heap.size = k := by simpa [Value.ownBlock] using hk
   subst this;exact hfresh
 · have h2 := World.ownsRow_lit (base := base) (e := e) (size := d.sz) W inner.toArray xs.length hbase (by simpa [maxLen] using hm) (by simpa using hrep.1)
   simpa using h2
 · refine hrep.imp_ (fun p c hp => d.M_mono (fun k hk => ⟨hok k hk.1,fun he => ?_⟩) (Ve (d.M_bound hp) (Zf (Below.refl _ _) _)))
   have h3 : k = W.heap.size := by simpa [Value.ownBlock] using he
   have := hk.2.2.1;omega
end
end Kd
def QRow (w : World) (base : Nat) (e : TypeId) (size : Nat) (v : Value) (n : Nat) (xs : List Value) : Prop :=
 xs.length = n * size ∧
 ((n = 0 ∧ ∃ A,v = .slice A 0 0 ∧ ∀ a,A = some a → base ≤ a.block ∧ ∃ cur,w.heap[a.block]? = some (.cells cur e (0,0))) ∨
  ∃ g off cap cur,v = .slice (some ⟨g,off * size,none⟩) n cap ∧ base ≤ g ∧ w.heap[g]? = some (.cells cur e (0,0)) ∧ n ≤ cap ∧ off + cap ≤ maxLen ∧ cur.size = (off + cap) * size ∧ (cur.toList.drop (off * size)).take (n * size) = xs)
section
variable {w w1 : World} {base n size : Nat} {e : TypeId} {v : Value} {xs : List Value}
theorem q_of_own (h : w.ownsRow base e size v n xs) : QRow w base e size v n xs := by
 obtain ⟨h1,h2⟩ := h;refine ⟨h1,?_⟩
 rcases h2 with ⟨rfl,h0⟩ | ⟨g,cap,cur,rfl,hb,hh,hnc,hcm,hcs,ht⟩
 · exact .inl ⟨h0,none,rfl,fun a ha => by cases ha⟩
 · exact .inr ⟨g,0,cap,cur,by rw [Nat.zero_mul],hb,hh,hnc,by rw [Nat.zero_add];exact hcm,by rw [Nat.zero_add];exact hcs,by rw [Nat.zero_mul,List.drop_zero];exact ht⟩
theorem V4 (g o j : Nat) : (⟨g,o,none⟩ : Addr).add j = ⟨g,o + j,none⟩ := by unfold Addr.add;split <;> simp_all
theorem QY {g : Nat} : ∀ (vs : List Value) (o : Nat) {w : World} (k : Nat),k ≠ g → (w.setCells g o vs).heap[k]? = w.heap[k]?
 | [],_,_,_,_ => rfl
 | v :: r,o,w,k,hk => by
  rw [World.setCells,QY r (o + 1) k hk];exact Below.heap_setCell w ⟨g,o,none⟩ v k hk
theorem QQ (g : Nat) : ∀ (vs : List Value) (o : Nat) (w : World),(w.setCells g o vs).os = w.os ∧ (w.setCells g o vs).tape = w.tape ∧ (w.setCells g o vs).output = w.output ∧ (w.setCells g o vs).heap.size = w.heap.size
 | [],_,_ => ⟨rfl,rfl,rfl,rfl⟩
 | v :: r,o,w => by
  obtain ⟨h1,h2,h3,h4⟩ := QQ g r (o + 1) (w.setCell ⟨g,o,none⟩ v);rw [World.setCells];exact ⟨h1,h2,h3,by rw [h4];simp [World.setCell]⟩
theorem Yf {g : Nat} {e : TypeId} : ∀ (vs : List Value) (o : Nat) (w : World) (cur : Array Value),w.heap[g]? = some (.cells cur e (0,0)) → o + vs.length ≤ cur.size →
 ∃ cur',(w.setCells g o vs).heap[g]? = some (.cells cur' e (0,0)) ∧ cur'.size = cur.size ∧ cur'.toList = cur.toList.take o ++ vs ++ cur.toList.drop (o + vs.length)
 | [],o,w,cur,h,_ => ⟨cur,h,rfl,by simp⟩
 | v :: r,o,w,cur,h,hl => by
  have h2 := Vo h o v;simp only [List.length_cons] at hl;obtain ⟨cur',h3,h4,h5⟩ := Yf r (o + 1) (w.setCell ⟨g,o,none⟩ v) _ h2 (by simp;omega);refine ⟨cur',h3,by rw [h4];simp,?_⟩;rw [h5,Array.toList_setIfInBounds]
  have ho : o < cur.toList.length := by rw [Array.length_toList];omega
  rw [List.take_set,List.drop_set_of_lt (by omega)];simp only [List.length_cons];rw [show o + 1 + r.length = o + (r.length + 1) by omega]
  congr 1
  rw [List.take_succ_eq_append_getElem ho,List.set_append_right _ _ (by rw [List.length_take];omega)]
  have ho' : o < cur.size := by omega
  simp [Nat.min_eq_left (Nat.le_of_lt ho')]
end
namespace Kd
def Q {α : Type} (d : Kd α) (e : Nat) (w : World) (base : Nat) (ok : Nat → Prop) (v : Value) (xs : List α) : Prop :=
 (∀ k,v.ownBlock = some k → ok k) ∧ ∃ inner,QRow w base e d.sz v xs.length inner ∧ Reps (d.M w base (fun k => ok k ∧ some k ≠ v.ownBlock)) d.sz xs inner
section
variable {α : Type} {d : Kd α} {e : Nat} {w w1 W : World} {base : Nat} {ok ok' : Nat → Prop} {v : Value} {xs : List α}
theorem Q_of_R (h : d.R e w base ok v xs) : d.Q e w base ok v xs := by
 obtain ⟨h0,inner,ho,hr⟩ := h;exact ⟨h0,inner,q_of_own ho,hr⟩
theorem Q_nil (d : Kd α) (e : Nat) (w : World) (base : Nat) (ok : Nat → Prop) : d.Q e w base ok (.slice none 0 0) [] := Q_of_R (R_nil d e w base ok)
end
end Kd
namespace Kd
section
variable {α : Type} {d : Kd α} {e e' : Nat} {w w1 W : World} {base : Nat} {ok : Nat → Prop} {u v : Value} {xs : List α}
theorem JD (h : d.R e w base ok v xs) : ∀ k,v.ownBlock = some k → ∃ cells,w.heap[k]? = some (.cells cells e (0,0)) := by
 obtain ⟨inner,ho⟩ := R_own h
 exact fun k hk => XM ho k hk
theorem Y5 (h : d.R e W base ok u xs) (hty : ∀ k,v.ownBlock = some k → ∃ cells,W.heap[k]? = some (.cells cells e' (0,0))) (ht : ∀ q,q ∈ e :: d.E → q ≠ e') (hg : W.grownBy w1 v.ownBlock) : d.R e w1 base ok u xs := by
 refine ZE (Yr (Qj h) (fun k hk => hg.block k hk.2.2.1 (fun he => ?_))) (fun _ hk => hk.1);obtain ⟨_,_,_,q,hq,cells,hc⟩ := hk;obtain ⟨cells',hc'⟩ := hty k he.symm;rw [hc] at hc'
 injection hc' with hc'
 injection hc' with _ hc'
 exact ht q hq hc'
theorem JJ (h : d.R e W base ok u xs) (hty : ∀ k,v.ownBlock = some k → ∃ cells,W.heap[k]? = some (.cells cells e' (0,0))) (ht : ∀ q,q ∈ e :: d.E → q ≠ e') : d.R e W base (fun k => ok k ∧ some k ≠ v.ownBlock) u xs := by
 refine ZE (Qj h) (fun k hk => ⟨hk.1,fun he => ?_⟩);obtain ⟨_,_,_,q,hq,cells,hc⟩ := hk;obtain ⟨cells',hc'⟩ := hty k he.symm;rw [hc] at hc'
 injection hc' with hc'
 injection hc' with _ hc'
 exact ht q hq hc'
theorem ZY (hu : d.R e W base ok u xs) (hbase : ∀ k,v.ownBlock = some k → W.heap.size ≤ k) (hb : Below W.heap.size W w1) : d.R e w1 base (fun k => ok k ∧ some k ≠ v.ownBlock) u xs :=
 ZE (Yr (Qj hu) (fun k hk => hb.block k hk.2.2.1)) (fun k hk => ⟨hk.1,fun he => by have := hbase k he.symm;have := hk.2.2.1;omega⟩)
theorem Xp (h : d.R e w1 W.heap.size ok v xs) (hlt : ∀ k,u.ownBlock = some k → k < W.heap.size) : d.R e w1 W.heap.size (fun k => ok k ∧ some k ≠ u.ownBlock) v xs :=
 ZE (Qj h) (fun k hk => ⟨hk.1,fun he => by have := hlt k he.symm;have := hk.2.1;omega⟩)
theorem fresh' (hlt : ∀ k,u.ownBlock = some k → k < W.heap.size) : ∀ k,W.heap.size ≤ k → some k ≠ u.ownBlock := fun k hk he => by have := hlt k he.symm;omega
end
end Kd
theorem Yg {α : Type} (a seg : List α) (o : Nat) (h : o + seg.length ≤ a.length) (q : Nat) :
 (a.take o ++ seg ++ a.drop (o + seg.length))[q]? = if q < o then a[q]? else if q < o + seg.length then seg[q - o]? else a[q]? := by
 have hl : (a.take o).length = o := by rw [List.length_take];omega
 rw [List.append_assoc]
 by_cases h1 : q < o
 · rw [if_pos h1,List.getElem?_append_left (by omega),List.getElem?_take,if_pos h1]
 · rw [if_neg h1,List.getElem?_append_right (by omega),hl]
   by_cases h2 : q < o + seg.length
   · rw [if_pos h2,List.getElem?_append_left (by omega)]
   · rw [if_neg h2,List.getElem?_append_right (by omega),List.getElem?_drop]
     congr 1
     omega
namespace Kd
section
variable {α : Type} {d : Kd α} {e base g n cap : Nat} {ok okp : Nat → Prop} {W : World} {xs : List α}
theorem Qr (h : d.R e W base ok (.slice (some ⟨g,0,none⟩) n cap) xs) (z : α) (i : Int) (h0 : 0 ≤ i) (h1 : i < n) :
 ∃ c,c.length = d.sz ∧ d.M W base (fun k => ok k ∧ k ≠ g) (xs.getD i.toNat z) c ∧ (∀ j u,c[j]? = some u → W.cell? ⟨g,i.toNat * d.sz + j,none⟩ = some u) ∧ ∀ j,W.frozen? ⟨g,i.toNat * d.sz + j,none⟩ = false := by
 obtain ⟨hn,hnc,hC⟩ := Z3 h;obtain ⟨_,inner,ho,hr⟩ := h
 have hil : i.toNat < xs.length := by omega
 have hseg : i.toNat * d.sz + d.sz ≤ inner.length := by rw [hr.1,← Nat.succ_mul];exact Nat.mul_le_mul_right _ hil
 have hM := hr.2 i.toNat _ (List.getElem?_eq_getElem hil);refine ⟨(inner.drop (i.toNat * d.sz)).take d.sz,by rw [List.length_take,List.length_drop];omega,?_,fun j u hu => ?_,fun j => ?_⟩
 · rw [List.getD_eq_getElem?_getD,List.getElem?_eq_getElem hil]
   exact d.M_mono (fun k hk => ⟨hk.1,fun he => hk.2 (by rw [he];simp [Value.ownBlock])⟩) hM
 · rw [List.getElem?_take] at hu
   split at hu
   · rw [List.getElem?_drop] at hu
     have := ho.cells (g := g) (by simp [Value.ownBlock]) _ u hu
     rwa [ZT] at this
   · cases hu
 · obtain ⟨cells,hc⟩ := XM ho g (by simp [Value.ownBlock])
   exact Zh hc _
theorem R_seg (h : d.R e W base ok (.slice (some ⟨g,0,none⟩) n cap) xs) (i : Int) (h0 : 0 ≤ i) (h1 : i < n) {c seg : List Value} {j : Nat} (hcl : c.length = d.sz) (hcc : ∀ j u,c[j]? = some u → W.cell? ⟨g,i.toNat * d.sz + j,none⟩ = some u)
 (hj : j + seg.length ≤ d.sz) {x' : α} (hM : d.M W base okp x' (c.take j ++ seg ++ c.drop (j + seg.length))) (hokp : ∀ k,okp k → ok k ∧ k ≠ g) :
 d.R e (W.setCells g (i.toNat * d.sz + j) seg) base ok (.slice (some ⟨g,0,none⟩) n cap) (xs.set i.toNat x') ∧ W.grownBy (W.setCells g (i.toNat * d.sz + j) seg) (some g) := by
 obtain ⟨hn,hnc,_⟩ := Z3 h;obtain ⟨hok,inner,ho,hr⟩ := h
 have hil : i.toNat < xs.length := by omega
 have hseg : i.toNat * d.sz + d.sz ≤ inner.length := by rw [hr.1,← Nat.succ_mul];exact Nat.mul_le_mul_right _ hil
 have hin : inner.length = n * d.sz := by rw [hr.1,hn]
 obtain ⟨ho1,ho2⟩ := ho
 rcases ho2 with ⟨hv,_⟩ | ⟨g',cap',cur,hv,hb,hh,hnc',hcm,hcs,ht⟩
 · cases hv
 injection hv with ha _ hc
 injection ha with ha
 injection ha with hg
 subst hg;subst hc
 have hfit : i.toNat * d.sz + j + seg.length ≤ cur.size := by
  have : n * d.sz ≤ cap * d.sz := Nat.mul_le_mul_right _ hnc;omega
 obtain ⟨cur',h3,h4,h5⟩ := Yf seg (i.toNat * d.sz + j) W cur hh hfit;obtain ⟨s1,s2,s3,s4⟩ := QQ g seg (i.toNat * d.sz + j) W
 have hfar : ∀ k,k ≠ g → (W.setCells g (i.toNat * d.sz + j) seg).heap[k]? = W.heap[k]? := fun k hk => QY seg _ k hk
 have hcin : ∀ q,q < d.sz → c[q]? = inner[i.toNat * d.sz + q]? := by
  intro q hq
  have hq' : q < c.length := by omega
  have h6 := hcc q _ (List.getElem?_eq_getElem hq');rw [cell_of_row W g _ cur e (0,0) hh] at h6;rw [List.getElem?_eq_getElem hq',← h6,← ht,List.getElem?_take,if_pos (by rw [← hn];omega),Array.getElem?_toList]
 refine ⟨⟨hok,inner.take (i.toNat * d.sz + j) ++ seg ++ inner.drop (i.toNat * d.sz + j + seg.length),⟨?_,.inr ⟨g,cap,cur',by rw [List.length_set,hn],hb,h3,by rw [List.length_set,← hn];exact hnc,hcm,by rw [h4,hcs],?_⟩⟩,?_⟩,
  ⟨s1,s2,s3,by rw [s4];exact Nat.le_refl _,fun k _ hk => hfar k (fun he => hk (by rw [he]))⟩⟩
 · rw [List.length_set]
   simp only [List.length_append,List.length_take,List.length_drop];rw [hr.1] at hseg ⊢;omega
 · rw [List.length_set,← hn]
   apply List.ext_getElem?;intro q;rw [List.getElem?_take,h5];rw [Yg cur.toList seg (i.toNat * d.sz + j) (by rw [Array.length_toList];omega) q,Yg inner seg (i.toNat * d.sz + j) (by omega) q]
   have hcur : ∀ q,q < n * d.sz → cur.toList[q]? = inner[q]? := by
    intro q hq;rw [← ht,List.getElem?_take,if_pos (by rw [← hn];exact hq)]
   by_cases hq : q < n * d.sz
   · rw [if_pos hq,hcur q hq]
   · rw [if_neg hq,if_neg (by omega),if_neg (by omega),List.getElem?_eq_none (by omega)]
 · refine ⟨?_,fun m p hm => ?_⟩
   · rw [List.length_set]
     simp only [List.length_append,List.length_take,List.length_drop];rw [hr.1] at hseg ⊢;omega
   · have hml : m < xs.length := by
      have := (List.getElem?_eq_some_iff.1 hm).1
      rwa [List.length_set] at this
     have hmfit : m * d.sz + d.sz ≤ inner.length := by rw [hr.1,← Nat.succ_mul];exact Nat.mul_le_mul_right _ hml
     have hgo : some g = (Value.slice (some ⟨g,0,none⟩) n cap).ownBlock := by simp [Value.ownBlock]
     by_cases hmi : m = i.toNat
     · subst hmi
       rw [List.getElem?_set_self (by omega)] at hm
       injection hm with hm
       subst hm
       have hcells : ((inner.take (i.toNat * d.sz + j) ++ seg ++ inner.drop (i.toNat * d.sz + j + seg.length)).drop (i.toNat * d.sz)).take d.sz = c.take j ++ seg ++ c.drop (j + seg.length) := by
        apply List.ext_getElem?;intro q;rw [List.getElem?_take,List.getElem?_drop,Yg inner seg _ (by omega),Yg c seg j (by omega) q]
        by_cases hq : q < d.sz
        · rw [if_pos hq,hcin q hq]
          by_cases hq1 : q < j
          · rw [if_pos (by omega),if_pos hq1]
          · rw [if_neg (by omega),if_neg hq1]
            by_cases hq2 : q < j + seg.length
            · rw [if_pos (by omega),if_pos hq2]
              congr 1
              omega
            · rw [if_neg (by omega),if_neg hq2]
        · rw [if_neg hq,if_neg (by omega),if_neg (by omega),List.getElem?_eq_none (by omega)]
       rw [hcells];refine d.M_mono (fun k hk => ?_) (d.M_move (w1 := W.setCells g (i.toNat * d.sz + j) seg) (fun k hk => hfar k (hokp k hk).2) hM);exact ⟨(hokp k hk).1,fun he => (hokp k hk).2 (by rw [← hgo] at he;injection he)⟩
     · rw [List.getElem?_set_ne (by omega)] at hm
       have hold := hr.2 m p hm
       have hcells : ((inner.take (i.toNat * d.sz + j) ++ seg ++ inner.drop (i.toNat * d.sz + j + seg.length)).drop (m * d.sz)).take d.sz = (inner.drop (m * d.sz)).take d.sz := by
        apply List.ext_getElem?;intro q;rw [List.getElem?_take,List.getElem?_take,List.getElem?_drop,List.getElem?_drop,Yg inner seg _ (by omega)]
        by_cases hq : q < d.sz
        · rw [if_pos hq,if_pos hq]
          rcases Nat.lt_or_gt_of_ne hmi with hlt | hgt
          · have : m * d.sz + d.sz ≤ i.toNat * d.sz := by rw [← Nat.succ_mul];exact Nat.mul_le_mul_right _ hlt
            rw [if_pos (by omega)]
          · have : i.toNat * d.sz + d.sz ≤ m * d.sz := by rw [← Nat.succ_mul];exact Nat.mul_le_mul_right _ hgt
            rw [if_neg (by omega),if_neg (by omega)]
        · rw [if_neg hq,if_neg hq]
       rw [hcells];refine d.M_move (fun k hk => hfar k (fun he => hk.2 (by rw [he];exact hgo))) hold
end
end Kd
namespace Kd
theorem Y1 {α : Type} {R : α → List Value → Prop} {size : Nat} {ps qs : List α} {cs ds : List Value} (h : Reps R size ps cs) (h' : Reps R size qs ds) : Reps R size (ps ++ qs) (cs ++ ds) := by
 refine ⟨by rw [List.length_append,List.length_append,h.1,h'.1,Nat.add_mul],fun j p hj => ?_⟩
 rcases Nat.lt_or_ge j ps.length with hlt | hge
 · rw [List.getElem?_append_left hlt] at hj
   have hle : j * size + size ≤ cs.length := by rw [h.1,← Nat.succ_mul];exact Nat.mul_le_mul_right _ hlt
   rw [List.drop_append_of_le_length (by omega),List.take_append_of_le_length (by rw [List.length_drop];omega)];exact h.2 j p hj
 · rw [List.getElem?_append_right hge] at hj
   have h2 := h'.2 (j - ps.length) p hj;have hle : ps.length * size ≤ j * size := Nat.mul_le_mul_right _ hge;rw [List.drop_append,List.drop_eq_nil_of_le (by rw [h.1];exact hle),List.nil_append,h.1,← Nat.sub_mul];exact h2
section
variable {P : Program} {ops : Array Oper} {rest : List Oper} {o : Oper} {a : Act} {Q : Exit → Act → World → Prop} {α : Type}
theorem Qk (d : Kd α) {Rr : α → List Value → Prop} {w0 W : World} (base : Nat) (hgd : o.guard = none) (s x : Operand) (t e : TypeId) (z : Value) (bytes : Nat)
 (ho : o.op = .call { callee := .builtin .append,args := #[s,x],argTypes := #[t,t] })
 (ht : P.underlying t = some (.slice e)) (hinfo : (P.info? e).map (fun i => (i.zero,i.size,i.bytes)) = some (some z,d.sz,bytes)) (hz : z.cells.size = d.sz) (hs0 : 0 < d.sz) (hb0 : 0 < bytes)
 (v : Value) (xs ys : List α) (A : Option Addr) (m c : Nat) (ok okp : Nat → Prop) (hs : a.eval s = v) (hx : a.eval x = .slice A m c)
 (HO : d.R e W base ok v xs) (HR : ReadsRow Rr d.sz W A m ys) (hKM : ∀ x cs,Rr x cs → d.M W base okp x cs) (hokp : ∀ k,okp k → ok k ∧ some k ≠ v.ownBlock) (hfresh : ∀ k,W.heap.size ≤ k → ok k)
 (HB : Below base w0 W) (hbase : base ≤ W.heap.size) (hl : (xs.length + m) * bytes ≤ 140737488355328)
 (h : ∀ v1 w1,d.R e w1 base ok v1 (xs ++ ys) → Below base w0 w1 → W.grownBy w1 v.ownBlock → (v1.ownBlock = v.ownBlock ∨ ∃ b,v1.ownBlock = some b ∧ W.heap.size ≤ b) → wpList P ops Q rest (a.put o.dst v1) w1) :
 wpList P ops Q (o :: rest) a W := by
 obtain ⟨i0,hi,hzz⟩ := Option.map_eq_some_iff.1 hinfo;simp only [Prod.mk.injEq] at hzz;obtain ⟨hz0,hz1,hz2⟩ := hzz;have hm : ys.length = m := HR.1;have hlen : xs.length + m ≤ 140737488355328 := Nat.le_trans (Nat.le_mul_of_pos_right _ hb0) hl;obtain ⟨hok,inner,hown,hr⟩ := HO
 have hrun : ∃ v1 w1,(Builtin.append_ #[t,t] o.type #[v,.slice A m c]).run P W = .ok v1 w1 ∧ d.R e w1 base ok v1 (xs ++ ys) ∧ W.grownBy w1 v.ownBlock ∧ (v1.ownBlock = v.ownBlock ∨ ∃ b,v1.ownBlock = some b ∧ W.heap.size ≤ b) := by
  rcases A with _ | ad
  · have h0 : m = 0 := by
     rcases Nat.eq_zero_or_pos m with h0 | h0
     · exact h0
     · obtain ⟨ad,h,_⟩ := HR.2.2 h0
       cases h
    subst h0;obtain rfl : ys = [] := List.eq_nil_of_length_eq_zero hm;refine ⟨v,W,?_,by rw [List.append_nil];exact ⟨hok,inner,hown,hr⟩,World.grownBy.refl W _,.inl rfl⟩
    rcases hown.2 with ⟨rfl,hn⟩ | ⟨g,cap,cur,rfl,_,_,hnc,_⟩
    · simp [Builtin.append_,run_underlying ht,sizeOf,typeInfo,hi,Builtin.lenOf,Builtin.firstCells]
    · simp [Builtin.append_,run_underlying ht,sizeOf,typeInfo,hi,Builtin.lenOf,Builtin.firstCells,hnc,storeCells]
  · obtain ⟨news,hnr,hnc⟩ := ReadsRow.V3 HR
    have hnM : Reps (d.M W base okp) d.sz ys news := hnr.imp_ (fun p c hp => hKM p c hp)
    have hone : ∀ u ∈ news,u.oneCell' = true := by
     intro u hu;obtain ⟨q,hq,rfl⟩ := List.mem_iff_getElem.1 hu
     have hql : q / d.sz < ys.length := by
      rw [Nat.div_lt_iff_lt_mul hs0];rw [← hnM.1];exact hq
     have hc := hnM.2 (q / d.sz) _ (List.getElem?_eq_getElem hql);refine d.K_one (d.K_of_M hc) _ ?_;rw [List.mem_iff_getElem?];refine ⟨q % d.sz,?_⟩;rw [List.getElem?_take,if_pos (Nat.mod_lt _ hs0),List.getElem?_drop,Nat.mul_comm,Nat.div_add_mod,List.getElem?_eq_getElem hq]
    obtain ⟨v1,w1,hrun,h2,hg,_,hat⟩ := run_append_own_at (P := P) W base t o.type e i0 z d.sz bytes ht hi hz0 hz1 hz2 hz hs0 v xs.length inner hown ad m c news (by rw [hnM.1,hm]) hnc hone (by simp only [maxLen];omega) hl hbase
    have hat' : v1.ownBlock = v.ownBlock ∨ ∃ b,v1.ownBlock = some b ∧ W.heap.size ≤ b := by
     rcases hat with hat | hat
     · exact .inl hat
     · exact .inr ⟨_,hat,Nat.le_refl _⟩
    have hne : ∀ k,some k ≠ v.ownBlock → k < W.heap.size → some k ≠ v1.ownBlock := by
     intro k hk hlt
     rcases hat' with hat | ⟨b,hb,hle⟩
     · rw [hat];exact hk
     · rw [hb]
       intro he
       injection he with he
       omega
    have step : ∀ {q : α} {c : List Value} {o : Nat → Prop},d.M W base o q c → (∀ k,o k → ok k ∧ some k ≠ v.ownBlock) → d.M w1 base (fun k => ok k ∧ some k ≠ v1.ownBlock) q c := by
     intro q c o hq ho;have h1 := d.M_move (w1 := w1) (fun k hk => hg.block k hk.2.2.1 (ho k hk.1).2) (d.M_bound hq);exact d.M_mono (fun k hk => ⟨(ho k hk.1).1,hne k (ho k hk.1).2 hk.2.2.1⟩) h1
    refine ⟨v1,w1,hrun,⟨fun k hk => ?_,inner ++ news,by rw [List.length_append,hm];exact h2,Y1 (hr.imp_ (fun _ _ hq => step hq (fun _ hk => hk))) (hnM.imp_ (fun _ _ hq => step hq hokp))⟩,hg,hat'⟩
    rcases hat' with hat | ⟨b,hb,hle⟩
    · exact hok k (hat ▸ hk)
    · rw [hb] at hk
      injection hk with hk
      exact hfresh k (by omega)
 obtain ⟨v1,w1,hr1,h1,hg,hat⟩ := hrun
 refine wpList_plain hgd fun K hK => ?_
 unfold Oper.wp execOp;simp only [ho,resolve,invoke,builtin,Sem.run_bind,Sem.run_pure,Result.andThen_ok,List.map_toArray,List.map_cons,List.map_nil,hs,hx,hr1];exact hK _ _ (h v1 w1 h1 (HB.grown hg hbase (Q5 hown)) hg hat)
end
end Kd
theorem add_add (a : Addr) (i j : Nat) : (a.add i).add j = a.add (i + j) := by
 unfold Addr.add
 by_cases h1 : i = 0 <;> by_cases h2 : j = 0 <;> simp [h1,h2,Nat.add_assoc]
theorem Zp {w W : World} (h : Below w.heap.size w W) : w.heap.size ≤ W.heap.size := h.size
theorem Zr {w W w2 : World} (h : Below w.heap.size w W) (k : Below W.heap.size W w2) : Below w.heap.size w w2 := below_then h h.size k
theorem ReadsInt.nil (W : World) (k : IntKind) : ReadsInt W k none ([] : List Int).length [] := ⟨rfl,by simp,fun h => absurd h (Nat.lt_irrefl 0)⟩
theorem ReadsInt.drewN {W : World} {k : IntKind} {A : Option Addr} {n : Nat} {xs : List Int} (h : ReadsInt W k A n xs) (m : Nat) : ReadsInt (W.drewN m) k A n xs := h
theorem Zo {w W : World} {g j : Nat} {v : Value} (h : Below w.heap.size w W) (hg : w.heap.size ≤ g) : Below w.heap.size w (W.setCell ⟨g,j,none⟩ v) := h.setCell hg _
theorem Jt {w W : World} {g : Nat} (h : KeepBut w W g none) {a : Addr} {v : Value} (hc : w.cell? a = some v) (hne : a.block ≠ g) : W.cell? a = some v := by
 have := h.2 a.block (World.block_lt_of_cell? w a hc) hne (by simp)
 simpa [World.cell?,this] using hc
theorem Z2 (a : Addr) (i : Nat) : (a.add i).block = a.block := by unfold Addr.add;split <;> rfl
theorem ReadsOf.nil {α : Type} (enc : α → Value) (d : α) (W : World) : ReadsOf enc d W none ([] : List α).length [] := ⟨rfl,by simp,fun h => absurd h (Nat.lt_irrefl 0)⟩
theorem ReadsOf.drewN {α : Type} {enc : α → Value} {d : α} {W : World} {A : Option Addr} {n : Nat} {xs : List α} (h : ReadsOf enc d W A n xs) (m : Nat) : ReadsOf enc d (W.drewN m) A n xs := h
theorem ReadsInt.keep {w W : World} {k : IntKind} {A : Option Addr} {n g : Nat} {xs : List Int} (h : ReadsInt w k A n xs) (hk : KeepBut w W g none) (hf : ∀ ad,A = some ad → 0 < n → ad.block ≠ g) : ReadsInt W k A n xs :=
 ⟨h.1,h.2.1,fun hn => by
  obtain ⟨ad,e,hc⟩ := h.2.2 hn
  exact ⟨ad,e,fun j hj => Jt hk (hc j hj) (by rw [Z2];exact hf ad e hn)⟩⟩
theorem ReadsOf.keep {α : Type} {enc : α → Value} {d : α} {w W : World} {A : Option Addr} {n g : Nat} {xs : List α} (h : ReadsOf enc d w A n xs) (hk : KeepBut w W g none) (hf : ∀ ad,A = some ad → 0 < n → ad.block ≠ g) : ReadsOf enc d W A n xs :=
 ⟨h.1,h.2.1,fun hn => by
  obtain ⟨ad,e,hc⟩ := h.2.2 hn
  exact ⟨ad,e,fun j hj => Jt hk (hc j hj) (by rw [Z2];exact hf ad e hn)⟩⟩
theorem ZZ {W : World} {p a : Addr} (h : a.block ≠ p.block) (u : Value) : (W.setCell p u).cell? a = W.cell? a := by
 have := Below.heap_setCell W p u a.block h;simp [World.cell?,this]
theorem Z8 {w : World} {g : Nat} {t : TypeId} {cs cs' : Array Value} (h : w.heap[g]? = some (.cells cs t (0,0))) (i : Nat) (u : Value) (e : cs.setIfInBounds i u = cs') : (w.setCell ⟨g,i,none⟩ u).heap[g]? = some (.cells cs' t (0,0)) := e ▸ Vo h i u
theorem Zd {base : Nat} {w W : World} (h : Below base w W) : Below base w W.drew := h.drew
section
variable {P : Program} {ops : Array Oper} {rest : List Oper} {o : Oper} {a : Act} {Q : Exit → Act → World → Prop}
theorem ZI {W : World} (hgd : o.guard = none) {N : Tmp} (_hd : o.dst = some N) {cs : Array Value} {t : TypeId}
 (hrun : (execOp a.eval o).run P W = .ok (.value (.pointer (some ⟨W.heap.size,0,none⟩))) (W.alloc (.cells cs t (0,0))))
 (h : ∀ g,g = W.heap.size → ∀ w1,w1.heap[g]? = some (.cells cs t (0,0)) → Below W.heap.size W w1 → wpList P ops Q rest (a.put o.dst (.pointer (some ⟨g,0,none⟩))) w1) : wpList P ops Q (o :: rest) a W :=
 Kd.Jd hgd hrun (h _ rfl _ (blk_new W _) (Zf (Below.refl _ _) _))
end
section
variable {P : Program} {ops : Array Oper} {rest : List Oper} {o : Oper} {a : Act} {Q : Exit → Act → World → Prop} {W : World}
theorem ZJ {N : Tmp} (_hN : o.dst = some N) (h : wpList P ops Q (o :: rest) a W) : wpList P ops Q (o :: rest) a W := h
end
section
variable {P : Program} {ops : Array Oper} {o : Oper} {a : Act} {Q : Exit → Act → World → Prop} {Kc : Act → World → Prop}
theorem event_step {W w1 : World} {v : Value} (hw : Region.wanted o (yielded ops a.tmps) = true) (hrun : (execOp a.eval o).run P W = .ok (.value v) w1) (h : Kc (a.put o.dst v) w1) : if Region.wanted o (yielded ops a.tmps) = true then Oper.wp P o a W Kc Q else Kc (a.put o.dst undef) W := by
 rw [if_pos hw];unfold Oper.wp;rw [hrun];exact h
namespace Kd
variable {α : Type}
theorem XG (d : Kd α) {w0 W : World} (base e : Nat) (hw : Region.wanted o (yielded ops a.tmps) = true) {N : Tmp} (_hd : o.dst = some N) {xs : List α} {inner : List Value} {ok okp : Nat → Prop}
 (hrun : (execOp a.eval o).run P W = .ok (.value (.slice (some ⟨W.heap.size,0,none⟩) xs.length xs.length)) (W.alloc (.cells inner.toArray e)))
 (hrep : Reps (d.M W base okp) d.sz xs inner) (hok : ∀ k,okp k → ok k) (hfresh : ok W.heap.size) (HB : Below base w0 W) (hbase : base ≤ W.heap.size) (hm : xs.length ≤ 9223372036854775807)
 (h : ∀ v1 w1,d.R e w1 base ok v1 xs → Below base w0 w1 → W.grownBy w1 none → (∃ b,v1.ownBlock = some b ∧ W.heap.size ≤ b) → Kc (a.put o.dst v1) w1) : if Region.wanted o (yielded ops a.tmps) = true then Oper.wp P o a W Kc Q else Kc (a.put o.dst undef) W := by
 refine event_step hw hrun (h _ _ ⟨fun k hk => ?_,inner,?_,?_⟩ (HB.alloc hbase _) (World.grownBy_alloc W _ none) ⟨W.heap.size,by simp [Value.ownBlock],Nat.le_refl _⟩)
 · have : W.heap.size = k := by simpa [Value.ownBlock] using hk
   subst this;exact hfresh
 · have h2 := World.ownsRow_lit (base := base) (e := e) (size := d.sz) W inner.toArray xs.length hbase (by simpa [maxLen] using hm) (by simpa using hrep.1)
   simpa using h2
 · refine hrep.imp_ (fun p c hp => d.M_mono (fun k hk => ⟨hok k hk.1,fun he => ?_⟩) (Ve (d.M_bound hp) (Zf (Below.refl _ _) _)))
   have h3 : k = W.heap.size := by simpa [Value.ownBlock] using he
   have := hk.2.2.1;omega
theorem Xl (d : Kd α) {Rr : α → List Value → Prop} {w0 W : World} (base : Nat) (hw : Region.wanted o (yielded ops a.tmps) = true) (s x : Operand) (t e : TypeId) (z : Value) (bytes : Nat)
 (ho : o.op = .call { callee := .builtin .append,args := #[s,x],argTypes := #[t,t] })
 (ht : P.underlying t = some (.slice e)) (hinfo : (P.info? e).map (fun i => (i.zero,i.size,i.bytes)) = some (some z,d.sz,bytes)) (hz : z.cells.size = d.sz) (hs0 : 0 < d.sz) (hb0 : 0 < bytes)
 (v : Value) (xs ys : List α) (A : Option Addr) (m c : Nat) (ok okp : Nat → Prop) (hs : a.eval s = v) (hx : a.eval x = .slice A m c)
 (HO : d.R e W base ok v xs) (HR : ReadsRow Rr d.sz W A m ys) (hKM : ∀ x cs,Rr x cs → d.M W base okp x cs) (hokp : ∀ k,okp k → ok k ∧ some k ≠ v.ownBlock) (hfresh : ∀ k,W.heap.size ≤ k → ok k)
 (HB : Below base w0 W) (hbase : base ≤ W.heap.size) (hl : (xs.length + m) * bytes ≤ 140737488355328)
 (h : ∀ v1 w1,d.R e w1 base ok v1 (xs ++ ys) → Below base w0 w1 → W.grownBy w1 v.ownBlock → (v1.ownBlock = v.ownBlock ∨ ∃ b,v1.ownBlock = some b ∧ W.heap.size ≤ b) → Kc (a.put o.dst v1) w1) :
 if Region.wanted o (yielded ops a.tmps) = true then Oper.wp P o a W Kc Q else Kc (a.put o.dst undef) W := by
 obtain ⟨i0,hi,hzz⟩ := Option.map_eq_some_iff.1 hinfo;simp only [Prod.mk.injEq] at hzz;obtain ⟨hz0,hz1,hz2⟩ := hzz;have hm : ys.length = m := HR.1;have hlen : xs.length + m ≤ 140737488355328 := Nat.le_trans (Nat.le_mul_of_pos_right _ hb0) hl;obtain ⟨hok,inner,hown,hr⟩ := HO
 have hrun : ∃ v1 w1,(Builtin.append_ #[t,t] o.type #[v,.slice A m c]).run P W = .ok v1 w1 ∧ d.R e w1 base ok v1 (xs ++ ys) ∧ W.grownBy w1 v.ownBlock ∧ (v1.ownBlock = v.ownBlock ∨ ∃ b,v1.ownBlock = some b ∧ W.heap.size ≤ b) := by
  rcases A with _ | ad
  · have h0 : m = 0 := by
     rcases Nat.eq_zero_or_pos m with h0 | h0
     · exact h0
     · obtain ⟨ad,h,_⟩ := HR.2.2 h0
       cases h
    subst h0;obtain rfl : ys = [] := List.eq_nil_of_length_eq_zero hm;refine ⟨v,W,?_,by rw [List.append_nil];exact ⟨hok,inner,hown,hr⟩,World.grownBy.refl W _,.inl rfl⟩
    rcases hown.2 with ⟨rfl,hn⟩ | ⟨g,cap,cur,rfl,_,_,hnc,_⟩
    · simp [Builtin.append_,run_underlying ht,sizeOf,typeInfo,hi,Builtin.lenOf,Builtin.firstCells]
    · simp [Builtin.append_,run_underlying ht,sizeOf,typeInfo,hi,Builtin.lenOf,Builtin.firstCells,hnc,storeCells]
  · obtain ⟨news,hnr,hnc⟩ := ReadsRow.V3 HR
    have hnM : Reps (d.M W base okp) d.sz ys news := hnr.imp_ (fun p c hp => hKM p c hp)
    have hone : ∀ u ∈ news,u.oneCell' = true := by
     intro u hu;obtain ⟨q,hq,rfl⟩ := List.mem_iff_getElem.1 hu
     have hql : q / d.sz < ys.length := by
      rw [Nat.div_lt_iff_lt_mul hs0];rw [← hnM.1];exact hq
     have hc := hnM.2 (q / d.sz) _ (List.getElem?_eq_getElem hql);refine d.K_one (d.K_of_M hc) _ ?_;rw [List.mem_iff_getElem?];refine ⟨q % d.sz,?_⟩;rw [List.getElem?_take,if_pos (Nat.mod_lt _ hs0),List.getElem?_drop,Nat.mul_comm,Nat.div_add_mod,List.getElem?_eq_getElem hq]
    obtain ⟨v1,w1,hrun,h2,hg,_,hat⟩ := run_append_own_at (P := P) W base t o.type e i0 z d.sz bytes ht hi hz0 hz1 hz2 hz hs0 v xs.length inner hown ad m c news (by rw [hnM.1,hm]) hnc hone (by simp only [maxLen];omega) hl hbase
    have hat' : v1.ownBlock = v.ownBlock ∨ ∃ b,v1.ownBlock = some b ∧ W.heap.size ≤ b := by
     rcases hat with hat | hat
     · exact .inl hat
     · exact .inr ⟨_,hat,Nat.le_refl _⟩
    have hne : ∀ k,some k ≠ v.ownBlock → k < W.heap.size → some k ≠ v1.ownBlock := by
     intro k hk hlt
     rcases hat' with hat | ⟨b,hb,hle⟩
     · rw [hat];exact hk
     · rw [hb]
       intro he
       injection he with he
       omega
    have step : ∀ {q : α} {c : List Value} {o : Nat → Prop},d.M W base o q c → (∀ k,o k → ok k ∧ some k ≠ v.ownBlock) → d.M w1 base (fun k => ok k ∧ some k ≠ v1.ownBlock) q c := by
     intro q c o hq ho;have h1 := d.M_move (w1 := w1) (fun k hk => hg.block k hk.2.2.1 (ho k hk.1).2) (d.M_bound hq);exact d.M_mono (fun k hk => ⟨(ho k hk.1).1,hne k (ho k hk.1).2 hk.2.2.1⟩) h1
    refine ⟨v1,w1,hrun,⟨fun k hk => ?_,inner ++ news,by rw [List.length_append,hm];exact h2,Y1 (hr.imp_ (fun _ _ hq => step hq (fun _ hk => hk))) (hnM.imp_ (fun _ _ hq => step hq hokp))⟩,hg,hat'⟩
    rcases hat' with hat | ⟨b,hb,hle⟩
    · exact hok k (hat ▸ hk)
    · rw [hb] at hk
      injection hk with hk
      exact hfresh k (by omega)
 obtain ⟨v1,w1,hr1,h1,hg,hat⟩ := hrun;rw [if_pos hw];unfold Oper.wp execOp;simp only [ho,resolve,invoke,builtin,Sem.run_bind,Sem.run_pure,Result.andThen_ok,List.map_toArray,List.map_cons,List.map_nil,hs,hx,hr1]
 exact h v1 w1 h1 (HB.grown hg hbase (Q5 hown)) hg hat
end Kd
end
inductive Vals (P : Program) (tmps : Array Value) (w : World) : List ResultVar → List Value → Prop where
 | nil : Vals P tmps w [] []
 | tmp {u : Tmp} {rs : List ResultVar} {vs : List Value} (h : Vals P tmps w rs vs) : Vals P tmps w (.tmp u :: rs) (tmps.getD u undef :: vs)
 | cell {p : Tmp} {ty : TypeId} {rs : List ResultVar} {vs : List Value} (g : Nat) (t : TypeId) (cs : Array Value) (fr : Nat × Nat) (d : TypeDesc)
  (hp : tmps.getD p undef = .pointer (some ⟨g,0,none⟩)) (hg : w.heap[g]? = some (.cells cs t fr))
  (hu : P.underlying ty = some d) (hd : (match d with | .struct _ | .array _ _ => true | _ => false) = true) (hi : (P.info? ty).map (·.size) = some cs.size)
  (h : Vals P tmps w rs vs) : Vals P tmps w (.cell p ty :: rs) (.agg cs :: vs)
end Go.Proofs.YthbajahklnpkcaaW.PrintWords

namespace Go.Proofs.YthbajahklnpkcaaW.PrintLast
section
variable {P : Program} {ops : Array Oper} {Q : Exit → Act → World → Prop} {md : Region.Mode} {S : World → Prop} {ds : List Nat}
def Region.reachB (md : Region.Mode) (ops : Array Oper) (i : Nat) : Nat → Nat → Bool
 | 0,_ => false
 | fuel + 1,d => match ops[d]? with
  | some o => o.after.any fun e => Region.binds md e && (e.on == i || Region.reachB md ops i fuel e.on)
  | none => false
def Region.closedB (md : Region.Mode) (ops : Array Oper) (listed : Array Bool) : Bool :=
 (List.range ops.size).all fun j => !listed.getD j false || match ops[j]? with
  | some o => o.after.all fun e => !Region.binds md e || listed.getD e.on false
  | none => true
def Region.lastB (md : Region.Mode) (ops : Array Oper) (listed : Array Bool) (ds : List Nat) (i : Nat) : Bool :=
 ds.all fun d => listed.getD d true || Region.reachB md ops i ops.size d
def ListedClosed (md : Region.Mode) (ops : Array Oper) (listed : Array Bool) : Prop :=
 ∀ j oj,ops[j]? = some oj → listed.getD j false = true → ∀ e ∈ oj.after,Region.binds md e = true → listed.getD e.on false = true
theorem Region.closedB_spec {listed : Array Bool} (h : Region.closedB md ops listed = true) : ListedClosed md ops listed := by
 intro j oj hj hl e he hb;have hlt : j < ops.size := (Array.getElem?_eq_some_iff.1 hj).1;have h1 := List.all_eq_true.1 h j (List.mem_range.2 hlt);simp only [hl,hj,Bool.not_true,Bool.false_or] at h1;have h2 := Array.all_eq_true_iff_forall_mem.1 h1 e he
 simpa [hb] using h2
theorem ListedClosed.set {listed : Array Bool} {i : Nat} (h : ListedClosed md ops listed) (hi : i ∈ Region.ready md ops listed) : ListedClosed md ops (listed.setIfInBounds i true) := by
 obtain ⟨_,oi,hoi,hall⟩ := mem_ready.1 hi;intro j oj hj hl e he hb
 by_cases hij : i = j
 · subst hij
   have : oj = oi := Option.some.inj (hj.symm.trans hoi);subst this;exact getD_set_true (hall e he hb)
 · rw [getD_set_ne false hij] at hl
   exact getD_set_true (h j oj hj hl e he hb)
theorem Region.Yi {listed : Array Bool} {i : Nat} (hc : ListedClosed md ops listed) : ∀ (fuel d : Nat),Region.reachB md ops i fuel d = true → listed.getD d false = true → listed.getD i false = true
 | 0,_,h,_ => by simp [Region.reachB] at h
 | fuel + 1,d,h,hl => by
  unfold Region.reachB at h
  cases ho : ops[d]? with
  | none => rw [ho] at h;simp at h
  | some o =>
   rw [ho] at h;obtain ⟨e,he,h1⟩ := Array.any_eq_true'.1 h;simp only [Bool.and_eq_true,Bool.or_eq_true,beq_iff_eq] at h1;have hle := hc d o ho hl e he h1.1
   rcases h1.2 with h2 | h2
   · rw [← h2];exact hle
   · exact Region.Yi hc fuel e.on h2 hle
theorem Region.reach_not_ready {listed : Array Bool} {i d fuel : Nat} (hc : ListedClosed md ops listed) (hr : Region.reachB md ops i fuel d = true) (hun : listed.getD i true = false) : d ∉ Region.ready md ops listed := by
 intro hd;obtain ⟨_,o,ho,hall⟩ := mem_ready.1 hd
 have hi : listed.getD i false = true := by
  cases fuel with
  | zero => simp [Region.reachB] at hr
  | succ n =>
   unfold Region.reachB at hr;rw [ho] at hr;obtain ⟨e,he,h1⟩ := Array.any_eq_true'.1 hr;simp only [Bool.and_eq_true,Bool.or_eq_true,beq_iff_eq] at h1;have hle := hall e he h1.1
   rcases h1.2 with h2 | h2
   · rw [← h2];exact hle
   · exact Region.Yi hc n e.on h2 hle
 rcases Nat.lt_or_ge i listed.size with h' | h'
 · simp [h'] at hun hi
   rw [hun] at hi
   cases hi
 · simp [Array.getElem?_eq_none h'] at hun
def wpAnyLast (P : Program) (md : Region.Mode) (ops : Array Oper) (Q : Exit → Act → World → Prop) (S : World → Prop) (ds : List Nat) : Nat → Array Bool → Act → World → Prop
 | 0,listed,a,w => Region.ready md ops listed = [] ∧ Q .normal a w
 | fuel + 1,listed,a,w =>
  (Region.ready md ops listed = [] → Q .normal a w) ∧
  ∀ i ∈ Region.ready md ops listed,wpOp P ops Q i (fun a' w' => (i ∉ ds → S w → S w') ∧ wpAnyLast P md ops Q S ds fuel (listed.setIfInBounds i true) a' w') a w
theorem QP : ∀ (fuel : Nat) (listed : Array Bool) (a : Act) (w : World),wpAnyLast P md ops Q S ds fuel listed a w → wpAny P md ops Q fuel listed a w
 | 0,_,_,_,h => h
 | fuel + 1,_,_,_,h => ⟨h.1,fun i hi => wpOp_mono (fun a' w' h' => QP fuel _ a' w' h'.2) (h.2 i hi)⟩
theorem wpAnyLast_first {i : Nat} {oi : Oper} {v : Value} (hi : ops[i]? = some oi) (hsel : ∀ (j : Nat) (o : Oper) cs b,ops[j]? = some o → o.op ≠ .select cs b)
 (hQ : ∀ c a w,Q (.panic c) (a.put oi.dst v) w → Q (.panic c) a w) (n : Nat) :
 ∀ (fuel : Nat) (listed : Array Bool) (a : Act) (w : World),
  (∀ j oj,ops[j]? = some oj → j ≠ i → listed.getD j true = false → (∀ e ∈ oj.after,Region.binds md e = true → e.on ≠ i) → oi.apart ops oj = true) →
  ListedClosed md ops listed → (∀ d ∈ ds,listed.getD d true = false → Region.reachB md ops i n d = true) →
  i ∈ Region.ready md ops listed → YieldsIf P ops S oi v a → S w →
  wpAnyLast P md ops Q S ds fuel (listed.setIfInBounds i true) (a.put oi.dst v) w → wpAnyLast P md ops Q S ds (fuel + 1) listed a w := by
 intro fuel
 induction fuel with
 | zero =>
  intro listed a w _ _ _ hr hy hS H;refine ⟨fun h => (by rw [h] at hr;cases hr),fun j hj => ?_⟩
  by_cases hji : j = i
  · subst hji;exact hy.wpOp hi hS ⟨fun _ h => h,H⟩
  · have := ready_mono hj hji
    rw [H.1] at this
    cases this
 | succ fuel ih =>
  intro listed a w hfree hc hd hr hy hS H;refine ⟨fun h => (by rw [h] at hr;cases hr),fun j hj => ?_⟩
  by_cases hji : j = i
  · subst hji;exact hy.wpOp hi hS ⟨fun _ h => h,H⟩
  · have h1 := H.2 j (ready_mono hj hji)
    obtain ⟨hjun,oj,hoj,hall⟩ := mem_ready.1 hj;have hiun := (mem_ready.1 hr).1
    have hnot : ∀ e ∈ oj.after,Region.binds md e = true → e.on ≠ i := fun e he hb heq => by
     have h1 := hall e he hb;rw [heq] at h1
     rcases Nat.lt_or_ge i listed.size with h' | h'
     · simp [h'] at hiun h1;rw [hiun] at h1;cases h1
     · simp [Array.getElem?_eq_none h'] at h1
    have hjd : j ∉ ds := fun hm => Region.reach_not_ready hc (hd j hm hjun) hiun hj
    have h2 := wpOp_putIf hoj (hfree j oj hoj hji hjun hnot) (fun cs b => hsel i oi cs b hi) (fun cs b => hsel j oj cs b hoj) hQ hy h1
    have hfree' : ∀ k ok,ops[k]? = some ok → k ≠ i → (listed.setIfInBounds j true).getD k true = false →
     (∀ e ∈ ok.after,Region.binds md e = true → e.on ≠ i) → oi.apart ops ok = true := fun k ok hk hki hun hno => by
     refine hfree k ok hk hki ?_ hno
     by_cases hjk : j = k
     · subst hjk;exact hjun
     · rw [getD_set_ne true hjk] at hun;exact hun
    have hd' : ∀ d ∈ ds,(listed.setIfInBounds j true).getD d true = false → Region.reachB md ops i n d = true := fun d hm hun => by
     refine hd d hm ?_
     by_cases hjk : j = d
     · subst hjk;exact hjun
     · rw [getD_set_ne true hjk] at hun;exact hun
    refine wpOp_mono (fun a' w' h3 => ⟨h3.2.1,ih (listed.setIfInBounds j true) a' w' hfree' (hc.set hj) hd' (ready_mono hr (Ne.symm hji)) h3.1 (h3.2.1 hjd hS) ?_⟩) h2;rw [Array.setIfInBounds_comm _ _ hji];exact h3.2.2
theorem wpAnyLast_any {i : Nat} {oi : Oper} {v : Value} (hi : ops[i]? = some oi) (hsel : ∀ (j : Nat) (o : Oper) cs b,ops[j]? = some o → o.op ≠ .select cs b)
 (hQ : ∀ c a w,Q (.panic c) (a.put oi.dst v) w → Q (.panic c) a w) :
 ∀ (fuel : Nat) (listed : Array Bool) (a : Act) (w : World),
  (∀ j oj,ops[j]? = some oj → j ≠ i → listed.getD j true = false → (∀ e ∈ oj.after,Region.binds md e = true → e.on ≠ i) → oi.apart ops oj = true) →
  i ∈ Region.ready md ops listed → Yields P ops oi v a →
  wpAnyLast P md ops Q S ds fuel (listed.setIfInBounds i true) (a.put oi.dst v) w → wpAnyLast P md ops Q S ds (fuel + 1) listed a w := by
 intro fuel
 induction fuel with
 | zero =>
  intro listed a w _ hr hy H;refine ⟨fun h => (by rw [h] at hr;cases hr),fun j hj => ?_⟩
  by_cases hji : j = i
  · subst hji;exact (hy.yieldsIf (S := fun _ => True)).wpOp hi trivial ⟨fun _ h => h,H⟩
  · have := ready_mono hj hji
    rw [H.1] at this
    cases this
 | succ fuel ih =>
  intro listed a w hfree hr hy H;refine ⟨fun h => (by rw [h] at hr;cases hr),fun j hj => ?_⟩
  by_cases hji : j = i
  · subst hji;exact (hy.yieldsIf (S := fun _ => True)).wpOp hi trivial ⟨fun _ h => h,H⟩
  · have h1 := H.2 j (ready_mono hj hji)
    obtain ⟨hjun,oj,hoj,hall⟩ := mem_ready.1 hj;have hiun := (mem_ready.1 hr).1
    have hnot : ∀ e ∈ oj.after,Region.binds md e = true → e.on ≠ i := fun e he hb heq => by
     have h1 := hall e he hb;rw [heq] at h1
     rcases Nat.lt_or_ge i listed.size with h' | h'
     · simp [h'] at hiun h1;rw [hiun] at h1;cases h1
     · simp [Array.getElem?_eq_none h'] at h1
    have h2 := wpOp_put hoj (hfree j oj hoj hji hjun hnot) (fun cs b => hsel i oi cs b hi) (fun cs b => hsel j oj cs b hoj) hQ hy h1
    have hfree' : ∀ k ok,ops[k]? = some ok → k ≠ i → (listed.setIfInBounds j true).getD k true = false →
     (∀ e ∈ ok.after,Region.binds md e = true → e.on ≠ i) → oi.apart ops ok = true := fun k ok hk hki hun hno => by
     refine hfree k ok hk hki ?_ hno
     by_cases hjk : j = k
     · subst hjk;exact hjun
     · rw [getD_set_ne true hjk] at hun;exact hun
    refine wpOp_mono (fun a' w' h3 => ⟨h3.2.1,ih (listed.setIfInBounds j true) a' w' hfree' (ready_mono hr (Ne.symm hji)) h3.1 ?_⟩) h2;rw [Array.setIfInBounds_comm _ _ hji];exact h3.2.2
theorem wpAnyLast_take {i : Nat} {oi : Oper} {v : Value} {fuel : Nat} {listed : Array Bool} {a : Act} {w : World} (hi : ops[i]? = some oi)
 (hs : Region.noSelect ops = true) (hf : Region.free md ops listed i = true) (hr : (Region.ready md ops listed).contains i = true)
 (hc : Region.closedB md ops listed = true) (hl : Region.lastB md ops listed ds i = true)
 (hQ : ∀ c a w,Q (.panic c) (a.put oi.dst v) w → Q (.panic c) a w) (hy : YieldsIf P ops S oi v a) (hS : S w)
 (h : wpAnyLast P md ops Q S ds fuel (listed.setIfInBounds i true) (a.put oi.dst v) w) : wpAnyLast P md ops Q S ds (fuel + 1) listed a w :=
 wpAnyLast_first hi (Region.noSelect_spec hs) hQ ops.size fuel listed a w (Region.free_spec hi hf) (Region.closedB_spec hc)
  (fun d hm hun => by have := List.all_eq_true.1 hl d hm;rw [hun] at this;simpa using this) (by simpa using hr) hy hS h
theorem wpAnyLast_all {rs : List Nat} {fuel : Nat} {listed : Array Bool} {a : Act} {w : World} (hr : Region.ready md ops listed = rs) (hne : rs ≠ [])
 (h : ∀ i ∈ rs,wpOp P ops Q i (fun a' w' => (i ∉ ds → S w → S w') ∧ wpAnyLast P md ops Q S ds fuel (listed.setIfInBounds i true) a' w') a w) : wpAnyLast P md ops Q S ds (fuel + 1) listed a w :=
 ⟨fun h0 => absurd (hr ▸ h0) hne,hr ▸ h⟩
theorem wpAnyLast_done {listed : Array Bool} {a : Act} {w : World} (hr : Region.ready md ops listed = []) (h : Q .normal a w) :
 ∀ fuel,wpAnyLast P md ops Q S ds fuel listed a w
 | 0 => ⟨hr,h⟩
 | _ + 1 => ⟨fun _ => h,by rw [hr];simp⟩
theorem wp_region_last {id : Nat} {a : Act} {w : World} (hm : P.follows .mixedOrders = true)
 (h : wpAnyLast P .any ops Q S ds ops.size (Array.replicate ops.size false) a { w with drawn := w.drawn + 1 }) : (Code.region id ops true).wp P Q a w :=
 wp_region_any hm (QP _ _ _ _ h)
end
section
variable {P : Program} {ops : Array Oper} {Q : Exit → Act → World → Prop} {md : Region.Mode} {S : World → Prop} {ds : List Nat}
def AllReadyL (P : Program) (md : Region.Mode) (ops : Array Oper) (Q : Exit → Act → World → Prop) (S : World → Prop) (ds : List Nat) (fuel : Nat) (listed : Array Bool) (a : Act) (w : World) (rs : List Nat) : Prop :=
 ∀ i ∈ rs,wpOp P ops Q i (fun a' w' => (i ∉ ds → S w → S w') ∧ wpAnyLast P md ops Q S ds fuel (listed.setIfInBounds i true) a' w') a w
theorem AllReadyL.nil {fuel : Nat} {listed : Array Bool} {a : Act} {w : World} : AllReadyL P md ops Q S ds fuel listed a w [] := fun _ h => by cases h
theorem AllReadyL.cons {fuel : Nat} {listed : Array Bool} {a : Act} {w : World} {i : Nat} {o : Oper} {rs : List Nat} (ho : ops[i]? = some o) (hd : i ∉ ds)
 (h : ∀ K' : Act → World → Prop,Shut (∀ a w,S w → (S w → wpAnyLast P md ops Q S ds fuel (listed.setIfInBounds i true) a w) → K' a w) → if Region.wanted o (yielded ops a.tmps) = true then Oper.wp P o a w K' Q else K' (a.put o.dst undef) w)
 (hs : AllReadyL P md ops Q S ds fuel listed a w rs) : AllReadyL P md ops Q S ds fuel listed a w (i :: rs) := fun j hj => by
 rcases List.mem_cons.1 hj with rfl | hj
 · exact wpOp_step ho (fun K' hK => h K' (fun a w hS hW => hK a w ⟨fun _ _ => hS,hW hS⟩))
 · exact hs j hj
theorem AllReadyL.cons_last {fuel : Nat} {listed : Array Bool} {a : Act} {w : World} {i : Nat} {o : Oper} {rs : List Nat} (ho : ops[i]? = some o) (hd : i ∈ ds)
 (h : ∀ K' : Act → World → Prop,Shut (∀ a w,wpAnyLast P md ops Q S ds fuel (listed.setIfInBounds i true) a w → K' a w) → if Region.wanted o (yielded ops a.tmps) = true then Oper.wp P o a w K' Q else K' (a.put o.dst undef) w)
 (hs : AllReadyL P md ops Q S ds fuel listed a w rs) : AllReadyL P md ops Q S ds fuel listed a w (i :: rs) := fun j hj => by
 rcases List.mem_cons.1 hj with rfl | hj
 · exact wpOp_step ho (fun K' hK => h K' (fun a w hW => hK a w ⟨fun hn => absurd hd hn,hW⟩))
 · exact hs j hj
theorem Qo {rs : List Nat} {fuel : Nat} {listed : Array Bool} {a : Act} {w : World} (hr : Region.ready md ops listed = rs) (hne : rs ≠ [])
 (h : AllReadyL P md ops Q S ds fuel listed a w rs) : wpAnyLast P md ops Q S ds (fuel + 1) listed a w := wpAnyLast_all hr hne h
theorem Qn {id n : Nat} {a : Act} {w : World} (l : Array Bool) (hm : P.follows .mixedOrders = true) (hn : ops.size = n) (hl : Array.replicate n false = l) (hS : S w.drew)
 (h : S w.drew → wpAnyLast P .any ops Q S ds n l a w.drew) : (Code.region id ops true).wp P Q a w := by
 subst hn;subst hl;exact wp_region_last hm (h hS)
def takeB (md : Region.Mode) (ops : Array Oper) (ds : List Nat) (l l' : Array Bool) (i : Nat) : Bool :=
 Region.noSelect ops && Region.free md ops l i && (Region.ready md ops l).contains i && Region.closedB md ops l && Region.lastB md ops l ds i && (l.setIfInBounds i true == l')
theorem take_ {i : Nat} {N : Option Tmp} {oi : Oper} {v : Value} {fuel : Nat} {l : Array Bool} {a : Act} {w : World} (l' : Array Bool) (hi : ops[i]? = some oi) (hN : oi.dst = N) (hc : takeB md ops ds l l' i = true)
 (hQ : ∀ c a w,Q (.panic c) (a.put oi.dst v) w → Q (.panic c) a w) (hy : YieldsIf P ops S oi v a) (hS : S w) {a' : Act} (ha : a.put N v = a')
 (h : wpAnyLast P md ops Q S ds fuel l' a' w) : wpAnyLast P md ops Q S ds (fuel + 1) l a w := by
 subst ha;subst hN;simp only [takeB,Bool.and_eq_true,beq_iff_eq] at hc;obtain ⟨⟨⟨⟨⟨h1,h2⟩,h3⟩,h4⟩,h5⟩,h6⟩ := hc;subst h6;exact wpAnyLast_take hi h1 h2 h3 h4 h5 hQ hy hS h
def anyB (md : Region.Mode) (ops : Array Oper) (l l' : Array Bool) (i : Nat) : Bool :=
 Region.noSelect ops && Region.free md ops l i && (Region.ready md ops l).contains i && (l.setIfInBounds i true == l')
theorem pure_ {i : Nat} {N : Option Tmp} {oi : Oper} {v : Value} {fuel : Nat} {l : Array Bool} {a : Act} {w : World} (l' : Array Bool) (hi : ops[i]? = some oi) (hN : oi.dst = N) (hc : anyB md ops l l' i = true)
 (hQ : ∀ c a w,Q (.panic c) (a.put oi.dst v) w → Q (.panic c) a w) (hy : Yields P ops oi v a) {a' : Act} (ha : a.put N v = a')
 (h : wpAnyLast P md ops Q S ds fuel l' a' w) : wpAnyLast P md ops Q S ds (fuel + 1) l a w := by
 subst ha;subst hN;simp only [anyB,Bool.and_eq_true,beq_iff_eq] at hc;obtain ⟨⟨⟨h1,h2⟩,h3⟩,h6⟩ := hc;subst h6;exact wpAnyLast_any hi (Region.noSelect_spec h1) hQ fuel l a w (Region.free_spec hi h2) (by simpa using h3) hy h
def readyB (md : Region.Mode) (ops : Array Oper) (l l' : Array Bool) (i : Nat) : Bool := (Region.ready md ops l == [i]) && (l.setIfInBounds i true == l')
theorem one_ {i : Nat} {N : Option Tmp} {oi : Oper} {fuel : Nat} {l : Array Bool} {a : Act} {w : World} (l' : Array Bool) (hi : ops[i]? = some oi) (hN : oi.dst = N) (hc : readyB md ops l l' i = true) (hd : i ∉ ds)
 (h : ∀ K : Act → World → Prop,Shut (∀ a' w',S w' → (S w' → wpAnyLast P md ops Q S ds fuel l' a' w') → K a' w') → if Region.wanted oi (yielded ops a.tmps) = true then Oper.wp P oi a w K Q else K (a.put N undef) w) :
 wpAnyLast P md ops Q S ds (fuel + 1) l a w := by
 subst hN;simp only [readyB,Bool.and_eq_true,beq_iff_eq] at hc;obtain ⟨h1,h2⟩ := hc;subst h2;exact Qo h1 (by simp) (AllReadyL.cons hi hd (fun K hK => h K hK) AllReadyL.nil)
theorem last_ {i : Nat} {N : Option Tmp} {oi : Oper} {fuel : Nat} {l : Array Bool} {a : Act} {w : World} (l' : Array Bool) (hi : ops[i]? = some oi) (hN : oi.dst = N) (hc : readyB md ops l l' i = true) (hd : i ∈ ds)
 (h : ∀ K : Act → World → Prop,Shut (∀ a' w',wpAnyLast P md ops Q S ds fuel l' a' w' → K a' w') → if Region.wanted oi (yielded ops a.tmps) = true then Oper.wp P oi a w K Q else K (a.put N undef) w) :
 wpAnyLast P md ops Q S ds (fuel + 1) l a w := by
 subst hN;simp only [readyB,Bool.and_eq_true,beq_iff_eq] at hc;obtain ⟨h1,h2⟩ := hc;subst h2;exact Qo h1 (by simp) (AllReadyL.cons_last hi hd (fun K hK => h K hK) AllReadyL.nil)
theorem done_ {l : Array Bool} {a : Act} {w : World} {n : Nat} (hr : (Region.ready md ops l == []) = true) (h : Q .normal a w) : wpAnyLast P md ops Q S ds n l a w := wpAnyLast_done (by simpa using hr) h n
theorem two_ {i j : Nat} {Ni Nj : Option Tmp} {oi oj : Oper} {fuel : Nat} {l : Array Bool} {a : Act} {w : World} (li lj : Array Bool) (hi : ops[i]? = some oi) (hj : ops[j]? = some oj) (hNi : oi.dst = Ni) (hNj : oj.dst = Nj)
 (hc : (Region.ready md ops l == [i,j] && l.setIfInBounds i true == li && l.setIfInBounds j true == lj) = true) (hdi : i ∉ ds) (hdj : j ∉ ds)
 (h1 : ∀ K : Act → World → Prop,Shut (∀ a' w',S w' → (S w' → wpAnyLast P md ops Q S ds fuel li a' w') → K a' w') → if Region.wanted oi (yielded ops a.tmps) = true then Oper.wp P oi a w K Q else K (a.put Ni undef) w)
 (h2 : ∀ K : Act → World → Prop,Shut (∀ a' w',S w' → (S w' → wpAnyLast P md ops Q S ds fuel lj a' w') → K a' w') → if Region.wanted oj (yielded ops a.tmps) = true then Oper.wp P oj a w K Q else K (a.put Nj undef) w) :
 wpAnyLast P md ops Q S ds (fuel + 1) l a w := by
 subst hNi;subst hNj;simp only [Bool.and_eq_true,beq_iff_eq] at hc;obtain ⟨⟨h3,h4⟩,h5⟩ := hc;subst h4;subst h5;exact Qo h3 (by simp) (AllReadyL.cons hi hdi (fun K hK => h1 K hK) (AllReadyL.cons hj hdj (fun K hK => h2 K hK) AllReadyL.nil))
def putAll : Act → List (Tmp × Value) → Act
 | a,[] => a
 | a,(n,v) :: r => putAll (a.put (some n) v) r
theorem join_ {σ : Type} {fuel : Nat} {l : Array Bool} {a : Act} {w : World} (fuel' : Nat) (l' : Array Bool) (ns : σ → List (Tmp × Value)) (F : σ → World → Prop)
 (hcont : ∀ s w',F s w' → wpAnyLast P md ops Q S ds fuel' l' (putAll a (ns s)) w')
 (h : (∀ s w',F s w' → wpAnyLast P md ops Q S ds fuel' l' (putAll a (ns s)) w') → wpAnyLast P md ops Q S ds fuel l a w) : wpAnyLast P md ops Q S ds fuel l a w := h hcont
theorem norm_ {fuel : Nat} {l : Array Bool} {a a' : Act} {w : World} (ha : a = a') (h : wpAnyLast P md ops Q S ds fuel l a' w) : wpAnyLast P md ops Q S ds fuel l a w := by
 subst ha;exact h
theorem call_ {oi : Oper} {N : Option Tmp} {a : Act} {w : World} {K : Act → World → Prop} (f : FuncId) (args : Array Value) (hw : Region.wanted oi (yielded ops a.tmps) = true) (hN : oi.dst = N) (hrun : (execOp a.eval oi).run P w = .ok (.enter f args) w)
 (h : Calls P f args w fun e w' => ∃ v,e = .returned v ∧ K (a.put N v) w') : if Region.wanted oi (yielded ops a.tmps) = true then Oper.wp P oi a w K Q else K (a.put N undef) w := by
 rw [if_pos hw];subst hN;unfold Oper.wp;rw [hrun,Oper.upon_enter]
 refine h.mono fun e w'' hh => ?_
 obtain ⟨v,rfl,hk⟩ := hh;exact hk
theorem Vq {f : FuncId} {fn : Func} (hf : P.funcs[f]? = some fn) (hname : (fn.name == "runtime.NumGoroutine") = false) (hb : fn.body.isSome = true) (args : Array Value) (w : World) : (callFunc f args).run P w = .ok (.enter f args) w := by
 have h1 : fn.name ≠ "runtime.NumGoroutine" := by simpa using hname
 obtain ⟨c,hc⟩ := Option.isSome_iff_exists.1 hb;simp [callFunc,hf,h1,hc]
theorem goes_ {oi : Oper} {N : Option Tmp} {a : Act} {w : World} {K : Act → World → Prop} {f : FuncId} {fn : Func} {as_ : Array Operand} {ts : Array TypeId} (hf : P.funcs[f]? = some fn) (hname : (fn.name == "runtime.NumGoroutine") = false) (hb : fn.body.isSome = true) (args : Array Value)
 (hw : Region.wanted oi (yielded ops a.tmps) = true) (hN : oi.dst = N) (hop : oi.op = .call { callee := .value (.func f),args := as_,argTypes := ts }) (hargs : as_.map a.eval = args)
 (h : Calls P f args w fun e w' => ∃ v,e = .returned v ∧ K (a.put N v) w') : if Region.wanted oi (yielded ops a.tmps) = true then Oper.wp P oi a w K Q else K (a.put N undef) w := by
 refine call_ f args hw hN ?_ h;have he := Vq hf hname hb args w;unfold execOp;simp [hop,resolve,Deferred.ofValue,invoke,Act.eval,hargs,he]
theorem ZP {rest : List Oper} {oi : Oper} {a : Act} {w : World} (N : Option Tmp) (hd : oi.dst = N) (hg : oi.guard = none) {f : FuncId} {fn : Func} {as_ : Array Operand} {ts : Array TypeId} (hf : P.funcs[f]? = some fn) (hname : (fn.name == "runtime.NumGoroutine") = false) (hb : fn.body.isSome = true) (args : Array Value)
 (hop : oi.op = .call { callee := .value (.func f),args := as_,argTypes := ts }) (hargs : as_.map a.eval = args)
 (h : Calls P f args w fun e w' => ∃ v,e = .returned v ∧ wpList P ops Q rest (a.put N v) w') : wpList P ops Q (oi :: rest) a w := by
 refine wpList_plain hg fun K hK => ?_
 have he := Vq hf hname hb args w
 have hrun : (execOp a.eval oi).run P w = .ok (.enter f args) w := by
  unfold execOp;simp [hop,resolve,Deferred.ofValue,invoke,Act.eval,hargs,he]
 unfold Oper.wp;rw [hrun,Oper.upon_enter]
 refine h.mono fun e w'' hh => ?_
 obtain ⟨v,rfl,hk⟩ := hh;subst hd;exact hK _ _ hk
theorem V1 {oi : Oper} {N : Option Tmp} {a : Act} {w w1 : World} {v : Value} {K : Act → World → Prop} (hw : Region.wanted oi (yielded ops a.tmps) = true) (hN : oi.dst = N) (hrun : (execOp a.eval oi).run P w = .ok (.value v) w1)
 (h : K (a.put N v) w1) : if Region.wanted oi (yielded ops a.tmps) = true then Oper.wp P oi a w K Q else K (a.put N undef) w := by
 rw [if_pos hw];subst hN;unfold Oper.wp;rw [hrun];exact h
theorem skip_ {oi : Oper} {a : Act} {w w1 : World} {K : Act → World → Prop} (hw : Region.wanted oi (yielded ops a.tmps) = true) (hN : oi.dst = none) (hrun : (execOp a.eval oi).run P w = .ok .skip w1)
 (h : K a w1) : if Region.wanted oi (yielded ops a.tmps) = true then Oper.wp P oi a w K Q else K (a.put none undef) w := by
 rw [if_pos hw];unfold Oper.wp;rw [hrun];show K (a.put oi.dst undef) w1;rw [hN];exact h
theorem i64_w (n : Int) : IntKind.i64.wrap n = Go.RowKit.wrap64 n := by unfold Go.RowKit.wrap64;exact IntKind.wrap_i64 n
theorem i32_w (n : Int) : IntKind.i32.wrap n = Go.RowKit.wrap32 n := by unfold Go.RowKit.wrap32;exact IntKind.wrap_i32 n
end
end Go.Proofs.YthbajahklnpkcaaW.PrintLast

namespace Go.Proofs.YthbajahklnpkcaaW.PrintLast
open Go.Proofs.YthbajahklnpkcaaW.PrintWords (Zb)
def needsOf (md : Region.Mode) (o : Oper) : List Nat := (o.after.toList.filter (fun e => Region.binds md e)).map (fun e => e.on)
def clashOf (md : Region.Mode) (ops : Array Oper) (i : Nat) (oi : Oper) : List Nat := (List.range ops.size).filter fun j => !(j == i) && match ops[j]? with
 | some oj => !(oj.after.any (fun e => Region.binds md e && e.on == i) || oi.apart ops oj)
 | none => false
def rtab (md : Region.Mode) (ops : Array Oper) : Bool × List (List Nat × List Nat) := (Region.noSelect ops,(List.range ops.size).map fun i => match ops[i]? with
 | some o => (needsOf md o,clashOf md ops i o)
 | none => ([],[]))
def readyAt (T : List (List Nat × List Nat)) (l : List Bool) (i : Nat) : Bool := !l.getD i true && match T[i]? with
 | some r => r.1.all (fun j => l.getD j false)
 | none => false
def readyT (T : List (List Nat × List Nat)) (l : List Bool) : List Nat := (List.range T.length).filter (readyAt T l)
def freeT (T : List (List Nat × List Nat)) (l : List Bool) (i : Nat) : Bool := match T[i]? with
 | some r => r.2.all (fun j => l.getD j true)
 | none => false
def closedT (T : List (List Nat × List Nat)) (l : List Bool) : Bool := (List.range T.length).all fun j => !l.getD j false || match T[j]? with
 | some r => r.1.all (fun k => l.getD k false)
 | none => true
def reachT (T : List (List Nat × List Nat)) (i : Nat) : Nat → Nat → Bool
 | 0,_ => false
 | fuel + 1,d => match T[d]? with
  | some r => r.1.any fun j => j == i || reachT T i fuel j
  | none => false
def lastT (T : List (List Nat × List Nat)) (l : List Bool) (ds : List Nat) (i : Nat) : Bool := ds.all fun d => l.getD d true || reachT T i T.length d
section
variable {md : Region.Mode} {ops : Array Oper} {T : Bool × List (List Nat × List Nat)} {l l' li lj lk : Array Bool} {ds : List Nat} {i j k : Nat}
theorem gd (l : Array Bool) (j : Nat) (b : Bool) : l.getD j b = l.toList.getD j b := by simp [Array.getD_eq_getD_getElem?,List.getD_eq_getElem?_getD]
theorem Jz (o : Oper) (p : Nat → Bool) : o.after.all (fun e => !Region.binds md e || p e.on) = (needsOf md o).all p := by
 unfold needsOf;rw [← Array.all_toList]
 induction o.after.toList with
 | nil => rfl
 | cons e r ih =>
  rw [List.all_cons,ih,List.filter_cons]
  cases h : Region.binds md e <;> simp
theorem needs_any (o : Oper) (p : Nat → Bool) : o.after.any (fun e => Region.binds md e && p e.on) = (needsOf md o).any p := by
 unfold needsOf;rw [← Array.any_toList]
 induction o.after.toList with
 | nil => rfl
 | cons e r ih =>
  rw [List.any_cons,ih,List.filter_cons]
  cases h : Region.binds md e <;> simp
theorem Qv : (rtab md ops).2.length = ops.size := by simp [rtab]
theorem QH {o : Oper} (h : ops[i]? = some o) : (rtab md ops).2[i]? = some (needsOf md o,clashOf md ops i o) := by
 have hi := (Array.getElem?_eq_some_iff.1 h).1;unfold rtab;rw [List.getElem?_map,List.getElem?_range hi,Option.map_some,h]
theorem QG (h : ops[i]? = none) : (rtab md ops).2[i]? = none := by
 have hi : ops.size ≤ i := Array.getElem?_eq_none_iff.1 h;exact List.getElem?_eq_none (by rw [Qv];exact hi)
theorem readyAt_eq : readyAt (rtab md ops).2 l.toList i = (!l.getD i true && ((ops[i]?).map (·.after.all fun e => !Region.binds md e || l.getD e.on false)).getD false) := by
 unfold readyAt;rw [gd]
 cases h : ops[i]? with
 | none => rw [QG h];rfl
 | some o =>
  rw [QH h];simp only [Option.map_some,Option.getD_some];rw [← Jz];simp only [gd]
theorem QZ : Region.ready md ops l = readyT (rtab md ops).2 l.toList := by
 unfold Region.ready readyT;rw [Qv];refine List.filter_congr (fun i _ => ?_);rw [readyAt_eq]
theorem Vl : Region.free md ops l i = freeT (rtab md ops).2 l.toList i := by
 unfold Region.free freeT
 cases h : ops[i]? with
 | none => rw [QG h]
 | some oi =>
  rw [QH h];simp only [clashOf];rw [List.all_filter]
  congr 1
  funext j
  rw [gd]
  cases hj : ops[j]? with
  | none => cases (j == i) <;> cases (l.toList.getD j true) <;> simp
  | some oj =>
   cases (j == i) <;> cases (l.toList.getD j true) <;> cases (oj.after.any (fun e => Region.binds md e && e.on == i) || oi.apart ops oj) <;> simp_all
theorem closed_eq : Region.closedB md ops l = closedT (rtab md ops).2 l.toList := by
 unfold Region.closedB closedT;rw [Qv]
 congr 1
 funext j
 rw [gd]
 cases h : ops[j]? with
 | none => rw [QG h]
 | some o =>
  rw [QH h];simp only;rw [← Jz];simp only [gd]
theorem JP : ∀ (fuel d : Nat),Region.reachB md ops i fuel d = reachT (rtab md ops).2 i fuel d
 | 0,_ => rfl
 | fuel + 1,d => by
  unfold Region.reachB reachT
  cases h : ops[d]? with
  | none => rw [QG h]
  | some o =>
   rw [QH h];simp only;rw [← needs_any]
   congr 1
   funext e
   rw [JP fuel]
theorem last_eq : Region.lastB md ops l ds i = lastT (rtab md ops).2 l.toList ds i := by
 unfold Region.lastB lastT;rw [Qv]
 congr 1
 funext d
 rw [gd,JP]
theorem Yy (h : readyAt T.2 l.toList i = true) (hT : rtab md ops = T) : (Region.ready md ops l).contains i = true := by
 subst hT;rw [QZ];unfold readyT;rw [List.contains_iff_mem,List.mem_filter,List.mem_range];refine ⟨?_,h⟩;unfold readyAt at h;rw [Bool.and_eq_true] at h
 cases hq : (rtab md ops).2[i]? with
 | none => rw [hq] at h;simp at h
 | some r => exact (List.getElem?_eq_some_iff.1 hq).1
theorem YP (h : (l.toList.set i true == l'.toList) = true) : (l.setIfInBounds i true == l') = true := by
 rw [beq_iff_eq] at h ⊢;apply Array.ext';rw [Array.toList_setIfInBounds];exact h
def anyT (T : Bool × List (List Nat × List Nat)) (l l' : List Bool) (i : Nat) : Bool := T.1 && freeT T.2 l i && readyAt T.2 l i && (l.set i true == l')
theorem Zs (hT : rtab md ops = T) (h : anyT T l.toList l'.toList i = true) : anyB md ops l l' i = true := by
 simp only [anyT,Bool.and_eq_true] at h;obtain ⟨⟨⟨h1,h2⟩,h3⟩,h4⟩ := h;have h5 := Yy h3 hT;have h6 := YP h4;subst hT;simp only [anyB,Bool.and_eq_true];exact ⟨⟨⟨h1,by rw [Vl];exact h2⟩,h5⟩,h6⟩
def takeT (T : Bool × List (List Nat × List Nat)) (ds : List Nat) (l l' : List Bool) (i : Nat) : Bool := T.1 && freeT T.2 l i && readyAt T.2 l i && closedT T.2 l && lastT T.2 l ds i && (l.set i true == l')
theorem take_of (hT : rtab md ops = T) (h : takeT T ds l.toList l'.toList i = true) : takeB md ops ds l l' i = true := by
 simp only [takeT,Bool.and_eq_true] at h;obtain ⟨⟨⟨⟨⟨h1,h2⟩,h3⟩,h4⟩,h5⟩,h6⟩ := h;have h7 := Yy h3 hT;have h8 := YP h6;subst hT;simp only [takeB,Bool.and_eq_true];exact ⟨⟨⟨⟨⟨h1,by rw [Vl];exact h2⟩,h7⟩,by rw [closed_eq];exact h4⟩,by rw [last_eq];exact h5⟩,h8⟩
theorem XB (hT : rtab md ops = T) (h : (readyT T.2 l.toList == [i] && l.toList.set i true == l'.toList) = true) : readyB md ops l l' i = true := by
 simp only [Bool.and_eq_true] at h;obtain ⟨h1,h2⟩ := h;subst hT;simp only [readyB,Bool.and_eq_true];exact ⟨by rw [QZ];exact h1,YP h2⟩
theorem JC (hT : rtab md ops = T) (h : (readyT T.2 l.toList == [i,j] && l.toList.set i true == li.toList && l.toList.set j true == lj.toList) = true) : (Region.ready md ops l == [i,j] && l.setIfInBounds i true == li && l.setIfInBounds j true == lj) = true := by
 simp only [Bool.and_eq_true] at h ⊢;obtain ⟨⟨h1,h2⟩,h3⟩ := h;subst hT;exact ⟨⟨by rw [QZ];exact h1,YP h2⟩,YP h3⟩
theorem XV (hT : rtab md ops = T) (h : (readyT T.2 l.toList == []) = true) : (Region.ready md ops l == []) = true := by
 subst hT;rw [QZ];exact h
def upM (B : List Nat) (d : Nat) : List Nat → Nat
 | [] => 0
 | n :: r => (2 ^ n ||| (if n < d then B.getD n 0 else 0)) ||| upM B d r
def waitsOk (T : List (List Nat × List Nat)) (B : List Nat) : Bool := (List.range T.length).all fun d => match T[d]? with
 | some r => (B.getD d 0 ||| upM B d r.1) == upM B d r.1
 | none => false
theorem Vm {B : List Nat} {d i : Nat} : ∀ {ns : List Nat},(upM B d ns).testBit i = true → ∃ n ∈ ns,n = i ∨ (n < d ∧ (B.getD n 0).testBit i = true)
 | [],h => by simp [upM] at h
 | n :: r,h => by
  unfold upM at h;rw [Nat.testBit_or,Nat.testBit_or,Bool.or_eq_true,Bool.or_eq_true] at h
  rcases h with (h | h) | h
  · rw [Nat.testBit_two_pow] at h
    exact ⟨n,List.mem_cons_self,.inl (by simpa using h)⟩
  · by_cases hn : n < d
    · rw [if_pos hn] at h
      exact ⟨n,List.mem_cons_self,.inr ⟨hn,h⟩⟩
    · rw [if_neg hn] at h
      simp at h
  · obtain ⟨m,hm,h2⟩ := Vm h
    exact ⟨m,List.mem_cons_of_mem _ hm,h2⟩
theorem Ji {T : List (List Nat × List Nat)} {B : List Nat} (hB : waitsOk T B = true) : ∀ (fuel d : Nat),d < fuel → d < T.length → (B.getD d 0).testBit i = true → reachT T i fuel d = true
 | 0,d,h,_,_ => by omega
 | fuel + 1,d,h,hd,hb => by
  have h1 := List.all_eq_true.1 hB d (List.mem_range.2 hd)
  cases hr : T[d]? with
  | none => rw [hr] at h1;simp at h1
  | some r =>
   rw [hr] at h1;simp only [beq_iff_eq] at h1
   have h2 : (upM B d r.1).testBit i = true := by rw [← h1,Nat.testBit_or,hb,Bool.true_or]
   obtain ⟨n,hn,h3⟩ := Vm h2;unfold reachT;rw [hr];simp only;rw [List.any_eq_true];refine ⟨n,hn,?_⟩
   rcases h3 with rfl | ⟨h4,h5⟩
   · simp
   · rw [Ji hB fuel n (by omega) (by omega) h5,Bool.or_true]
def lastW (T : List (List Nat × List Nat)) (B : List Nat) (l : List Bool) (ds : List Nat) (i : Nat) : Bool := ds.all fun d => l.getD d true || (decide (d < T.length) && (B.getD d 0).testBit i)
def takeW (T : Bool × List (List Nat × List Nat)) (B : List Nat) (ds : List Nat) (l l' : List Bool) (i : Nat) : Bool := T.1 && freeT T.2 l i && readyAt T.2 l i && closedT T.2 l && lastW T.2 B l ds i && (l.set i true == l')
theorem ZQ {B : List Nat} (hT : rtab md ops = T) (hB : waitsOk T.2 B = true) (h : takeW T B ds l.toList l'.toList i = true) : takeB md ops ds l l' i = true := by
 refine take_of hT ?_;simp only [takeW,takeT,Bool.and_eq_true] at h ⊢;obtain ⟨⟨⟨⟨⟨h1,h2⟩,h3⟩,h4⟩,h5⟩,h6⟩ := h;refine ⟨⟨⟨⟨⟨h1,h2⟩,h3⟩,h4⟩,?_⟩,h6⟩;unfold lastW at h5;unfold lastT;rw [List.all_eq_true] at h5 ⊢;intro d hd;have h7 := h5 d hd;rw [Bool.or_eq_true,Bool.and_eq_true,decide_eq_true_eq] at h7
 rcases h7 with h7 | ⟨h8,h9⟩
 · rw [h7,Bool.true_or]
 · rw [Ji hB _ d h8 h8 h9,Bool.or_true]
theorem XC {P : Program} {Q : Exit → Act → World → Prop} {S : World → Prop} {n : Nat} {a : Act} {w : World} {B : List Nat} (hT : rtab md ops = T) (hB : waitsOk T.2 B = true) (h : Zb (rtab md ops = T) → Zb (waitsOk T.2 B = true) → wpAnyLast P md ops Q S ds n l a w) : wpAnyLast P md ops Q S ds n l a w := h ⟨hT⟩ ⟨hB⟩
end
def opsIn : Code → Nat → Option (Array Oper)
 | .region id ops _,k => if id == k then some ops else none
 | .seq a b,k => match opsIn a k with
  | some o => some o
  | none => opsIn b k
 | .cond _ a b,k => match opsIn a k with
  | some o => some o
  | none => opsIn b k
 | .block _ c,k => opsIn c k
 | .loop c,k => opsIn c k
 | .scope c,k => opsIn c k
 | .rangeFunc _ _ a b,k => match opsIn a k with
  | some o => some o
  | none => opsIn b k
 | _,_ => none
def opsOf (f : Func) (k : Nat) : Array Oper := ((f.body.bind fun c => opsIn c k)).getD #[]
end Go.Proofs.YthbajahklnpkcaaW.PrintLast





namespace Go.Proofs.YthbajahklnpkcaaW.PrintWords
open Go.RowKit
namespace Kd
def tag {α : Type} (f : Nat → Nat) (d : Kd α) : Kd (α × Nat) where
 sz := d.sz
 E := d.E
 K := fun w x cs => d.K w x.1 cs
 M := fun w base ok x cs => d.M w base (fun k => ok k ∧ f k = x.2) x.1 cs
 K_len := fun h => d.K_len h
 K_one := fun h => d.K_one h
 K_below := fun hb h => d.K_below hb h
 K_of_M := fun h => d.K_of_M h
 M_mono := fun hok h => d.M_mono (fun k hk => ⟨hok k hk.1,hk.2⟩) h
 M_bound := fun h => d.M_mono (fun _ hk => ⟨⟨hk.1.1,hk.2⟩,hk.1.2⟩) (d.M_bound h)
 M_move := fun hm h => d.M_move (fun k hk => hm k hk.1) h
 M_lower := fun hb h => d.M_lower hb h
def raw (sz : Nat) : Kd (List Value) where
 sz := sz
 E := []
 K := fun _ x cs => cs = x ∧ cs.length = sz ∧ ∀ u ∈ cs,u.oneCell' = true
 M := fun _ _ _ x cs => cs = x ∧ cs.length = sz ∧ ∀ u ∈ cs,u.oneCell' = true
 K_len := fun h => h.2.1
 K_one := fun h => h.2.2
 K_below := fun _ h => h
 K_of_M := fun h => h
 M_mono := fun _ h => h
 M_bound := fun h => h
 M_move := fun _ h => h
 M_lower := fun _ h => h
def S {α : Type} (d : Kd α) (e : Nat) (w : World) (base : Nat) (ok : Nat → Prop) (v : Value) (xs : List α) : Prop := ∃ f,(tag f d).R e w base ok v xs.zipIdx
section
variable {α β : Type} {d : Kd α} {d' : Kd β} {e e' : Nat} {w w1 W : World} {base b : Nat} {ok ok' okv oku : Nat → Prop} {u v : Value} {xs : List α} {ys : List β}
theorem J8 {xs : List α} {j : Nat} {p : α} (h : xs[j]? = some p) : xs.zipIdx[j]? = some (p,j) := by rw [List.getElem?_zipIdx,h,Nat.zero_add];rfl
theorem S_R (h : S d e w base ok v xs) : d.R e w base ok v xs := by
 obtain ⟨f,h0,inner,ho,hr⟩ := h;rw [List.length_zipIdx] at ho;exact ⟨h0,inner,ho,by have := hr.1;rw [List.length_zipIdx] at this;exact this,fun j p hj => d.M_mono (fun _ hk => hk.1) (hr.2 j (p,j) (J8 hj))⟩
theorem Vy {ad : Addr} {n cap : Nat} (h : d.R e w base ok (.slice (some ad) n cap) xs) : ∃ g,ad = ⟨g,0,none⟩ := by
 obtain ⟨_,inner,ho,hr⟩ := h
 rcases ho.2 with ⟨hv,_⟩ | ⟨g,cap',cur,hv,_⟩
 · cases hv
 · injection hv with ha _ _
   injection ha with ha
   exact ⟨g,ha⟩
theorem R_getA {ad : Addr} {n cap : Nat} (h : d.R e W base ok (.slice (some ad) n cap) xs) (z : α) (i : Int) (h0 : 0 ≤ i) (h1 : i < n) :
 ∃ c,c.length = d.sz ∧ d.M W base (fun k => ok k ∧ some k ≠ (Value.slice (some ad) n cap).ownBlock) (xs.getD i.toNat z) c ∧ ∀ j u,c[j]? = some u → W.cell? (ad.add (i.toNat * d.sz + j)) = some u := by
 obtain ⟨g,rfl⟩ := Vy h;obtain ⟨c,hcl,hM,hcc,_⟩ := Qr h z i h0 h1;refine ⟨c,hcl,d.M_mono (fun k hk => ⟨hk.1,fun he => hk.2 (by simpa [Value.ownBlock] using he)⟩) hM,fun j u hu => ?_⟩;rw [V4,Nat.zero_add];exact hcc j u hu
theorem Y6 (hE : d.E = []) (h : d.R e w base ok v xs) : d.R e w base (fun k => some k = v.ownBlock) v xs := by
 obtain ⟨h0,inner,ho,hr⟩ := h;refine ⟨fun k hk => hk.symm,inner,ho,hr.imp_ (fun p c hp => d.M_mono (fun k hk => ?_) (d.M_bound hp))⟩;obtain ⟨_,_,_,q,hq,_⟩ := hk;rw [hE] at hq
 cases hq
theorem S_nil (d : Kd α) (e : Nat) (w : World) (base : Nat) (ok : Nat → Prop) : S d e w base ok (.slice none 0 0) [] := ⟨fun _ => 0,R_nil _ _ _ _ _⟩
theorem Qp (h : S d e w base ok v xs) (hok : ∀ k,ok k → ok' k) : S d e w base ok' v xs := by
 obtain ⟨f,h⟩ := h;exact ⟨f,ZE h hok⟩
theorem S_bound (h : S d e w base ok v xs) : S d e w base (fun k => ok k ∧ base ≤ k ∧ k < w.heap.size ∧ ∃ q,q ∈ e :: d.E ∧ ∃ cells,w.heap[k]? = some (.cells cells q (0,0))) v xs := by
 obtain ⟨f,h⟩ := h;exact ⟨f,Qj h⟩
theorem S_move (h : S d e w base ok v xs) (hm : ∀ k,ok k → w1.heap[k]? = w.heap[k]?) : S d e w1 base ok v xs := by
 obtain ⟨f,h⟩ := h;exact ⟨f,Yr h hm⟩
theorem S_step (h : S d e w base ok v xs) (hm : ∀ k,ok k → k < w.heap.size → w1.heap[k]? = w.heap[k]?) : S d e w1 base ok v xs :=
 Qp (S_move (S_bound h) (fun k hk => hm k hk.1 hk.2.2.1)) (fun _ hk => hk.1)
theorem J6 (h : S d e w base ok v xs) (hb : Below w.heap.size w w1) : S d e w1 base ok v xs := S_step h (fun k _ hk => hb.block k hk)
theorem Xe (h : S d e w base ok v xs) (o : Obj) : S d e (w.alloc o) base ok v xs := J6 h (Zf (Below.refl _ _) o)
theorem Xj (h : S d e w base ok v xs) : S d e w.drew base ok v xs := J6 h (QX (Below.refl _ _))
theorem Xf (h : S d e w base ok v xs) (m : Nat) : S d e (w.drewN m) base ok v xs := J6 h (Za (Below.refl _ _) m)
theorem Y8 (h : S d e w base ok v xs) : ∀ k,v.ownBlock = some k → ∃ cells,w.heap[k]? = some (.cells cells e (0,0)) := JD (S_R h)
theorem S_elder' (h : S d e W base ok u xs) (hbase : ∀ k,v.ownBlock = some k → W.heap.size ≤ k) (hb : Below W.heap.size W w1) : S d e w1 base (fun k => ok k ∧ some k ≠ v.ownBlock) u xs := by
 obtain ⟨f,h⟩ := h;exact ⟨f,ZY h hbase hb⟩
theorem Vf {v1 : Value} (h : S d e W base (fun k => ok k ∧ some k ≠ v.ownBlock) u xs) (hg : W.grownBy w1 v.ownBlock) (hat : v1.ownBlock = v.ownBlock ∨ ∃ b,v1.ownBlock = some b ∧ W.heap.size ≤ b) : S d e w1 base (fun k => ok k ∧ some k ≠ v1.ownBlock) u xs := by
 obtain ⟨f,h⟩ := h;exact ⟨f,Xt h hg hat⟩
theorem R_tag {f f' : Nat → Nat} {zs : List (α × Nat)} (h : (tag f d).R e w base ok v zs) (hf : ∀ k,ok k → k < w.heap.size → f' k = f k) : (tag f' d).R e w base ok v zs := by
 obtain ⟨h0,inner,ho,hr⟩ := Qj h;exact ⟨fun k hk => (h0 k hk).1,inner,ho,hr.1,fun j p hj => d.M_mono (fun k hk => ⟨⟨hk.1.1.1,hk.1.2⟩,(hf k hk.1.1.1 hk.1.1.2.2.1).trans hk.2⟩) (hr.2 j p hj)⟩
end
section
variable {α β : Type} {d : Kd α} {d' : Kd β} {e e' g : Nat} {w w1 W : World} {base b : Nat} {ok ok' okv oku : Nat → Prop} {u v : Value} {xs : List α} {ys : List β}
theorem J9 (h : S d e w base ok v xs) : ∃ A c,v = .slice A xs.length c := ZS (S_R h)
theorem Qd {A : Option Addr} {n c : Nat} (h : S d e w base ok (.slice A n c) xs) : n = xs.length ∧ n ≤ c ∧ d.C w A xs.length xs := Z3 (S_R h)
theorem S_get {ad : Addr} {n cap : Nat} (h : S d e W base ok (.slice (some ad) n cap) xs) (z : α) (i : Int) (h0 : 0 ≤ i) (h1 : i < n) :
 ∃ c,c.length = d.sz ∧ d.M W base (fun k => ok k ∧ some k ≠ (Value.slice (some ad) n cap).ownBlock) (xs.getD i.toNat z) c ∧ ∀ j u,c[j]? = some u → W.cell? (ad.add (i.toNat * d.sz + j)) = some u := R_getA (S_R h) z i h0 h1
theorem zip_snoc (xs : List α) (p : α) : (xs ++ [p]).zipIdx = xs.zipIdx ++ [(p,xs.length)] := by rw [List.zipIdx_append];simp
end
section
open Classical in
theorem S_tag {α : Type} {d : Kd α} {e base : Nat} {okv : Nat → Prop} {w : World} {v : Value} {xs : List α} (h : S d e w base okv v xs) (m : Nat) (okp : Nat → Prop) (hap : ∀ k,okp k → ¬ okv k) : ∃ f,(∀ k,okp k → f k = m) ∧ (tag f d).R e w base okv v xs.zipIdx := by
 obtain ⟨f,h⟩ := h;exact ⟨fun k => if okp k then m else f k,fun k hk => if_pos hk,R_tag h (fun k hk _ => if_neg (fun h2 => hap k h2 hk))⟩
variable {P : Program} {ops : Array Oper} {rest : List Oper} {o : Oper} {a : Act} {Q : Exit → Act → World → Prop} {Kc : Act → World → Prop} {α : Type}
theorem S_append (d : Kd α) {w0 W : World} (base : Nat) (hgd : o.guard = none) (s x : Operand) (t e : TypeId) (z : Value) (bytes : Nat)
 (ho : o.op = .call { callee := .builtin .append,args := #[s,x],argTypes := #[t,t] })
 (ht : P.underlying t = some (.slice e)) (hinfo : (P.info? e).map (fun i => (i.zero,i.size,i.bytes)) = some (some z,d.sz,bytes)) (hz : z.cells.size = d.sz) (hs0 : 0 < d.sz) (hb0 : 0 < bytes)
 (v : Value) (xs : List α) (p : α) (cs : List Value) (ok okp : Nat → Prop) (hs : a.eval s = v) (hx : a.eval x = .slice (some ⟨W.heap.size,0,none⟩) 1 1) (hp : d.M W base okp p cs) (hokp : ∀ k,okp k → ok k ∧ some k ≠ v.ownBlock) (hfresh : ∀ k,W.heap.size ≤ k → ok k)
 (HO : S d e W base (fun k => ok k ∧ ¬ okp k) v xs) (HB : Below base w0 W) (hbase : base ≤ W.heap.size) (hl : (xs.length + 1) * bytes ≤ 140737488355328)
 (h : ∀ v1 w1,S d e w1 base ok v1 (xs ++ [p]) → Below base w0 w1 → W.grownBy w1 v.ownBlock → (v1.ownBlock = v.ownBlock ∨ ∃ b,v1.ownBlock = some b ∧ W.heap.size ≤ b) → wpList P ops Q rest (a.put o.dst v1) w1) :
 wpList P ops Q (o :: rest) a (W.alloc (.cells cs.toArray e)) := by
 obtain ⟨f,hf,hR⟩ := S_tag HO xs.length okp (fun _ hk h2 => h2.2 hk);refine YY (tag f d) base hgd s x t e z bytes ho ht hinfo hz hs0 hb0 v xs.zipIdx (p,xs.length) cs ok okp hs hx (d.M_mono (fun k hk => ⟨hk,hf k hk⟩) hp) hokp hfresh (ZE hR (fun _ hk => hk.1)) HB hbase (by rw [List.length_zipIdx];exact hl) ?_;intro v1 w1 hr;rw [← zip_snoc] at hr;exact h v1 w1 ⟨f,hr⟩
end
def gap {α : Type} (f : Nat → Nat) (d : Kd α) (i : Nat) (c : List Value) : Kd (α × Nat) where
 sz := d.sz
 E := d.E
 K := fun w x cs => (x.2 = i → cs = c ∧ cs.length = d.sz ∧ ∀ u ∈ cs,u.oneCell' = true) ∧ (x.2 ≠ i → d.K w x.1 cs)
 M := fun w base ok x cs => (x.2 = i → cs = c ∧ cs.length = d.sz ∧ ∀ u ∈ cs,u.oneCell' = true) ∧ (x.2 ≠ i → d.M w base (fun k => ok k ∧ f k = x.2) x.1 cs)
 K_len := fun {w x cs} h => by
  by_cases hx : x.2 = i
  · exact (h.1 hx).2.1
  · exact d.K_len (h.2 hx)
 K_one := fun {w x cs} h => by
  by_cases hx : x.2 = i
  · exact (h.1 hx).2.2
  · exact d.K_one (h.2 hx)
 K_below := fun hb h => ⟨h.1,fun hx => d.K_below hb (h.2 hx)⟩
 K_of_M := fun h => ⟨h.1,fun hx => d.K_of_M (h.2 hx)⟩
 M_mono := fun hok h => ⟨h.1,fun hx => d.M_mono (fun k hk => ⟨hok k hk.1,hk.2⟩) (h.2 hx)⟩
 M_bound := fun h => ⟨h.1,fun hx => d.M_mono (fun _ hk => ⟨⟨hk.1.1,hk.2⟩,hk.1.2⟩) (d.M_bound (h.2 hx))⟩
 M_move := fun hm h => ⟨h.1,fun hx => d.M_move (fun k hk => hm k hk.1) (h.2 hx)⟩
 M_lower := fun hb h => ⟨h.1,fun hx => d.M_lower hb (h.2 hx)⟩
def H {α : Type} (d : Kd α) (e : Nat) (w : World) (base : Nat) (ok : Nat → Prop) (v : Value) (xs : List α) (i : Int) (oki : Nat → Prop) (c : List Value) : Prop :=
 (∀ k,oki k → ok k) ∧ ∃ f,(gap f d i.toNat c).R e w base (fun k => ok k ∧ ¬ oki k) v xs.zipIdx
section
variable {α β : Type} {d : Kd α} {e e' g n cap : Nat} {w w1 W : World} {base : Nat} {ok ok' oki okp : Nat → Prop} {u v : Value} {xs : List α} {i : Int} {c : List Value}
theorem S_lend (h : S d e W base ok (.slice (some ⟨g,0,none⟩) n cap) xs) (z : α) (i : Int) (h0 : 0 ≤ i) (h1 : i < n) :
 ∃ (oki : Nat → Prop) (c : List Value),c.length = d.sz ∧ d.M W base oki (xs.getD i.toNat z) c ∧ (∀ j u,c[j]? = some u → W.cell? ⟨g,i.toNat * d.sz + j,none⟩ = some u) ∧ (∀ k,oki k → ok k ∧ k ≠ g) ∧ H d e W base ok (.slice (some ⟨g,0,none⟩) n cap) xs i oki c := by
 obtain ⟨f,hR⟩ := h;have hn := (Z3 hR).1;rw [List.length_zipIdx] at hn
 have hgo : some g = (Value.slice (some ⟨g,0,none⟩) n cap).ownBlock := by simp [Value.ownBlock]
 obtain ⟨hok0,inner,ho,hr⟩ := hR
 have hil : i.toNat < xs.length := by omega
 have hlen : inner.length = xs.length * d.sz := by have := hr.1;rw [List.length_zipIdx] at this;exact this
 have hseg : i.toNat * d.sz + d.sz ≤ inner.length := by rw [hlen,← Nat.succ_mul];exact Nat.mul_le_mul_right _ hil
 have hM := hr.2 i.toNat _ (J8 (List.getElem?_eq_getElem hil))
 have hkg : ∀ k,some k ≠ (Value.slice (some ⟨g,0,none⟩) n cap).ownBlock → k ≠ g := fun k hk he => hk (by rw [he];exact hgo)
 refine ⟨fun k => (ok k ∧ k ≠ g) ∧ f k = i.toNat,(inner.drop (i.toNat * d.sz)).take d.sz,by rw [List.length_take,List.length_drop];omega,?_,fun j u hu => ?_,fun k hk => hk.1,fun k hk => hk.1.1,f,fun k hk => ⟨hok0 k hk,fun h2 => h2.1.2 ?_⟩,inner,ho,hr.1,fun m p hm => ?_⟩
 · rw [List.getD_eq_getElem?_getD,List.getElem?_eq_getElem hil]
   exact d.M_mono (fun k hk => ⟨⟨hk.1.1,hkg k hk.1.2⟩,hk.2⟩) hM
 · rw [List.getElem?_take] at hu
   split at hu
   · rw [List.getElem?_drop] at hu
     have := ho.cells (g := g) hgo.symm _ u hu
     rwa [ZT] at this
   · cases hu
 · rw [← hgo] at hk;injection hk with hk;exact hk.symm
 · have hold := hr.2 m p hm
   have hp2 : p.2 = m := by
    rw [List.getElem?_zipIdx,Nat.zero_add] at hm;obtain ⟨q,_,rfl⟩ := Option.map_eq_some_iff.1 hm;rfl
   refine ⟨fun hx => ?_,fun hx => d.M_mono (fun k hk => ⟨⟨⟨hk.1.1,fun h2 => hx ?_⟩,hk.1.2⟩,hk.2⟩) hold⟩
   · have hmi : m = i.toNat := by omega
     subst hmi;exact ⟨rfl,d.K_len (d.K_of_M hM),d.K_one (d.K_of_M hM)⟩
   · rw [← hk.2];exact h2.2
open Classical in
theorem H_back (h : H d e w base ok v xs i oki c) {x' : α} (hM : d.M w base okp x' c) (hok : ∀ k,okp k → oki k) : S d e w base ok v (xs.set i.toNat x') := by
 obtain ⟨ho,f,h0,inner,hown,hr⟩ := h;refine ⟨fun k => if oki k then i.toNat else f k,fun k hk => (h0 k hk).1,inner,by rw [List.length_zipIdx,List.length_set];rw [List.length_zipIdx] at hown;exact hown,by have := hr.1;rw [List.length_zipIdx] at this;rw [List.length_zipIdx,List.length_set];exact this,fun m p hm => ?_⟩;rw [List.getElem?_zipIdx,Nat.zero_add] at hm;obtain ⟨q,hq,rfl⟩ := Option.map_eq_some_iff.1 hm
 have hml : m < xs.length := by
  have := (List.getElem?_eq_some_iff.1 hq).1
  rwa [List.length_set] at this
 by_cases hmi : m = i.toNat
 · subst hmi
   rw [List.getElem?_set_self hml] at hq
   injection hq with hq
   subst hq;have hc := ((hr.2 i.toNat _ (J8 (List.getElem?_eq_getElem hml))).1 rfl).1;show d.M w base _ x' ((inner.drop (i.toNat * d.sz)).take d.sz);rw [show (inner.drop (i.toNat * d.sz)).take d.sz = c from hc];exact d.M_mono (fun k hk => ⟨⟨ho k (hok k hk),fun he => (h0 k he.symm).2 (hok k hk)⟩,if_pos (hok k hk)⟩) hM
 · rw [List.getElem?_set_ne (Ne.symm hmi)] at hq
   exact d.M_mono (fun k hk => ⟨⟨hk.1.1.1,hk.1.2⟩,(if_neg hk.1.1.2).trans hk.2⟩) ((hr.2 m (q,m) (J8 hq)).2 hmi)
theorem H_step (h : H d e w base ok v xs i oki c) (hm : ∀ k,ok k → ¬ oki k → k < w.heap.size → w1.heap[k]? = w.heap[k]?) : H d e w1 base ok v xs i oki c := by
 obtain ⟨ho,f,h⟩ := h;exact ⟨ho,f,Vc h (fun k hk hlt => hm k hk.1 hk.2 hlt)⟩
theorem H_grown (h : H d e w base ok v xs i oki c) {row : Option Nat} (hg : w.grownBy w1 row) (hrow : ∀ k,row = some k → oki k) : H d e w1 base ok v xs i oki c :=
 H_step h (fun k _ hn hlt => hg.block k hlt (fun he => hn (hrow k he.symm)))
theorem S_borrow {ad : Addr} (h : S d e W base ok (.slice (some ad) n cap) xs) (z : α) (i : Int) (h0 : 0 ≤ i) (h1 : i < n) :
 ∃ (oki : Nat → Prop) (c : List Value),c.length = d.sz ∧ d.M W base oki (xs.getD i.toNat z) c ∧ (∀ j u,c[j]? = some u → W.cell? (ad.add (i.toNat * d.sz + j)) = some u) ∧ (∀ k,oki k → ok k ∧ some k ≠ (Value.slice (some ad) n cap).ownBlock) ∧
  ∀ {w1 : World} {row : Option Nat} {x' : α},W.grownBy w1 row → (∀ k,row = some k → oki k) → d.M w1 base oki x' c → S d e w1 base ok (.slice (some ad) n cap) (xs.set i.toNat x') := by
 obtain ⟨g,rfl⟩ := Vy (S_R h);obtain ⟨oki,c,hcl,hM,hcc,hoki,hH⟩ := S_lend h z i h0 h1;refine ⟨oki,c,hcl,hM,fun j u hu => ?_,fun k hk => ⟨(hoki k hk).1,fun he => (hoki k hk).2 ?_⟩,fun hg hrow hM1 => H_back (H_grown hH hg hrow) hM1 (fun _ hk => hk)⟩
 · rw [V4,Nat.zero_add]
   exact hcc j u hu
 · simpa [Value.ownBlock] using he
end
end Kd
end Go.Proofs.YthbajahklnpkcaaW.PrintWords





namespace Go.Proofs.YthbajahklnpkcaaW.PrintWords
open Go.RowKit
namespace Kd
structure Heap {α : Type} (d : Kd α) : Prop where
 K : ∀ {w w1 : World} {x : α} {cs : List Value},(∀ k,k < w.heap.size → w1.heap[k]? = w.heap[k]?) → d.K w x cs → d.K w1 x cs
theorem cell_heap {w w1 : World} (hb : ∀ k,k < w.heap.size → w1.heap[k]? = w.heap[k]?) {a : Addr} {v : Value} (h : w.cell? a = some v) : w1.cell? a = some v := by
 have := hb a.block (World.block_lt_of_cell? w a h)
 simpa [World.cell?,this] using h
theorem Heap.C {α : Type} {d : Kd α} (hd : Heap d) {w w1 : World} {A : Option Addr} {n : Nat} {xs : List α} (hb : ∀ k,k < w.heap.size → w1.heap[k]? = w.heap[k]?) (h : d.C w A n xs) : d.C w1 A n xs :=
 ⟨h.1,h.2.1,fun hn => by
  obtain ⟨ad,e,hc⟩ := h.2.2 hn;refine ⟨ad,e,fun j p hj => ?_⟩;obtain ⟨c,hs,hr,hcell⟩ := hc j p hj
  exact ⟨c,hs,hd.K hb hr,fun i u hu => cell_heap hb (hcell i u hu)⟩⟩
end Kd
end Go.Proofs.YthbajahklnpkcaaW.PrintWords

namespace Go.Proofs.YthbajahklnpkcaaW.PrintWords
open Go.RowKit
def Kept (w W : World) (S : Nat → Prop) : Prop := w.heap.size ≤ W.heap.size ∧ ∀ i,i < w.heap.size → ¬ S i → W.heap[i]? = w.heap[i]?
section
variable {w W W2 : World} {S S2 S' : Nat → Prop}
theorem Kept.refl (w : World) (S : Nat → Prop) : Kept w w S := ⟨Nat.le_refl _,fun _ _ _ => rfl⟩
theorem Kept.JG (h : Below w.heap.size w W) (S : Nat → Prop) : Kept w W S := ⟨h.size,fun i hi _ => h.block i hi⟩
theorem Kept.mono (h : Kept w W S) (hs : ∀ k,S k → S' k) : Kept w W S' := ⟨h.1,fun i hi hn => h.2 i hi (fun hk => hn (hs i hk))⟩
theorem Kept.then_ (h : Kept w W S) (k : Kept W W2 S2) (hs : ∀ k,S2 k → S k ∨ w.heap.size ≤ k) : Kept w W2 S :=
 ⟨Nat.le_trans h.1 k.1,fun i hi hn => (k.2 i (Nat.lt_of_lt_of_le hi h.1) (fun h2 => (hs i h2).elim hn (fun h3 => by omega))).trans (h.2 i hi hn)⟩
theorem Kept.below (h : Kept w W S) (hb : Below W.heap.size W W2) : Kept w W2 S := h.then_ (Kept.JG hb (fun _ => False)) (fun _ hk => hk.elim)
theorem Kept.alloc (h : Kept w W S) (o : Obj) : Kept w (W.alloc o) S := h.below (Zf (Below.refl _ _) o)
theorem Kept.drew (h : Kept w W S) : Kept w W.drew S := h
theorem Kept.drewN (h : Kept w W S) (m : Nat) : Kept w (W.drewN m) S := h
theorem Kept.setCell (h : Kept w W S) {p : Addr} (hp : S p.block ∨ w.heap.size ≤ p.block) (u : Value) : Kept w (W.setCell p u) S :=
 h.then_ (S2 := fun k => k = p.block) ⟨by simp [World.setCell],fun i _ hn => Below.heap_setCell W p u i hn⟩ (fun k hk => by rw [hk];exact hp)
theorem Kept.keep {g : Nat} (h : KeepBut w W g none) (k : Kept W W2 S2) (hs : ∀ k,S2 k → w.heap.size ≤ k) : KeepBut w W2 g none :=
 ⟨Nat.le_trans h.1 k.1,fun i hi hg hr => (k.2 i (Nat.lt_of_lt_of_le hi h.1) (fun h2 => by have := hs i h2;omega)).trans (h.2 i hi hg hr)⟩
end
end Go.Proofs.YthbajahklnpkcaaW.PrintWords

namespace Go.Proofs.YthbajahklnpkcaaW.PrintWords
open Go.RowKit
def Foot (P : World → Prop) (W : World) (ok : Nat → Prop) : Prop := ∀ W' : World,(∀ k,ok k → k < W.heap.size → W'.heap[k]? = W.heap[k]?) → P W'
theorem heap_lt {W W1 : World} {k : Nat} (h : W1.heap[k]? = W.heap[k]?) (hlt : k < W.heap.size) : k < W1.heap.size := by
 rw [Array.getElem?_eq_getElem hlt] at h;exact (Array.getElem?_eq_some_iff.1 h).1
namespace Foot
variable {P Q : World → Prop} {W W1 : World} {ok ok' : Nat → Prop}
theorem mono (h : Foot P W ok) (hok : ∀ k,ok k → ok' k) : Foot P W ok' := fun W' hW => h W' (fun k hk hlt => hW k (hok k hk) hlt)
theorem step (h : Foot P W ok) (hm : ∀ k,ok k → k < W.heap.size → W1.heap[k]? = W.heap[k]?) : Foot P W1 ok := fun W' hW => h W' (fun k hk hlt => (hW k hk (heap_lt (hm k hk hlt) hlt)).trans (hm k hk hlt))
theorem imp (h : Foot P W ok) (hi : ∀ W',P W' → Q W') : Foot Q W ok := fun W' hW => hi W' (h W' hW)
end Foot
namespace Kd
def F {α : Type} (d : Kd α) (W : World) (ok : Nat → Prop) (A : Option Addr) (n : Nat) (xs : List α) : Prop := Foot (fun W => d.C W A n xs) W ok
def FK {α : Type} (d : Kd α) (W : World) (ok : Nat → Prop) (x : α) (c : List Value) : Prop := Foot (fun W => d.K W x c) W ok
section
variable {α β : Type} {d : Kd α} {e base n n' cc g N : Nat} {ok ok' okp S : Nat → Prop} {w w0 w1 W W1 : World} {A A' : Option Addr} {u v v1 : Value} {xs : List α} {xs' : List β} {d' : Kd β} {x : α} {c : List Value}
theorem F_nil (d : Kd α) (W : World) (ok : Nat → Prop) : F d W ok none ([] : List α).length [] := fun W' _ => C_nil d W'
theorem FK_of_M (h : d.M W base ok x c) : FK d W ok x c := fun _ hW => d.K_of_M (V7 h hW)
end
end Kd
end Go.Proofs.YthbajahklnpkcaaW.PrintWords

namespace Go.Proofs.YthbajahklnpkcaaW.PrintWords
open Go.RowKit
namespace Kd
def chunks (sz : Nat) (n : Nat) (inner : List Value) : List (List Value) := (List.range n).map fun j => (inner.drop (j * sz)).take sz
theorem XS (sz n : Nat) (inner : List Value) : (chunks sz n inner).length = n := by simp [chunks]
theorem chunks_at {sz n : Nat} {inner : List Value} {j : Nat} (hj : j < n) : (chunks sz n inner)[j]? = some ((inner.drop (j * sz)).take sz) := by simp [chunks,hj]
theorem YE {sz n : Nat} {inner : List Value} {j : Nat} {c : List Value} (h : (chunks sz n inner)[j]? = some c) : c = (inner.drop (j * sz)).take sz := by
 have hj : j < n := by have := (List.getElem?_eq_some_iff.1 h).1;rwa [XS] at this
 rw [chunks_at hj] at h
 injection h with h
 exact h.symm
theorem reps_raw {α : Type} {Rr : α → List Value → Prop} {sz : Nat} {xs : List α} {inner : List Value} (h : Reps Rr sz xs inner) (hR : ∀ x c,Rr x c → c.length = sz ∧ ∀ u ∈ c,u.oneCell' = true) : Reps (fun x cs => cs = x ∧ cs.length = sz ∧ ∀ u ∈ cs,u.oneCell' = true) sz (chunks sz xs.length inner) inner := by
 refine ⟨by rw [XS];exact h.1,fun j p hj => ?_⟩
 have hjl : j < xs.length := by have := (List.getElem?_eq_some_iff.1 hj).1;rwa [XS] at this
 have hp := YE hj;exact ⟨hp.symm,hR _ _ (h.2 j _ (List.getElem?_eq_getElem hjl))⟩
section
variable {α : Type} {d : Kd α} {e base n cc g : Nat} {ok ok' okp S : Nat → Prop} {w w1 W W1 : World} {A : Option Addr} {u v v1 : Value} {xs : List α} {x : α} {c : List Value}
def N {α : Type} (d : Kd α) (e : Nat) (w : World) (base : Nat) (ok : Nat → Prop) (v : Value) (xs : List α) : Prop :=
 (∀ k,v.ownBlock = some k → ok k) ∧ ∃ rows : List (List Value),rows.length = xs.length ∧ (raw d.sz).R e w base (fun k => some k = v.ownBlock) v rows ∧ ∀ (j : Nat) (x : α) (c : List Value),xs[j]? = some x → rows[j]? = some c → FK d w (fun k => ok k ∧ some k ≠ v.ownBlock) x c
theorem R_N (h : d.R e w base ok v xs) : N d e w base ok v xs := by
 obtain ⟨h0,inner,ho,hr⟩ := h;refine ⟨h0,chunks d.sz xs.length inner,XS _ _ _,⟨fun k hk => hk.symm,inner,by rw [XS];exact ho,reps_raw hr (fun x c hp => ⟨d.K_len (d.K_of_M hp),d.K_one (d.K_of_M hp)⟩)⟩,fun j x c hx hc => ?_⟩;rw [YE hc];exact FK_of_M (hr.2 j x hx)
theorem N_nil (d : Kd α) (e : Nat) (w : World) (base : Nat) (ok : Nat → Prop) : N d e w base ok (.slice none 0 0) [] := R_N (R_nil _ _ _ _ _)
end
end Kd
end Go.Proofs.YthbajahklnpkcaaW.PrintWords





namespace Go.Proofs.YthbajahklnpkcaaW.PrintWords
open Go.RowKit
section
variable {P : Program} {d : Nat} {xs ys : Array Value} {f : Field} {fs : List Field} {a b : Value} {r s : Bool} {w : World}
theorem JV (hn : (f.name == "_") = false) (ha : (part f.type xs f.offset).run P w = .ok a w) (hb : (part f.type ys f.offset).run P w = .ok b w) (he : (Op.equalIn d f.type a b).run P w = .ok r w) : (Op.eqFields d xs ys [f]).run P w = .ok r w := by
 have hn' : f.name ≠ "_" := by simpa using hn
 simp only [Op.eqFields,if_pos hn',Sem.run_bind,ha,hb,he,Result.andThen_ok]
 cases r <;> simp
theorem Yc (hn : (f.name == "_") = false) (ha : (part f.type xs f.offset).run P w = .ok a w) (hb : (part f.type ys f.offset).run P w = .ok b w) (he : (Op.equalIn d f.type a b).run P w = .ok r w) (hr : (Op.eqFields d xs ys fs).run P w = .ok s w) : (Op.eqFields d xs ys (f :: fs)).run P w = .ok (r && s) w := by
 have hn' : f.name ≠ "_" := by simpa using hn
 rw [Op.eqFields];simp only [if_pos hn',Sem.run_bind,ha,hb,he,Result.andThen_ok]
 cases r
 · simp
 · simpa using hr
theorem V8 {t : TypeId} {fs : Array Field} (hu : P.underlying t = some (.struct fs)) (hp : P.stoodInHeld t = false) (h : (Op.eqFields d xs ys fs.toList).run P w = .ok r w) : (Op.equalIn (d + 1) t (.agg xs) (.agg ys)).run P w = .ok r w := by
 have hf : P.fieldsOf t = fs := by simp [Program.fieldsOf,hu]
 rw [run_equalIn_struct (P := P) w d t xs ys (by rw [hf];exact hu) hp,hf];exact h
end
end Go.Proofs.YthbajahklnpkcaaW.PrintWords

namespace Go.Proofs.YthbajahklnpkcaaW.PrintWords
theorem Reps.one {α : Type} {R : α → List Value → Prop} {ps : List α} {cs : List Value} {p : α} {v : Value} (hp : R p [v]) (h : Reps R 1 ps cs) : Reps R 1 (p :: ps) (v :: cs) := by
 refine ⟨by simp [h.1],fun j q hq => ?_⟩
 cases j with
 | zero =>
  simp only [List.getElem?_cons_zero,Option.some.injEq] at hq;subst hq
  simpa using hp
 | succ j =>
  simp only [List.getElem?_cons_succ] at hq;have h1 := h.2 j q hq
  simpa [Nat.mul_one] using h1
theorem Reps.front {α : Type} {R : α → List Value → Prop} {size : Nat} {ps : List α} {cs c all : List Value} {p : α} (hp : R p c) (hc : c.length = size) (h : Reps R size ps cs) (ha : c ++ cs = all) : Reps R size (p :: ps) all := by
 subst ha;refine ⟨by rw [List.length_append,hc,h.1,List.length_cons,Nat.succ_mul,Nat.add_comm],fun j q hq => ?_⟩
 cases j with
 | zero =>
  simp only [List.getElem?_cons_zero,Option.some.injEq] at hq;subst hq;rw [Nat.zero_mul,List.drop_zero,List.take_append_of_le_length (by omega),List.take_of_length_le (by omega)];exact hp
 | succ j =>
  simp only [List.getElem?_cons_succ] at hq;have h1 := h.2 j q hq;rw [Nat.succ_mul,List.drop_append,List.drop_of_length_le (by rw [hc];exact Nat.le_add_left _ _),List.nil_append,hc,Nat.add_sub_cancel];exact h1
theorem Reps.c2 {α : Type} {R : α → List Value → Prop} {ps : List α} {cs : List Value} {p : α} {va vb : Value} (hp : R p [va,vb]) (h : Reps R 2 ps cs) : Reps R 2 (p :: ps) (va :: vb :: cs) := Reps.front hp rfl h rfl
theorem Reps.c3 {α : Type} {R : α → List Value → Prop} {ps : List α} {cs : List Value} {p : α} {va vb vc : Value} (hp : R p [va,vb,vc]) (h : Reps R 3 ps cs) : Reps R 3 (p :: ps) (va :: vb :: vc :: cs) := Reps.front hp rfl h rfl
theorem Reps.c4 {α : Type} {R : α → List Value → Prop} {ps : List α} {cs : List Value} {p : α} {va vb vc vd : Value} (hp : R p [va,vb,vc,vd]) (h : Reps R 4 ps cs) : Reps R 4 (p :: ps) (va :: vb :: vc :: vd :: cs) := Reps.front hp rfl h rfl
theorem Reps.c5 {α : Type} {R : α → List Value → Prop} {ps : List α} {cs : List Value} {p : α} {va vb vc vd ve : Value} (hp : R p [va,vb,vc,vd,ve]) (h : Reps R 5 ps cs) : Reps R 5 (p :: ps) (va :: vb :: vc :: vd :: ve :: cs) := Reps.front hp rfl h rfl
theorem Reps.c6 {α : Type} {R : α → List Value → Prop} {ps : List α} {cs : List Value} {p : α} {va vb vc vd ve vf : Value} (hp : R p [va,vb,vc,vd,ve,vf]) (h : Reps R 6 ps cs) : Reps R 6 (p :: ps) (va :: vb :: vc :: vd :: ve :: vf :: cs) := Reps.front hp rfl h rfl
theorem Reps.c7 {α : Type} {R : α → List Value → Prop} {ps : List α} {cs : List Value} {p : α} {va vb vc vd ve vf vg : Value} (hp : R p [va,vb,vc,vd,ve,vf,vg]) (h : Reps R 7 ps cs) : Reps R 7 (p :: ps) (va :: vb :: vc :: vd :: ve :: vf :: vg :: cs) := Reps.front hp rfl h rfl
theorem Reps.c8 {α : Type} {R : α → List Value → Prop} {ps : List α} {cs : List Value} {p : α} {va vb vc vd ve vf vg vh : Value} (hp : R p [va,vb,vc,vd,ve,vf,vg,vh]) (h : Reps R 8 ps cs) : Reps R 8 (p :: ps) (va :: vb :: vc :: vd :: ve :: vf :: vg :: vh :: cs) := Reps.front hp rfl h rfl
theorem Reps.c9 {α : Type} {R : α → List Value → Prop} {ps : List α} {cs : List Value} {p : α} {va vb vc vd ve vf vg vh vi : Value} (hp : R p [va,vb,vc,vd,ve,vf,vg,vh,vi]) (h : Reps R 9 ps cs) : Reps R 9 (p :: ps) (va :: vb :: vc :: vd :: ve :: vf :: vg :: vh :: vi :: cs) := Reps.front hp rfl h rfl
theorem Reps.c10 {α : Type} {R : α → List Value → Prop} {ps : List α} {cs : List Value} {p : α} {va vb vc vd ve vf vg vh vi vj : Value} (hp : R p [va,vb,vc,vd,ve,vf,vg,vh,vi,vj]) (h : Reps R 10 ps cs) : Reps R 10 (p :: ps) (va :: vb :: vc :: vd :: ve :: vf :: vg :: vh :: vi :: vj :: cs) := Reps.front hp rfl h rfl
end Go.Proofs.YthbajahklnpkcaaW.PrintWords





namespace Go.Proofs.YthbajahklnpkcaaW.PrintWords
open Go.RowKit
section
variable {P : Program} {ops : Array Oper} {rest : List Oper} {o : Oper} {a : Act} {Q : Exit → Act → World → Prop} {W : World}
theorem XA (hw : Region.wanted o (yielded ops a.tmps) = true) (h : wpList P ops Q ({ o with guard := none } :: rest) a W) : wpList P ops Q (o :: rest) a W := by
 have h1 : Region.wanted { o with guard := none } (yielded ops a.tmps) = true := rfl;unfold wpList at h ⊢;rw [if_pos h1] at h;rw [if_pos hw];exact h
end
end Go.Proofs.YthbajahklnpkcaaW.PrintWords



namespace Go.Proofs.YthbajahklnpkcaaW.PrintMore
open Go.RowKit Go.Proofs.YthbajahklnpkcaaW.PrintWords
theorem ZK (k k' : IntKind) (x y : Int) : Builtin.max2 (.int k x) (.int k' y) = pure (.int k (if x < y then y else x)) := by simp only [Builtin.max2,gt_iff_lt]
theorem ZL (k k' : IntKind) (x y : Int) : Builtin.min2 (.int k x) (.int k' y) = pure (.int k (if y < x then y else x)) := by simp only [Builtin.min2]
theorem ZR (ats : Array TypeId) (ty : TypeId) (a b : Value) : Builtin.max_ ats ty #[a,b] = (Builtin.max2 a b >>= fun s => pure s) := by simp only [Builtin.max_,List.foldlM_cons,List.foldlM_nil]
theorem ZU (ats : Array TypeId) (ty : TypeId) (a b : Value) : Builtin.min_ ats ty #[a,b] = (Builtin.min2 a b >>= fun s => pure s) := by simp only [Builtin.min_,List.foldlM_cons,List.foldlM_nil]
theorem ZD (ats : Array TypeId) (ty : TypeId) (a b c : Value) : Builtin.max_ ats ty #[a,b,c] = (Builtin.max2 a b >>= fun s => Builtin.max2 s c >>= fun s => pure s) := by simp only [Builtin.max_,List.foldlM_cons,List.foldlM_nil]
theorem ZC (ats : Array TypeId) (ty : TypeId) (a b c : Value) : Builtin.min_ ats ty #[a,b,c] = (Builtin.min2 a b >>= fun s => Builtin.min2 s c >>= fun s => pure s) := by simp only [Builtin.min_,List.foldlM_cons,List.foldlM_nil]
theorem ZM (ats : Array TypeId) (ty : TypeId) (a b c d : Value) : Builtin.max_ ats ty #[a,b,c,d] = (Builtin.max2 a b >>= fun s => Builtin.max2 s c >>= fun s => Builtin.max2 s d >>= fun s => pure s) := by simp only [Builtin.max_,List.foldlM_cons,List.foldlM_nil]
theorem ZN (ats : Array TypeId) (ty : TypeId) (a b c d : Value) : Builtin.min_ ats ty #[a,b,c,d] = (Builtin.min2 a b >>= fun s => Builtin.min2 s c >>= fun s => Builtin.min2 s d >>= fun s => pure s) := by simp only [Builtin.min_,List.foldlM_cons,List.foldlM_nil]
end Go.Proofs.YthbajahklnpkcaaW.PrintMore
namespace Go.Proofs.YthbajahklnpkcaaW.PrintWords
open Go.RowKit
section
variable {P : Program} {ops : Array Oper} {rest : List Oper} {o : Oper} {a : Act} {Q : Exit → Act → World → Prop} {W : World}
theorem Zw {f : FuncId} {as_ : Array Operand} {ts : Array TypeId} (_ho : o.op = .call { callee := .value (.func f),args := as_,argTypes := ts }) (h : wpList P ops Q (o :: rest) a W) : wpList P ops Q (o :: rest) a W := h
theorem Qq {b : Builtin} {xs : Array Operand} {ts : Array TypeId} (_ho : o.op = .call { callee := .builtin b,args := xs,argTypes := ts }) (h : wpList P ops Q (o :: rest) a W) : wpList P ops Q (o :: rest) a W := h
end
def mx (a b : Int) : Int := if a < b then b else a
theorem YO (w : World) (n : Nat) : w.drewN n = w.drewN n := rfl
namespace Kd
section
variable {α : Type} {d : Kd α} {e base : Nat} {ok : Nat → Prop} {W w1 : World} {v : Value} {xs : List α}
theorem R_far1 (h : d.R e W base ok v xs) (hE : d.E = []) {g : Nat} (hne : some g ≠ v.ownBlock) : d.R e W base (fun k => ok k ∧ k ≠ g) v xs :=
 ZE (Y6 hE h) (fun k hk => ⟨h.1 k hk.symm,fun e_ => hne (by rw [← e_];exact hk)⟩)
end
end Kd
end Go.Proofs.YthbajahklnpkcaaW.PrintWords
namespace Go.Proofs.YthbajahklnpkcaaW.PrintWords
open Go.RowKit
namespace Kd
def V {α : Type} (d : Kd α) (_e : Nat) (W : World) (_base : Nat) (ok : Nat → Prop) (v : Value) (xs : List α) : Prop := ∃ A c,v = .slice A xs.length c ∧ xs.length ≤ c ∧ F d W ok A xs.length xs
section
variable {α β : Type} {d : Kd α} {e base base' n m c g N' lo hi : Nat} {ok ok' S : Nat → Prop} {w W w1 : World} {A : Option Addr} {ad : Addr} {u v v1 : Value} {xs : List α}
theorem V_nil (d : Kd α) (e : Nat) (W : World) (base : Nat) (ok : Nat → Prop) : V d e W base ok (.slice none 0 0) [] := ⟨none,0,rfl,Nat.le_refl _,F_nil d W ok⟩
end
end Kd
end Go.Proofs.YthbajahklnpkcaaW.PrintWords

namespace Go.Proofs.Ythbajahklnpkcaa.PA
open Go.RowKit Go.Proofs.YthbajahklnpkcaaW.PrintWords Go.Proofs.YthbajahklnpkcaaW.PrintLast Go.Proofs.YthbajahklnpkcaaW.PrintMore
attribute [local go_sem] ZK ZL ZR ZU ZD ZC ZM ZN
set_option linter.unusedVariables false
set_option linter.unusedSimpArgs false
def errW : Option Int → Value
 | none => .nilIface
 | some c => .iface 0 (.int .i64 c)
theorem Zu : errW none = .nilIface := rfl
theorem Zt (c : Int) : errW (some c) = .iface 0 (.int .i64 c) := rfl
theorem info3 : (Try.prog.info? 3).map (fun i => (i.zero,i.size,i.bytes)) = some (some (.int .i64 0),1,8) := by kernel_rfl
theorem info22 : (Try.prog.info? 22).map (fun i => (i.zero,i.size,i.bytes)) = some (some (.slice none 0 0),1,24) := by kernel_rfl
theorem info43 : (Try.prog.info? 43).map (fun i => (i.zero,i.size,i.bytes)) = some (some (.agg #[(.int .i64 0),(.int .i64 0),(.int .i64 0),(.int .i64 0)]),4,32) := by kernel_rfl
structure S43 where
 f0 : Int
 f1 : Int
 f2 : Int
 f3 : Int
def z43 : S43 := ⟨(0 : Int),(0 : Int),(0 : Int),(0 : Int)⟩
def k43 : Kd S43 := Kd.iso (Kd.pair (Kd.int .i64) (Kd.pair (Kd.int .i64) (Kd.pair (Kd.int .i64) (Kd.int .i64)))) (fun x : S43 => (x.f0,x.f1,x.f2,x.f3))
theorem k43_open {w : World} {x : S43} {cs : List Value} (h : k43.K w x cs) : cs = [.int .i64 x.f0,.int .i64 x.f1,.int .i64 x.f2,.int .i64 x.f3] := by
 obtain ⟨_,_,rfl,rfl,⟨_,_,rfl,rfl,⟨_,_,rfl,rfl,rfl⟩⟩⟩ := h;exact rfl
theorem XQ {w : World} {base : Nat} {ok : Nat → Prop} {x : S43} {cs : List Value} (h : k43.M w base ok x cs) : cs = [.int .i64 x.f0,.int .i64 x.f1,.int .i64 x.f2,.int .i64 x.f3] := by
 obtain ⟨_,_,rfl,rfl,⟨_,_,rfl,rfl,⟨_,_,rfl,rfl,rfl⟩⟩⟩ := h;exact rfl
theorem k43_mk (w : World) (x : S43)  : k43.K w x [.int .i64 x.f0,.int .i64 x.f1,.int .i64 x.f2,.int .i64 x.f3] := ⟨[.int .i64 x.f0],[.int .i64 x.f1,.int .i64 x.f2,.int .i64 x.f3],rfl,rfl,⟨[.int .i64 x.f1],[.int .i64 x.f2,.int .i64 x.f3],rfl,rfl,⟨[.int .i64 x.f2],[.int .i64 x.f3],rfl,rfl,rfl⟩⟩⟩
theorem Xs (w : World) (base : Nat) (ok : Nat → Prop) (x : S43)  : k43.M w base ok x [.int .i64 x.f0,.int .i64 x.f1,.int .i64 x.f2,.int .i64 x.f3] := ⟨[.int .i64 x.f0],[.int .i64 x.f1,.int .i64 x.f2,.int .i64 x.f3],rfl,rfl,⟨[.int .i64 x.f1],[.int .i64 x.f2,.int .i64 x.f3],rfl,rfl,⟨[.int .i64 x.f2],[.int .i64 x.f3],rfl,rfl,rfl⟩⟩⟩
def Ze (xs : List S43) (i : Int) : S43 := xs.getD i.toNat z43
theorem Z4 {w : World} {A : Option Addr} {n : Nat} {xs : List S43} (h : Kd.C k43 w A n xs) (i : Int) (h0 : 0 ≤ i) (h1 : i < n) : ∃ ad ,A = some ad ∧ w.cell? (ad.add (i.toNat * 4)) = some (.int .i64 (Ze xs i).f0) ∧ w.cell? ⟨(ad.add (i.toNat * 4)).block,(ad.add (i.toNat * 4)).off + 1,none⟩ = some (.int .i64 (Ze xs i).f1) ∧ w.cell? ⟨(ad.add (i.toNat * 4)).block,(ad.add (i.toNat * 4)).off + 2,none⟩ = some (.int .i64 (Ze xs i).f2) ∧ w.cell? ⟨(ad.add (i.toNat * 4)).block,(ad.add (i.toNat * 4)).off + 3,none⟩ = some (.int .i64 (Ze xs i).f3) := by
 obtain ⟨ad,c,e,_,hK,hc0⟩ := Kd.C_get h z43 i h0 h1;have hc : ∀ j u,c[j]? = some u → w.cell? (ad.add (i.toNat * 4 + j)) = some u := hc0;obtain rfl := k43_open hK;exact ⟨ad,e,hc 0 _ rfl,by rw [← QJ _ _ 1 (by omega)];exact hc 1 _ rfl,by rw [← QJ _ _ 2 (by omega)];exact hc 2 _ rfl,by rw [← QJ _ _ 3 (by omega)];exact hc 3 _ rfl⟩
def rd_L2 (xs : List (List S43)) (i : Int) : (List S43) := xs.getD i.toNat ([] : List S43)
theorem at_L2 {w : World} {A : Option Addr} {n : Nat} {xs : List (List S43)} (h : Kd.C (Kd.slice 43 k43) w A n xs) (i : Int) (h0 : 0 ≤ i) (h1 : i < n) : ∃ ad A0 c0,A = some ad ∧ w.cell? (ad.add i.toNat) = some (.slice A0 (rd_L2 xs i).length c0) ∧ (rd_L2 xs i).length ≤ c0 ∧ k43.C w A0 (rd_L2 xs i).length (rd_L2 xs i) := by
 obtain ⟨ad,c,e,_,hK,hc0⟩ := Kd.C_get h ([] : List S43) i h0 h1;have hc : ∀ j u,c[j]? = some u → w.cell? (ad.add (i.toNat * 1 + j)) = some u := hc0;obtain ⟨A0,c0,rfl,l0,g0⟩ := hK;exact ⟨ad,A0,c0,e,by have hq := hc 0 _ rfl;rwa [Nat.mul_one,Nat.add_zero] at hq,l0,g0⟩
structure S145 where
 f0 : Int
 f1 : Int
def z145 : S145 := ⟨(0 : Int),(0 : Int)⟩
def k145 : Kd S145 := Kd.iso (Kd.pair (Kd.int .i64) (Kd.int .i64)) (fun x : S145 => (x.f0,x.f1))
theorem k145_open {w : World} {x : S145} {cs : List Value} (h : k145.K w x cs) : cs = [.int .i64 x.f0,.int .i64 x.f1] := by
 obtain ⟨_,_,rfl,rfl,rfl⟩ := h;exact rfl
theorem k145_mkM (w : World) (base : Nat) (ok : Nat → Prop) (x : S145)  : k145.M w base ok x [.int .i64 x.f0,.int .i64 x.f1] := ⟨[.int .i64 x.f0],[.int .i64 x.f1],rfl,rfl,rfl⟩
def X4 (xs : List S145) (i : Int) : S145 := xs.getD i.toNat z145
theorem Y9 {w : World} {A : Option Addr} {n : Nat} {xs : List S145} (h : Kd.C k145 w A n xs) (i : Int) (h0 : 0 ≤ i) (h1 : i < n) : ∃ ad ,A = some ad ∧ w.cell? (ad.add (i.toNat * 2)) = some (.int .i64 (X4 xs i).f0) ∧ w.cell? ⟨(ad.add (i.toNat * 2)).block,(ad.add (i.toNat * 2)).off + 1,none⟩ = some (.int .i64 (X4 xs i).f1) := by
 obtain ⟨ad,c,e,_,hK,hc0⟩ := Kd.C_get h z145 i h0 h1;have hc : ∀ j u,c[j]? = some u → w.cell? (ad.add (i.toNat * 2 + j)) = some u := hc0;obtain rfl := k145_open hK;exact ⟨ad,e,hc 0 _ rfl,by rw [← QJ _ _ 1 (by omega)];exact hc 1 _ rfl⟩
structure S49 where
 f0 : Int
 f1 : Int
 f2 : Int
 f3 : Int
 f4 : ByteArray
structure S34 where
 f0 : Int
 f1 : (List Int)
structure S94 where
 f0 : Int
 f1 : Int
 f2 : Int
structure S114 where
 f0 : S43
 f1 : ByteArray
end Go.Proofs.Ythbajahklnpkcaa.PA

namespace Go.Proofs.Ythbajahklnpkcaa
open Go.ChangeShapes Go.WideShapes Go.Deep
set_option linter.unusedVariables false
section
variable {H : Type} {enc : TypeId × Value → H} {P : Program} {w : World} {base : Nat} {spare : Nat → Bool} {held : Bool}
theorem open_slice_fields {t e : TypeId} {fs : Array Field} {fuel : Nat} {cs : List Value} {x : DataW H × List MemPlace} (ht : P.underlying t = some (.slice e)) (he : P.underlying e = some (.struct fs))
 (hone : oneCellFields P fs = true) (hC : P.cellsOf e = fs.size) (h : DataW.trod enc P w base spare held fuel t cs = some x) :
 (cs = [.slice none 0 0] ∧ x = (.nil,[])) ∨
 ∃ (a : Addr) (len cap m : Nat) (D : Nat → DataW H) (Pl : Nat → List MemPlace),cs = [.slice (some a) len cap] ∧ base ≤ a.block ∧ len ≤ cap ∧ cap ≤ maxLen ∧ m = (if spare a.block then cap else len) ∧
  x = (.slice ((List.range len).map D) ((List.range (m - len)).map fun j => D (len + j)),MemPlace.row a (m * fs.size) ++ (List.range m).flatMap Pl) ∧
  ∀ i,i < m → ∃ (ys : List (DataW H × List MemPlace)) (n : Nat),D i = .agg (ys.map (·.1)) ∧ Pl i = ys.flatMap (·.2) ∧ ys.length = fs.size ∧
   ∀ (j : Nat) (f : Field),fs[j]? = some f → ∃ (v : Value) (y : DataW H × List MemPlace),w.cell? (a.add (i * fs.size + j)) = some v ∧ ys[j]? = some y ∧ DataW.trod enc P w base spare held n f.type [v] = some y := by
 rcases open_slice ht h with h0 | ⟨a,len,cap,m,n,D,Pl,hcs,hb,hl,hm,hmm,hx,hi⟩
 · exact .inl h0
 · refine .inr ⟨a,len,cap,m,D,Pl,hcs,hb,hl,hm,hmm,by rw [hC] at hx;exact hx,fun i him => ?_⟩
   obtain ⟨cs',hc,ht'⟩ := hi i him;rw [hC] at hc;obtain ⟨ys,n',hn',hy,hlen,hyl,hf⟩ := DataW.trod_struct he ht';obtain ⟨_,hcl,hat⟩ := World.cells?_some hc;simp only [Prod.mk.injEq] at hy;refine ⟨ys,n',hy.1,hy.2,hyl,fun j f hj => ?_⟩;obtain ⟨ho,hk⟩ := hone_of hone j f hj;have hjl : j < fs.size := (Array.getElem?_eq_some_iff.1 hj).1;have hcell := hat j hjl;have hv : cs'[j]? = some (cs'[j]'(by omega)) := List.getElem?_eq_getElem (by omega);have h1 := hf j f hj;rw [ho,hk] at h1
   have hone' : (cs'.drop j).take 1 = [cs'[j]'(by omega)] := by
    rw [List.drop_eq_getElem_cons (by omega)];rfl
   rw [hone'] at h1;have hys : ys[j]? = some (ys[j]'(by omega)) := List.getElem?_eq_getElem (by omega);refine ⟨_,_,?_,hys,h1.trans hys⟩;rw [← Go.Deep.add_add,hcell,hv]
theorem open_rects {t e : TypeId} {f0 f1 f2 f3 : Field} {fuel : Nat} {a : Option Addr} {len cap : Nat} {x : DataW H × List MemPlace} (ht : P.underlying t = some (.slice e)) (he : P.underlying e = some (.struct #[f0,f1,f2,f3]))
 (hone : oneCellFields P #[f0,f1,f2,f3] = true) (hC : P.cellsOf e = 4) (h0 : P.underlying f0.type = some (.int .i64)) (h1 : P.underlying f1.type = some (.int .i64)) (h2 : P.underlying f2.type = some (.int .i64)) (h3 : P.underlying f3.type = some (.int .i64))
 (h : DataW.trod enc P w base spare held fuel t [.slice a len cap] = some x) : ∃ zs : List PA.S43,zs.length = len ∧ len ≤ cap ∧ (∀ p ∈ zs,(Lit.int .i64 p.f0).wf = true ∧ (Lit.int .i64 p.f1).wf = true ∧ (Lit.int .i64 p.f2).wf = true ∧ (Lit.int .i64 p.f3).wf = true) ∧
  (0 < len → ∃ ad,a = some ad ∧ ∀ j p,zs[j]? = some p → ∀ i u,[Value.int .i64 p.f0,.int .i64 p.f1,.int .i64 p.f2,.int .i64 p.f3][i]? = some u → w.cell? (ad.add (j * 4 + i)) = some u) ∧ len ≤ 9223372036854775807 := by
 rcases open_slice_fields ht he hone hC h with ⟨hcs,_⟩ | ⟨ad,l,c,m,D,Pl,hcs,_,hl,hm,hmm,_,hi⟩
 · simp at hcs
   obtain ⟨rfl,rfl,rfl⟩ := hcs;exact ⟨[],rfl,by omega,by simp,fun h => absurd h (Nat.lt_irrefl 0),by omega⟩
 · simp at hcs
   obtain ⟨rfl,rfl,rfl⟩ := hcs
   have hlm : len ≤ m := by rw [hmm];split <;> omega
   have key : ∀ i,i < len → ∃ p : PA.S43,((Lit.int .i64 p.f0).wf = true ∧ (Lit.int .i64 p.f1).wf = true ∧ (Lit.int .i64 p.f2).wf = true ∧ (Lit.int .i64 p.f3).wf = true) ∧ ∀ k u,[Value.int .i64 p.f0,.int .i64 p.f1,.int .i64 p.f2,.int .i64 p.f3][k]? = some u → w.cell? (ad.add (i * 4 + k)) = some u := by
    intro i hil;obtain ⟨ys,n,_,_,hy,hf⟩ := hi i (by omega);obtain ⟨v0,y0,c0,_,t0⟩ := hf 0 f0 rfl;obtain ⟨v1,y1,c1,_,t1⟩ := hf 1 f1 rfl;obtain ⟨v2,y2,c2,_,t2⟩ := hf 2 f2 rfl;obtain ⟨v3,y3,c3,_,t3⟩ := hf 3 f3 rfl;obtain ⟨p0,e0,_,w0⟩ := DataW.trod_int h0 t0;obtain ⟨p1,e1,_,w1⟩ := DataW.trod_int h1 t1;obtain ⟨p2,e2,_,w2⟩ := DataW.trod_int h2 t2;obtain ⟨p3,e3,_,w3⟩ := DataW.trod_int h3 t3;simp only [List.cons.injEq,and_true] at e0 e1 e2 e3;subst e0 e1 e2 e3;refine ⟨⟨p0,p1,p2,p3⟩,⟨w0,w1,w2,w3⟩,fun k u hk => ?_⟩
    match k with
    | 0 => simp at hk;subst hk;exact c0
    | 1 => simp at hk;subst hk;exact c1
    | 2 => simp at hk;subst hk;exact c2
    | 3 => simp at hk;subst hk;exact c3
    | k + 4 => simp at hk
   have key2 : ∀ n,n ≤ len → ∃ zs : List PA.S43,zs.length = n ∧ (∀ p ∈ zs,(Lit.int .i64 p.f0).wf = true ∧ (Lit.int .i64 p.f1).wf = true ∧ (Lit.int .i64 p.f2).wf = true ∧ (Lit.int .i64 p.f3).wf = true) ∧ ∀ j p,zs[j]? = some p → ∀ k u,[Value.int .i64 p.f0,.int .i64 p.f1,.int .i64 p.f2,.int .i64 p.f3][k]? = some u → w.cell? (ad.add (j * 4 + k)) = some u := by
    intro n
    induction n with
    | zero => intro _;exact ⟨[],rfl,by simp,by simp⟩
    | succ n ih =>
     intro hn;obtain ⟨zs,hz,hw,hc⟩ := ih (by omega);obtain ⟨p,hwp,hp⟩ := key n (by omega);refine ⟨zs ++ [p],by simp [hz],?_,?_⟩
     · intro q hq
       rcases List.mem_append.1 hq with hq | hq
       · exact hw q hq
       · rw [List.mem_singleton.1 hq];exact hwp
     · intro j q hj
       by_cases hjn : j < n
       · rw [List.getElem?_append_left (by omega)] at hj
         exact hc j q hj
       · have hj2 := (List.getElem?_eq_some_iff.1 hj).1
         simp [hz] at hj2
         obtain rfl : j = n := by omega
         rw [List.getElem?_append_right (by omega)] at hj;simp [hz] at hj;subst hj;exact hp
   obtain ⟨zs,hz,hw,hc⟩ := key2 len (Nat.le_refl _);exact ⟨zs,hz,hl,hw,fun _ => ⟨ad,rfl,hc⟩,by unfold maxLen at hm;omega⟩
theorem rects_C {a : Option Addr} {len : Nat} {zs : List PA.S43} (hz : zs.length = len) (hl : len ≤ 9223372036854775807) (hc : 0 < len → ∃ ad,a = some ad ∧ ∀ j p,zs[j]? = some p → ∀ i u,[Value.int .i64 p.f0,.int .i64 p.f1,.int .i64 p.f2,.int .i64 p.f3][i]? = some u → w.cell? (ad.add (j * 4 + i)) = some u) :
 Go.Proofs.YthbajahklnpkcaaW.PrintWords.Kd.C PA.k43 w a zs.length zs := by
 refine ⟨rfl,by omega,fun hp => ?_⟩;obtain ⟨ad,e,hc⟩ := hc (by omega);exact ⟨ad,e,fun j p hj => ⟨_,rfl,PA.k43_mk w _,hc j p hj⟩⟩
end
end Go.Proofs.Ythbajahklnpkcaa

namespace Go.Proofs.Ythbajahklnpkcaa.PA
open Go.Shelf Go.Proofs
def sortL_ren : Go.Shelf.Ren := ⟨fun | 5 => 142 | 8 => 145 | 7 => 144 | 19 => 155 | 20 => 156 | 10 => 146 | 11 => 147 | 12 => 148 | 13 => 149 | 14 => 150 | 15 => 151 | 16 => 152 | 17 => 153 | 18 => 154 | 30 => 157 | 31 => 158 | 32 => 159 | 33 => 160 | 34 => 161 | 35 => 162 | 40 => 163 | n => n,fun | 23 => 32 | 25 => 3 | 3 => 3 | 32 => 173 | 22 => 32 | 0 => 0 | 44 => 184 | 46 => 186 | 4 => 4 | 36 => 176 | 35 => 175 | 41 => 181 | 5 => 5 | 9 => 9 | 53 => 187 | 57 => 191 | 63 => 193 | 64 => 164 | n => n,fun | n => n⟩
theorem sortL : Go.Proofs.SlLaysM.n5 Try.prog sortL_ren := {
 mixed := by kernel_rfl
 f5 := ⟨Try.f142.name,by decide,Try.func142.trans (congrArg some (by kernel_rfl))⟩
 f7 := ⟨Try.f144.name,by decide,Try.func144.trans (congrArg some (by kernel_rfl))⟩
 f8 := Try.func145.trans (congrArg some (by kernel_rfl))
 f10 := ⟨Try.f146.name,by decide,Try.func146.trans (congrArg some (by kernel_rfl))⟩
 f11 := ⟨Try.f147.name,by decide,Try.func147.trans (congrArg some (by kernel_rfl))⟩
 f12 := ⟨Try.f148.name,by decide,Try.func148.trans (congrArg some (by kernel_rfl))⟩
 f13 := ⟨Try.f149.name,by decide,Try.func149.trans (congrArg some (by kernel_rfl))⟩
 f14 := ⟨Try.f150.name,by decide,Try.func150.trans (congrArg some (by kernel_rfl))⟩
 f15 := ⟨Try.f151.name,by decide,Try.func151.trans (congrArg some (by kernel_rfl))⟩
 f16 := ⟨Try.f152.name,by decide,Try.func152.trans (congrArg some (by kernel_rfl))⟩
 f17 := ⟨Try.f153.name,by decide,Try.func153.trans (congrArg some (by kernel_rfl))⟩
 f18 := ⟨Try.f154.name,by decide,Try.func154.trans (congrArg some (by kernel_rfl))⟩
 f19 := Try.func155.trans (congrArg some (by kernel_rfl))
 f20 := Try.func156.trans (congrArg some (by kernel_rfl))
 f30 := ⟨Try.f157.name,by decide,Try.func157.trans (congrArg some (by kernel_rfl))⟩
 f31 := Try.func158.trans (congrArg some (by kernel_rfl))
 f32 := Try.func159.trans (congrArg some (by kernel_rfl))
 f33 := ⟨Try.f160.name,by decide,Try.func160.trans (congrArg some (by kernel_rfl))⟩
 f34 := ⟨Try.f161.name,by decide,Try.func161.trans (congrArg some (by kernel_rfl))⟩
 f35 := ⟨Try.f162.name,by decide,Try.func162.trans (congrArg some (by kernel_rfl))⟩
 f40 := ⟨Try.f163.name,by decide,Try.func163.trans (congrArg some (by kernel_rfl))⟩
 t0 := Try.underlying0
 a0 := Try.isAgg0
 z0 := Try.sizeOf0
 v0 := Try.zeroValue0
 t3 := Try.underlying3
 a3 := Try.isAgg3
 z3 := Try.sizeOf3
 v3 := Try.zeroValue3
 t4 := Try.underlying4
 a4 := Try.isAgg4
 z4 := Try.sizeOf4
 v4 := Try.zeroValue4
 t5 := Try.underlying5
 a5 := Try.isAgg5
 z5 := Try.sizeOf5
 v5 := Try.zeroValue5
 t9 := Try.underlying9
 a9 := Try.isAgg9
 z9 := Try.sizeOf9
 v9 := Try.zeroValue9
 t22 := Try.underlying32
 a22 := Try.isAgg32
 z22 := Try.sizeOf32
 v22 := Try.zeroValue32
 t23 := Try.underlying32
 a23 := Try.isAgg32
 z23 := Try.sizeOf32
 v23 := Try.zeroValue32
 t25 := Try.underlying3
 a25 := Try.isAgg3
 z25 := Try.sizeOf3
 v25 := Try.zeroValue3
 t32 := Try.underlying173
 a32 := Try.isAgg173
 z32 := Try.sizeOf173
 v32 := Try.zeroValue173
 t35 := Try.underlying175
 a35 := Try.isAgg175
 z35 := Try.sizeOf175
 v35 := Try.zeroValue175
 t36 := Try.underlying176
 a36 := Try.isAgg176
 z36 := Try.sizeOf176
 v36 := Try.zeroValue176
 t41 := Try.underlying181
 a41 := Try.isAgg181
 z41 := Try.sizeOf181
 v41 := Try.zeroValue181
 t44 := Try.underlying184
 a44 := Try.isAgg184
 z44 := Try.sizeOf184
 v44 := Try.zeroValue184
 t46 := Try.underlying186
 a46 := Try.isAgg186
 z46 := Try.sizeOf186
 v46 := Try.zeroValue186
 t53 := Try.underlying187
 a53 := Try.isAgg187
 z53 := Try.sizeOf187
 v53 := Try.zeroValue187
 t57 := Try.underlying191
 a57 := Try.isAgg191
 z57 := Try.sizeOf191
 v57 := Try.zeroValue191
 t63 := Try.underlying193
 a63 := Try.isAgg193
 z63 := Try.sizeOf193
 v63 := Try.zeroValue193
 t64 := Try.underlying164
 a64 := Try.isAgg164
 z64 := Try.sizeOf164
 v64 := Try.zeroValue164 }
def compactL_ren : Go.Shelf.Ren := ⟨fun | 43 => 143 | n => n,fun | 22 => 32 | 23 => 3 | 3 => 3 | 4 => 4 | 0 => 0 | n => n,fun | n => n⟩
theorem compactL : Go.Proofs.SlLaysN.n43 Try.prog compactL_ren := {
 mixed := by kernel_rfl
 f43 := ⟨Try.f143.name,by decide,Try.func143.trans (congrArg some (by kernel_rfl))⟩
 t0 := Try.underlying0
 a0 := Try.isAgg0
 z0 := Try.sizeOf0
 v0 := Try.zeroValue0
 t3 := Try.underlying3
 a3 := Try.isAgg3
 z3 := Try.sizeOf3
 v3 := Try.zeroValue3
 t4 := Try.underlying4
 a4 := Try.isAgg4
 z4 := Try.sizeOf4
 v4 := Try.zeroValue4
 t22 := Try.underlying32
 a22 := Try.isAgg32
 z22 := Try.sizeOf32
 v22 := Try.zeroValue32
 t23 := Try.underlying3
 a23 := Try.isAgg3
 z23 := Try.sizeOf3
 v23 := Try.zeroValue3
 i23 := by kernel_rfl }
def Ym : Go.Shelf.Ren := ⟨fun | 4 => 137 | n => n,fun | 22 => 22 | 25 => 43 | 3 => 3 | 4 => 4 | 9 => 9 | 20 => 20 | 0 => 0 | n => n,fun | n => n⟩
theorem growL : Go.Proofs.Lays8.n4 Try.prog Ym := {
 mixed := by kernel_rfl
 f4 := ⟨Try.f137.name,by decide,Try.func137.trans (congrArg some (by kernel_rfl))⟩
 t0 := Try.underlying0
 a0 := Try.isAgg0
 z0 := Try.sizeOf0
 v0 := Try.zeroValue0
 t3 := Try.underlying3
 a3 := Try.isAgg3
 z3 := Try.sizeOf3
 v3 := Try.zeroValue3
 t4 := Try.underlying4
 a4 := Try.isAgg4
 z4 := Try.sizeOf4
 v4 := Try.zeroValue4
 t9 := Try.underlying9
 a9 := Try.isAgg9
 z9 := Try.sizeOf9
 v9 := Try.zeroValue9
 t20 := Try.underlying20
 a20 := Try.isAgg20
 z20 := Try.sizeOf20
 v20 := Try.zeroValue20
 t22 := Try.underlying22
 a22 := Try.isAgg22
 z22 := Try.sizeOf22
 v22 := Try.zeroValue22 }
end Go.Proofs.Ythbajahklnpkcaa.PA

set_option linter.unusedVariables false
namespace Go.Proofs.Ythbajahklnpkcaa
open Go.RowKit
def Blk (W : World) (b : Nat) (cs : Array Value) (t : TypeId) : Prop := W.heap[b]? = some (.cells cs t (0,0))
section
variable {W W' : World} {b : Nat} {cs : Array Value} {t : TypeId}
theorem Blk.lt (h : Blk W b cs t) : b < W.heap.size := (Array.getElem?_eq_some_iff.1 h).1
theorem Blk.cell (h : Blk W b cs t) (j : Nat) {v : Value} (hv : cs[j]? = some v) : W.cell? ⟨b,j,none⟩ = some v := by
 unfold Blk at h;simp [World.cell?,h,hv]
theorem Blk.frozen (h : Blk W b cs t) (j : Nat) : W.frozen? ⟨b,j,none⟩ = false := by
 unfold Blk at h;simp [World.frozen?,h]
theorem Blk.same (h : Blk W b cs t) (e : W'.heap[b]? = W.heap[b]?) : Blk W' b cs t := by unfold Blk at *;rw [e];exact h
theorem Blk.below (h : Blk W b cs t) {B : Nat} (hb : Below B W W') (hlt : b < B) : Blk W' b cs t := h.same (hb.block b hlt)
theorem Blk.X5 (h : Blk W b cs t) (hb : Below W.heap.size W W') : Blk W' b cs t := h.same (hb.block b h.lt)
theorem Blk.alloc (h : Blk W b cs t) (o : Obj) : Blk (W.alloc o) b cs t := h.same (Below.heap_alloc W o b h.lt)
theorem Blk.drew (h : Blk W b cs t) : Blk W.drew b cs t := h
theorem Blk.drewN (h : Blk W b cs t) (n : Nat) : Blk (W.drewN n) b cs t := h
theorem Blk.new (W : World) (cs : Array Value) (t : TypeId) : Blk (W.alloc (.cells cs t)) W.heap.size cs t := World.alloc_heap_new W _
theorem Blk.other (h : Blk W b cs t) {a : Addr} (u : Value) (hne : b ≠ a.block) : Blk (W.setCell a u) b cs t := h.same (Below.heap_setCell W a u b hne)
theorem Blk.set (h : Blk W b cs t) (j : Nat) (u : Value) : Blk (W.setCell ⟨b,j,none⟩ u) b (cs.setIfInBounds j u) t := by
 unfold Blk at *
 simp [World.setCell,Array.getElem?_modify,h]
theorem Blk.kept (h : Blk W b cs t) {row : Option Nat} (hg : W.grownBy W' row) (hr : ∀ r,row = some r → ∃ o : Obj,W.heap[r]? = some o ∧ o.isCells = false) : Blk W' b cs t := by
 refine h.same (hg.block b h.lt ?_);intro e;obtain ⟨o,ho,hc⟩ := hr b e.symm;unfold Blk at h;rw [h] at ho
 cases ho
 simp [Obj.isCells] at hc
theorem Blk.put (h : Blk W b cs t) {l : Nat} {o o' : Obj} (hl : W.heap[l]? = some o) (ho : o.isCells = false) : Blk (W.putObj l o') b cs t :=
 h.kept (grownBy_putObj' W l o') (fun r e => by cases e;exact ⟨o,hl,ho⟩)
end
end Go.Proofs.Ythbajahklnpkcaa

namespace Go
open Go.RowKit
set_option linter.unusedVariables false
variable {F : Fence} {n : Nat} {P : Program}
def offPost {α : Type} (I : List α → World → Prop) (Kt : World → World → Prop) (xs : List α) (W : World) : Exit → Act → World → Prop
 | .normal,_,W' => KeepsOthers W W' ∧ I xs W' ∧ Kt W W'
 | _,_,_ => False
def IterQ {α : Type} (F : Fence) (n : Nat) (P : Program) (g : Nat) (lb : Array Value) (Enc : World → α → Array Value → Prop) (all : List α) (Kt Ti : World → World → Prop) (w : World) : Prop :=
 ∀ (l : Nat) (J : List α → World → Prop) (W : World),Kt w W → (∀ pre A B,J pre A → Ti A B → J pre B) →
  (∀ pre x args W1,J pre W1 → Enc W1 x args → (∃ rest,pre ++ x :: rest = all) → YieldAt F (n - 1) P l args W1 fun e W' => e = .returned (.bool true) ∧ J (pre ++ [x]) W' ∧ Kt W1 W') →
  J [] W → CallsIn F n P g (#[.func (.yield l) #[] #[]] ++ lb) W fun e W' => ∃ v,e = .returned v ∧ J all W'
theorem wpIn_rangeFunc_Q {α : Type} {g : Operand} {ps : Array Tmp} {assign body : Code} {Q : Exit → Act → World → Prop} {a : Act} {w : World}
 (hro : F.round = none) (h1 : 1 ≤ n) {gf : Nat} {lb : Array Value} (hg : a.eval g = .func (.func gf) #[] lb) (hFg : F.fn gf) (eg : ∀ args w,(callFunc gf args).run P w = .ok (.enter gf args) w)
 {Enc : World → α → Array Value → Prop} {all : List α} {Kt Ti : World → World → Prop} (hseq : IterQ F (n - 1) P gf lb Enc all Kt Ti w) (hps : ∀ W x args,Enc W x args → args.size = ps.size)
 (hKt : ∀ A B C,Kt A B → Kt B C → Kt A C) (hKa : ∀ (W : World) (o : Obj),Kt W (W.alloc o)) (hKp : ∀ (W : World) (l : Nat) (o o' : Obj),W.heap[l]? = some o → o.isCells = false → Kt W (W.putObj l o'))
 (hTi : ∀ (A B : World) (k : Nat) (o : Obj),Ti A B → A.heap[k]? = some o → o.isCells = false → B.heap[k]? = some o)
 (I : List α → World → Prop) (hIa : ∀ pre (W : World) (o : Obj),I pre W → I pre (W.alloc o)) (hIp : ∀ pre (W : World) (l : Nat) (o o' : Obj),I pre W → w.heap.size ≤ l → W.heap[l]? = some o → o.isCells = false → I pre (W.putObj l o')) (hIt : ∀ pre A B,I pre A → Ti A B → I pre B)
 (h0 : I [] w) (Ax : List α → α → Act → World → Prop) (hAx : ∀ pre x a' (W : World) (l : Nat) (o o' : Obj),Ax pre x a' W → w.heap.size ≤ l → W.heap[l]? = some o → o.isCells = false → Ax pre x a' (W.putObj l o'))
 (hassign : ∀ (l : Nat) (pre : List α) (x : α) (args : Array Value) (W : World) (K : Act → World → Prop),I pre W → Enc W x args → (∀ a' W',Ax pre x a' W' → KeepsOthers W W' → Kt W W' → K a' W') →
  assign.wpIn (F.inRound l) (n - 1 - 1) P (Exit.then K (fun _ _ _ => False)) { tmps := (ps.zip args).foldl (fun t (p,v) => t.setIfInBounds p v) a.tmps,defers := [] } W)
 (hbody : ∀ (l : Nat) (pre : List α) (x : α) (a' : Act) (W : World),Ax pre x a' W → (∃ rest,pre ++ x :: rest = all) → body.wpIn (F.inRound l) (n - 1 - 1) P (offPost I Kt (pre ++ [x]) W) a' W)
 (hdone : ∀ (D : Nat) (W : World),I all W → w.heap.size ≤ D → W.heap[D]? = some (.deferred (some [])) → Q .normal { a with defers := { target := .collected D,args := #[] } :: a.defers } W) :
 (Code.rangeFunc g ps assign body).wpIn F n P Q a w := by
 refine wpIn_rangeFunc ?_;intro fn hfn;rw [hro]
 obtain ⟨rec,hrec⟩ : ∃ rec : LoopState → Option Code → Loop,rec = fun st pe => { state := st,pending := pe,fn,tmps := a.tmps,params := ps,assign,body,defers := w.heap.size } := ⟨_,rfl⟩
 obtain ⟨W1,hW1⟩ : ∃ W1,(w.alloc (.deferred (some []))).alloc (.loop (rec .ready none)) = W1 := ⟨_,rfl⟩
 have hL1 : W1.heap[w.heap.size + 1]? = some (.loop (rec .ready none)) := by
  rw [← hW1];have := World.alloc_heap_new (w.alloc (.deferred (some []))) (.loop (rec .ready none));rwa [World.size_alloc] at this
 have hK1 : W1.heap[w.heap.size]? = some (.deferred (some [])) := by
  rw [← hW1];exact (Below.heap_alloc _ _ _ (by simp)).trans (World.alloc_heap_new w _)
 have hI1 : I [] W1 := by rw [← hW1];exact hIa _ _ _ (hIa _ _ _ h0)
 have hb1 : Kt w W1 := by rw [← hW1];exact hKt _ _ _ (hKa _ _) (hKa _ _)
 refine ⟨w.heap.size + 1,[{ target := .collected w.heap.size,args := #[] }],W1,{ target := .fn (.func gf) lb,args := #[.func (.yield (w.heap.size + 1)) #[] #[]] },W1,gf,
  #[.func (.yield (w.heap.size + 1)) #[] #[]] ++ lb,W1,?_,?_,?_,?_,fun _ => h1,?_⟩
 · rw [← hW1,hrec];exact run_enterLoop_outer _ _ _ _ _
 · simp only [resolve,hg]
   simp [go_sem]
 · intro f' hf';simp [Target.leads] at hf';subst hf';exact hFg
 · simp [invoke,go_sem,eg]
 · refine (hseq (w.heap.size + 1)
    (fun pre W => I pre W ∧ W.heap[w.heap.size + 1]? = some (.loop (rec .ready none)) ∧ W.heap[w.heap.size]? = some (.deferred (some [])))
    W1 hb1
    (fun pre A B hs ht => ⟨hIt pre A B hs.1 ht,hTi A B _ _ ht hs.2.1 rfl,hTi A B _ _ ht hs.2.2 rfl⟩)
    ?_ ⟨hI1,hL1,hK1⟩).mono ?_
   ·
    rintro pre x args W ⟨hi,hl,hk⟩ henc hlen;have hlt : w.heap.size + 1 < W.heap.size := (Array.getElem?_eq_some_iff.1 hl).1;have hy := run_yield (P := P) (args := args) hl (by rw [hrec];exact hps W x args henc);rw [hrec] at hy;refine ⟨fn,_,assign,body,hy,roundIn_of_wpIn hfn (hassign _ pre x args W _ hi henc ?_)⟩;intro a' Wa hax hka hkt;have hla := hka.same _ _ hl rfl;have hkka := hka.same _ _ hk rfl;have hlta : w.heap.size + 1 < Wa.heap.size := (Array.getElem?_eq_some_iff.1 hla).1;refine ⟨_,run_beginRound hla (by rw [hrec]),?_⟩;have hl2 : (Wa.putObj (w.heap.size + 1) (.loop { rec .ready none with state := .busy })).heap[w.heap.size + 1]? = some (.loop { rec .ready none with state := .busy }) := World.putObj_heap_same hlta;have hk2 : (Wa.putObj (w.heap.size + 1) (.loop { rec .ready none with state := .busy })).heap[w.heap.size]? = some (.deferred (some [])) := (World.putObj_heap_other (by omega)).trans hkka;have hkt2 : Kt W (Wa.putObj (w.heap.size + 1) (.loop { rec .ready none with state := .busy })) := hKt _ _ _ hkt (hKp _ _ _ _ hla rfl);refine wpIn_mono (hbody _ pre x _ _ (hAx _ _ _ _ _ _ _ hax (by omega) hla rfl) hlen) ?_;rintro e a3 W3 hp
    cases e with
    | normal =>
     obtain ⟨hk3,hi3,hkt3⟩ := hp;have hl3 := hk3.same _ _ hl2 rfl;have hr := run_endRound (P := P) none hl3;have hlt3 : w.heap.size + 1 < W3.heap.size := (Array.getElem?_eq_some_iff.1 hl3).1;refine ⟨_,_,hr,rfl,⟨hIp _ _ _ _ _ hi3 (by omega) hl3 rfl,?_,(World.putObj_heap_other (by omega)).trans (hk3.same _ _ hk2 rfl)⟩,hKt _ _ _ hkt2 (hKt _ _ _ hkt3 (hKp _ _ _ _ hl3 rfl))⟩;refine (World.putObj_heap_same hlt3).trans ?_;rw [hrec];rfl
    | panic ch => exact hp.elim
    | ret => exact hp.elim
    | exit id => exact hp.elim
    | goto t => exact hp.elim
    | outgrown => exact hp.elim
   ·
    rintro e W2 ⟨v,rfl,hi,hl,hk⟩;exact ⟨none,_,by have := run_endLoop (P := P) hl (by rw [hrec];simp);rw [hrec] at this;exact this,hdone _ _ (hIp _ _ _ _ _ hi (by omega) hl rfl) (Nat.le_refl _) ((World.putObj_heap_other (by omega)).trans hk)⟩
end Go

namespace Go.Proofs.Ythbajahklnpkcaa.PA
open Go.RowKit Go.Shelf Go.Proofs.YthbajahklnpkcaaW.PrintWords Go.Proofs.YthbajahklnpkcaaW.PrintLast Go.Proofs.YthbajahklnpkcaaW.PrintMore
set_option linter.unusedVariables false
set_option linter.unusedSimpArgs false
theorem w64 {x : Int} (h0 : -9223372036854775808 ≤ x) (h1 : x ≤ 9223372036854775807) : wrap64 x = x := by unfold wrap64;omega
theorem Vk {k : IntKind} {a b : Int} (h : a = b) : Ending.returned (.int k a) = .returned (.int k b) := by rw [h]
def PredB {α : Type} (g : Nat) (lb : Array Value) (enc : α → Value) (p : α → Bool) (w : World) : Prop :=
 ∀ (W : World) (x : α),Below w.heap.size w W → Calls Try.prog g (#[enc x] ++ lb) W fun e w' => e = .returned (.bool (p x)) ∧ Below W.heap.size W w'
def idxFrom {α : Type} (p : α → Bool) : Int → List α → Int
 | _,[] => -1
 | i,x :: xs => if p x then i else idxFrom p (i + 1) xs
def idxOf {α : Type} (p : α → Bool) (l : List α) : Int := idxFrom p 0 l
theorem idxFrom_drop_hit {α : Type} (p : α → Bool) (l : List α) (k : Nat) (x : α) (i : Int) (hx : l[k]? = some x) (h : p x = true) : idxFrom p i (l.drop k) = i := by
 obtain ⟨hlt,rfl⟩ := List.getElem?_eq_some_iff.1 hx;rw [List.drop_eq_getElem_cons hlt];simp [idxFrom,h]
theorem idxFrom_drop_miss {α : Type} (p : α → Bool) (l : List α) (k : Nat) (x : α) (i : Int) (hx : l[k]? = some x) (h : p x = false) : idxFrom p i (l.drop k) = idxFrom p (i + 1) (l.drop (k + 1)) := by
 obtain ⟨hlt,rfl⟩ := List.getElem?_eq_some_iff.1 hx;rw [List.drop_eq_getElem_cons hlt];simp [idxFrom,h]
theorem Yu {α : Type} (p : α → Bool) : ∀ (l : List α) (i : Int),0 ≤ i → decide (0 ≤ idxFrom p i l) = l.any p
 | [],i,_ => by simp [idxFrom]
 | x :: l,i,hi => by
  cases h : p x with
  | true => simp [idxFrom,h,hi]
  | false => simp only [idxFrom,h,List.any_cons,Bool.false_or];exact Yu p l (i + 1) (by omega)
theorem any_idx {α : Type} (p : α → Bool) (l : List α) : decide (0 ≤ idxOf p l) = l.any p := Yu p l 0 (Int.le_refl 0)
theorem Xr (l : List S43) (k : Nat) (h : k < l.length) : l[k]? = some (Ze l k) := by
 rw [List.getElem?_eq_getElem h];simp [Ze,h]
def c43 (x : S43) : Array Value := #[.int .i64 x.f0,.int .i64 x.f1,.int .i64 x.f2,.int .i64 x.f3]
set_option maxRecDepth 100000 in
set_option maxHeartbeats 2000000 in
theorem IndexFunc_rects (p : S43 → Bool) (g : Nat) (lb : Array Value) (eg : ∀ args w,(callFunc g args).run Try.prog w = .ok (.enter g args) w) (A : Option Addr) (c : Nat) (l : List S43) (w : World)
 (hp : PredB g lb (fun x => .agg (c43 x)) p w) (hr : Kd.C k43 w A l.length l) :
 Calls Try.prog 121 #[.slice A l.length c,.func (.func g) #[] lb] w fun e w' => e = .returned (.int .i64 (idxOf p l)) ∧ Below w.heap.size w w' := by
 have HR := Zb.mk hr;have HP := Zb.mk hp;have hmax : l.length ≤ 9223372036854775807 := Kd.C_max hr;clear hr hp
 go_enter Try.func121,Try.ntmps121
 go_wp2
 go_loopg [5,8] l.length (fun gg _ s8 wr => ∃ kk : Nat,kk ≤ l.length ∧ l.length - kk ≤ gg ∧ s8 = .int .i64 kk ∧ Zb (Below w.heap.size w wr) ∧ Zb (idxOf p l = idxFrom p kk (l.drop kk)))
 case atStart => exact ⟨0,Nat.zero_le _,by omega,rfl,⟨Below.refl _ w⟩,⟨by simp [idxOf]⟩⟩
 case round =>
  obtain ⟨kk,hkk,hg,rfl,BW,AI⟩ := hrel
  by_cases hlt : kk < l.length
  · have hltz : (kk : Int) < (l.length : Int) := by omega
    obtain ⟨ad,eA,hx0,hx1,hx2,hx3⟩ := Z4 (Kd.Z5 HR.out BW.out) (kk : Int) (by omega) (by omega)
    cases eA
    simp only [Int.toNat_natCast] at hx0 hx1 hx2 hx3;have hcall := HP.out wr (Ze l kk) BW.out;unfold c43 at hcall;generalize hy : Ze l (kk : Int) = y at hx0 hx1 hx2 hx3 hcall;have B := Zb.mk hy;clear hy
    cases hq : p y with
    | true =>
     rw [hq] at hcall
     go_wp2_with (go_at_fn g;refine hcall.mono ?_;rintro e w' ⟨rfl,hb'⟩)
     go_ret;exact ⟨Vk (by rw [AI.out,idxFrom_drop_hit p l kk y kk (by rw [Xr _ _ hlt,B.out]) hq]),BW.out.trans (hb'.mono BW.out.size)⟩
    | false =>
     rw [hq] at hcall
     go_wp2_with (go_at_fn g;refine hcall.mono ?_;rintro e w' ⟨rfl,hb'⟩)
     go_roundg (l.length - (kk + 1))
     case measure => omega
     case rel => exact ⟨kk + 1,by omega,by omega,by go_num,⟨BW.out.trans (hb'.mono BW.out.size)⟩,⟨by rw [AI.out,idxFrom_drop_miss p l kk y kk (by rw [Xr _ _ hlt,B.out]) hq];simp⟩⟩
  · have hltz : ¬ (kk : Int) < (l.length : Int) := by omega
    go_wp2
    go_ret;exact ⟨Vk (by rw [AI.out,List.drop_eq_nil_of_le (by omega)];rfl),BW.out⟩
theorem Qb (p : S43 → Bool) (g : Nat) (lb : Array Value) (eg : ∀ args w,(callFunc g args).run Try.prog w = .ok (.enter g args) w) (A : Option Addr) (c : Nat) (l : List S43) (w : World)
 (hp : PredB g lb (fun x => .agg (c43 x)) p w) (hr : Kd.C k43 w A l.length l) :
 Calls Try.prog 70 #[.slice A l.length c,.func (.func g) #[] lb] w fun e w' => e = .returned (.bool (l.any p)) ∧ Below w.heap.size w w' := by
 have HC := Zb.mk (IndexFunc_rects p g lb eg A c l w hp hr);clear hp hr
 go_enter Try.func70,Try.ntmps70
 go_wp2_with (go_at_call 121;refine HC.out.mono ?_;rintro e w' ⟨rfl,hb'⟩)
 go_ret;exact ⟨by rw [← any_idx];rfl,hb'⟩
def okP (n : Int) : Bool := decide (-10000 ≤ n) && decide (n ≤ 10000)
def okW (n : Int) : Bool := decide (0 ≤ n) && decide (n ≤ 20000)
def okR (r : S43) : Bool := okP r.f0 && okP r.f1 && okW r.f2 && okW r.f3
set_option maxRecDepth 100000 in
theorem Y3 (n : Int) (w : World) : Calls Try.prog 122 #[.int .i64 n] w fun e w' => e = .returned (.bool (okP n)) ∧ w' = w := by
 by_cases h1 : n ≥ -10000
 · have h1b : decide (n ≥ -10000) = true := decide_eq_true h1
   by_cases h2 : n ≤ 10000
   · have h2b : decide (n ≤ 10000) = true := decide_eq_true h2
     go_enter Try.func122,Try.ntmps122
     go_wp2
     go_ret;exact ⟨by simp [okP];omega,rfl⟩
   · have h2b : decide (n ≤ 10000) = false := decide_eq_false h2
     go_enter Try.func122,Try.ntmps122
     go_wp2
     go_ret;exact ⟨by simp [okP];omega,rfl⟩
 · have h1b : decide (n ≥ -10000) = false := decide_eq_false h1
   go_enter Try.func122,Try.ntmps122
   go_wp2
   go_ret;exact ⟨by simp [okP];omega,rfl⟩
end Go.Proofs.Ythbajahklnpkcaa.PA

namespace Go.Proofs.Ythbajahklnpkcaa.PA
open Go.RowKit Go.Shelf Go.Proofs.YthbajahklnpkcaaW.PrintWords Go.Proofs.YthbajahklnpkcaaW.PrintLast Go.Proofs.YthbajahklnpkcaaW.PrintMore
set_option linter.unusedVariables false
set_option linter.unusedSimpArgs false
set_option maxRecDepth 100000 in
theorem YS (n : Int) (w : World) : Calls Try.prog 123 #[.int .i64 n] w fun e w' => e = .returned (.bool (okW n)) ∧ w' = w := by
 by_cases h1 : n ≥ 0
 · have h1b : decide (n ≥ 0) = true := decide_eq_true h1
   by_cases h2 : n ≤ 20000
   · have h2b : decide (n ≤ 20000) = true := decide_eq_true h2
     go_enter Try.func123,Try.ntmps123
     go_wp2
     go_ret;exact ⟨by simp [okW];omega,rfl⟩
   · have h2b : decide (n ≤ 20000) = false := decide_eq_false h2
     go_enter Try.func123,Try.ntmps123
     go_wp2
     go_ret;exact ⟨by simp [okW];omega,rfl⟩
 · have h1b : decide (n ≥ 0) = false := decide_eq_false h1
   go_enter Try.func123,Try.ntmps123
   go_wp2
   go_ret;exact ⟨by simp [okW];omega,rfl⟩
set_option maxRecDepth 100000 in
set_option maxHeartbeats 2000000 in
theorem Qx (x : S43) (w : World) : Calls Try.prog 72 #[.agg (c43 x)] w fun e w' => e = .returned (.bool (okR x)) ∧ Below w.heap.size w w' := by
 obtain ⟨a,b,c,d⟩ := x;have HB := Blk.new w #[.int .i64 a,.int .i64 b,.int .i64 c,.int .i64 d] 43;have g0 := HB.cell 0 (v := .int .i64 a) rfl;have g1 := HB.cell 1 (v := .int .i64 b) rfl;have g2 := HB.cell 2 (v := .int .i64 c) rfl;have g3 := HB.cell 3 (v := .int .i64 d) rfl;have hB : Below w.heap.size w (w.alloc (.cells #[.int .i64 a,.int .i64 b,.int .i64 c,.int .i64 d] 43)) := (Below.refl _ w).alloc (Nat.le_refl _) _;clear HB
 have A0 := fun w' => Lib.hid (Y3 a w')
 have A1 := fun w' => Lib.hid (Y3 b w')
 have A2 := fun w' => Lib.hid (YS c w')
 have A3 := fun w' => Lib.hid (YS d w')
 have hok : okR ⟨a,b,c,d⟩ = (okP a && okP b && okW c && okW d) := rfl;rw [hok];unfold c43;generalize okP a = q0 at A0 ⊢;generalize okP b = q1 at A1 ⊢;generalize okW c = q2 at A2 ⊢;generalize okW d = q3 at A3 ⊢;clear hok
 cases q0
 · go_enter Try.func72,Try.ntmps72
   go_wp2_with (first | (with_reducible refine (A0 _).out.mono ?_;rintro e w' ⟨rfl,rfl⟩))
   go_ret;exact ⟨rfl,hB⟩
 · cases q1
   · go_enter Try.func72,Try.ntmps72
     go_wp2_with (first | (first | (with_reducible refine (A0 _).out.mono ?_;rintro e w' ⟨rfl,rfl⟩) | (with_reducible refine (A1 _).out.mono ?_;rintro e w' ⟨rfl,rfl⟩)))
     go_ret;exact ⟨rfl,hB⟩
   · cases q2
     · go_enter Try.func72,Try.ntmps72
       go_wp2_with (first | (first | (with_reducible refine (A0 _).out.mono ?_;rintro e w' ⟨rfl,rfl⟩) | (with_reducible refine (A1 _).out.mono ?_;rintro e w' ⟨rfl,rfl⟩)) | (first | (with_reducible refine (A2 _).out.mono ?_;rintro e w' ⟨rfl,rfl⟩)))
       go_ret;exact ⟨rfl,hB⟩
     · cases q3
       · go_enter Try.func72,Try.ntmps72
         go_wp2_with (first | (first | (with_reducible refine (A0 _).out.mono ?_;rintro e w' ⟨rfl,rfl⟩) | (with_reducible refine (A1 _).out.mono ?_;rintro e w' ⟨rfl,rfl⟩)) | (first | (with_reducible refine (A2 _).out.mono ?_;rintro e w' ⟨rfl,rfl⟩) | (with_reducible refine (A3 _).out.mono ?_;rintro e w' ⟨rfl,rfl⟩)))
         go_ret;exact ⟨rfl,hB⟩
       · go_enter Try.func72,Try.ntmps72
         go_wp2_with (first | (first | (with_reducible refine (A0 _).out.mono ?_;rintro e w' ⟨rfl,rfl⟩) | (with_reducible refine (A1 _).out.mono ?_;rintro e w' ⟨rfl,rfl⟩)) | (first | (with_reducible refine (A2 _).out.mono ?_;rintro e w' ⟨rfl,rfl⟩) | (with_reducible refine (A3 _).out.mono ?_;rintro e w' ⟨rfl,rfl⟩)))
         go_ret;exact ⟨rfl,hB⟩
theorem enters71 : ∀ args w,(callFunc 71 args).run Try.prog w = .ok (.enter 71 args) w := Go.Proofs.enters_of Try.func71 (by kernel_rfl) rfl
theorem enters75 : ∀ args w,(callFunc 75 args).run Try.prog w = .ok (.enter 75 args) w := Go.Proofs.enters_of Try.func75 (by kernel_rfl) rfl
theorem enters126 : ∀ args w,(callFunc 126 args).run Try.prog w = .ok (.enter 126 args) w := Go.Proofs.enters_of Try.func126 (by kernel_rfl) rfl
set_option maxRecDepth 100000 in
theorem not71_calls (x : S43) (w : World) : Calls Try.prog 71 #[.agg (c43 x)] w fun e w' => e = .returned (.bool (!okR x)) ∧ Below w.heap.size w w' := by
 have HB := Blk.new w #[.int .i64 x.f0,.int .i64 x.f1,.int .i64 x.f2,.int .i64 x.f3] 43;have g0 := HB.cell 0 (v := .int .i64 x.f0) rfl;have g1 := HB.cell 1 (v := .int .i64 x.f1) rfl;have g2 := HB.cell 2 (v := .int .i64 x.f2) rfl;have g3 := HB.cell 3 (v := .int .i64 x.f3) rfl;have hB : Below w.heap.size w (w.alloc (.cells #[.int .i64 x.f0,.int .i64 x.f1,.int .i64 x.f2,.int .i64 x.f3] 43)) := (Below.refl _ w).alloc (Nat.le_refl _) _;clear HB
 have HV := fun w' => Lib.hid (Qx x w')
 unfold c43 at HV ⊢
 go_enter Try.func71,Try.ntmps71
 go_wp2_with (first | (go_at_call 72;refine (HV _).out.mono ?_;rintro e w' ⟨rfl,hb⟩))
 go_ret;exact ⟨rfl,hB.trans (hb.mono (by simp))⟩
set_option maxRecDepth 100000 in
theorem not75_calls (x : S43) (w : World) : Calls Try.prog 75 #[.agg (c43 x)] w fun e w' => e = .returned (.bool (!okR x)) ∧ Below w.heap.size w w' := by
 have HB := Blk.new w #[.int .i64 x.f0,.int .i64 x.f1,.int .i64 x.f2,.int .i64 x.f3] 43;have g0 := HB.cell 0 (v := .int .i64 x.f0) rfl;have g1 := HB.cell 1 (v := .int .i64 x.f1) rfl;have g2 := HB.cell 2 (v := .int .i64 x.f2) rfl;have g3 := HB.cell 3 (v := .int .i64 x.f3) rfl;have hB : Below w.heap.size w (w.alloc (.cells #[.int .i64 x.f0,.int .i64 x.f1,.int .i64 x.f2,.int .i64 x.f3] 43)) := (Below.refl _ w).alloc (Nat.le_refl _) _;clear HB
 have HV := fun w' => Lib.hid (Qx x w')
 unfold c43 at HV ⊢
 go_enter Try.func75,Try.ntmps75
 go_wp2_with (first | (go_at_call 72;refine (HV _).out.mono ?_;rintro e w' ⟨rfl,hb⟩))
 go_ret;exact ⟨rfl,hB.trans (hb.mono (by simp))⟩
set_option maxRecDepth 100000 in
theorem not126_calls (x : S43) (w : World) : Calls Try.prog 126 #[.agg (c43 x)] w fun e w' => e = .returned (.bool (!okR x)) ∧ Below w.heap.size w w' := by
 have HB := Blk.new w #[.int .i64 x.f0,.int .i64 x.f1,.int .i64 x.f2,.int .i64 x.f3] 43;have g0 := HB.cell 0 (v := .int .i64 x.f0) rfl;have g1 := HB.cell 1 (v := .int .i64 x.f1) rfl;have g2 := HB.cell 2 (v := .int .i64 x.f2) rfl;have g3 := HB.cell 3 (v := .int .i64 x.f3) rfl;have hB : Below w.heap.size w (w.alloc (.cells #[.int .i64 x.f0,.int .i64 x.f1,.int .i64 x.f2,.int .i64 x.f3] 43)) := (Below.refl _ w).alloc (Nat.le_refl _) _;clear HB
 have HV := fun w' => Lib.hid (Qx x w')
 unfold c43 at HV ⊢
 go_enter Try.func126,Try.ntmps126
 go_wp2_with (first | (go_at_call 72;refine (HV _).out.mono ?_;rintro e w' ⟨rfl,hb⟩))
 go_ret;exact ⟨rfl,hB.trans (hb.mono (by simp))⟩
def badL (l : List S43) : Bool := l.any fun r => !okR r
theorem bad71_calls (A : Option Addr) (c : Nat) (l : List S43) (w : World) (hr : Kd.C k43 w A l.length l) :
 Calls Try.prog 70 #[.slice A l.length c,.func (.func 71) #[] #[]] w fun e w' => e = .returned (.bool (badL l)) ∧ Below w.heap.size w w' :=
 Qb (fun r => !okR r) 71 #[] enters71 A c l w (fun W x _ => not71_calls x W) hr
theorem bad75_calls (A : Option Addr) (c : Nat) (l : List S43) (w : World) (hr : Kd.C k43 w A l.length l) :
 Calls Try.prog 70 #[.slice A l.length c,.func (.func 75) #[] #[]] w fun e w' => e = .returned (.bool (badL l)) ∧ Below w.heap.size w w' :=
 Qb (fun r => !okR r) 75 #[] enters75 A c l w (fun W x _ => not75_calls x W) hr
theorem bad126_calls (A : Option Addr) (c : Nat) (l : List S43) (w : World) (hr : Kd.C k43 w A l.length l) :
 Calls Try.prog 70 #[.slice A l.length c,.func (.func 126) #[] #[]] w fun e w' => e = .returned (.bool (badL l)) ∧ Below w.heap.size w w' :=
 Qb (fun r => !okR r) 126 #[] enters126 A c l w (fun W x _ => not126_calls x W) hr
theorem enters127 : ∀ args w,(callFunc 127 args).run Try.prog w = .ok (.enter 127 args) w := Go.Proofs.enters_of Try.func127 (by kernel_rfl) rfl
def inR (x y : Int) (r : S43) : Bool := decide (r.f0 ≤ x) && decide (x < wrap64 (r.f0 + r.f2)) && decide (r.f1 ≤ y) && decide (y < wrap64 (r.f1 + r.f3))
set_option maxRecDepth 100000 in
set_option maxHeartbeats 2000000 in
theorem covers1_calls (r : S43) (bx by_ : Nat) (x y : Int) (w : World) (hx : w.cell? ⟨bx,0,none⟩ = some (.int .i64 x)) (hy : w.cell? ⟨by_,0,none⟩ = some (.int .i64 y)) :
 Calls Try.prog 127 #[.agg (c43 r),.pointer (some ⟨bx,0,none⟩),.pointer (some ⟨by_,0,none⟩)] w fun e w' => e = .returned (.bool (inR x y r)) ∧ Below w.heap.size w w' := by
 obtain ⟨a,b,c,d⟩ := r;have HB := Blk.new w #[.int .i64 a,.int .i64 b,.int .i64 c,.int .i64 d] 43;have g0 := HB.cell 0 (v := .int .i64 a) rfl;have g1 := HB.cell 1 (v := .int .i64 b) rfl;have g2 := HB.cell 2 (v := .int .i64 c) rfl;have g3 := HB.cell 3 (v := .int .i64 d) rfl;have hB : Below w.heap.size w (w.alloc (.cells #[.int .i64 a,.int .i64 b,.int .i64 c,.int .i64 d] 43)) := (Below.refl _ w).alloc (Nat.le_refl _) _;have lx : bx < w.heap.size := World.block_lt_of_cell? _ _ hx;have ly : by_ < w.heap.size := World.block_lt_of_cell? _ _ hy;clear HB;have hx' : (w.alloc (.cells #[.int .i64 a,.int .i64 b,.int .i64 c,.int .i64 d] 43)).cell? ⟨bx,0,none⟩ = some (.int .i64 x) := (World.cell?_alloc_lt _ _ _ lx).trans hx;have hy' : (w.alloc (.cells #[.int .i64 a,.int .i64 b,.int .i64 c,.int .i64 d] 43)).cell? ⟨by_,0,none⟩ = some (.int .i64 y) := (World.cell?_alloc_lt _ _ _ ly).trans hy;clear hx hy
 have hin : inR x y ⟨a,b,c,d⟩ = (decide (x ≥ a) && decide (x < wrap64 (a + c)) && decide (y ≥ b) && decide (y < wrap64 (b + d))) := by simp [inR]
 rw [hin];unfold c43
 have hq0 : ∀ q,decide (x ≥ a) = q → decide (x ≥ a) = q := fun _ h => h
 cases h0 : decide (x ≥ a)
 · go_enter Try.func127,Try.ntmps127
   go_wp2
   go_ret;exact ⟨by simp,hB⟩
 · cases h1 : decide (x < wrap64 (a + c))
   · go_enter Try.func127,Try.ntmps127
     go_wp2
     go_ret;exact ⟨by simp,hB⟩
   · cases h2 : decide (y ≥ b)
     · go_enter Try.func127,Try.ntmps127
       go_wp2
       go_ret;exact ⟨by simp,hB⟩
     · go_enter Try.func127,Try.ntmps127
       go_wp2
       go_ret;exact ⟨by simp,hB⟩
def covL (l : List S43) (x y : Int) : Bool := l.any (inR x y)
set_option maxRecDepth 100000 in
theorem Q7 (A : Option Addr) (c : Nat) (l : List S43) (x y : Int) (w : World) (hr : Kd.C k43 w A l.length l) :
 Calls Try.prog 77 #[.slice A l.length c,.int .i64 x,.int .i64 y] w fun e w' => e = .returned (.bool (covL l x y)) ∧ Below w.heap.size w w' := by
 obtain ⟨w1,hw1⟩ : ∃ w1,(w.alloc (.cells #[.int .i64 x] 3)).alloc (.cells #[.int .i64 y] 3) = w1 := ⟨_,rfl⟩
 have B1 := ((Blk.new w #[.int .i64 x] 3).alloc (.cells #[.int .i64 y] 3))
 have B2 := (Blk.new (w.alloc (.cells #[.int .i64 x] 3)) #[.int .i64 y] 3)
 have hB : Below w.heap.size w w1 := by rw [← hw1];exact ((Below.refl _ w).alloc (Nat.le_refl _) _).alloc (by simp) _
 rw [hw1] at B1 B2;rw [World.size_alloc] at B2
 have HC := Zb.mk (Qb (inR x y) 127 #[.pointer (some ⟨w.heap.size,0,none⟩),.pointer (some ⟨w.heap.size + 1,0,none⟩)] enters127 A c l w1
  (fun W r hW => covers1_calls r w.heap.size (w.heap.size + 1) x y W ((B1.X5 hW).cell 0 rfl) ((B2.X5 hW).cell 0 rfl)) (Kd.Z5 hr hB))
 clear hr B1 B2
 go_enter Try.func77,Try.ntmps77
 go_wp2_with (first | (go_at_call 70;first | rw [hw1] | skip;refine HC.out.mono ?_;rintro e w' ⟨rfl,hb2⟩))
 go_ret;exact ⟨rfl,hB.trans (hb2.mono hB.size)⟩
end Go.Proofs.Ythbajahklnpkcaa.PA

namespace Go.Proofs.Ythbajahklnpkcaa.PA
open Go.RowKit Go.Shelf Go.Sort Go.Proofs.YthbajahklnpkcaaW.PrintWords Go.Proofs.YthbajahklnpkcaaW.PrintLast Go.Proofs.YthbajahklnpkcaaW.PrintMore
set_option linter.unusedVariables false
set_option linter.unusedSimpArgs false
def sortI (zs : List Int) : List Int := zs.mergeSort fun x y => decide (x ≤ y)
abbrev ints (zs : List Int) : List Value := zs.map (Value.int .i64)
theorem YA (W : World) (r : Option Nat) : W.grownBy W r := World.grownBy.refl _ _
theorem X3 {B : Nat} {X W W' : World} {row : Option Nat} (h : Below B X W) (hB : B ≤ W.heap.size) (hg : W.grownBy W' row) (hr : ∀ k,row = some k → B ≤ k) : Below B X W' := h.grown hg hB hr
theorem Qa {W W' : World} {base : Nat} {e : TypeId} {size : Nat} {v : Value} {n : Nat} {xs : List Value} (h : W.ownsRow base e size v n xs) (hs : ∀ k,v.ownBlock = some k → W'.heap[k]? = W.heap[k]?) : W'.ownsRow base e size v n xs := by
 rcases h.2 with ⟨rfl,h0⟩ | ⟨g,cap,cur,rfl,hb,hgb,hn,hm,hcs,ht⟩
 · exact ⟨h.1,.inl ⟨rfl,h0⟩⟩
 · exact ⟨h.1,.inr ⟨g,cap,cur,rfl,hb,(hs g rfl).trans hgb,hn,hm,hcs,ht⟩⟩
theorem Xm {W : World} {base : Nat} {e : TypeId} {size : Nat} {v : Value} {n : Nat} {xs : List Value} (h : W.ownsRow base e size v n xs) {k : Nat} (hk : v.ownBlock = some k) : base ≤ k ∧ k < W.heap.size := by
 rcases h.2 with ⟨rfl,h0⟩ | ⟨g,cap,cur,rfl,hb,hgb,hn,hm,hcs,ht⟩
 · cases hk
 · cases hk;exact ⟨hb,(Array.getElem?_eq_some_iff.1 hgb).1⟩
theorem XI {W W' : World} {base : Nat} {e : TypeId} {size : Nat} {v : Value} {n : Nat} {xs : List Value} (h : W.ownsRow base e size v n xs) (hb : Below W.heap.size W W') : W'.ownsRow base e size v n xs := Qa h (fun k hk => hb.block k (Xm h hk).2)
theorem Yd {W : World} {base base' : Nat} {e : TypeId} {size : Nat} {v : Value} {n : Nat} {xs : List Value} (h : W.ownsRow base e size v n xs) (hb : base' ≤ base) : W.ownsRow base' e size v n xs := by
 rcases h.2 with ⟨rfl,h0⟩ | ⟨g,cap,cur,rfl,hb',hgb,hn,hm,hcs,ht⟩
 · exact ⟨h.1,.inl ⟨rfl,h0⟩⟩
 · exact ⟨h.1,.inr ⟨g,cap,cur,rfl,Nat.le_trans hb hb',hgb,hn,hm,hcs,ht⟩⟩
theorem sort_own {W : World} {base : Nat} {A : Option Addr} {cap : Nat} {zs : List Int} (h : W.ownsRow base 3 1 (.slice A zs.length cap) zs.length (ints zs)) (hsz : zs.length < 4611686018427387904) :
 Calls Try.prog 142 #[.slice A zs.length cap] W fun e w' => e = .returned (.tuple #[]) ∧ W.grownBy w' (Value.slice A zs.length cap).ownBlock ∧ w'.ownsRow base 3 1 (.slice A zs.length cap) zs.length (ints (sortI zs)) := by
 rcases h.2 with ⟨e,h0⟩ | ⟨g',cap',cur,e,hb,hgb,hn,hm,hcs,ht⟩
 · have hz : zs = [] := List.length_eq_zero_iff.1 (by simpa using h0)
   subst hz
   cases e
   refine (AnyM.slices_Sort_int_none sortL none 0 W).mono ?_;rintro e w' ⟨rfl,hw'⟩;rw [hw']
   have e0 : sortI [] = [] := by simp [sortI]
   rw [e0];exact ⟨rfl,YA W _,h⟩
 cases e
 rw [Nat.mul_one] at ht;refine (AnyM.slices_Sort_int sortL g' 0 cap zs W (holds_of_blockI hgb ht) (Array.getElem?_eq_some_iff.1 hgb).1 hsz).mono ?_;rintro e w' ⟨rfl,n,os,rfl⟩;exact ⟨rfl,grownBy_sortedI _,ownsRow_sortedI (by simp) hb hgb hn hm hcs⟩
theorem compact_own {W : World} {base : Nat} {A : Option Addr} {cap : Nat} {zs : List Int} (h : W.ownsRow base 3 1 (.slice A zs.length cap) zs.length (ints zs)) (hsz : zs.length < 4611686018427387904) :
 Calls Try.prog 143 #[.slice A zs.length cap] W fun e w' => e = .returned (.slice A (Lib.compact zs).length cap) ∧ W.grownBy w' (Value.slice A zs.length cap).ownBlock ∧ w'.ownsRow base 3 1 (.slice A (Lib.compact zs).length cap) (Lib.compact zs).length (ints (Lib.compact zs)) := by
 rcases h.2 with ⟨e,h0⟩ | ⟨g',cap',cur,e,hb,hgb,hn,hm,hcs,ht⟩
 · have hz : zs = [] := List.length_eq_zero_iff.1 (by simpa using h0)
   subst hz
   cases e
   refine (AnyG.slices_Compact_int_empty compactL none 0 W).mono ?_;rintro e w' ⟨rfl,hw'⟩;rw [hw'];exact ⟨rfl,YA W _,h⟩
 cases e
 rw [Nat.mul_one] at ht;refine (AnyG.slices_Compact_int compactL g' 0 cap zs W (holds_of_blockI hgb ht) (by omega) hn).mono ?_;rintro e w' ⟨rfl,q,rfl⟩;have hle : (Lib.compact zs).length ≤ zs.length := Lib.compact_length_le zs;have e1 : (putRow (Value.int .i64) (Sort.ahead W q) g' 0 (Lib.compact zs ++ List.replicate (zs.length - (Lib.compact zs).length) 0).toArray) = grow (putRow (Value.int .i64) (Sort.ahead W q) g' 0 (Lib.compact zs ++ List.replicate (zs.length - (Lib.compact zs).length) 0).toArray) #[] := (grow_empty _).symm;rw [e1];have h2 := ownsRow_sortedI (n := q) (os := #[]) (ss := zs) (ts := Lib.compact zs ++ List.replicate (zs.length - (Lib.compact zs).length) 0) (by simp;omega) hb hgb hn hm hcs;refine ⟨rfl,grownBy_sortedI _,?_⟩
 rcases h2.2 with ⟨e,_⟩ | ⟨g2,cap2,cur',e,hb',hgb',hn',hm',hcs',ht'⟩
 · cases e
 cases e
 refine ⟨by simp,.inr ⟨g',cap,cur',rfl,hb',hgb',by omega,hm',hcs',?_⟩⟩;rw [Nat.mul_one] at ht' ⊢;have := congrArg (List.take (Lib.compact zs).length) ht';rw [List.take_take,Nat.min_eq_left hle,List.map_append] at this;rw [this];simp
def PairB (g : Nat) (fa fb : S43 → Int) : Prop :=
 ∀ (W : World) (x : S43),Calls Try.prog g #[.agg (c43 x)] W fun e w' => e = .returned (.tuple #[.int .i64 (fa x),.int .i64 (fb x)]) ∧ Below W.heap.size W w'
theorem box4 (w : World) (x : S43) : ∀ w1,w1 = w.alloc (.cells #[.int .i64 x.f0,.int .i64 x.f1,.int .i64 x.f2,.int .i64 x.f3] 43) →
 w1.cell? ⟨w.heap.size,0,none⟩ = some (.int .i64 x.f0) ∧ w1.cell? ⟨w.heap.size,1,none⟩ = some (.int .i64 x.f1) ∧ w1.cell? ⟨w.heap.size,2,none⟩ = some (.int .i64 x.f2) ∧ w1.cell? ⟨w.heap.size,3,none⟩ = some (.int .i64 x.f3) ∧ Below w.heap.size w w1 := by
 rintro w1 rfl;have HB := Blk.new w #[.int .i64 x.f0,.int .i64 x.f1,.int .i64 x.f2,.int .i64 x.f3] 43;exact ⟨HB.cell 0 rfl,HB.cell 1 rfl,HB.cell 2 rfl,HB.cell 3 rfl,(Below.refl _ w).alloc (Nat.le_refl _) _⟩
set_option maxRecDepth 100000 in
theorem x139 : PairB 139 (fun r => r.f0) (fun r => wrap64 (r.f0 + r.f2)) := by
 intro w x;obtain ⟨g0,g1,g2,g3,hB⟩ := box4 w x _ rfl;unfold c43
 go_enter Try.func139,Try.ntmps139
 go_wp2
 repeat (go_quiet (fail);try go_wp2)
 refine bodyPost_ret (v := .tuple #[.int .i64 x.f0,.int .i64 (wrap64 (x.f0 + x.f2))]) (by simp [results,Try.results139,go_sem]) rfl ⟨rfl,?_⟩
 first | exact Za hB _ | exact hB
set_option maxRecDepth 100000 in
theorem y140 : PairB 140 (fun r => r.f1) (fun r => wrap64 (r.f1 + r.f3)) := by
 intro w x;obtain ⟨g0,g1,g2,g3,hB⟩ := box4 w x _ rfl;unfold c43
 go_enter Try.func140,Try.ntmps140
 go_wp2
 repeat (go_quiet (fail);try go_wp2)
 refine bodyPost_ret (v := .tuple #[.int .i64 x.f1,.int .i64 (wrap64 (x.f1 + x.f3))]) (by simp [results,Try.results140,go_sem]) rfl ⟨rfl,?_⟩
 first | exact Za hB _ | exact hB
set_option maxRecDepth 100000 in
theorem x129 : PairB 129 (fun r => r.f0) (fun r => wrap64 (r.f0 + r.f2)) := by
 intro w x;obtain ⟨g0,g1,g2,g3,hB⟩ := box4 w x _ rfl;unfold c43
 go_enter Try.func129,Try.ntmps129
 go_wp2
 repeat (go_quiet (fail);try go_wp2)
 refine bodyPost_ret (v := .tuple #[.int .i64 x.f0,.int .i64 (wrap64 (x.f0 + x.f2))]) (by simp [results,Try.results129,go_sem]) rfl ⟨rfl,?_⟩
 first | exact Za hB _ | exact hB
set_option maxRecDepth 100000 in
theorem y130 : PairB 130 (fun r => r.f1) (fun r => wrap64 (r.f1 + r.f3)) := by
 intro w x;obtain ⟨g0,g1,g2,g3,hB⟩ := box4 w x _ rfl;unfold c43
 go_enter Try.func130,Try.ntmps130
 go_wp2
 repeat (go_quiet (fail);try go_wp2)
 refine bodyPost_ret (v := .tuple #[.int .i64 x.f1,.int .i64 (wrap64 (x.f1 + x.f3))]) (by simp [results,Try.results130,go_sem]) rfl ⟨rfl,?_⟩
 first | exact Za hB _ | exact hB
def endsOf (fa fb : S43 → Int) (l : List S43) : List Int := l.flatMap fun r => if 0 < r.f2 ∧ 0 < r.f3 then [fa r,fb r] else []
def edgesL (fa fb : S43 → Int) (l : List S43) : List Int := Lib.compact (sortI (endsOf fa fb l))
theorem Q6 (fa fb : S43 → Int) : ∀ l : List S43,(endsOf fa fb l).length ≤ 2 * l.length
 | [] => by simp [endsOf]
 | r :: l => by
  have := Q6 fa fb l;have e : endsOf fa fb (r :: l) = (if 0 < r.f2 ∧ 0 < r.f3 then [fa r,fb r] else []) ++ endsOf fa fb l := rfl;rw [e]
  split <;> simp <;> omega
theorem endsOf_take (fa fb : S43 → Int) (l : List S43) (k : Nat) (x : S43) (hx : l[k]? = some x) : endsOf fa fb (l.take (k + 1)) = endsOf fa fb (l.take k) ++ (if 0 < x.f2 ∧ 0 < x.f3 then [fa x,fb x] else []) := by
 rw [List.take_add_one,hx,endsOf,List.flatMap_append];simp [endsOf]
theorem cells2_new (W : World) (a b : Value) (t : TypeId) : ∀ j u,[a,b][j]? = some u → (W.alloc (.cells #[a,b] t)).cell? ((⟨W.heap.size,0,none⟩ : Addr).add j) = some u := by
 intro j u h;have HB := Blk.new W #[a,b] t
 match j,h with
 | 0,h => simp at h;subst h;exact HB.cell 0 rfl
 | 1,h => simp at h;subst h;exact HB.cell 1 rfl
 | j + 2,h => simp at h
theorem Qc {W : World} {base n : Nat} {e : TypeId} {size : Nat} {v : Value} {xs : List Value} (h : W.ownsRow base e size v n xs) : ∃ A c,v = .slice A n c := by
 rcases h.2 with ⟨rfl,h0⟩ | ⟨g,cap,cur,rfl,_⟩
 · exact ⟨none,0,by rw [h0]⟩
 · exact ⟨_,_,rfl⟩
set_option maxRecDepth 100000 in
set_option maxHeartbeats 4000000 in
theorem Qw (g : Nat) (fa fb : S43 → Int) (eg : ∀ args w,(callFunc g args).run Try.prog w = .ok (.enter g args) w) (hg : PairB g fa fb) (A : Option Addr) (c : Nat) (l : List S43) (w : World) (hl : l.length ≤ 100000) (hr : Kd.C k43 w A l.length l) :
 Calls Try.prog 128 #[.slice A l.length c,.func (.func g) #[] #[]] w fun e w' => ∃ v,e = .returned v ∧ w'.ownsRow w.heap.size 3 1 v (edgesL fa fb l).length (ints (edgesL fa fb l)) ∧ Below w.heap.size w w' := by
 have HR := Zb.mk hr;have HG := Zb.mk hg;clear hr hg;obtain ⟨i0,hi,hz0,hz1,hz2⟩ := info_parts info3
 go_enter Try.func128,Try.ntmps128
 go_wp2
 go_loopg [5,7,8,9,12] l.length (fun gg s5 _ _ _ s12 wr => ∃ (kk : Nat) (B : Option Addr) (cB : Nat),kk ≤ l.length ∧ l.length - kk ≤ gg ∧ s12 = .int .i64 kk ∧ s5 = .slice B (endsOf fa fb (l.take kk)).length cB ∧ Zb (Below w.heap.size w wr) ∧ Zb (wr.ownsRow w.heap.size 3 1 (.slice B (endsOf fa fb (l.take kk)).length cB) (endsOf fa fb (l.take kk)).length (ints (endsOf fa fb (l.take kk)))))
 case atStart => exact ⟨0,none,0,Nat.zero_le _,by omega,rfl,rfl,⟨Below.refl _ w⟩,⟨World.ownsRow_nil _ _ _ _⟩⟩
 case round =>
  obtain ⟨kk,B,cB,hkk,hgg,rfl,rfl,BW,HO⟩ := hrel
  by_cases hlt : kk < l.length
  · have hltz : (kk : Int) < (l.length : Int) := by omega
    obtain ⟨ad,eA,hx0,hx1,hx2,hx3⟩ := Z4 (Kd.Z5 HR.out BW.out) (kk : Int) (by omega) (by omega)
    cases eA
    simp only [Int.toNat_natCast] at hx0 hx1 hx2 hx3;have hel := Xr l kk hlt;generalize hy : Ze l (kk : Int) = x at hx0 hx1 hx2 hx3;rw [hy] at hel;have ht := Zb.mk (endsOf_take fa fb l kk x hel);have hzl := Zb.mk (Q6 fa fb (l.take kk))
    have hz2l : (endsOf fa fb (l.take kk)).length ≤ 200000 := by have := hzl.out;rw [List.length_take] at this;omega
    generalize hzs : endsOf fa fb (l.take kk) = zs at HO ht hz2l ⊢;clear hzs hzl hel hy;obtain ⟨g0,g1,g2,g3,hB1⟩ := box4 wr x _ rfl;have HB1 := Zb.mk hB1;clear hB1
    by_cases h2 : 0 < x.f2
    · have h2b : decide (x.f2 > 0) = true := decide_eq_true h2
      by_cases h3 : 0 < x.f3
      · have h3b : decide (x.f3 > 0) = true := decide_eq_true h3
        have ht2 := ht.out;rw [if_pos ⟨h2,h3⟩] at ht2;clear ht;have HT := Zb.mk ht2;clear ht2;have HX := Zb.mk (HG.out (wr.alloc (.cells #[.int .i64 x.f0,.int .i64 x.f1,.int .i64 x.f2,.int .i64 x.f3] 43)) x);generalize fa x = ya at HT HX;generalize fb x = yb at HT HX;have hx := HX.out;unfold c43 at hx;have HX := Zb.mk hx;clear hx
        go_wp2_with (first | (go_at_fn g;refine HX.out.mono ?_;rintro e w5 ⟨rfl,hb5⟩;have HB5 := Zb.mk (HB1.out.trans (hb5.mono HB1.out.size));have HO5 := Zb.mk (XI HO.out HB5.out);have hs5 := HB5.out.size;clear hb5) | (at_builtin;refine wpList_append_own _ rfl (.tmp 30) (.tmp 33) 32 rfl w.heap.size 3 i0 (.int .i64 0) 1 8 Try.underlying32 hi hz0 hz1 hz2 rfl (by decide) (.slice B zs.length cB) zs.length (ints zs) rfl (HO5.out.alloc _) ⟨w5.heap.size,0,none⟩ 2 2 [.int .i64 ya,.int .i64 yb] rfl rfl ?c1 ?c2 ?c3 ?c4 ?c5 ?_;(case c1 => exact cells2_new _ _ _ _);(case c2 => intro u hu;simp only [List.mem_cons,List.not_mem_nil,or_false] at hu;rcases hu with rfl | rfl <;> rfl);(case c3 => unfold maxLen;omega);(case c4 => omega);(case c5 => have := BW.out.size;simp;omega);intro v' w6 hown hgr _;have HO6 := Zb.mk hown;have HG6 := Zb.mk hgr;clear hown hgr))
        have hge := fun k hk => (Xm HO.out (k := k) hk).1
        have hown := HO6.out;obtain ⟨B6,c6,rfl⟩ := Qc hown
        have hlen : (endsOf fa fb (l.take (kk + 1))).length = zs.length + 2 := by rw [HT.out];simp
        have hin : ints zs ++ [Value.int .i64 ya,Value.int .i64 yb] = ints (endsOf fa fb (l.take (kk + 1))) := by rw [HT.out];simp
        rw [hin,← hlen] at hown;have hB5 := BW.out.trans (HB5.out.mono BW.out.size);have hB6 : Below w.heap.size w w6 := X3 (hB5.alloc hB5.size _) (by have := hB5.size;simp;omega) HG6.out hge
        go_roundg (l.length - (kk + 1))
        case measure => omega
        case rel => exact ⟨kk + 1,B6,c6,by omega,by omega,by go_num,by rw [hlen],⟨hB6⟩,⟨hown⟩⟩
      · have h3b : decide (x.f3 > 0) = false := decide_eq_false h3
        have ht2 := ht.out;rw [if_neg (fun h => h3 h.2),List.append_nil] at ht2;clear ht
        go_wp2
        go_roundg (l.length - (kk + 1))
        case measure => omega
        case rel => exact ⟨kk + 1,B,cB,by omega,by omega,by go_num,by rw [ht2],⟨BW.out.trans (HB1.out.mono BW.out.size)⟩,⟨by rw [ht2];exact XI HO.out HB1.out⟩⟩
    · have h2b : decide (x.f2 > 0) = false := decide_eq_false h2
      have ht2 := ht.out;rw [if_neg (fun h => h2 h.1),List.append_nil] at ht2;clear ht
      go_wp2
      go_roundg (l.length - (kk + 1))
      case measure => omega
      case rel => exact ⟨kk + 1,B,cB,by omega,by omega,by go_num,by rw [ht2],⟨BW.out.trans (HB1.out.mono BW.out.size)⟩,⟨by rw [ht2];exact XI HO.out HB1.out⟩⟩
  · have hltz : ¬ (kk : Int) < (l.length : Int) := by omega
    obtain rfl : kk = l.length := by omega
    rw [List.take_length] at HO ⊢;have hz2l := Q6 fa fb l;generalize hzs : endsOf fa fb l = zs at HO hz2l ⊢
    have hed : edgesL fa fb l = Lib.compact (sortI zs) := by rw [← hzs];rfl
    have HED := Zb.mk hed;clear hed hzs
    have hN : (sortI zs).length = zs.length := by simp [sortI]
    have HS := Zb.mk (sort_own HO.out (by omega))
    have hge := fun k hk => (Xm HO.out (k := k) hk).1
    go_wp2_with (first | (go_at_call 142;refine HS.out.mono ?_;rintro e w5 ⟨rfl,hg5,ho5⟩;have HG5 := Zb.mk hg5;have ho5' := ho5;rw [← hN] at ho5';have HC := Zb.mk (compact_own ho5' (by omega));rw [hN] at HC;clear hg5 ho5 ho5') | (go_at_call 143;refine HC.out.mono ?_;rintro e w6 ⟨rfl,hg6,ho6⟩))
    go_ret;rw [HED.out];have hB5 : Below w.heap.size w w5 := X3 BW.out BW.out.size HG5.out hge;exact ⟨_,rfl,ho6,X3 hB5 hB5.size hg6 hge⟩
end Go.Proofs.Ythbajahklnpkcaa.PA

namespace Go.Proofs.Ythbajahklnpkcaa.PA
open Go.RowKit Go.Shelf Go.Sort Go.Proofs.YthbajahklnpkcaaW.PrintWords Go.Proofs.YthbajahklnpkcaaW.PrintLast Go.Proofs.YthbajahklnpkcaaW.PrintMore
attribute [local go_sem] ZK ZL ZR ZU
set_option linter.unusedVariables false
set_option linter.unusedSimpArgs false
theorem grow_calls (n : Nat) (hn : n ≤ 1000000) (w : World) : Calls Try.prog 137 #[.slice none 0 0,.int .i64 n] w fun e w' => ∃ v,e = .returned v ∧ Kd.R k43 43 w' w.heap.size (fun _ => True) v [] ∧ Below w.heap.size w w' := by
 obtain ⟨i0,hi,hz0,hz1,hz2⟩ := info_parts info43
 by_cases h0 : n = 0
 · subst h0
   refine (Any8.slices_Grow_room growL none 0 0 0 w (by omega) (by omega) (by omega) (by omega)).mono ?_;rintro e w' ⟨rfl,rfl⟩;exact ⟨_,rfl,Kd.R_nil _ _ _ _ _,Below.refl _ _⟩
 · refine (Any8.slices_Grow_grow growL i0 _ hi hz0 (by rw [hz1];decide) none 0 0 n [] w (by omega) (by omega) (by rw [hz2];omega) (by omega) (by simp) (fun _ => rfl) (by intro a h;cases h)).mono ?_
   rintro e w' ⟨rfl,rfl⟩;have hge := grownCap_ge w (0 + n) 0 (Ym.t 25);have hle := grownCap_le_maxLen w (0 + n) 0 (Ym.t 25) (by unfold maxLen;omega);refine ⟨_,rfl,⟨fun _ _ => trivial,[],⟨by simp,.inr ⟨w.heap.size,_,_,rfl,Nat.le_refl _,World.alloc_heap_new w.drew _,Nat.zero_le _,hle,?_,by simp⟩⟩,Reps.none _ _⟩,?_⟩
   · show _ = _ * 4
     simp only [Nat.zero_add] at hge ⊢;simp only [Array.size_append,size_zeroCells,List.size_toArray,Value.cells];simp;omega
   · exact (Zd (Below.refl _ w)).alloc (Nat.le_refl _) _
def fl43 (l : List S43) : List Value := l.flatMap fun x => [.int .i64 x.f0,.int .i64 x.f1,.int .i64 x.f2,.int .i64 x.f3]
def partC (a b : List S43) (k : Nat) : List S43 := if k = 0 then [] else if k = 1 then a else a ++ b
set_option maxRecDepth 100000 in
set_option maxHeartbeats 4000000 in
theorem concat_calls (g : Nat) (A B : Option Addr) (cA cB : Nat) (a b : List S43) (w : World) (h0 : w.cell? ⟨g,0,none⟩ = some (.slice A a.length cA)) (h1 : w.cell? ⟨g,1,none⟩ = some (.slice B b.length cB))
 (hr : Kd.C k43 w A a.length a) (hr2 : Kd.C k43 w B b.length b) (hla : a.length ≤ 100000) (hlb : b.length ≤ 100000) :
 Calls Try.prog 111 #[.slice (some ⟨g,0,none⟩) 2 2] w fun e w' => ∃ v,e = .returned v ∧ Kd.R k43 43 w' w.heap.size (fun _ => True) v (a ++ b) ∧ Below w.heap.size w w' := by
 have lg : g < w.heap.size := World.block_lt_of_cell? _ _ h0
 have HG := fun w' => Zb.mk (grow_calls (a.length + b.length) (by omega) w')
 have HR := Zb.mk hr;have HR2 := Zb.mk hr2;clear hr hr2
 go_enter Try.func111,Try.ntmps111
 go_wp2
 go_loopg [3,5,11] 2 (fun gg s3 _ s11 wr => ∃ kk : Nat,kk ≤ 2 ∧ 2 - kk ≤ gg ∧ s11 = .int .i64 kk ∧ s3 = .int .i64 (partC a b kk).length ∧ wr = w)
 case atStart => exact ⟨0,by omega,by omega,rfl,rfl,rfl⟩
 case round =>
  obtain ⟨kk,hkk,hgg,rfl,rfl,hww⟩ := hrel;obtain rfl := hww.symm
  rcases (show kk = 0 ∨ kk = 1 ∨ kk = 2 by omega) with rfl | rfl | rfl
  · have hw : wrap64 (((partC a b 0).length : Int) + (a.length : Int)) = (a.length : Int) := by simp [partC];exact w64 (by omega) (by omega)
    have hnn : ¬ (a.length : Int) < 0 := by omega
    go_wp2
    go_roundg 1
    case measure => omega
    case rel => exact ⟨1,by omega,by omega,by go_num,by simp [partC],rfl⟩
  · have hw : wrap64 (((partC a b 1).length : Int) + (b.length : Int)) = ((a.length + b.length : Nat) : Int) := by simp [partC];exact w64 (by omega) (by omega)
    have hnn : ¬ ((a.length + b.length : Nat) : Int) < 0 := by omega
    go_wp2
    go_roundg 0
    case measure => omega
    case rel => exact ⟨2,by omega,by omega,by go_num,by simp [partC],rfl⟩
  · have e2 : ((partC a b 2).length : Int) = ((a.length + b.length : Nat) : Int) := by simp [partC]
    rw [e2];clear e2
    go_wp2_with (first | (go_at_call 137;refine (HG _).out.mono ?_;rintro e w5 ⟨v5,rfl,hk5,hb5⟩;have HK5 := Zb.mk hk5;have HB5 := Zb.mk hb5;clear hk5 hb5))
    obtain ⟨A5,c5,rfl,hc5,hC5⟩ := Kd.XT HK5.out;clear hc5 hC5;have lg5 : g < w5.heap.size := Nat.lt_of_lt_of_le lg HB5.out.size
    go_wp2
    go_loopg [6,8,27] 2 (fun gg s6 _ s27 w7 => ∃ (kk : Nat) (A7 : Option Addr) (c7 : Nat),kk ≤ 2 ∧ 2 - kk ≤ gg ∧ s27 = .int .i64 kk ∧ s6 = .slice A7 (partC a b kk).length c7 ∧ Zb (Kd.R k43 43 w7 w.heap.size (fun _ => True) (.slice A7 (partC a b kk).length c7) (partC a b kk)) ∧ Zb (Below w.heap.size w w7))
    case atStart => exact ⟨0,A5,c5,by omega,by omega,rfl,rfl,HK5,HB5⟩
    case round =>
     obtain ⟨kk,A7,c7,hkk,hgg,rfl,rfl,HK7,HB7⟩ := hrel
     have hlp : (partC a b kk).length ≤ 200000 := by
      simp only [partC];split
      · simp
      · split
        · omega
        · simp;omega
     rcases (show kk = 0 ∨ kk = 1 ∨ kk = 2 by omega) with rfl | rfl | rfl
     · have h07 := (HB7.out.cell (p := ⟨g,0,none⟩) lg).trans h0
       generalize hx : partC a b 0 = xs at HK7 hlp ⊢
       have hxs : xs ++ a = partC a b 1 := by rw [← hx];simp [partC]
       clear hx;have HX := Zb.mk hxs;clear hxs
       go_wp2_with (first | (at_builtin;go_loud (refine Kd.Qk k43 (w0 := w) w.heap.size rfl (.tmp 31) (.tmp 32) 22 43 (.agg #[(.int .i64 0),(.int .i64 0),(.int .i64 0),(.int .i64 0)]) 32 rfl Try.underlying22 info43 rfl (by decide) (by omega) (.slice A7 xs.length c7) xs a A a.length cA (fun _ => True) (fun _ => False) rfl rfl HK7.out (Kd.Z5 HR.out HB7.out) (fun _ _ h => h) (fun _ h => h.elim) (fun _ _ => trivial) HB7.out HB7.out.size ?aL ?_;(case aL => omega);intro v8 w8 ho8 hb8 hg8 hat8;have HO8 := Zb.mk ho8;have HB8 := Zb.mk hb8;clear ho8 hb8 hg8 hat8)))
       have ho := HO8.out;rw [HX.out] at ho;obtain ⟨A8,c8,rfl,-,-⟩ := Kd.XT ho
       go_roundg 1
       case measure => omega
       case rel => exact ⟨1,A8,c8,by omega,by omega,by go_num,rfl,⟨ho⟩,HB8⟩
     · have h17 := (HB7.out.cell (p := ⟨g,1,none⟩) lg).trans h1
       generalize hx : partC a b 1 = xs at HK7 hlp ⊢
       have hxs : xs ++ b = partC a b 2 := by rw [← hx];simp [partC]
       clear hx;have HX := Zb.mk hxs;clear hxs
       go_wp2_with (first | (at_builtin;refine Kd.Qk k43 (w0 := w) w.heap.size rfl (.tmp 31) (.tmp 32) 22 43 (.agg #[(.int .i64 0),(.int .i64 0),(.int .i64 0),(.int .i64 0)]) 32 rfl Try.underlying22 info43 rfl (by decide) (by omega) (.slice A7 xs.length c7) xs b B b.length cB (fun _ => True) (fun _ => False) rfl rfl HK7.out (Kd.Z5 HR2.out HB7.out) (fun _ _ h => h) (fun _ h => h.elim) (fun _ _ => trivial) HB7.out HB7.out.size ?aL ?_;(case aL => omega);intro v8 w8 ho8 hb8 hg8 hat8;have HO8 := Zb.mk ho8;have HB8 := Zb.mk hb8;clear ho8 hb8 hg8 hat8))
       have ho := HO8.out;rw [HX.out] at ho;obtain ⟨A8,c8,rfl,-,-⟩ := Kd.XT ho
       go_roundg 0
       case measure => omega
       case rel => exact ⟨2,A8,c8,by omega,by omega,by go_num,rfl,⟨ho⟩,HB8⟩
     · have ho := HK7.out
       have e2 : partC a b 2 = a ++ b := by simp [partC]
       rw [e2] at ho;have HO := Zb.mk ho;clear ho
       go_wp2
       go_ret;exact ⟨_,rfl,by rw [e2];exact HO.out,HB7.out⟩
end Go.Proofs.Ythbajahklnpkcaa.PA

namespace Go.Proofs.Ythbajahklnpkcaa.PA
set_option autoImplicit false
set_option linter.unusedVariables false
set_option linter.unusedSimpArgs false
abbrev Sp := Int × Int
abbrev Bd := Int × Int × List Sp
def addR (acc : List Sp) (u v : Int) (t : Bool) : List Sp :=
 if t = true then
  match acc with
  | (a,b) :: r => if b = u then (a,v) :: r else (u,v) :: (a,b) :: r
  | [] => [(u,v)]
 else acc
def rowR (p : Int → Bool) : List Int → List Sp → List Sp
 | u :: v :: r,acc => rowR p (v :: r) (addR acc u v (p u))
 | [_],acc => acc
 | [],acc => acc
def unitR (p : Int → Bool) : Nat → Int → List Sp → List Sp
 | 0,_,acc => acc
 | n + 1,u,acc => unitR p n (u + 1) (addR acc u (u + 1) (p u))
theorem addR_addR (acc : List Sp) (u v w : Int) (t : Bool) : addR (addR acc u v t) v w t = addR acc u w t := by
 cases t
 · simp [addR]
 · cases acc with
   | nil => simp [addR]
   | cons h r => obtain ⟨a,b⟩ := h;by_cases hb : b = u <;> simp [addR,hb]
theorem QE (p : Int → Bool) (t : Bool) : ∀ (n : Nat) (u : Int) (acc : List Sp),(∀ x,u ≤ x → x < u + (n + 1 : Nat) → p x = t) → unitR p (n + 1) u acc = addR acc u (u + (n + 1 : Nat)) t
 | 0,u,acc,h => by simp [unitR,h u (by omega) (by omega)]
 | n + 1,u,acc,h => by
  have e := QE p t n (u + 1) (addR acc u (u + 1) (p u)) (fun x h1 h2 => h x (by omega) (by omega));have hu := h u (by omega) (by omega);show unitR p (n + 1) (u + 1) (addR acc u (u + 1) (p u)) = _;rw [e,hu,addR_addR]
  congr 1
  omega
theorem QN (p : Int → Bool) : ∀ (m n : Nat) (u : Int) (acc : List Sp),unitR p (m + n) u acc = unitR p n (u + m) (unitR p m u acc)
 | 0,n,u,acc => by simp [unitR]
 | m + 1,n,u,acc => by
  rw [show m + 1 + n = (m + n) + 1 by omega];show unitR p (m + n) (u + 1) _ = unitR p n (u + (m + 1 : Nat)) (unitR p m (u + 1) _);rw [QN p m n (u + 1)]
  congr 1
  omega
theorem QF (p : Int → Bool) (n : Nat) (u : Int) (acc : List Sp) (h : ∀ x,u ≤ x → x < u + n → p x = false) : unitR p n u acc = acc := by
 cases n with
 | zero => rfl
 | succ n => rw [QE p false n u acc h];simp [addR]
theorem Y2 (p q : Int → Bool) : ∀ (n : Nat) (u : Int) (acc : List Sp),(∀ x,u ≤ x → x < u + n → p x = q x) → unitR p n u acc = unitR q n u acc
 | 0,_,_,_ => rfl
 | n + 1,u,acc,h => by
  show unitR p n (u + 1) (addR acc u (u + 1) (p u)) = unitR q n (u + 1) (addR acc u (u + 1) (q u));rw [h u (by omega) (by omega)];exact Y2 p q n (u + 1) _ (fun x h1 h2 => h x (by omega) (by omega))
def Cut {α} (p : Int → α) : List Int → Prop
 | u :: v :: r => u < v ∧ (∀ x,u ≤ x → x < v → p x = p u) ∧ Cut p (v :: r)
 | [_] => True
 | [] => True
theorem Cut.Yl {α} {p : Int → α} : ∀ {l : List Int} {u : Int},Cut p (u :: l) → u ≤ (u :: l).getLast (by simp)
 | [],u,_ => by simp
 | v :: r,u,h => by
  have := Cut.Yl h.2.2;rw [List.getLast_cons (by simp)];have := h.1;omega
theorem Jw (p : Int → Bool) : ∀ (l : List Int) (u : Int) (acc : List Sp) (e : Int),Cut p (u :: l) → e = (u :: l).getLast (by simp) → rowR p (u :: l) acc = unitR p (e - u).toNat u acc
 | [],u,acc,e,h,he => by simp at he;simp [rowR,he,unitR]
 | v :: r,u,acc,e,h,he => by
  rw [List.getLast_cons (by simp)] at he;have h1 := h.1;have hl := h.2.2.Yl;rw [← he] at hl;have ih := Jw p r v (addR acc u v (p u)) e h.2.2 he;show rowR p (v :: r) (addR acc u v (p u)) = _;rw [ih]
  obtain ⟨n,hn⟩ : ∃ n : Nat,v = u + (n + 1 : Nat) := ⟨(v - u - 1).toNat,by omega⟩
  have hc := QE p (p u) n u acc (fun x a b => h.2.1 x a (by omega));rw [show (e - u).toNat = (n + 1) + (e - v).toNat by omega,QN,hc,← hn]
theorem rowR_all (p : Int → Bool) (l : List Int) (M : Nat) (hc : Cut p l) (hb : ∀ x ∈ l,-(M : Int) ≤ x ∧ x ≤ M) (ho : ∀ x,p x = true → ∃ u r,l = u :: r ∧ u ≤ x ∧ x < (u :: r).getLast (by simp)) :
 rowR p l [] = unitR p (2 * M) (-(M : Int)) [] := by
 cases l with
 | nil =>
  rw [QF]
  · rfl
  · intro x _ _
    cases h : p x with
    | false => rfl
    | true => obtain ⟨_,_,h,_⟩ := ho x h;cases h
 | cons u r =>
  have hl := hc.Yl
  obtain ⟨e,he⟩ : ∃ e,e = (u :: r).getLast (by simp) := ⟨_,rfl⟩
  rw [← he] at hl;have h1 := hb u (by simp);have h2 := hb e (by rw [he];exact List.getLast_mem _);rw [Jw p r u [] e hc he]
  have hf : ∀ x,(x < u ∨ e ≤ x) → p x = false := by
   intro x hx
   cases h : p x with
   | false => rfl
   | true =>
    obtain ⟨_,_,hh,ha,hb⟩ := ho x h
    cases hh
    rw [← he] at hb;omega
  rw [show 2 * M = (u + M).toNat + ((e - u).toNat + (M - e).toNat) by omega,QN,QN];rw [QF p (u + M).toNat (-(M : Int)) [] (fun x _ hx => hf x (by omega))];rw [show -(M : Int) + ((u + M).toNat : Nat) = u by omega,show u + ((e - u).toNat : Nat) = e by omega];rw [QF p (M - e).toNat e _ (fun x hx _ => hf x (by omega))]
def addB (acc : List Bd) (u v : Int) (s : List Sp) : List Bd :=
 match s with
 | [] => acc
 | _ :: _ =>
  match acc with
  | (a,b,t) :: r => if b = u ∧ t = s then (a,v,t) :: r else (u,v,s) :: (a,b,t) :: r
  | [] => [(u,v,s)]
def bandR (f : Int → List Sp) : List Int → List Bd → List Bd
 | u :: v :: r,acc => bandR f (v :: r) (addB acc u v (f u))
 | [_],acc => acc
 | [],acc => acc
def unitB (f : Int → List Sp) : Nat → Int → List Bd → List Bd
 | 0,_,acc => acc
 | n + 1,u,acc => unitB f n (u + 1) (addB acc u (u + 1) (f u))
theorem addB_addB (acc : List Bd) (u v w : Int) (s : List Sp) : addB (addB acc u v s) v w s = addB acc u w s := by
 cases s with
 | nil => simp [addB]
 | cons s0 s =>
  cases acc with
  | nil => simp [addB]
  | cons h r => obtain ⟨a,b,t⟩ := h;by_cases hb : b = u ∧ t = s0 :: s <;> simp [addB,hb]
theorem QD (f : Int → List Sp) (t : List Sp) : ∀ (n : Nat) (u : Int) (acc : List Bd),(∀ x,u ≤ x → x < u + (n + 1 : Nat) → f x = t) → unitB f (n + 1) u acc = addB acc u (u + (n + 1 : Nat)) t
 | 0,u,acc,h => by simp [unitB,h u (by omega) (by omega)]
 | n + 1,u,acc,h => by
  have e := QD f t n (u + 1) (addB acc u (u + 1) (f u)) (fun x h1 h2 => h x (by omega) (by omega));have hu := h u (by omega) (by omega);show unitB f (n + 1) (u + 1) (addB acc u (u + 1) (f u)) = _;rw [e,hu,addB_addB]
  congr 1
  omega
theorem QO (f : Int → List Sp) : ∀ (m n : Nat) (u : Int) (acc : List Bd),unitB f (m + n) u acc = unitB f n (u + m) (unitB f m u acc)
 | 0,n,u,acc => by simp [unitB]
 | m + 1,n,u,acc => by
  rw [show m + 1 + n = (m + n) + 1 by omega];show unitB f (m + n) (u + 1) _ = unitB f n (u + (m + 1 : Nat)) (unitB f m (u + 1) _);rw [QO f m n (u + 1)]
  congr 1
  omega
theorem Yp (f : Int → List Sp) (n : Nat) (u : Int) (acc : List Bd) (h : ∀ x,u ≤ x → x < u + n → f x = []) : unitB f n u acc = acc := by
 cases n with
 | zero => rfl
 | succ n => rw [QD f [] n u acc h];simp [addB]
theorem Yz (f g : Int → List Sp) : ∀ (n : Nat) (u : Int) (acc : List Bd),(∀ x,u ≤ x → x < u + n → f x = g x) → unitB f n u acc = unitB g n u acc
 | 0,_,_,_ => rfl
 | n + 1,u,acc,h => by
  show unitB f n (u + 1) (addB acc u (u + 1) (f u)) = unitB g n (u + 1) (addB acc u (u + 1) (g u));rw [h u (by omega) (by omega)];exact Yz f g n (u + 1) _ (fun x h1 h2 => h x (by omega) (by omega))
theorem YD (f : Int → List Sp) : ∀ (l : List Int) (u : Int) (acc : List Bd) (e : Int),Cut f (u :: l) → e = (u :: l).getLast (by simp) → bandR f (u :: l) acc = unitB f (e - u).toNat u acc
 | [],u,acc,e,h,he => by simp at he;simp [bandR,he,unitB]
 | v :: r,u,acc,e,h,he => by
  rw [List.getLast_cons (by simp)] at he;have h1 := h.1;have hl := h.2.2.Yl;rw [← he] at hl;have ih := YD f r v (addB acc u v (f u)) e h.2.2 he;show bandR f (v :: r) (addB acc u v (f u)) = _;rw [ih]
  obtain ⟨n,hn⟩ : ∃ n : Nat,v = u + (n + 1 : Nat) := ⟨(v - u - 1).toNat,by omega⟩
  have hc := QD f (f u) n u acc (fun x a b => h.2.1 x a (by omega));rw [show (e - u).toNat = (n + 1) + (e - v).toNat by omega,QO,hc,← hn]
theorem bandR_all (f : Int → List Sp) (l : List Int) (M : Nat) (hc : Cut f l) (hb : ∀ x ∈ l,-(M : Int) ≤ x ∧ x ≤ M) (ho : ∀ x,f x ≠ [] → ∃ u r,l = u :: r ∧ u ≤ x ∧ x < (u :: r).getLast (by simp)) :
 bandR f l [] = unitB f (2 * M) (-(M : Int)) [] := by
 cases l with
 | nil =>
  rw [Yp]
  · rfl
  · intro x _ _
    rcases Classical.em (f x = []) with h | h
    · exact h
    · obtain ⟨_,_,h,_⟩ := ho x h;cases h
 | cons u r =>
  have hl := hc.Yl
  obtain ⟨e,he⟩ : ∃ e,e = (u :: r).getLast (by simp) := ⟨_,rfl⟩
  rw [← he] at hl;have h1 := hb u (by simp);have h2 := hb e (by rw [he];exact List.getLast_mem _);rw [YD f r u [] e hc he]
  have hf : ∀ x,(x < u ∨ e ≤ x) → f x = [] := by
   intro x hx
   rcases Classical.em (f x = []) with h | h
   · exact h
   · obtain ⟨_,_,hh,ha,hb⟩ := ho x h
     cases hh
     rw [← he] at hb;omega
  rw [show 2 * M = (u + M).toNat + ((e - u).toNat + (M - e).toNat) by omega,QO,QO];rw [Yp f (u + M).toNat (-(M : Int)) [] (fun x _ hx => hf x (by omega))];rw [show -(M : Int) + ((u + M).toNat : Nat) = u by omega,show u + ((e - u).toNat : Nat) = e by omega];rw [Yp f (M - e).toNat e _ (fun x hx _ => hf x (by omega))]
def inS (l : List Sp) (x : Int) : Prop := ∃ s ∈ l,s.1 ≤ x ∧ x < s.2
def OkS (l : List Sp) : Prop := ∀ s ∈ l,s.1 < s.2
theorem Vj {acc : List Sp} {u v : Int} {t : Bool} (h : OkS acc) (huv : u < v) : OkS (addR acc u v t) := by
 cases t
 · simpa [addR] using h
 · cases acc with
   | nil => intro s hs;simp [addR] at hs;subst hs;exact huv
   | cons q r =>
    obtain ⟨a,b⟩ := q;have hab := h (a,b) (by simp)
    by_cases hb : b = u
    · intro s hs
      simp [addR,hb] at hs
      rcases hs with rfl | hs
      · simp at hab ⊢;omega
      · exact h s (by simp [hs])
    · intro s hs
      simp [addR,hb] at hs
      rcases hs with rfl | rfl | hs
      · exact huv
      · exact hab
      · exact h s (by simp [hs])
theorem inS_addR {acc : List Sp} {u v : Int} {t : Bool} (h : OkS acc) (huv : u < v) (x : Int) : inS (addR acc u v t) x ↔ inS acc x ∨ (t = true ∧ u ≤ x ∧ x < v) := by
 cases t
 · simp [addR]
 · cases acc with
   | nil => simp [addR,inS]
   | cons q r =>
    obtain ⟨a,b⟩ := q;have hab := h (a,b) (by simp);simp only at hab
    by_cases hb : b = u
    · simp [addR,hb,inS]
      constructor
      · rintro (h1 | h1)
        · rcases Classical.em (x < u) with h2 | h2
          · exact .inl (.inl ⟨h1.1,h2⟩)
          · exact .inr ⟨by omega,h1.2⟩
        · exact .inl (.inr h1)
      · rintro ((h1 | h1) | h1)
        · exact .inl ⟨h1.1,by omega⟩
        · exact .inr h1
        · exact .inl ⟨by omega,h1.2⟩
    · simp [addR,hb,inS]
      constructor
      · rintro (h1 | h1 | h1)
        · exact .inr h1
        · exact .inl (.inl h1)
        · exact .inl (.inr h1)
      · rintro ((h1 | h1) | h1)
        · exact .inr (.inl h1)
        · exact .inr (.inr h1)
        · exact .inl h1
theorem YM (p : Int → Bool) : ∀ (n : Nat) (u : Int) (acc : List Sp),OkS acc → OkS (unitR p n u acc)
 | 0,_,_,h => h
 | n + 1,u,acc,h => YM p n (u + 1) _ (Vj h (by omega))
theorem Ju (p : Int → Bool) : ∀ (n : Nat) (u : Int) (acc : List Sp),OkS acc → ∀ x,(inS (unitR p n u acc) x ↔ inS acc x ∨ (u ≤ x ∧ x < u + n ∧ p x = true))
 | 0,u,acc,h,x => by simp [unitR];omega
 | n + 1,u,acc,h,x => by
  show inS (unitR p n (u + 1) (addR acc u (u + 1) (p u))) x ↔ _;rw [Ju p n (u + 1) _ (Vj h (by omega)) x,inS_addR h (by omega) x];constructor
  · rintro ((h1 | ⟨h1,h2,h3⟩) | ⟨h1,h2,h3⟩)
    · exact .inl h1
    · obtain rfl : x = u := by omega
      exact .inr ⟨h2,by omega,h1⟩
    · exact .inr ⟨by omega,by omega,h3⟩
  · rintro (h1 | ⟨h1,h2,h3⟩)
    · exact .inl (.inl h1)
    · rcases Classical.em (x = u) with rfl | hx
      · exact .inl (.inr ⟨h3,by omega,by omega⟩)
      · exact .inr ⟨by omega,by omega,h3⟩
def inB (l : List Bd) (x y : Int) : Prop := ∃ b ∈ l,b.1 ≤ y ∧ y < b.2.1 ∧ inS b.2.2 x
def OkB (l : List Bd) : Prop := ∀ b ∈ l,b.1 < b.2.1
theorem addB_ok {acc : List Bd} {u v : Int} {s : List Sp} (h : OkB acc) (huv : u < v) : OkB (addB acc u v s) := by
 cases s with
 | nil => simpa [addB] using h
 | cons s0 s =>
  cases acc with
  | nil => intro b hb;simp [addB] at hb;subst hb;exact huv
  | cons q r =>
   obtain ⟨a,b,t⟩ := q;have hab := h (a,b,t) (by simp)
   by_cases hb : b = u ∧ t = s0 :: s
   · intro z hz
     simp [addB,hb] at hz
     rcases hz with rfl | hz
     · simp at hab ⊢;omega
     · exact h z (by simp [hz])
   · intro z hz
     simp [addB,hb] at hz
     rcases hz with rfl | rfl | hz
     · exact huv
     · exact hab
     · exact h z (by simp [hz])
theorem inB_addB {acc : List Bd} {u v : Int} {s : List Sp} (h : OkB acc) (huv : u < v) (x y : Int) : inB (addB acc u v s) x y ↔ inB acc x y ∨ (u ≤ y ∧ y < v ∧ inS s x) := by
 cases s with
 | nil => simp [addB,inS]
 | cons s0 s =>
  cases acc with
  | nil => simp [addB,inB]
  | cons q r =>
   obtain ⟨a,b,t⟩ := q;have hab := h (a,b,t) (by simp);simp only at hab
   by_cases hb : b = u ∧ t = s0 :: s
   · obtain ⟨rfl,rfl⟩ := hb
     simp only [addB,and_self,if_true,inB,List.mem_cons,exists_eq_or_imp];constructor
     · rintro (⟨h1,h2,h3⟩ | h1)
       · rcases Classical.em (y < b) with h4 | h4
         · exact .inl (.inl ⟨h1,h4,h3⟩)
         · exact .inr ⟨by omega,h2,h3⟩
       · exact .inl (.inr h1)
     · rintro ((⟨h1,h2,h3⟩ | h1) | ⟨h1,h2,h3⟩)
       · exact .inl ⟨h1,by omega,h3⟩
       · exact .inr h1
       · exact .inl ⟨by omega,h2,h3⟩
   · simp only [addB,hb,if_false,inB,List.mem_cons,exists_eq_or_imp]
     constructor
     · rintro (h1 | h1 | h1)
       · exact .inr h1
       · exact .inl (.inl h1)
       · exact .inl (.inr h1)
     · rintro ((h1 | h1) | h1)
       · exact .inr (.inl h1)
       · exact .inr (.inr h1)
       · exact .inl h1
theorem Jr (f : Int → List Sp) : ∀ (n : Nat) (u : Int) (acc : List Bd),OkB acc → ∀ x y,(inB (unitB f n u acc) x y ↔ inB acc x y ∨ (u ≤ y ∧ y < u + n ∧ inS (f y) x))
 | 0,u,acc,h,x,y => by simp [unitB];omega
 | n + 1,u,acc,h,x,y => by
  show inB (unitB f n (u + 1) (addB acc u (u + 1) (f u))) x y ↔ _;rw [Jr f n (u + 1) _ (addB_ok h (by omega)) x y,inB_addB h (by omega) x y];constructor
  · rintro ((h1 | ⟨h1,h2,h3⟩) | ⟨h1,h2,h3⟩)
    · exact .inl h1
    · obtain rfl : y = u := by omega
      exact .inr ⟨by omega,by omega,h3⟩
    · exact .inr ⟨by omega,by omega,h3⟩
  · rintro (h1 | ⟨h1,h2,h3⟩)
    · exact .inl (.inl h1)
    · rcases Classical.em (y = u) with rfl | hx
      · exact .inl (.inr ⟨by omega,by omega,h3⟩)
      · exact .inr ⟨by omega,by omega,h3⟩
def rows (P : Int → Int → Bool) (M : Nat) (y : Int) : List Sp := (unitR (fun x => P x y) (2 * M) (-(M : Int)) []).reverse
def form (P : Int → Int → Bool) (M : Nat) : List Bd := unitB (rows P M) (2 * M) (-(M : Int)) []
theorem JM (P : Int → Int → Bool) (M : Nat) (x y : Int) : inS (rows P M y) x ↔ (-(M : Int) ≤ x ∧ x < M ∧ P x y = true) := by
 have h := Ju (fun x => P x y) (2 * M) (-(M : Int)) [] (by intro s hs;cases hs) x
 have e : inS (rows P M y) x ↔ inS (unitR (fun x => P x y) (2 * M) (-(M : Int)) []) x := by simp [rows,inS]
 rw [e,h];constructor
 · rintro (⟨s,hs,_⟩ | ⟨h1,h2,h3⟩)
   · cases hs
   · exact ⟨h1,by omega,h3⟩
 · rintro ⟨h1,h2,h3⟩
   exact .inr ⟨h1,by omega,h3⟩
theorem inB_form (P : Int → Int → Bool) (M : Nat) (x y : Int) : inB (form P M) x y ↔ (-(M : Int) ≤ x ∧ x < M ∧ -(M : Int) ≤ y ∧ y < M ∧ P x y = true) := by
 rw [form,Jr _ _ _ _ (by intro s hs;cases hs)];rw [JM];constructor
 · rintro (⟨s,hs,_⟩ | ⟨h1,h2,h3,h4,h5⟩)
   · cases hs
   · exact ⟨h3,h4,h1,by omega,h5⟩
 · rintro ⟨h1,h2,h3,h4,h5⟩
   exact .inr ⟨h3,by omega,h1,h2,h5⟩
theorem form_congr {P Q : Int → Int → Bool} (M : Nat) (h : ∀ x y,-(M : Int) ≤ x → x < M → -(M : Int) ≤ y → y < M → P x y = Q x y) : form P M = form Q M := by
 rw [form,form];apply Yz;intro y h1 h2;rw [rows,rows,Y2 _ (fun x => Q x y)];intro x h3 h4;exact h x y h3 (by omega) h1 (by omega)
def hasR (l : List S43) (x y : Int) : Bool := l.any fun r => decide (r.f0 ≤ x) && decide (x < r.f0 + r.f2) && decide (r.f1 ≤ y) && decide (y < r.f1 + r.f3)
def bandL (b : Bd) : List S43 := b.2.2.map fun s => ⟨s.1,b.1,s.2 - s.1,b.2.1 - b.1⟩
def flatB (acc : List Bd) : List S43 := acc.reverse.flatMap bandL
def full (P : Int → Int → Bool) (M : Nat) : List S43 := flatB (form P M)
theorem Qm (l : List S43) (x y : Int) : hasR l x y = true ↔ ∃ r ∈ l,r.f0 ≤ x ∧ x < r.f0 + r.f2 ∧ r.f1 ≤ y ∧ y < r.f1 + r.f3 := by
 simp only [hasR,List.any_eq_true,Bool.and_eq_true,decide_eq_true_eq,and_assoc]
theorem hasR_flatB (B : List Bd) (x y : Int) : hasR (flatB B) x y = true ↔ inB B x y := by
 rw [Qm];simp only [flatB,List.mem_flatMap,List.mem_reverse,bandL,List.mem_map,inB,inS];constructor
 · rintro ⟨r,⟨b,hb,s,hs,rfl⟩,h1,h2,h3,h4⟩
   simp only at h1 h2 h3 h4;exact ⟨b,hb,h3,by omega,s,hs,h1,by omega⟩
 · rintro ⟨b,hb,h3,h4,s,hs,h1,h2⟩
   exact ⟨_,⟨b,hb,s,hs,rfl⟩,h1,by simp only;omega,h3,by simp only;omega⟩
def InBox (P : Int → Int → Bool) (M : Nat) : Prop := ∀ x y,P x y = true → -(M : Int) ≤ x ∧ x < M ∧ -(M : Int) ≤ y ∧ y < M
theorem hasR_full {P : Int → Int → Bool} {M : Nat} (h : InBox P M) (x y : Int) : hasR (full P M) x y = P x y := by
 rw [Bool.eq_iff_iff,full,hasR_flatB,inB_form];constructor
 · exact fun h => h.2.2.2.2
 · intro hp
   obtain ⟨h1,h2,h3,h4⟩ := h x y hp;exact ⟨h1,h2,h3,h4,hp⟩
def TR (is : Bool → Bool → Bool) (a b : List S43) (x y : Int) : Bool := is (hasR a x y) (hasR b x y)
def addP (acc : List Bd) (u v : Int) (s : List Sp) : List Bd :=
 match acc with
 | (a,b,t) :: r => if b = u ∧ t = s then (a,v,t) :: r else (u,v,s) :: (a,b,t) :: r
 | [] => [(u,v,s)]
def bandP (f : Int → List Sp) : List Int → List Bd → List Bd
 | u :: v :: r,acc => bandP f (v :: r) (addP acc u v (f u))
 | [_],acc => acc
 | [],acc => acc
def Desc (acc : List Bd) (u : Int) : Prop := acc.Pairwise (fun e e' => e'.2.1 ≤ e.1) ∧ ∀ e ∈ acc,e.1 < e.2.1 ∧ e.2.1 ≤ u
theorem addP_desc {acc : List Bd} {u v : Int} (s : List Sp) (h : Desc acc u) (huv : u < v) : Desc (addP acc u v s) v := by
 obtain ⟨h1,h2⟩ := h
 cases acc with
 | nil => exact ⟨by simp [addP],by intro e he;simp [addP] at he;subst he;exact ⟨huv,by simp⟩⟩
 | cons q r =>
  obtain ⟨a,b,t⟩ := q;have hq := h2 (a,b,t) (by simp);simp only at hq;rw [List.pairwise_cons] at h1
  by_cases hb : b = u ∧ t = s
  · simp only [addP,hb,and_self,if_true]
    refine ⟨List.pairwise_cons.mpr ⟨fun e he => h1.1 e he,h1.2⟩,?_⟩;intro e he
    rcases List.mem_cons.mp he with rfl | he
    · exact ⟨by simp only;omega,by simp⟩
    · have := h2 e (by simp [he]);exact ⟨this.1,by omega⟩
  · simp only [addP,hb,if_false]
    refine ⟨List.pairwise_cons.mpr ⟨fun e he => (h2 e he).2,List.pairwise_cons.mpr h1⟩,?_⟩;intro e he
    rcases List.mem_cons.mp he with rfl | he
    · exact ⟨huv,by simp⟩
    · have := h2 e he;exact ⟨this.1,by omega⟩
def keep (acc : List Bd) : List Bd := acc.filter fun b => !b.2.2.isEmpty
theorem keep_addP {acc : List Bd} {u v : Int} (s : List Sp) (h : Desc acc u) : keep (addP acc u v s) = addB (keep acc) u v s := by
 obtain ⟨h1,h2⟩ := h
 cases acc with
 | nil => cases s <;> simp [keep,addP,addB]
 | cons q r =>
  obtain ⟨a,b,t⟩ := q;have hq := h2 (a,b,t) (by simp);simp only at hq;rw [List.pairwise_cons] at h1
  by_cases hb : b = u ∧ t = s
  · obtain ⟨rfl,rfl⟩ := hb
    cases t with
    | nil => simp [keep,addP,addB]
    | cons t0 t => simp [keep,addP,addB]
  · simp only [addP,hb,if_false]
    cases s with
    | nil => simp [keep,addB]
    | cons s0 s =>
     have e : keep ((u,v,s0 :: s) :: (a,b,t) :: r) = (u,v,s0 :: s) :: keep ((a,b,t) :: r) := by simp [keep]
     rw [e]
     cases t with
     | cons t0 t =>
      have e : keep ((a,b,t0 :: t) :: r) = (a,b,t0 :: t) :: keep r := by simp [keep]
      rw [e];simp only [addB,hb,if_false]
     | nil =>
      have e : keep ((a,b,[]) :: r) = keep r := by simp [keep]
      rw [e]
      cases hk : keep r with
      | nil => simp [addB]
      | cons z zs =>
       obtain ⟨a',b',t'⟩ := z
       have hz : (a',b',t') ∈ keep r := by rw [hk];simp
       have hz : (a',b',t') ∈ r := (List.mem_filter.mp hz).1;have := h1.1 _ hz;simp only at this
       have hne : ¬ (b' = u ∧ t' = s0 :: s) := by omega
       simp only [addB,hne,if_false]
theorem YZ (f : Int → List Sp) : ∀ (l : List Int) (acc : List Bd) (u : Int),(u :: l).Pairwise (· < ·) → Desc acc u → keep (bandP f (u :: l) acc) = bandR f (u :: l) (keep acc)
 | [],acc,u,_,_ => rfl
 | v :: r,acc,u,hp,hd => by
  have huv : u < v := (List.pairwise_cons.mp hp).1 v (by simp);show keep (bandP f (v :: r) (addP acc u v (f u))) = bandR f (v :: r) (addB (keep acc) u v (f u));rw [YZ f r _ v (List.pairwise_cons.mp hp).2 (addP_desc _ hd huv),keep_addP _ hd]
theorem flatB_keep (acc : List Bd) : flatB (keep acc) = flatB acc := by
 have h : ∀ l : List Bd,(l.filter fun b => !b.2.2.isEmpty).flatMap bandL = l.flatMap bandL := by
  intro l
  induction l with
  | nil => rfl
  | cons b l ih =>
   obtain ⟨p,q,s⟩ := b
   cases s with
   | nil => simp [bandL,ih]
   | cons s0 s => simp [ih]
 rw [flatB,flatB,keep,← List.filter_reverse,h]
theorem flat_bandP (f : Int → List Sp) (l : List Int) (hp : l.Pairwise (· < ·)) : flatB (bandP f l []) = flatB (bandR f l []) := by
 cases l with
 | nil => rfl
 | cons u l =>
  rw [← flatB_keep,YZ f l [] u hp ⟨List.Pairwise.nil,by intro e he;cases he⟩];rfl
def EdgX (xs : List Int) (l : List S43) : Prop := ∀ r ∈ l,0 < r.f2 → 0 < r.f3 → r.f0 ∈ xs ∧ r.f0 + r.f2 ∈ xs
def EdgY (ys : List Int) (l : List S43) : Prop := ∀ r ∈ l,0 < r.f2 → 0 < r.f3 → r.f1 ∈ ys ∧ r.f1 + r.f3 ∈ ys
theorem J2 {u v : Int} {l : List S43} (hg : ∀ r ∈ l,0 < r.f2 → 0 < r.f3 → (r.f0 ≤ u ∨ v ≤ r.f0) ∧ (r.f0 + r.f2 ≤ u ∨ v ≤ r.f0 + r.f2)) (x y : Int) (h1 : u ≤ x) (h2 : x < v) : hasR l x y = hasR l u y := by
 rw [Bool.eq_iff_iff,Qm,Qm];constructor
 · rintro ⟨r,hr,h3,h4,h5,h6⟩
   have := hg r hr (by omega) (by omega);exact ⟨r,hr,by omega,by omega,h5,h6⟩
 · rintro ⟨r,hr,h3,h4,h5,h6⟩
   have := hg r hr (by omega) (by omega);exact ⟨r,hr,by omega,by omega,h5,h6⟩
theorem Jn {u v : Int} {l : List S43} (hg : ∀ r ∈ l,0 < r.f2 → 0 < r.f3 → (r.f1 ≤ u ∨ v ≤ r.f1) ∧ (r.f1 + r.f3 ≤ u ∨ v ≤ r.f1 + r.f3)) (x y : Int) (h1 : u ≤ y) (h2 : y < v) : hasR l x y = hasR l x u := by
 rw [Bool.eq_iff_iff,Qm,Qm];constructor
 · rintro ⟨r,hr,h3,h4,h5,h6⟩
   have := hg r hr (by omega) (by omega);exact ⟨r,hr,h3,h4,by omega,by omega⟩
 · rintro ⟨r,hr,h3,h4,h5,h6⟩
   have := hg r hr (by omega) (by omega);exact ⟨r,hr,h3,h4,by omega,by omega⟩
theorem gap {xs : List Int} (hp : xs.Pairwise (· < ·)) : ∀ {pre : List Int} {u v : Int} {r : List Int},xs = pre ++ u :: v :: r → ∀ z ∈ xs,z ≤ u ∨ v ≤ z := by
 intro pre u v r e z hz;subst e;rw [List.pairwise_append] at hp;obtain ⟨_,h2,h3⟩ := hp;rw [List.pairwise_cons] at h2
 rcases List.mem_append.mp hz with hz | hz
 · have := h3 z hz u (by simp);omega
 · rcases List.mem_cons.mp hz with rfl | hz
   · omega
   · rcases List.mem_cons.mp hz with rfl | hz
     · omega
     · have := (List.pairwise_cons.mp h2.2).1 z hz;omega
theorem YC {α : Type} {p : Int → α} {xs : List Int} (hp : xs.Pairwise (· < ·)) (hs : ∀ u v,(∀ z ∈ xs,z ≤ u ∨ v ≤ z) → ∀ x,u ≤ x → x < v → p x = p u) : Cut p xs := by
 have : ∀ (l pre : List Int),xs = pre ++ l → Cut p l := by
  intro l
  induction l with
  | nil => intro _ _;trivial
  | cons u l ih =>
   intro pre e
   cases l with
   | nil => trivial
   | cons v r =>
    refine ⟨?_,hs u v (gap hp e),ih (pre ++ [u]) (by simp [e])⟩;have h := hp;rw [e,List.pairwise_append] at h;exact (List.pairwise_cons.mp h.2.1).1 v (by simp)
 exact this xs [] rfl
theorem Ys {xs : List Int} (hp : xs.Pairwise (· < ·)) {a b x : Int} (ha : a ∈ xs) (hb : b ∈ xs) (h1 : a ≤ x) (h2 : x < b) : ∃ u r,xs = u :: r ∧ u ≤ x ∧ x < (u :: r).getLast (by simp) := by
 cases xs with
 | nil => cases ha
 | cons u r =>
  refine ⟨u,r,rfl,?_,?_⟩
  · rcases List.mem_cons.mp ha with rfl | ha
    · exact h1
    · have := (List.pairwise_cons.mp hp).1 a ha;omega
  · have hl : ∀ (l : List Int) (h : l ≠ []),l.Pairwise (· < ·) → ∀ z ∈ l,z ≤ l.getLast h := by
     intro l
     induction l with
     | nil => intro h;exact absurd rfl h
     | cons c l ih =>
      intro _ hp z hz
      cases l with
      | nil => simp at hz;simp [hz]
      | cons d l =>
       rw [List.getLast_cons (by simp)]
       rcases List.mem_cons.mp hz with rfl | hz
       · have h1 := (List.pairwise_cons.mp hp).1 d (by simp)
         have h2 := ih (by simp) (List.pairwise_cons.mp hp).2 d (by simp);omega
       · exact ih (by simp) (List.pairwise_cons.mp hp).2 z hz
    have := hl (u :: r) (by simp) hp b hb;omega
theorem Je {is : Bool → Bool → Bool} (his : is false false = false) {a b : List S43} {xs ys : List Int} {M : Nat}
 (hx : xs.Pairwise (· < ·)) (hy : ys.Pairwise (· < ·)) (bx : ∀ x ∈ xs,-(M : Int) ≤ x ∧ x ≤ M) (by_ : ∀ x ∈ ys,-(M : Int) ≤ x ∧ x ≤ M)
 (ea : EdgX xs a) (eb : EdgX xs b) (fa : EdgY ys a) (fb : EdgY ys b) :
 bandR (fun y => (rowR (fun x => TR is a b x y) xs []).reverse) ys [] = form (TR is a b) M := by
 have out : ∀ x y,TR is a b x y = true → ∃ r,(r ∈ a ∨ r ∈ b) ∧ r.f0 ≤ x ∧ x < r.f0 + r.f2 ∧ r.f1 ≤ y ∧ y < r.f1 + r.f3 := by
  intro x y h
  cases h1 : hasR a x y with
  | true => obtain ⟨r,hr,h⟩ := (Qm a x y).mp h1;exact ⟨r,.inl hr,h⟩
  | false =>
   cases h2 : hasR b x y with
   | true => obtain ⟨r,hr,h⟩ := (Qm b x y).mp h2;exact ⟨r,.inr hr,h⟩
   | false => simp [TR,h1,h2,his] at h
 have hrow : ∀ y,(rowR (fun x => TR is a b x y) xs []).reverse = rows (TR is a b) M y := by
  intro y;rw [rows,rowR_all _ xs M _ bx]
  · intro x hx'
    obtain ⟨r,hr,h1,h2,h3,h4⟩ := out x y hx';have h := hr.elim (fun hr => ea r hr (by omega) (by omega)) (fun hr => eb r hr (by omega) (by omega));exact Ys hx h.1 h.2 h1 h2
  · refine YC hx fun u v hg x h1 h2 => ?_
    have g1 := J2 (l := a) (fun r hr p q => ⟨hg _ (ea r hr p q).1,hg _ (ea r hr p q).2⟩) x y h1 h2;have g2 := J2 (l := b) (fun r hr p q => ⟨hg _ (eb r hr p q).1,hg _ (eb r hr p q).2⟩) x y h1 h2;simp only [TR,g1,g2]
 have hf : (fun y => (rowR (fun x => TR is a b x y) xs []).reverse) = rows (TR is a b) M := funext hrow;rw [hf,form];apply bandR_all _ ys M _ by_
 · intro y hne
   obtain ⟨s,hs⟩ := List.exists_mem_of_ne_nil _ hne;have hok : OkS (unitR (fun x => TR is a b x y) (2 * M) (-(M : Int)) []) := YM _ _ _ _ (by intro s hs;cases hs);have h1 := hok s (by simpa [rows] using hs);have h2 := (JM (TR is a b) M s.1 y).mp ⟨s,hs,by omega,h1⟩;obtain ⟨r,hr,h3,h4,h5,h6⟩ := out _ _ h2.2.2;have h := hr.elim (fun hr => fa r hr (by omega) (by omega)) (fun hr => fb r hr (by omega) (by omega));exact Ys hy h.1 h.2 h5 h6
 · refine YC hy fun u v hg y h1 h2 => ?_
   have g : ∀ x,TR is a b x y = TR is a b x u := by
    intro x;have g1 := Jn (l := a) (fun r hr p q => ⟨hg _ (fa r hr p q).1,hg _ (fa r hr p q).2⟩) x y h1 h2;have g2 := Jn (l := b) (fun r hr p q => ⟨hg _ (fb r hr p q).1,hg _ (fb r hr p q).2⟩) x y h1 h2;simp only [TR,g1,g2]
   simp only [rows,g]
def areaL : List S43 → Int
 | [] => 0
 | r :: l => r.f2 * r.f3 + areaL l
theorem full_congr {P Q : Int → Int → Bool} (M : Nat) (h : ∀ x y,P x y = Q x y) : full P M = full Q M := by
 rw [full,full,form_congr M (fun x y _ _ _ _ => h x y)]
def stepR (p : Int → Bool) (xs : List Int) (acc : List Sp) (k : Nat) : List Sp := addR acc (xs.getD k 0) (xs.getD (k + 1) 0) (p (xs.getD k 0))
def rowN (p : Int → Bool) (xs : List Int) (n : Nat) : List Sp := (List.range n).foldl (stepR p xs) []
theorem J0 (p : Int → Bool) (xs : List Int) (n : Nat) : rowN p xs (n + 1) = stepR p xs (rowN p xs n) n := by simp [rowN,List.range_succ]
theorem Yt {α : Type} (f : α → Nat → α) (g : α → Nat → α) (h : ∀ a k,g a k = f a (k + 1)) : ∀ (n : Nat) (a : α),(List.range n).foldl g a = ((List.range n).map (· + 1)).foldl f a := by
 intro n a;rw [List.foldl_map]
 congr 1
 funext a k
 exact h a k
theorem YV (p : Int → Bool) : ∀ (xs : List Int) (acc : List Sp),rowR p xs acc = (List.range (xs.length - 1)).foldl (stepR p xs) acc
 | [],acc => rfl
 | [_],acc => rfl
 | u :: v :: r,acc => by
  show rowR p (v :: r) (addR acc u v (p u)) = _;rw [YV p (v :: r) (addR acc u v (p u))];show _ = (List.range (r.length + 1)).foldl (stepR p (u :: v :: r)) acc;rw [List.range_succ_eq_map,List.foldl_cons];rw [Yt (stepR p (u :: v :: r)) (stepR p (v :: r)) (fun a k => by simp [stepR])];rfl
theorem addR_len (acc : List Sp) (u v : Int) (t : Bool) : (addR acc u v t).length ≤ acc.length + 1 := by
 cases t
 · simp [addR]
 · cases acc with
   | nil => simp [addR]
   | cons h r => obtain ⟨a,b⟩ := h;by_cases hb : b = u <;> simp [addR,hb]
theorem Ye (p : Int → Bool) (xs : List Int) : ∀ n : Nat,(rowN p xs n).length ≤ n
 | 0 => by simp [rowN]
 | n + 1 => by rw [J0];exact Nat.le_trans (addR_len _ _ _ _) (by have := Ye p xs n;omega)
theorem JK (p : Int → Bool) (xs : List Int) : rowN p xs (xs.length - 1) = rowR p xs [] := (YV p xs []).symm
def bdN (f : Int → List Sp) (ys : List Int) (n : Nat) : List Bd := (List.range n).map fun i => (ys.getD i 0,ys.getD (i + 1) 0,f (ys.getD i 0))
theorem JX (f : Int → List Sp) (ys : List Int) (n : Nat) : bdN f ys (n + 1) = bdN f ys n ++ [(ys.getD n 0,ys.getD (n + 1) 0,f (ys.getD n 0))] := by simp [bdN,List.range_succ]
theorem Vi (f : Int → List Sp) (ys : List Int) (n : Nat) : (bdN f ys n).length = n := by simp [bdN]
theorem bdN_pre (f : Int → List Sp) (ys : List Int) {i n : Nat} (h : i < n) : ∃ rest,bdN f ys i ++ (ys.getD i 0,ys.getD (i + 1) 0,f (ys.getD i 0)) :: rest = bdN f ys n := by
 refine ⟨(bdN f ys n).drop (i + 1),?_⟩
 have e : bdN f ys (i + 1) = (bdN f ys n).take (i + 1) := by
  simp only [bdN,← List.map_take,List.take_range];rw [Nat.min_eq_left (by omega)]
 have : bdN f ys i ++ (ys.getD i 0,ys.getD (i + 1) 0,f (ys.getD i 0)) :: (bdN f ys n).drop (i + 1) = bdN f ys (i + 1) ++ (bdN f ys n).drop (i + 1) := by rw [JX];simp
 rw [this,e,List.take_append_drop]
def accP (l : List Bd) : List Bd := l.foldl (fun acc x => addP acc x.1 x.2.1 x.2.2) []
theorem accP_snoc (l : List Bd) (x : Bd) : accP (l ++ [x]) = addP (accP l) x.1 x.2.1 x.2.2 := by simp [accP]
theorem addP_len (acc : List Bd) (u v : Int) (s : List Sp) : (addP acc u v s).length ≤ acc.length + 1 := by
 cases acc with
 | nil => simp [addP]
 | cons h r => obtain ⟨a,b,t⟩ := h;by_cases hb : b = u ∧ t = s <;> simp [addP,hb]
theorem YR (l : List Bd) : (accP l).length ≤ l.length := by
 have : ∀ (l : List Bd) (acc : List Bd),(l.foldl (fun acc x => addP acc x.1 x.2.1 x.2.2) acc).length ≤ acc.length + l.length := by
  intro l
  induction l with
  | nil => intro acc;simp
  | cons x l ih =>
   intro acc;have h1 := ih (addP acc x.1 x.2.1 x.2.2);have h2 := addP_len acc x.1 x.2.1 x.2.2;simp only [List.foldl_cons,List.length_cons];omega
 have := this l []
 simpa [accP] using this
theorem Yw (f : Int → List Sp) : ∀ (ys : List Int) (acc : List Bd),bandP f ys acc = (bdN f ys (ys.length - 1)).foldl (fun acc x => addP acc x.1 x.2.1 x.2.2) acc
 | [],acc => rfl
 | [_],acc => rfl
 | u :: v :: r,acc => by
  show bandP f (v :: r) (addP acc u v (f u)) = _;rw [Yw f (v :: r) (addP acc u v (f u))];show _ = (bdN f (u :: v :: r) (r.length + 1)).foldl _ acc;simp only [bdN,List.foldl_map];rw [List.range_succ_eq_map,List.foldl_cons];show _ = ((List.range r.length).map Nat.succ).foldl _ (addP acc u v (f u));have := Yt (fun acc k => addP acc ((u :: v :: r).getD k 0) ((u :: v :: r).getD (k + 1) 0) (f ((u :: v :: r).getD k 0))) (fun acc k => addP acc ((v :: r).getD k 0) ((v :: r).getD (k + 1) 0) (f ((v :: r).getD k 0))) (fun a k => by simp) r.length (addP acc u v (f u));exact this
theorem accP_all (f : Int → List Sp) (ys : List Int) : accP (bdN f ys (ys.length - 1)) = bandP f ys [] := (Yw f ys []).symm
def spansOf (is : Bool → Bool → Bool) (a b : List S43) (xs : List Int) (y : Int) : List Sp := (rowN (fun x => is (covL a x y) (covL b x y)) xs (xs.length - 1)).reverse
def bandsOf (is : Bool → Bool → Bool) (a b : List S43) (xs ys : List Int) : List Bd := bdN (spansOf is a b xs) ys (ys.length - 1)
end Go.Proofs.Ythbajahklnpkcaa.PA

namespace Go.Proofs.Ythbajahklnpkcaa.PA
open Go.RowKit Go.Shelf Go.Sort Go.Proofs.YthbajahklnpkcaaW.PrintWords Go.Proofs.YthbajahklnpkcaaW.PrintLast Go.Proofs.YthbajahklnpkcaaW.PrintMore
set_option linter.unusedVariables false
set_option linter.unusedSimpArgs false
theorem info145 : (Try.prog.info? 145).map (fun i => (i.zero,i.size,i.bytes)) = some (some (.agg #[(.int .i64 0),(.int .i64 0)]),2,16) := by kernel_rfl
theorem info142 : (Try.prog.info? 142).map (fun i => (i.zero,i.size,i.bytes)) = some (some (.agg #[(.int .i64 0),(.int .i64 0),.slice none 0 0]),3,40) := by kernel_rfl
theorem news2 (W : World) (g : Nat) (a b : Value) (t : TypeId) (h : W.heap[g]? = some (.cells #[a,b] t (0,0))) : ∀ j u,[a,b][j]? = some u → W.cell? ((⟨g,0,none⟩ : Addr).add j) = some u := by
 intro j u hj;have HB : Blk W g #[a,b] t := h
 match j,hj with
 | 0,h => simp at h;subst h;exact HB.cell 0 rfl
 | 1,h => simp at h;subst h;exact HB.cell 1 rfl
 | j + 2,h => simp at h
theorem XK {W : World} {base g cap n size : Nat} {e : TypeId} {xs : List Value} (h : W.ownsRow base e size (.slice (some ⟨g,0,none⟩) n cap) n xs) {j : Nat} {u : Value} (hu : xs[j]? = some u) : W.cell? ⟨g,j,none⟩ = some u ∧ W.frozen? ⟨g,j,none⟩ = false := by
 rcases h.2 with ⟨e,_⟩ | ⟨g',cap',cur,e,_,hgb,hn,_,hcs,ht⟩
 · cases e
 cases e
 have hj : j < xs.length := (List.getElem?_eq_some_iff.1 hu).1;have hl := h.1
 have hc : cur[j]? = some u := by
  have h1 : (cur.toList.take (n * size))[j]? = some u := by rw [ht];exact hu
  rw [List.getElem?_take,if_pos (by omega)] at h1
  simpa using h1
 exact ⟨by simp [World.cell?,hgb,hc],by simp [World.frozen?,hgb]⟩
theorem Q4 {W : World} {base n size : Nat} {e : TypeId} {A : Option Addr} {c : Nat} {xs : List Value} (h : W.ownsRow base e size (.slice A n c) n xs) (hn : 0 < n) : ∃ g,A = some ⟨g,0,none⟩ := by
 rcases h.2 with ⟨e,h0⟩ | ⟨g',cap',cur,e,_⟩
 · omega
 · cases e;exact ⟨g',rfl⟩
theorem Vs {W : World} {base g cap n size : Nat} {e : TypeId} {xs : List Value} (h : W.ownsRow base e size (.slice (some ⟨g,0,none⟩) n cap) n xs) (i : Nat) (u : Value) : (W.setCell ⟨g,i,none⟩ u).ownsRow base e size (.slice (some ⟨g,0,none⟩) n cap) n (xs.set i u) := by
 rcases h.2 with ⟨e,_⟩ | ⟨g',cap',cur,e,hb,hgb,hn,hm,hcs,ht⟩
 · cases e
 cases e
 refine ⟨by simpa using h.1,.inr ⟨g,cap,cur.setIfInBounds i u,rfl,hb,?_,hn,hm,by simpa using hcs,?_⟩⟩
 · simp [World.setCell,Array.getElem?_modify,hgb]
 · rw [← ht,Array.toList_setIfInBounds,List.take_set]
theorem Q2 {xs : List Int} {i : Nat} (h : i < xs.length) : (ints xs)[i]? = some (.int .i64 (xs.getD i 0)) := by
 simp [ints,List.getElem?_eq_getElem h,h]
def fl145 (l : List Sp) : List Value := l.flatMap fun s => [.int .i64 s.1,.int .i64 s.2]
theorem QK (l : List Sp) : (fl145 l).length = l.length * 2 := by
 induction l with
 | nil => rfl
 | cons s l ih =>
  have e : fl145 (s :: l) = .int .i64 s.1 :: .int .i64 s.2 :: fl145 l := rfl;rw [e,List.length_cons,List.length_cons,ih,List.length_cons];omega
theorem XX (l : List Sp) (s : Sp) : fl145 (l ++ [s]) = fl145 l ++ [.int .i64 s.1,.int .i64 s.2] := by simp [fl145]
theorem fl145_last (l : List Sp) (s : Sp) : (fl145 (l ++ [s]))[l.length * 2 + 1]? = some (.int .i64 s.2) := by
 rw [XX,List.getElem?_append_right (by rw [QK];omega),QK,show l.length * 2 + 1 - l.length * 2 = 1 by omega];rfl
theorem fl145_set (l : List Sp) (s : Sp) (v : Int) : (fl145 (l ++ [s])).set (l.length * 2 + 1) (.int .i64 v) = fl145 (l ++ [(s.1,v)]) := by
 rw [XX,XX,List.set_append_right _ _ (by rw [QK];omega),QK,show l.length * 2 + 1 - l.length * 2 = 1 by omega];rfl
def IsB (gi : Nat) (is : Bool → Bool → Bool) : Prop := ∀ (W : World) (p q : Bool),Calls Try.prog gi #[.bool p,.bool q] W fun e w' => e = .returned (.bool (is p q)) ∧ Below W.heap.size W w'
structure EnvAt (A B : Option Addr) (cA cB : Nat) (a b : List S43) (gi : Nat) (xs ys : List Int) (X Y : Option Addr) (cX cY : Nat) (pa pb pf px py base : Nat) (W : World) : Prop where
 ba : Boxed W pa 22 (.slice A a.length cA)
 bb : Boxed W pb 22 (.slice B b.length cB)
 bf : Boxed W pf 75 (.func (.func gi) #[] #[])
 bx : Boxed W px 32 (.slice X xs.length cX)
 by_ : Boxed W py 32 (.slice Y ys.length cY)
 rx : W.ownsRow base 3 1 (.slice X xs.length cX) xs.length (ints xs)
 ry : W.ownsRow base 3 1 (.slice Y ys.length cY) ys.length (ints ys)
 ca : Kd.C k43 W A a.length a
 cb : Kd.C k43 W B b.length b
section
variable {A B : Option Addr} {cA cB : Nat} {a b : List S43} {gi : Nat} {xs ys : List Int} {X Y : Option Addr} {cX cY pa pb pf px py base : Nat} {W W' : World}
theorem Qh {k : Nat} {t : TypeId} {v : Value} (h : Boxed W k t v) (hb : Below W.heap.size W W') : Boxed W' k t v := (hb.block k h.lt).trans h
theorem EnvAt.bel (h : EnvAt A B cA cB a b gi xs ys X Y cX cY pa pb pf px py base W) (hb : Below W.heap.size W W') : EnvAt A B cA cB a b gi xs ys X Y cX cY pa pb pf px py base W' :=
 ⟨Qh h.ba hb,Qh h.bb hb,Qh h.bf hb,Qh h.bx hb,Qh h.by_ hb,XI h.rx hb,XI h.ry hb,Kd.Z5 h.ca hb,Kd.Z5 h.cb hb⟩
end
def KtN (N bl : Nat) (P Q : World) : Prop := P.heap.size ≤ Q.heap.size ∧ ∀ (k : Nat) (o : Obj),k < N → k ≠ bl → P.heap[k]? = some o → o.isCells = true → Q.heap[k]? = some o
def TiB (P Q : World) : Prop := Below P.heap.size P Q
theorem JU {w W : World} {A : Option Addr} {n : Nat} {l : List S43} (h : Kd.C k43 w A n l) (hk : ∀ (k : Nat) (o : Obj),w.heap[k]? = some o → o.isCells = true → W.heap[k]? = some o) : Kd.C k43 W A n l := by
 obtain ⟨h1,h2,h3⟩ := h;refine ⟨h1,h2,fun h0 => ?_⟩;obtain ⟨ad,e,hc⟩ := h3 h0;refine ⟨ad,e,fun j p hp => ?_⟩;obtain ⟨c,hl,hK,hcell⟩ := hc j p hp;refine ⟨c,hl,hK,fun i u hu => ?_⟩;have h4 := hcell i u hu;obtain ⟨o,ho,hco⟩ := cells_of_cell h4;rw [World.cell?_of_block ((hk _ _ ho hco).trans ho.symm)];exact h4
theorem EnvAt.keep {A B : Option Addr} {cA cB : Nat} {a b : List S43} {gi : Nat} {xs ys : List Int} {X Y : Option Addr} {cX cY pa pb pf px py N bl : Nat} {w0 w W : World} (h : EnvAt A B cA cB a b gi xs ys X Y cX cY pa pb pf px py (bl + 1) w)
 (hN : N = w.heap.size) (hbl : bl = w0.heap.size) (hb0 : Below w0.heap.size w0 w) (hca : Kd.C k43 w0 A a.length a) (hcb : Kd.C k43 w0 B b.length b)
 (la : bl < pa) (lb : bl < pb) (lf : bl < pf) (lx : bl < px) (ly : bl < py) (hk : KtN N bl w W) : EnvAt A B cA cB a b gi xs ys X Y cX cY pa pb pf px py (bl + 1) W := by
 have hbx : ∀ {k : Nat} {t : TypeId} {v : Value},Boxed w k t v → bl < k → Boxed W k t v := fun hb hlt => hk.2 _ _ (by rw [hN];exact hb.lt) (by omega) hb rfl
 have hrow : ∀ {v : Value} {n : Nat} {zs : List Value},w.ownsRow (bl + 1) 3 1 v n zs → W.ownsRow (bl + 1) 3 1 v n zs := by
  intro v n zs hr;refine Qa hr (fun k hkk => ?_);have h1 := Xm hr hkk;obtain ⟨cells,hc⟩ := XM hr k hkk;rw [hc];exact hk.2 k _ (by rw [hN];exact h1.2) (by omega) hc rfl
 have hc0 : ∀ (k : Nat) (o : Obj),w0.heap[k]? = some o → o.isCells = true → W.heap[k]? = some o := by
  intro k o ho hco;have hlt : k < w0.heap.size := (Array.getElem?_eq_some_iff.1 ho).1;exact hk.2 k o (by rw [hN];exact Nat.lt_of_lt_of_le hlt hb0.size) (by omega) ((hb0.block k hlt).trans ho) hco
 exact ⟨hbx h.ba la,hbx h.bb lb,hbx h.bf lf,hbx h.bx lx,hbx h.by_ ly,hrow h.rx,hrow h.ry,JU hca hc0,JU hcb hc0⟩
theorem Qg {N bl : Nat} {P Q R : World} (h : KtN N bl P Q) (h' : KtN N bl Q R) : KtN N bl P R := ⟨Nat.le_trans h.1 h'.1,fun k o h1 h2 h3 h4 => h'.2 k o h1 h2 (h.2 k o h1 h2 h3 h4) h4⟩
theorem Q8 {N bl : Nat} {P Q : World} (h : Below P.heap.size P Q) : KtN N bl P Q := ⟨h.size,fun k o _ _ ho _ => (h.block k (Array.getElem?_eq_some_iff.1 ho).1).trans ho⟩
end Go.Proofs.Ythbajahklnpkcaa.PA
