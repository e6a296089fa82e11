/- PoolAgrees, part 1: what the row is built on. -/
import Derived.Below
import Derived.Deep.Draws
import Derived.Deep.AppendLies
import Derived.Maps.AppendAt
import Derived.OwnWalk
import Derived.Laws.BytesArg
import Derived.Laws.MakeOwn
import Derived.Laws.OwnMore
import Derived.Deep.OwnRows
import Derived.Tactics
import Derived.Lib.ConvBytes
import Derived.Laws.Slices
import Derived.WalkKit
import Derived.KernelRfl
import Derived.RowKit3
import Derived.Deep.LoopGhost
import Derived.Deep.QuietTactic
import Derived.BigQuiet
import Derived.WideLaws
import Derived.Deep.DeepCutAuto
import Derived.Deep.CutBlock
import Derived.Deep.RegionHeld3
import Derived.Laws.Rows
import Derived.Lib.AppendStr
import Derived.ArgAppend
import Derived.Laws.IdiomCopy
import Derived.RowKit
import Derived.OrdersHeld
import Derived.Laws.BitsLemmas
import Derived.Laws.StructEq
import Derived.Test.YtcdiecgenpigbaaProg
import Derived.RangeFuncNested
import Derived.RangeFuncBound
import Derived.RangeFuncCalls
import Derived.RangeFuncLeaves
import Derived.RangeFuncBox
import Derived.Shelf.Abstract
import Derived.Shelf.RegionOpen
import Derived.OwnWalkIn
import Derived.TacticsInMore
import Derived.LoopNIn
import Derived.LoopIn
import Derived.LoopTactic
import Derived.Laws.EntriesVeiled
import Derived.Lib.Hide
namespace Go
abbrev Y := true
abbrev U := false
theorem Yi {α : Type _} (l : List α) (i : Nat) (a : α) : l.toArray.setIfInBounds i a = (l.set i a).toArray := List.setIfInBounds_toArray ..
theorem Yj {α : Type _} {a : α} {s : List α} {b : α} : (a :: s).set 0 b = b :: s := rfl
theorem Yk {α : Type _} {a : α} {s : List α} {n : Nat} {b : α} : (a :: s).set (n + 1) b = a :: s.set n b := rfl
end Go
set_option linter.unusedVariables false
set_option linter.unusedSimpArgs false
namespace Go.Proofs.YtcdiecgenpigbaaW.PrintWords
open Go.RowKit
structure Zh (p : Prop) : Prop where mk :: (out : p)
structure Drawn0 (w w' : World) : Prop where mk :: (out : ∃ n,w' = w.drewN n)
theorem Drawn0.refl (w : World) : Drawn0 w w := ⟨⟨0,rfl⟩⟩
theorem Drawn0.step {w w' : World} (h : Drawn0 w w') (n : Nat) : Drawn0 w (w'.drewN n) := by
 obtain ⟨m,rfl⟩ := h; exact ⟨⟨m + n,World.drewN_drewN ..⟩⟩
theorem Drawn0.grown {w w' : World} (h : Drawn0 w w') : Grown w w' := by
 obtain ⟨n,rfl⟩ := h
 induction n with
 | zero => exact Grown.refl _
 | succ n ih => rw [← World.drew_drewN]; exact Grown.drew ih
theorem Drawn0.below {w w' : World} (h : Drawn0 w w') : Below w.heap.size w w' := by
 obtain ⟨n,rfl⟩ := h
 induction n with
 | zero => exact Below.refl _ _
 | succ n ih => rw [← World.drew_drewN]; exact ih.drew
def rd (xs : List Int) (i : Int) : Int := xs.getD i.toNat 0
theorem Zk {w W : World} (h : Below w.heap.size w W) (o : Obj) : Below w.heap.size w (W.alloc o) := h.alloc h.size o
theorem XI {B : Nat} {w W : World} (h : Below B w W) : Below B w W.drew := ⟨h.os,h.tape,h.output,h.size,h.block⟩
theorem Zi {B : Nat} {w W : World} (h : Below B w W) (n : Nat) : Below B w (W.drewN n) := ⟨h.os,h.tape,h.output,h.size,h.block⟩
theorem below_then {B : Nat} {w w1 w2 : World} (h : Below B w w1) (hB : B ≤ w1.heap.size) (k : Below w1.heap.size w1 w2) : Below B w w2 :=
 h.trans ⟨k.os,k.tape,k.output,k.size,fun i hi => k.block i (Nat.lt_of_lt_of_le hi hB)⟩
theorem grown_of_below {w w1 : World} (h : Below w.heap.size w w1) (row : Option Nat) : w.grownBy w1 row := ⟨h.os,h.tape,h.output,h.size,fun i hi _ => h.block i hi⟩
theorem X3 {w w1 : World} (h : Below w.heap.size w w1) {a : Addr} {v : Value} (hc : w.cell? a = some v) : w1.cell? a = some v := (h.cell (World.block_lt_of_cell? w a hc)).trans hc
theorem XW (g j : Nat) : (⟨g,0,none⟩ : Addr).add j = ⟨g,j,none⟩ := by unfold Addr.add; split <;> simp_all
def ReadsInt (w : World) (k : IntKind) (A : Option Addr) (n : Nat) (xs : List Int) : Prop :=
 xs.length = n ∧ n ≤ 9223372036854775807 ∧ (0 < n → ∃ ad,A = some ad ∧ ∀ j,j < n → w.cell? (ad.add j) = some (.int k (xs.getD j 0)))
theorem ReadsInt.at_ {w : World} {k : IntKind} {A : Option Addr} {n : Nat} {xs : List Int} (h : ReadsInt w k A n xs) (i : Int) (h0 : 0 ≤ i) (h1 : i < n) : ∃ ad,A = some ad ∧ w.cell? (ad.add i.toNat) = some (.int k (rd xs i)) := by
 obtain ⟨ad,e,hc⟩ := h.2.2 (by omega); exact ⟨ad,e,hc _ (by omega)⟩
theorem ReadsInt.below {w w1 : World} {k : IntKind} {A : Option Addr} {n : Nat} {xs : List Int} (h : ReadsInt w k A n xs) (hb : Below w.heap.size w w1) : ReadsInt w1 k A n xs :=
 ⟨h.1,h.2.1,fun hn => by
  obtain ⟨ad,e,hc⟩ := h.2.2 hn
  exact ⟨ad,e,fun j hj => X3 hb (hc j hj)⟩⟩
theorem own_nil (W : World) (base : Nat) (e : TypeId) (size : Nat) : W.ownsRow base e size (.slice none 0 0) 0 [] := ⟨by simp,.inl ⟨rfl,rfl⟩⟩
theorem Qj {w : World} {base : Nat} {e : TypeId} {size n : Nat} {v : Value} {xs : List Value} (h : w.ownsRow base e size v n xs) (k : Nat) (hk : v.ownBlock = some k) : base ≤ k := by
 rcases h.2 with ⟨rfl,_⟩ | ⟨g,cap,cur,rfl,hb,_⟩
 · simp [Value.ownBlock] at hk
 · have : g = k := by simpa [Value.ownBlock] using hk
   omega
theorem Yb {w : World} {base : Nat} {e : TypeId} {size n : Nat} {v : Value} {xs : List Value} (h : w.ownsRow base e size v n xs) (k : Nat) (hk : v.ownBlock = some k) : k < w.heap.size := by
 rcases h.2 with ⟨rfl,_⟩ | ⟨g,cap,cur,rfl,hb,hh,_⟩
 · simp [Value.ownBlock] at hk
 · have : g = k := by simpa [Value.ownBlock] using hk
   subst this; exact (Array.getElem?_eq_some_iff.1 hh).1
theorem pw_own_below {w w1 : World} {base : Nat} {e : TypeId} {size n : Nat} {v : Value} {xs : List Value} (h : w.ownsRow base e size v n xs) (hb : Below w.heap.size w w1) : w1.ownsRow base e size v n xs :=
 h.kept (grown_of_below hb none) (by cases v.ownBlock <;> simp)
theorem ReadsInt.take_ {w : World} {k : IntKind} {A : Option Addr} {n : Nat} {xs : List Int} (h : ReadsInt w k A n xs) (i : Nat) (hi : i ≤ n) : ReadsInt w k A i (xs.take i) := by
 refine ⟨by rw [List.length_take,h.1]; omega,by have := h.2.1; omega,fun hp => ?_⟩; obtain ⟨ad,e,hc⟩ := h.2.2 (by omega); refine ⟨ad,e,fun j hj => ?_⟩; rw [hc j (by omega)]; simp [List.getD_eq_getElem?_getD,hj]
def LeO {α : Type} (a b : Option α) : Prop := ∀ r,a = some r → b = some r
theorem LeO.refl {α : Type} (a : Option α) : LeO a a := fun _ h => h
theorem LeO.none {α : Type} (b : Option α) : LeO Option.none b := fun _ h => by cases h
theorem LeO.trans {α : Type} {a b c : Option α} (h : LeO a b) (k : LeO b c) : LeO a c := fun r hr => k r (h r hr)
theorem LeO.ite {α : Type} {c : Prop} [Decidable c] {a a' b b' : Option α} (h : LeO a a') (k : LeO b b') : LeO (if c then a else b) (if c then a' else b') := by
 split
 · exact h
 · exact k
theorem LeO.bind {α β : Type} {a a' : Option α} {f f' : α → Option β} (h : LeO a a') (k : ∀ x,LeO (f x) (f' x)) : LeO (a.bind f) (a'.bind f') := by
 intro r hr; obtain ⟨x,hx,hf⟩ := Option.bind_eq_some_iff.1 hr; exact Option.bind_eq_some_iff.2 ⟨x,h x hx,k x r hf⟩
theorem LeO.map {α β : Type} {a a' : Option α} (f : α → β) (h : LeO a a') : LeO (a.map f) (a'.map f) := by
 intro r hr; obtain ⟨x,hx,hf⟩ := Option.map_eq_some_iff.1 hr; exact Option.map_eq_some_iff.2 ⟨x,h x hx,hf⟩
def Reps {α : Type} (R : α → List Value → Prop) (size : Nat) (ps : List α) (cs : List Value) : Prop :=
 cs.length = ps.length * size ∧ ∀ j p,ps[j]? = some p → R p ((cs.drop (j * size)).take size)
theorem Reps.none {α : Type} (R : α → List Value → Prop) (size : Nat) : Reps R size [] [] := ⟨by simp,fun j p h => by simp at h⟩
theorem Reps.snoc {α : Type} {R : α → List Value → Prop} {size : Nat} {ps : List α} {cs c : List Value} {p : α} (h : Reps R size ps cs) (hp : R p c) (hc : c.length = size) : Reps R size (ps ++ [p]) (cs ++ c) := by
 refine ⟨by rw [List.length_append,h.1,hc,List.length_append,List.length_singleton,Nat.add_mul,Nat.one_mul],fun j q hq => ?_⟩
 rcases Nat.lt_or_ge j ps.length with hj | hj
 · rw [List.getElem?_append_left hj] at hq
   have h1 : j * size + size ≤ cs.length := by rw [h.1,← Nat.succ_mul]; exact Nat.mul_le_mul_right _ hj
   have h2 := h.2 j q hq; rw [List.drop_append_of_le_length (by omega),List.take_append_of_le_length (by rw [List.length_drop]; omega)]; exact h2
 · have hj' : j = ps.length := by
    have := (List.getElem?_eq_some_iff.1 hq).1; rw [List.length_append,List.length_singleton] at this; omega
   subst hj'
   have hq' : p = q := by simpa using hq
   subst hq'; rw [← h.1,List.drop_left,← hc,List.take_length]; exact hp
theorem Reps.imp_ {α : Type} {R R' : α → List Value → Prop} {size : Nat} {ps : List α} {cs : List Value} (h : Reps R size ps cs) (hR : ∀ p c,R p c → R' p c) : Reps R' size ps cs := ⟨h.1,fun j p hj => hR _ _ (h.2 j p hj)⟩
def ReadsRow {α : Type} (R : α → List Value → Prop) (size : Nat) (w : World) (A : Option Addr) (n : Nat) (ps : List α) : Prop :=
 ps.length = n ∧ n ≤ 9223372036854775807 ∧ (0 < n → ∃ ad,A = some ad ∧ ∀ j p,ps[j]? = some p → ∃ c,c.length = size ∧ R p c ∧ ∀ i u,c[i]? = some u → w.cell? (ad.add (j * size + i)) = some u)
theorem ReadsRow.get_ {α : Type} {R : α → List Value → Prop} {size : Nat} {w : World} {A : Option Addr} {n : Nat} {ps : List α} (h : ReadsRow R size w A n ps) (d : α) (i : Int) (h0 : 0 ≤ i) (h1 : i < n) :
 ∃ ad c,A = some ad ∧ c.length = size ∧ R (ps.getD i.toNat d) c ∧ ∀ j u,c[j]? = some u → w.cell? (ad.add (i.toNat * size + j)) = some u := by
 obtain ⟨ad,e,hc⟩ := h.2.2 (by omega)
 have hl : i.toNat < ps.length := by have := h.1; omega
 obtain ⟨c,hs,hr,hcell⟩ := hc i.toNat _ (List.getElem?_eq_getElem hl); refine ⟨ad,c,e,hs,?_,hcell⟩; rw [List.getD_eq_getElem?_getD,List.getElem?_eq_getElem hl]; exact hr
theorem ReadsRow.imp_ {α : Type} {R R' : α → List Value → Prop} {size : Nat} {w w1 : World} {A : Option Addr} {n : Nat} {ps : List α} (h : ReadsRow R size w A n ps) (hb : Below w.heap.size w w1) (hR : ∀ p c,R p c → R' p c) : ReadsRow R' size w1 A n ps :=
 ⟨h.1,h.2.1,fun hn => by
  obtain ⟨ad,e,hc⟩ := h.2.2 hn; refine ⟨ad,e,fun j p hj => ?_⟩; obtain ⟨c,hs,hr,hcell⟩ := hc j p hj
  exact ⟨c,hs,hR _ _ hr,fun i u hu => X3 hb (hcell i u hu)⟩⟩
theorem own_reads_row {α : Type} {R : α → List Value → Prop} {w : World} {base n size : Nat} {e : TypeId} {v : Value} {ps : List α} {cs : List Value} (h : w.ownsRow base e size v n cs) (hR : Reps R size ps cs) (hn : ps.length = n) :
 ∃ A c,v = .slice A n c ∧ ReadsRow R size w A n ps := by
 rcases Nat.eq_zero_or_pos n with h0 | h0
 · rcases h.2 with ⟨rfl,rfl⟩ | ⟨g,cap,cur,rfl,_⟩
   · exact ⟨none,0,rfl,hn,by omega,fun hp => absurd hp (by omega)⟩
   · exact ⟨_,cap,rfl,hn,by omega,fun hp => absurd hp (by omega)⟩
 · obtain ⟨g,cap,rfl,_,_⟩ := h.form h0
   have hm : n ≤ 9223372036854775807 := by
    rcases h.2 with ⟨_,h1⟩ | ⟨g',cap',cur,he,_,_,h1,h2,_⟩
    · omega
    · simp only [maxLen] at h2
      omega
   refine ⟨_,cap,rfl,hn,hm,fun _ => ⟨_,rfl,fun j p hj => ⟨(cs.drop (j * size)).take size,?_,hR.2 j p hj,fun i u hu => ?_⟩⟩⟩
   · have hjl := (List.getElem?_eq_some_iff.1 hj).1
     have h1 : j * size + size ≤ cs.length := by rw [hR.1,← Nat.succ_mul]; exact Nat.mul_le_mul_right _ hjl
     rw [List.length_take,List.length_drop]; omega
   · refine h.cells (g := g) rfl _ u ?_
     rw [List.getElem?_take] at hu; split at hu
     · rw [List.getElem?_drop] at hu
       exact hu
     · cases hu
section
variable {P : Program} {ops : Array Oper} {rest : List Oper} {o : Oper} {a : Act} {Q : Exit → Act → World → Prop}
theorem Xy {w0 W : World} (base : Nat) (hgd : o.guard = none) (s x : Operand) (t e : TypeId) (z : Value) (size bytes : Nat)
 (ho : o.op = .call { callee := .builtin .append,args := #[s,x],argTypes := #[t,t] })
 (ht : P.underlying t = some (.slice e)) (hinfo : (P.info? e).map (fun i => (i.zero,i.size,i.bytes)) = some (some z,size,bytes)) (hz : z.cells.size = size) (hs0 : 0 < size) (hb0 : 0 < bytes)
 (v : Value) (n : Nat) (xs ys : List Value) (hs : a.eval s = v) (hx : a.eval x = .slice (some ⟨W.heap.size,0,none⟩) 1 1) (hys : ys.length = size) (h1 : ∀ u ∈ ys,u.oneCell' = true)
 (HO : W.ownsRow base e size v n xs) (HB : Below base w0 W) (hbase : base ≤ W.heap.size) (hl : (n + 1) * bytes ≤ 140737488355328)
 (h : ∀ v1 w1,w1.ownsRow base e size v1 (n + 1) (xs ++ ys) → Below base w0 w1 → W.grownBy w1 v.ownBlock → (v1.ownBlock = v.ownBlock ∨ ∃ b,v1.ownBlock = some b ∧ W.heap.size ≤ b) → wpList P ops Q rest (a.put o.dst v1) w1) :
 wpList P ops Q (o :: rest) a (W.alloc (.cells ys.toArray e)) := by
 obtain ⟨i0,hi,hzz⟩ := Option.map_eq_some_iff.1 hinfo; simp only [Prod.mk.injEq] at hzz; obtain ⟨hz0,hz1,hz2⟩ := hzz; have hlen : n + 1 ≤ 140737488355328 := Nat.le_trans (Nat.le_mul_of_pos_right _ hb0) hl
 refine wpList_append_own_at (W.alloc (.cells ys.toArray e)) hgd s x t ho base e i0 z size bytes ht hi hz0 hz1 hz2 hz hs0 v n xs hs (HO.alloc _) ⟨W.heap.size,0,none⟩ 1 1 ys hx (by rw [hys]; simp)
  (by simpa using World.news_of_block (cs := ys.toArray) (t := e) (fr := (0,0)) (heap_alloc_new W (.cells ys.toArray e))) h1 (by simp only [maxLen]; omega) hl (by simp; omega) ?_
 intro v1 w1 hown hg _ hat
 refine h v1 w1 hown ((HB.alloc hbase _).grown hg (by simp; omega) (Qj HO)) (World.grownBy.trans (World.grownBy_alloc W _ _) hg) ?_
 rcases hat with hat | hat
 · exact .inl hat
 · exact .inr ⟨_,hat,by simp⟩
end
theorem Yf {w : World} {base : Nat} {e t : TypeId} {size n g : Nat} {v : Value} {xs : List Value} {cs : Array Value} (h : w.ownsRow base e size v n xs) (hg : w.heap[g]? = some (.cells cs t (0,0))) (hne : e ≠ t) : some g ≠ v.ownBlock := by
 rcases h.2 with ⟨rfl,_⟩ | ⟨g',cap,cur,rfl,_,hh,_⟩
 · simp [Value.ownBlock]
 · intro he
   have : g = g' := by simpa [Value.ownBlock] using he
   subst this; rw [hg] at hh
   injection hh with hh
   injection hh with _ ht
   exact hne ht.symm
theorem QS {w : World} {g : Nat} {t : TypeId} {cs : Array Value} (h : w.heap[g]? = some (.cells cs t (0,0))) (i : Nat) (u : Value) : (w.setCell ⟨g,i,none⟩ u).heap[g]? = some (.cells (cs.setIfInBounds i u) t (0,0)) := by
 simp [World.setCell,Array.getElem?_modify,h]
theorem Z5 {w : World} {g : Nat} {t : TypeId} {cs : Array Value} (h : w.heap[g]? = some (.cells cs t (0,0))) {p : Addr} (hp : g ≠ p.block) (u : Value) : (w.setCell p u).heap[g]? = some (.cells cs t (0,0)) := (Below.heap_setCell w p u g hp).trans h
theorem ZB {w : World} {g : Nat} {o : Obj} (h : w.heap[g]? = some o) : g < w.heap.size := (Array.getElem?_eq_some_iff.1 h).1
theorem Za {w : World} {g : Nat} {t : TypeId} {cs : Array Value} (h : w.heap[g]? = some (.cells cs t (0,0))) (i : Nat) : w.cell? ⟨g,i,none⟩ = cs[i]? := cell_of_row w g i cs t (0,0) h
theorem Zb {w : World} {g : Nat} {t : TypeId} {cs : Array Value} (h : w.heap[g]? = some (.cells cs t (0,0))) (i : Nat) : w.frozen? ⟨g,i,none⟩ = false := by simp [World.frozen?,h]
theorem Q0 {w w1 : World} {g : Nat} {o : Obj} {row : Option Nat} (h : w.heap[g]? = some o) (hg : w.grownBy w1 row) (hne : some g ≠ row) : w1.heap[g]? = some o := (hg.block g (ZB h) hne).trans h
def KeepBut (w w' : World) (g : Nat) (row : Option Nat) : Prop := w.heap.size ≤ w'.heap.size ∧ ∀ i,i < w.heap.size → i ≠ g → some i ≠ row → w'.heap[i]? = w.heap[i]?
theorem KeepBut.refl (w : World) (g : Nat) (row : Option Nat) : KeepBut w w g row := ⟨Nat.le_refl _,fun _ _ _ _ => rfl⟩
theorem KeepBut.QK {w w1 : World} (h : Below w.heap.size w w1) (g : Nat) (row : Option Nat) : KeepBut w w1 g row := ⟨h.size,fun i hi _ _ => h.block i hi⟩
theorem KeepBut.trans {w w1 w2 : World} {g : Nat} {row row1 : Option Nat} (h : KeepBut w w1 g row) (k : KeepBut w1 w2 g row1) (hr : row1 = row ∨ ∃ b,row1 = some b ∧ w.heap.size ≤ b) : KeepBut w w2 g row :=
 ⟨Nat.le_trans h.1 k.1,fun i hi hg hn => by
  refine (k.2 i (Nat.lt_of_lt_of_le hi h.1) hg ?_).trans (h.2 i hi hg hn)
  rcases hr with rfl | ⟨b,rfl,hb⟩
  · exact hn
  · intro e
    injection e with e
    omega⟩
theorem KeepBut.blk {w w1 : World} {g g' : Nat} {row : Option Nat} {o : Obj} (h : KeepBut w w1 g row) (hb : w.heap[g']? = some o) (hg : g' ≠ g) (hr : some g' ≠ row) : w1.heap[g']? = some o := (h.2 g' (ZB hb) hg hr).trans hb
theorem KeepBut.own {w w1 : World} {g : Nat} {row : Option Nat} {base : Nat} {e : TypeId} {size n : Nat} {v : Value} {xs : List Value} (h : KeepBut w w1 g row) (ho : w.ownsRow base e size v n xs) (hg : v.ownBlock ≠ some g) (hr : v.ownBlock = none ∨ v.ownBlock ≠ row) : w1.ownsRow base e size v n xs := by
 obtain ⟨h1,h2⟩ := ho; refine ⟨h1,?_⟩
 rcases h2 with h2 | ⟨b,cap,cur,rfl,hb,hh,r⟩
 · exact .inl h2
 · refine .inr ⟨b,cap,cur,rfl,hb,h.blk hh ?_ ?_,r⟩
   · intro e
     exact hg (by rw [← e]; rfl)
   · rcases hr with hr | hr
     · simp [Value.ownBlock] at hr
     · exact hr
def Ev {α : Type} (g : Nat → Option α) (r : α) : Prop := ∃ K,∀ k,K ≤ k → g k = some r
theorem Ev.bind {α β : Type} {g : Nat → Option α} {f : Nat → α → Option β} {a : α} {r : β} (h : Ev g a) (k : Ev (fun n => f n a) r) : Ev (fun n => (g n).bind (f n)) r := by
 obtain ⟨K,h⟩ := h; obtain ⟨K',k⟩ := k; refine ⟨max K K',fun n hn => ?_⟩; have h1 := h n (by omega); have h2 := k n (by omega); simp only [h1,Option.bind_some]; exact h2
theorem Ev.step {α : Type} {g f : Nat → Option α} {r : α} (h : ∀ k,g (k + 1) = f k) (k : Ev f r) : Ev g r := by
 obtain ⟨K,k⟩ := k; refine ⟨K + 1,fun n hn => ?_⟩
 obtain ⟨m,rfl⟩ : ∃ m,n = m + 1 := ⟨n - 1,by omega⟩
 rw [h]; exact k m (by omega)
theorem Ev.congr {α : Type} {g f : Nat → Option α} {r : α} (h : ∀ k,g k = f k) (k : Ev f r) : Ev g r := by
 obtain ⟨K,k⟩ := k; exact ⟨K,fun n hn => (h n).trans (k n hn)⟩
theorem own_weaken {w : World} {base base' : Nat} {e : TypeId} {size n : Nat} {v : Value} {xs : List Value} (h : w.ownsRow base e size v n xs) (hb : base' ≤ base) : w.ownsRow base' e size v n xs := by
 obtain ⟨h1,h2⟩ := h; refine ⟨h1,?_⟩
 rcases h2 with h2 | ⟨g,cap,cur,rfl,hg,r⟩
 · exact .inl h2
 · exact .inr ⟨g,cap,cur,rfl,Nat.le_trans hb hg,r⟩
section
variable {α : Type} {enc : α → Value} {d : α}
def encs (enc : α → Value) (xs : List α) : List Value := xs.map enc
def rdOf (d : α) (xs : List α) (i : Int) : α := xs.getD i.toNat d
def ReadsOf (enc : α → Value) (d : α) (w : World) (A : Option Addr) (n : Nat) (xs : List α) : Prop :=
 xs.length = n ∧ n ≤ 9223372036854775807 ∧ (0 < n → ∃ ad,A = some ad ∧ ∀ j,j < n → w.cell? (ad.add j) = some (enc (xs.getD j d)))
theorem ReadsOf.at_ {w : World} {A : Option Addr} {n : Nat} {xs : List α} (h : ReadsOf enc d w A n xs) (i : Int) (h0 : 0 ≤ i) (h1 : i < n) : ∃ ad,A = some ad ∧ w.cell? (ad.add i.toNat) = some (enc (rdOf d xs i)) := by
 obtain ⟨ad,e,hc⟩ := h.2.2 (by omega); exact ⟨ad,e,hc _ (by omega)⟩
theorem ReadsOf.below {w w1 : World} {A : Option Addr} {n : Nat} {xs : List α} (h : ReadsOf enc d w A n xs) (hb : Below w.heap.size w w1) : ReadsOf enc d w1 A n xs :=
 ⟨h.1,h.2.1,fun hn => by
  obtain ⟨ad,e,hc⟩ := h.2.2 hn
  exact ⟨ad,e,fun j hj => X3 hb (hc j hj)⟩⟩
theorem ReadsOf.take_ {w : World} {A : Option Addr} {n : Nat} {xs : List α} (h : ReadsOf enc d w A n xs) (i : Nat) (hi : i ≤ n) : ReadsOf enc d w A i (xs.take i) := by
 refine ⟨by rw [List.length_take,h.1]; omega,by have := h.2.1; omega,fun hp => ?_⟩; obtain ⟨ad,e,hc⟩ := h.2.2 (by omega); refine ⟨ad,e,fun j hj => ?_⟩; rw [hc j (by omega)]; simp [List.getD_eq_getElem?_getD,hj]
end
theorem Zd {w : World} {g : Nat} {o : Obj} (h : w.heap[g]? = some o) (o' : Obj) : (w.alloc o').heap[g]? = some o := (Below.heap_alloc w o' g (ZB h)).trans h
theorem Ze {w : World} {g : Nat} {o : Obj} (h : w.heap[g]? = some o) : w.drew.heap[g]? = some o := h
theorem Zc {w : World} {g : Nat} {o : Obj} (h : w.heap[g]? = some o) (n : Nat) : (w.drewN n).heap[g]? = some o := h
theorem Zn {w w1 : World} {g : Nat} {o : Obj} (h : w.heap[g]? = some o) (hb : Below w.heap.size w w1) : w1.heap[g]? = some o := (hb.block g (ZB h)).trans h
theorem QW (w : World) (o : Obj) : (w.alloc o).heap[w.heap.size]? = some o := heap_alloc_new w o
section
variable {P : Program}
theorem Xe {fn : Func} {p u : Tmp} {ty : TypeId} (h : fn.results = #[.cell p ty,.tmp u]) (tmps : Array Value) (w : World) (g : Nat) (t : TypeId) (cs : Array Value) (fr : Nat × Nat) (d : TypeDesc)
 (hp : tmps.getD p undef = .pointer (some ⟨g,0,none⟩)) (hg : w.heap[g]? = some (.cells cs t fr))
 (hu : P.underlying ty = some d) (hd : (match d with | .struct _ | .array _ _ => true | _ => false) = true) (hi : (P.info? ty).map (·.size) = some cs.size) :
 (results fn tmps).run P w = .ok (.tuple #[.agg cs,tmps.getD u undef]) w := by
 have hp' : tmps[p]?.getD undef = .pointer (some ⟨g,0,none⟩) := by simpa using hp
 simp [results,h,hp',asAddr,run_loadVar_row w g t ty cs fr d hg hu hd hi]
end
theorem own_le {w : World} {base n m c size : Nat} {e : TypeId} {A : Option Addr} {xs : List Value} (h : w.ownsRow base e size (.slice A m c) n xs) : m ≤ c := by
 rcases h.2 with ⟨he,_⟩ | ⟨g,cap,cur,he,_,_,hnc,_⟩
 · injection he with _ h2 h3
   omega
 · injection he with _ h2 h3
   omega
def OwnRow {α : Type} (R : α → List Value → Prop) (e : TypeId) (size : Nat) (w : World) (base : Nat) (v : Value) (ps : List α) : Prop :=
 ∃ inner,w.ownsRow base e size v ps.length inner ∧ Reps R size ps inner
section
variable {α : Type} {R R' : α → List Value → Prop} {e : TypeId} {size : Nat} {w w1 : World} {base : Nat} {v : Value} {ps : List α}
theorem OwnRow.none_ (R : α → List Value → Prop) (e : TypeId) (size : Nat) (w : World) (base : Nat) : OwnRow R e size w base (.slice none 0 0) [] := ⟨[],own_nil _ _ _ _,Reps.none _ _⟩
theorem OwnRow.imp_ (h : OwnRow R e size w base v ps) (hR : ∀ p c,R p c → R' p c) : OwnRow R' e size w base v ps := by
 obtain ⟨inner,ho,hr⟩ := h; exact ⟨inner,ho,hr.imp_ hR⟩
theorem OwnRow.below (h : OwnRow R e size w base v ps) (hb : Below w.heap.size w w1) : OwnRow R e size w1 base v ps := by
 obtain ⟨inner,ho,hr⟩ := h; exact ⟨inner,pw_own_below ho hb,hr⟩
theorem OwnRow.keep (h : OwnRow R e size w base v ps) {g : Nat} {t : TypeId} {cells : Array Value} (hb : w.heap[g]? = some (.cells cells t (0,0))) (ht : e ≠ t) (hk : KeepBut w w1 g none) : OwnRow R e size w1 base v ps := by
 obtain ⟨inner,ho,hr⟩ := h; exact ⟨inner,hk.own ho (Ne.symm (Yf ho hb ht)) (by cases v.ownBlock <;> simp),hr⟩
theorem OwnRow.reads (h : OwnRow R e size w base v ps) : ∃ A c,v = .slice A ps.length c ∧ ps.length ≤ c ∧ ReadsRow R size w A ps.length ps := by
 obtain ⟨inner,ho,hr⟩ := h; obtain ⟨A,c,rfl,hrow⟩ := own_reads_row ho hr rfl; exact ⟨A,c,rfl,own_le ho,hrow⟩
theorem OwnRow.ne_block (h : OwnRow R e size w base v ps) {g : Nat} {t : TypeId} {cells : Array Value} (hb : w.heap[g]? = some (.cells cells t (0,0))) (ht : e ≠ t) : some g ≠ v.ownBlock := by
 obtain ⟨inner,ho,hr⟩ := h; exact Yf ho hb ht
end
section
variable {P : Program} {ops : Array Oper} {rest : List Oper} {o : Oper} {a : Act} {Q : Exit → Act → World → Prop} {α : Type} {R : α → List Value → Prop}
theorem OwnRow.append {w0 W : World} (base : Nat) (hgd : o.guard = none) (s x : Operand) (t e : TypeId) (z : Value) (size bytes : Nat)
 (ho : o.op = .call { callee := .builtin .append,args := #[s,x],argTypes := #[t,t] })
 (ht : P.underlying t = some (.slice e)) (hinfo : (P.info? e).map (fun i => (i.zero,i.size,i.bytes)) = some (some z,size,bytes)) (hz : z.cells.size = size) (hs0 : 0 < size) (hb0 : 0 < bytes)
 (v : Value) (ps : List α) (p : α) (cs : List Value) (hs : a.eval s = v) (hx : a.eval x = .slice (some ⟨W.heap.size,0,none⟩) 1 1) (hp : R p cs) (hcs : cs.length = size) (h1 : ∀ u ∈ cs,u.oneCell' = true)
 (HO : OwnRow R e size W base v ps) (HB : Below base w0 W) (hbase : base ≤ W.heap.size) (hl : (ps.length + 1) * bytes ≤ 140737488355328)
 (h : ∀ v1 w1,OwnRow R e size w1 base v1 (ps ++ [p]) → Below base w0 w1 → W.grownBy w1 v.ownBlock → (v1.ownBlock = v.ownBlock ∨ ∃ b,v1.ownBlock = some b ∧ W.heap.size ≤ b) → wpList P ops Q rest (a.put o.dst v1) w1) :
 wpList P ops Q (o :: rest) a (W.alloc (.cells cs.toArray e)) := by
 obtain ⟨inner,hown,hr⟩ := HO; refine Xy base hgd s x t e z size bytes ho ht hinfo hz hs0 hb0 v ps.length inner cs hs hx hcs h1 hown HB hbase hl ?_; intro v1 w1 hown1 hb1 hg1 hat1; exact h v1 w1 ⟨inner ++ cs,by rw [List.length_append,List.length_singleton]; exact hown1,hr.snoc hp hcs⟩ hb1 hg1 hat1
end
structure Kd (α : Type) where
 sz : Nat
 E : List Nat
 K : World → α → List Value → Prop
 M : World → Nat → (Nat → Prop) → α → List Value → Prop
 K_len : ∀ {w x cs},K w x cs → cs.length = sz
 K_one : ∀ {w x cs},K w x cs → ∀ u ∈ cs,u.oneCell' = true
 K_below : ∀ {w w1 : World} {x cs},Below w.heap.size w w1 → K w x cs → K w1 x cs
 K_of_M : ∀ {w base ok x cs},M w base ok x cs → K w x cs
 M_mono : ∀ {w base ok ok' x cs},(∀ k,ok k → ok' k) → M w base ok x cs → M w base ok' x cs
 M_bound : ∀ {w : World} {base ok x cs},M w base ok x cs → M w base (fun k => ok k ∧ base ≤ k ∧ k < w.heap.size ∧ ∃ q,q ∈ E ∧ ∃ cells,w.heap[k]? = some (.cells cells q (0,0))) x cs
 M_move : ∀ {w w1 : World} {base ok x cs},(∀ k,ok k → w1.heap[k]? = w.heap[k]?) → M w base ok x cs → M w1 base ok x cs
 M_lower : ∀ {w base base' ok x cs},base' ≤ base → M w base ok x cs → M w base' ok x cs
theorem own_move {w w1 : World} {base : Nat} {e : TypeId} {size n : Nat} {v : Value} {xs : List Value} (h : w.ownsRow base e size v n xs) (hm : ∀ k,v.ownBlock = some k → w1.heap[k]? = w.heap[k]?) : w1.ownsRow base e size v n xs := by
 obtain ⟨h1,h2⟩ := h; refine ⟨h1,?_⟩
 rcases h2 with h2 | ⟨g,cap,cur,rfl,hg,hh,r⟩
 · exact .inl h2
 · exact .inr ⟨g,cap,cur,rfl,hg,(hm g (by simp [Value.ownBlock])).trans hh,r⟩
theorem XX {w : World} {base : Nat} {e : TypeId} {size n : Nat} {v : Value} {xs : List Value} (h : w.ownsRow base e size v n xs) (k : Nat) (hk : v.ownBlock = some k) : ∃ cells,w.heap[k]? = some (.cells cells e (0,0)) := by
 rcases h.2 with ⟨rfl,_⟩ | ⟨g,cap,cur,rfl,hg,hh,r⟩
 · simp [Value.ownBlock] at hk
 · have : g = k := by simpa [Value.ownBlock] using hk
   subst this; exact ⟨cur,hh⟩
namespace Kd
def C {α : Type} (d : Kd α) (w : World) (A : Option Addr) (n : Nat) (xs : List α) : Prop := ReadsRow (d.K w) d.sz w A n xs
def R {α : Type} (d : Kd α) (e : Nat) (w : World) (base : Nat) (ok : Nat → Prop) (v : Value) (xs : List α) : Prop :=
 (∀ k,v.ownBlock = some k → ok k) ∧ OwnRow (d.M w base (fun k => ok k ∧ some k ≠ v.ownBlock)) e d.sz w base v xs
section
variable {α : Type} {d : Kd α} {e : Nat} {w w1 : World} {base : Nat} {ok ok' : Nat → Prop} {v : Value} {xs : List α}
theorem XT {A : Option Addr} {n : Nat} (h : d.C w A n xs) (hb : Below w.heap.size w w1) : d.C w1 A n xs := ReadsRow.imp_ h hb (fun _ _ hp => d.K_below hb hp)
theorem R_nil (d : Kd α) (e : Nat) (w : World) (base : Nat) (ok : Nat → Prop) : d.R e w base ok (.slice none 0 0) [] := ⟨fun k hk => by simp [Value.ownBlock] at hk,OwnRow.none_ _ _ _ _ _⟩
theorem Xu (h : d.R e w base ok v xs) (hok : ∀ k,ok k → ok' k) : d.R e w base ok' v xs := ⟨fun k hk => hok k (h.1 k hk),h.2.imp_ (fun _ _ hp => d.M_mono (fun k hk => ⟨hok k hk.1,hk.2⟩) hp)⟩
theorem Xx (h : d.R e w base ok v xs) : d.R e w base (fun k => ok k ∧ base ≤ k ∧ k < w.heap.size ∧ ∃ q,q ∈ e :: d.E ∧ ∃ cells,w.heap[k]? = some (.cells cells q (0,0))) v xs := by
 obtain ⟨h0,inner,ho,hr⟩ := h; refine ⟨fun k hk => ?_,inner,ho,hr.imp_ (fun _ _ hp => d.M_mono (fun k hk => ?_) (d.M_bound hp))⟩
 · obtain ⟨cells,hc⟩ := XX ho k hk
   exact ⟨h0 k hk,Qj ho k hk,Yb ho k hk,e,List.mem_cons_self,cells,hc⟩
 · obtain ⟨⟨h1,h2⟩,h3,h4,q,hq,hc⟩ := hk
   exact ⟨⟨h1,h3,h4,q,List.mem_cons_of_mem _ hq,hc⟩,h2⟩
theorem Qd (h : d.R e w base ok v xs) (hm : ∀ k,ok k → w1.heap[k]? = w.heap[k]?) : d.R e w1 base ok v xs := by
 obtain ⟨h0,inner,ho,hr⟩ := h; exact ⟨h0,inner,own_move ho (fun k hk => hm k (h0 k hk)),hr.imp_ (fun _ _ hp => d.M_move (fun k hk => hm k hk.1) hp)⟩
theorem Q6 {base' : Nat} (h : d.R e w base ok v xs) (hb : base' ≤ base) : d.R e w base' ok v xs := by
 obtain ⟨h0,inner,ho,hr⟩ := h; exact ⟨h0,inner,own_weaken ho hb,hr.imp_ (fun _ _ hp => d.M_lower hb hp)⟩
theorem QP (h : d.R e w base ok v xs) (hm : ∀ k,ok k → k < w.heap.size → w1.heap[k]? = w.heap[k]?) : d.R e w1 base ok v xs :=
 Xu (Qd (Xx h) (fun k hk => hm k hk.1 hk.2.2.1)) (fun _ hk => hk.1)
theorem Yd {x : α} {cs : List Value} (h : d.M w base ok x cs) (hm : ∀ k,ok k → k < w.heap.size → w1.heap[k]? = w.heap[k]?) : d.M w1 base ok x cs :=
 d.M_mono (fun _ hk => hk.1) (d.M_move (fun k hk => hm k hk.1 hk.2.2.1) (d.M_bound h))
theorem QA (h : d.R e w base ok v xs) (hb : Below w.heap.size w w1) : d.R e w1 base ok v xs := QP h (fun k _ hk => hb.block k hk)
theorem M_below {x : α} {cs : List Value} (h : d.M w base ok x cs) (hb : Below w.heap.size w w1) : d.M w1 base ok x cs := Yd h (fun k _ hk => hb.block k hk)
theorem R_grown (h : d.R e w base ok v xs) {row : Option Nat} (hg : w.grownBy w1 row) (hok : ∀ k,ok k → some k ≠ row) : d.R e w1 base ok v xs := QP h (fun k ho hk => hg.block k hk (hok k ho))
theorem QB (h : d.R e w base ok v xs) : ∃ A c,v = .slice A xs.length c ∧ xs.length ≤ c ∧ d.C w A xs.length xs := by
 obtain ⟨A,c,he,hl,hr⟩ := OwnRow.reads h.2; exact ⟨A,c,he,hl,hr.imp_ (Below.refl _ _) (fun _ _ hp => d.K_of_M hp)⟩
theorem Qc (h : d.R e w base ok v xs) : ∃ A c,v = .slice A xs.length c := by
 obtain ⟨A,c,he,_⟩ := QB h; exact ⟨A,c,he⟩
theorem R_own (h : d.R e w base ok v xs) : ∃ inner,w.ownsRow base e d.sz v xs.length inner := by
 obtain ⟨_,inner,ho,_⟩ := h; exact ⟨inner,ho⟩
theorem R_ne (h : d.R e w base ok v xs) {g t : Nat} {cells : Array Value} (hb : w.heap[g]? = some (.cells cells t (0,0))) (ht : e ≠ t) : some g ≠ v.ownBlock := OwnRow.ne_block h.2 hb ht
end
def scalar {α : Type} (enc : α → Value) (h1 : ∀ x,(enc x).oneCell' = true) : Kd α where
 sz := 1
 E := []
 K := fun _ x cs => cs = [enc x]
 M := fun _ _ _ x cs => cs = [enc x]
 K_len := fun h => by rw [h]; rfl
 K_one := fun h u hu => by
  rw [h] at hu; rw [List.mem_singleton.1 hu]; exact h1 _
 K_below := fun _ h => h
 K_of_M := fun h => h
 M_mono := fun _ h => h
 M_bound := fun h => h
 M_move := fun _ h => h
 M_lower := fun _ h => h
def int (k : IntKind) : Kd Int := scalar (Value.int k) (fun _ => rfl)
def bool : Kd Bool := scalar Value.bool (fun _ => rfl)
def slice {α : Type} (e : Nat) (d : Kd α) : Kd (List α) where
 sz := 1
 E := e :: d.E
 K := fun w xs cs => ∃ A c,cs = [.slice A xs.length c] ∧ xs.length ≤ c ∧ d.C w A xs.length xs
 M := fun w base ok xs cs => ∃ v,cs = [v] ∧ d.R e w base ok v xs
 K_len := by
  rintro w x cs ⟨A,c,rfl,_⟩; rfl
 K_one := by
  rintro w x cs ⟨A,c,rfl,_⟩ u hu; rw [List.mem_singleton.1 hu]; rfl
 K_below := by
  rintro w w1 x cs hb ⟨A,c,rfl,hl,hr⟩; exact ⟨A,c,rfl,hl,XT hr hb⟩
 K_of_M := by
  rintro w base ok x cs ⟨v,rfl,h⟩; obtain ⟨A,c,rfl,hl,hr⟩ := QB h; exact ⟨A,c,rfl,hl,hr⟩
 M_mono := by
  rintro w base ok ok' x cs hok ⟨v,rfl,h⟩; exact ⟨v,rfl,Xu h hok⟩
 M_bound := by
  rintro w base ok x cs ⟨v,rfl,h⟩; exact ⟨v,rfl,Xx h⟩
 M_move := by
  rintro w w1 base ok x cs hm ⟨v,rfl,h⟩; exact ⟨v,rfl,Qd h hm⟩
 M_lower := by
  rintro w base base' ok x cs hb ⟨v,rfl,h⟩; exact ⟨v,rfl,Q6 h hb⟩
def bot {α : Type} (sz : Nat) (E : List Nat) : Kd α where
 sz := sz
 E := E
 K := fun _ _ _ => False
 M := fun _ _ _ _ _ => False
 K_len := fun h => h.elim
 K_one := fun h => h.elim
 K_below := fun _ h => h
 K_of_M := fun h => h
 M_mono := fun _ h => h
 M_bound := fun h => h
 M_move := fun _ h => h
 M_lower := fun _ h => h
def upto {α : Type} (F : Kd α → Kd α) (sz : Nat) (E : List Nat) : Nat → Kd α
 | 0 => bot sz E
 | n + 1 => F (upto F sz E n)
theorem C_get {α : Type} {d : Kd α} {w : World} {A : Option Addr} {n : Nat} {xs : List α} (h : d.C w A n xs) (z : α) (i : Int) (h0 : 0 ≤ i) (h1 : i < n) :
 ∃ ad c,A = some ad ∧ c.length = d.sz ∧ d.K w (xs.getD i.toNat z) c ∧ ∀ j u,c[j]? = some u → w.cell? (ad.add (i.toNat * d.sz + j)) = some u := ReadsRow.get_ h z i h0 h1
theorem Qh {α : Type} {d : Kd α} {e base : Nat} {ok okp : Nat → Prop} {W w1 : World} {v v1 : Value} {xs : List α} {p : α} {inner cs : List Value} (h0 : ∀ k,v.ownBlock = some k → ok k) (hr : Reps (d.M W base (fun k => ok k ∧ some k ≠ v.ownBlock)) d.sz xs inner) (hp : d.M W base okp p cs) (hokp : ∀ k,okp k → ok k ∧ some k ≠ v.ownBlock) (hfresh : ∀ k,W.heap.size ≤ k → ok k)
 (hown : w1.ownsRow base e d.sz v1 (xs.length + 1) (inner ++ cs)) (hg : W.grownBy w1 v.ownBlock) (hat : v1.ownBlock = v.ownBlock ∨ ∃ b,v1.ownBlock = some b ∧ W.heap.size ≤ b) : d.R e w1 base ok v1 (xs ++ [p]) := by
 have hne : ∀ k,some k ≠ v.ownBlock → k < W.heap.size → some k ≠ v1.ownBlock := by
  intro k hk hlt
  rcases hat with hat | ⟨b,hb,hle⟩
  · rw [hat]; exact hk
  · rw [hb]
    intro he
    injection he with he
    omega
 have step : ∀ {q : α} {c : List Value} {o : Nat → Prop},d.M W base o q c → (∀ k,o k → ok k ∧ some k ≠ v.ownBlock) → d.M w1 base (fun k => ok k ∧ some k ≠ v1.ownBlock) q c := by
  intro q c o hq ho; have h1 := d.M_move (w1 := w1) (fun k hk => hg.block k hk.2.2.1 (ho k hk.1).2) (d.M_bound hq); exact d.M_mono (fun k hk => ⟨(ho k hk.1).1,hne k (ho k hk.1).2 hk.2.2.1⟩) h1
 refine ⟨fun k hk => ?_,inner ++ cs,by rw [List.length_append,List.length_singleton]; exact hown,?_⟩
 · rcases hat with hat | ⟨b,hb,hle⟩
   · exact h0 k (hat ▸ hk)
   · rw [hb] at hk
     injection hk with hk
     exact hfresh k (by omega)
 · exact (hr.imp_ (fun _ _ hq => step hq (fun _ hk => hk))).snoc (step hp hokp) (d.K_len (d.K_of_M hp))
section
variable {P : Program} {ops : Array Oper} {rest : List Oper} {o : Oper} {a : Act} {Q : Exit → Act → World → Prop} {α : Type}
theorem QL (d : Kd α) {w0 W : World} (base : Nat) (hgd : o.guard = none) (s x : Operand) (t e : TypeId) (z : Value) (bytes : Nat)
 (ho : o.op = .call { callee := .builtin .append,args := #[s,x],argTypes := #[t,t] })
 (ht : P.underlying t = some (.slice e)) (hinfo : (P.info? e).map (fun i => (i.zero,i.size,i.bytes)) = some (some z,d.sz,bytes)) (hz : z.cells.size = d.sz) (hs0 : 0 < d.sz) (hb0 : 0 < bytes)
 (v : Value) (xs : List α) (p : α) (cs : List Value) (ok okp : Nat → Prop) (hs : a.eval s = v) (hx : a.eval x = .slice (some ⟨W.heap.size,0,none⟩) 1 1) (hp : d.M W base okp p cs) (hokp : ∀ k,okp k → ok k ∧ some k ≠ v.ownBlock) (hfresh : ∀ k,W.heap.size ≤ k → ok k)
 (HO : d.R e W base ok v xs) (HB : Below base w0 W) (hbase : base ≤ W.heap.size) (hl : (xs.length + 1) * bytes ≤ 140737488355328)
 (h : ∀ v1 w1,d.R e w1 base ok v1 (xs ++ [p]) → Below base w0 w1 → W.grownBy w1 v.ownBlock → (v1.ownBlock = v.ownBlock ∨ ∃ b,v1.ownBlock = some b ∧ W.heap.size ≤ b) → wpList P ops Q rest (a.put o.dst v1) w1) :
 wpList P ops Q (o :: rest) a (W.alloc (.cells cs.toArray e)) := by
 obtain ⟨h0,inner,hown,hr⟩ := HO; refine Xy base hgd s x t e z d.sz bytes ho ht hinfo hz hs0 hb0 v xs.length inner cs hs hx (d.K_len (d.K_of_M hp)) (d.K_one (d.K_of_M hp)) hown HB hbase hl ?_; intro v1 w1 hown1 hb1 hg1 hat1; exact h v1 w1 (Qh h0 hr hp hokp hfresh hown1 hg1 hat1) hb1 hg1 hat1
end
theorem reads_of_C {α : Type} {enc : α → Value} {d : α} {h1 : ∀ x,(enc x).oneCell' = true} {w : World} {A : Option Addr} {n : Nat} {xs : List α} (h : (scalar enc h1).C w A n xs) : ReadsOf enc d w A n xs := by
 refine ⟨h.1,h.2.1,fun hn => ?_⟩; obtain ⟨ad,e,hc⟩ := h.2.2 hn; refine ⟨ad,e,fun j hj => ?_⟩
 have hl : j < xs.length := by have := h.1; omega
 obtain ⟨c,_,hK,hcell⟩ := hc j _ (List.getElem?_eq_getElem hl); have hK' : c = [enc xs[j]] := hK; subst hK'; have := hcell 0 _ rfl
 simpa [scalar,List.getD_eq_getElem?_getD,List.getElem?_eq_getElem hl] using this
end Kd
namespace Kd
structure Mono {α β : Type} (F : Kd α → Kd β) : Prop where
 sz : ∀ d d' : Kd α,d.sz = d'.sz → (F d).sz = (F d').sz
 K : ∀ d d' : Kd α,d.sz = d'.sz → (∀ w x cs,d.K w x cs → d'.K w x cs) → ∀ w x cs,(F d).K w x cs → (F d').K w x cs
 M : ∀ d d' : Kd α,d.sz = d'.sz → (∀ w base ok x cs,d.M w base ok x cs → d'.M w base ok x cs) → ∀ w base ok x cs,(F d).M w base ok x cs → (F d').M w base ok x cs
end Kd
namespace Kd
theorem R_after {α : Type} {d : Kd α} {e base : Nat} {ok : Nat → Prop} {W w1 : World} {u v v1 : Value} {xs : List α} (h : d.R e W base (fun k => ok k ∧ some k ≠ v.ownBlock) u xs) (hg : W.grownBy w1 v.ownBlock) (hat : v1.ownBlock = v.ownBlock ∨ ∃ b,v1.ownBlock = some b ∧ W.heap.size ≤ b) : d.R e w1 base (fun k => ok k ∧ some k ≠ v1.ownBlock) u xs := by
 refine Xu (Qd (Xx h) (fun k hk => hg.block k hk.2.2.1 hk.1.2)) (fun k hk => ⟨hk.1.1,?_⟩)
 rcases hat with hat | ⟨b,hb,hle⟩
 · rw [hat]; exact hk.1.2
 · rw [hb]
   intro he
   injection he with he
   have := hk.2.2.1; omega
theorem M_row {α : Type} {d : Kd α} {e base : Nat} {ok : Nat → Prop} {w : World} {v : Value} {xs : List α} (h : d.R e w base ok v xs) : (slice e d).M w base ok xs [v] := ⟨v,rfl,h⟩
end Kd
namespace Kd
section
variable {α β : Type} {d : Kd α} {d' : Kd β} {e e' : Nat} {w w1 W : World} {base b b' : Nat} {ok ok' okv oku : Nat → Prop} {v u : Value} {xs : List α} {ys : List β}
theorem XQ (h : d.R e w base ok v xs) (o : Obj) : d.R e (w.alloc o) base ok v xs := QA h (Zk (Below.refl _ _) o)
theorem X4 (h : d.R e w base ok v xs) : d.R e w.drew base ok v xs := QA h (XI (Below.refl _ _))
theorem Qb (h : d.R e w base ok v xs) (m : Nat) : d.R e (w.drewN m) base ok v xs := QA h (Zi (Below.refl _ _) m)
theorem ZV {A : Option Addr} {n : Nat} (h : d.C w A n xs) (o : Obj) : d.C (w.alloc o) A n xs := XT h (Zk (Below.refl _ _) o)
theorem ZX {A : Option Addr} {n : Nat} (h : d.C w A n xs) : d.C w.drew A n xs := XT h (XI (Below.refl _ _))
theorem ZW {A : Option Addr} {n : Nat} (h : d.C w A n xs) (m : Nat) : d.C (w.drewN m) A n xs := XT h (Zi (Below.refl _ _) m)
theorem C_nil (d : Kd α) (w : World) : d.C w none ([] : List α).length [] := ⟨rfl,by simp,fun h => absurd h (Nat.lt_irrefl 0)⟩
theorem Xz {A : Option Addr} {n c : Nat} (h : d.R e w base ok (.slice A n c) xs) : n = xs.length ∧ n ≤ c ∧ d.C w A xs.length xs := by
 obtain ⟨A',c',he,hl,hr⟩ := QB h
 injection he with h1 h2 h3
 subst h1; exact ⟨h2,by omega,hr⟩
theorem R_lt (h : d.R e w base ok v xs) : ∀ k,v.ownBlock = some k → k < w.heap.size := by
 obtain ⟨inner,ho⟩ := R_own h; exact Yb ho
theorem QN (h : d.R e w base ok v xs) : ∀ k,v.ownBlock = some k → base ≤ k := by
 obtain ⟨inner,ho⟩ := R_own h; exact Qj ho
end
section
variable {w W : World} {A : Option Addr} {n : Nat}
theorem X2 {k : IntKind} {xs : List Int} (h : (Kd.int k).C w A n xs) (i : Int) (h0 : 0 ≤ i) (h1 : i < n) : ∃ ad,A = some ad ∧ w.cell? (ad.add i.toNat) = some (.int k (rd xs i)) :=
 ReadsOf.at_ (reads_of_C (enc := Value.int k) (d := (0 : Int)) (h1 := fun _ => rfl) h) i h0 h1
variable {α : Type} {enc : α → Value} {h1 : ∀ x,(enc x).oneCell' = true} {e base g cap : Nat} {ok : Nat → Prop} {xs : List α}
end
section
variable {P : Program} {ops : Array Oper} {rest : List Oper} {o : Oper} {a : Act} {Q : Exit → Act → World → Prop}
theorem Qw {W w1 : World} {v : Value} (hgd : o.guard = none) (hrun : (execOp a.eval o).run P W = .ok (.value v) w1) (h : wpList P ops Q rest (a.put o.dst v) w1) : wpList P ops Q (o :: rest) a W := by
 refine wpList_plain hgd fun K hK => ?_
 unfold Oper.wp; rw [hrun]; exact hK _ _ h
variable {α : Type}
theorem R_lit (d : Kd α) {w0 W : World} (base e : Nat) (hgd : o.guard = none) {N : Tmp} (_hd : o.dst = some N) {xs : List α} {inner : List Value} {ok okp : Nat → Prop}
 (hrun : (execOp a.eval o).run P W = .ok (.value (.slice (some ⟨W.heap.size,0,none⟩) xs.length xs.length)) (W.alloc (.cells inner.toArray e)))
 (hrep : Reps (d.M W base okp) d.sz xs inner) (hok : ∀ k,okp k → ok k) (hfresh : ok W.heap.size) (HB : Below base w0 W) (hbase : base ≤ W.heap.size) (hm : xs.length ≤ 9223372036854775807)
 (h : ∀ v1 w1,d.R e w1 base ok v1 xs → Below base w0 w1 → W.grownBy w1 none → (∃ b,v1.ownBlock = some b ∧ W.heap.size ≤ b) → wpList P ops Q rest (a.put o.dst v1) w1) : wpList P ops Q (o :: rest) a W := by
 refine Qw hgd hrun (h _ _ ⟨fun k hk => ?_,inner,?_,?_⟩ (HB.alloc hbase _) (World.grownBy_alloc W _ none) ⟨W.heap.size,by simp [Value.ownBlock],Nat.le_refl _⟩)
 · have : W.heap.size = k := by simpa [Value.ownBlock] using hk
   subst this; exact hfresh
 · have h2 := World.ownsRow_lit (base := base) (e := e) (size := d.sz) W inner.toArray xs.length hbase (by simpa [maxLen] using hm) (by simpa using hrep.1)
   simpa using h2
 · refine hrep.imp_ (fun p c hp => d.M_mono (fun k hk => ⟨hok k hk.1,fun he => ?_⟩) (M_below (d.M_bound hp) (Zk (Below.refl _ _) _)))
   have h3 : k = W.heap.size := by simpa [Value.ownBlock] using he
   have := hk.2.2.1; omega
end
end Kd
def QRow (w : World) (base : Nat) (e : TypeId) (size : Nat) (v : Value) (n : Nat) (xs : List Value) : Prop :=
 xs.length = n * size ∧
 ((n = 0 ∧ ∃ A,v = .slice A 0 0 ∧ ∀ a,A = some a → base ≤ a.block ∧ ∃ cur,w.heap[a.block]? = some (.cells cur e (0,0))) ∨
  ∃ g off cap cur,v = .slice (some ⟨g,off * size,none⟩) n cap ∧ base ≤ g ∧ w.heap[g]? = some (.cells cur e (0,0)) ∧ n ≤ cap ∧ off + cap ≤ maxLen ∧ cur.size = (off + cap) * size ∧ (cur.toList.drop (off * size)).take (n * size) = xs)
section
variable {w w1 : World} {base n size : Nat} {e : TypeId} {v : Value} {xs : List Value}
theorem q_of_own (h : w.ownsRow base e size v n xs) : QRow w base e size v n xs := by
 obtain ⟨h1,h2⟩ := h; refine ⟨h1,?_⟩
 rcases h2 with ⟨rfl,h0⟩ | ⟨g,cap,cur,rfl,hb,hh,hnc,hcm,hcs,ht⟩
 · exact .inl ⟨h0,none,rfl,fun a ha => by cases ha⟩
 · exact .inr ⟨g,0,cap,cur,by rw [Nat.zero_mul],hb,hh,hnc,by rw [Nat.zero_add]; exact hcm,by rw [Nat.zero_add]; exact hcs,by rw [Nat.zero_mul,List.drop_zero]; exact ht⟩
theorem add_at (g o j : Nat) : (⟨g,o,none⟩ : Addr).add j = ⟨g,o + j,none⟩ := by unfold Addr.add; split <;> simp_all
theorem XS {g : Nat} : ∀ (vs : List Value) (o : Nat) {w : World} (k : Nat),k ≠ g → (w.setCells g o vs).heap[k]? = w.heap[k]?
 | [],_,_,_,_ => rfl
 | v :: r,o,w,k,hk => by
  rw [World.setCells,XS r (o + 1) k hk]; exact Below.heap_setCell w ⟨g,o,none⟩ v k hk
theorem XE (g : Nat) : ∀ (vs : List Value) (o : Nat) (w : World),(w.setCells g o vs).os = w.os ∧ (w.setCells g o vs).tape = w.tape ∧ (w.setCells g o vs).output = w.output ∧ (w.setCells g o vs).heap.size = w.heap.size
 | [],_,_ => ⟨rfl,rfl,rfl,rfl⟩
 | v :: r,o,w => by
  obtain ⟨h1,h2,h3,h4⟩ := XE g r (o + 1) (w.setCell ⟨g,o,none⟩ v); rw [World.setCells]; exact ⟨h1,h2,h3,by rw [h4]; simp [World.setCell]⟩
theorem XO {g : Nat} {e : TypeId} : ∀ (vs : List Value) (o : Nat) (w : World) (cur : Array Value),w.heap[g]? = some (.cells cur e (0,0)) → o + vs.length ≤ cur.size →
 ∃ cur',(w.setCells g o vs).heap[g]? = some (.cells cur' e (0,0)) ∧ cur'.size = cur.size ∧ cur'.toList = cur.toList.take o ++ vs ++ cur.toList.drop (o + vs.length)
 | [],o,w,cur,h,_ => ⟨cur,h,rfl,by simp⟩
 | v :: r,o,w,cur,h,hl => by
  have h2 := QS h o v; simp only [List.length_cons] at hl; obtain ⟨cur',h3,h4,h5⟩ := XO r (o + 1) (w.setCell ⟨g,o,none⟩ v) _ h2 (by simp; omega); refine ⟨cur',h3,by rw [h4]; simp,?_⟩; rw [h5,Array.toList_setIfInBounds]
  have ho : o < cur.toList.length := by rw [Array.length_toList]; omega
  rw [List.take_set,List.drop_set_of_lt (by omega)]; simp only [List.length_cons]; rw [show o + 1 + r.length = o + (r.length + 1) by omega]
  congr 1
  rw [List.take_succ_eq_append_getElem ho,List.set_append_right _ _ (by rw [List.length_take]; omega)]
  have ho' : o < cur.size := by omega
  simp [Nat.min_eq_left (Nat.le_of_lt ho')]
end
namespace Kd
def Q {α : Type} (d : Kd α) (e : Nat) (w : World) (base : Nat) (ok : Nat → Prop) (v : Value) (xs : List α) : Prop :=
 (∀ k,v.ownBlock = some k → ok k) ∧ ∃ inner,QRow w base e d.sz v xs.length inner ∧ Reps (d.M w base (fun k => ok k ∧ some k ≠ v.ownBlock)) d.sz xs inner
section
variable {α : Type} {d : Kd α} {e : Nat} {w w1 W : World} {base : Nat} {ok ok' : Nat → Prop} {v : Value} {xs : List α}
theorem Q_of_R (h : d.R e w base ok v xs) : d.Q e w base ok v xs := by
 obtain ⟨h0,inner,ho,hr⟩ := h; exact ⟨h0,inner,q_of_own ho,hr⟩
theorem Q_nil (d : Kd α) (e : Nat) (w : World) (base : Nat) (ok : Nat → Prop) : d.Q e w base ok (.slice none 0 0) [] := Q_of_R (R_nil d e w base ok)
end
end Kd
namespace Kd
section
variable {α : Type} {d : Kd α} {e e' : Nat} {w w1 W : World} {base : Nat} {ok : Nat → Prop} {u v : Value} {xs : List α}
theorem R_typed (h : d.R e w base ok v xs) : ∀ k,v.ownBlock = some k → ∃ cells,w.heap[k]? = some (.cells cells e (0,0)) := by
 obtain ⟨inner,ho⟩ := R_own h
 exact fun k hk => XX ho k hk
theorem QJ (h : d.R e W base ok u xs) (hty : ∀ k,v.ownBlock = some k → ∃ cells,W.heap[k]? = some (.cells cells e' (0,0))) (ht : ∀ q,q ∈ e :: d.E → q ≠ e') : d.R e W base (fun k => ok k ∧ some k ≠ v.ownBlock) u xs := by
 refine Xu (Xx h) (fun k hk => ⟨hk.1,fun he => ?_⟩); obtain ⟨_,_,_,q,hq,cells,hc⟩ := hk; obtain ⟨cells',hc'⟩ := hty k he.symm; rw [hc] at hc'
 injection hc' with hc'
 injection hc' with _ hc'
 exact ht q hq hc'
theorem QM (hu : d.R e W base ok u xs) (hbase : ∀ k,v.ownBlock = some k → W.heap.size ≤ k) (hb : Below W.heap.size W w1) : d.R e w1 base (fun k => ok k ∧ some k ≠ v.ownBlock) u xs :=
 Xu (Qd (Xx hu) (fun k hk => hb.block k hk.2.2.1)) (fun k hk => ⟨hk.1,fun he => by have := hbase k he.symm; have := hk.2.2.1; omega⟩)
theorem Yg (h : d.R e w1 W.heap.size ok v xs) (hlt : ∀ k,u.ownBlock = some k → k < W.heap.size) : d.R e w1 W.heap.size (fun k => ok k ∧ some k ≠ u.ownBlock) v xs :=
 Xu (Xx h) (fun k hk => ⟨hk.1,fun he => by have := hlt k he.symm; have := hk.2.1; omega⟩)
end
end Kd
theorem XP {α : Type} (a seg : List α) (o : Nat) (h : o + seg.length ≤ a.length) (q : Nat) :
 (a.take o ++ seg ++ a.drop (o + seg.length))[q]? = if q < o then a[q]? else if q < o + seg.length then seg[q - o]? else a[q]? := by
 have hl : (a.take o).length = o := by rw [List.length_take]; omega
 rw [List.append_assoc]
 by_cases h1 : q < o
 · rw [if_pos h1,List.getElem?_append_left (by omega),List.getElem?_take,if_pos h1]
 · rw [if_neg h1,List.getElem?_append_right (by omega),hl]
   by_cases h2 : q < o + seg.length
   · rw [if_pos h2,List.getElem?_append_left (by omega)]
   · rw [if_neg h2,List.getElem?_append_right (by omega),List.getElem?_drop]
     congr 1
     omega
namespace Kd
section
variable {α : Type} {d : Kd α} {e base g n cap : Nat} {ok okp : Nat → Prop} {W : World} {xs : List α}
theorem Yh (h : d.R e W base ok (.slice (some ⟨g,0,none⟩) n cap) xs) (z : α) (i : Int) (h0 : 0 ≤ i) (h1 : i < n) :
 ∃ c,c.length = d.sz ∧ d.M W base (fun k => ok k ∧ k ≠ g) (xs.getD i.toNat z) c ∧ (∀ j u,c[j]? = some u → W.cell? ⟨g,i.toNat * d.sz + j,none⟩ = some u) ∧ ∀ j,W.frozen? ⟨g,i.toNat * d.sz + j,none⟩ = false := by
 obtain ⟨hn,hnc,hC⟩ := Xz h; obtain ⟨_,inner,ho,hr⟩ := h
 have hil : i.toNat < xs.length := by omega
 have hseg : i.toNat * d.sz + d.sz ≤ inner.length := by rw [hr.1,← Nat.succ_mul]; exact Nat.mul_le_mul_right _ hil
 have hM := hr.2 i.toNat _ (List.getElem?_eq_getElem hil); refine ⟨(inner.drop (i.toNat * d.sz)).take d.sz,by rw [List.length_take,List.length_drop]; omega,?_,fun j u hu => ?_,fun j => ?_⟩
 · rw [List.getD_eq_getElem?_getD,List.getElem?_eq_getElem hil]
   exact d.M_mono (fun k hk => ⟨hk.1,fun he => hk.2 (by rw [he]; simp [Value.ownBlock])⟩) hM
 · rw [List.getElem?_take] at hu
   split at hu
   · rw [List.getElem?_drop] at hu
     have := ho.cells (g := g) (by simp [Value.ownBlock]) _ u hu
     rwa [XW] at this
   · cases hu
 · obtain ⟨cells,hc⟩ := XX ho g (by simp [Value.ownBlock])
   exact Zb hc _
theorem R_seg (h : d.R e W base ok (.slice (some ⟨g,0,none⟩) n cap) xs) (i : Int) (h0 : 0 ≤ i) (h1 : i < n) {c seg : List Value} {j : Nat} (hcl : c.length = d.sz) (hcc : ∀ j u,c[j]? = some u → W.cell? ⟨g,i.toNat * d.sz + j,none⟩ = some u)
 (hj : j + seg.length ≤ d.sz) {x' : α} (hM : d.M W base okp x' (c.take j ++ seg ++ c.drop (j + seg.length))) (hokp : ∀ k,okp k → ok k ∧ k ≠ g) :
 d.R e (W.setCells g (i.toNat * d.sz + j) seg) base ok (.slice (some ⟨g,0,none⟩) n cap) (xs.set i.toNat x') ∧ W.grownBy (W.setCells g (i.toNat * d.sz + j) seg) (some g) := by
 obtain ⟨hn,hnc,_⟩ := Xz h; obtain ⟨hok,inner,ho,hr⟩ := h
 have hil : i.toNat < xs.length := by omega
 have hseg : i.toNat * d.sz + d.sz ≤ inner.length := by rw [hr.1,← Nat.succ_mul]; exact Nat.mul_le_mul_right _ hil
 have hin : inner.length = n * d.sz := by rw [hr.1,hn]
 obtain ⟨ho1,ho2⟩ := ho
 rcases ho2 with ⟨hv,_⟩ | ⟨g',cap',cur,hv,hb,hh,hnc',hcm,hcs,ht⟩
 · cases hv
 injection hv with ha _ hc
 injection ha with ha
 injection ha with hg
 subst hg; subst hc
 have hfit : i.toNat * d.sz + j + seg.length ≤ cur.size := by
  have : n * d.sz ≤ cap * d.sz := Nat.mul_le_mul_right _ hnc; omega
 obtain ⟨cur',h3,h4,h5⟩ := XO seg (i.toNat * d.sz + j) W cur hh hfit; obtain ⟨s1,s2,s3,s4⟩ := XE g seg (i.toNat * d.sz + j) W
 have hfar : ∀ k,k ≠ g → (W.setCells g (i.toNat * d.sz + j) seg).heap[k]? = W.heap[k]? := fun k hk => XS seg _ k hk
 have hcin : ∀ q,q < d.sz → c[q]? = inner[i.toNat * d.sz + q]? := by
  intro q hq
  have hq' : q < c.length := by omega
  have h6 := hcc q _ (List.getElem?_eq_getElem hq'); rw [cell_of_row W g _ cur e (0,0) hh] at h6; rw [List.getElem?_eq_getElem hq',← h6,← ht,List.getElem?_take,if_pos (by rw [← hn]; omega),Array.getElem?_toList]
 refine ⟨⟨hok,inner.take (i.toNat * d.sz + j) ++ seg ++ inner.drop (i.toNat * d.sz + j + seg.length),⟨?_,.inr ⟨g,cap,cur',by rw [List.length_set,hn],hb,h3,by rw [List.length_set,← hn]; exact hnc,hcm,by rw [h4,hcs],?_⟩⟩,?_⟩,
  ⟨s1,s2,s3,by rw [s4]; exact Nat.le_refl _,fun k _ hk => hfar k (fun he => hk (by rw [he]))⟩⟩
 · rw [List.length_set]
   simp only [List.length_append,List.length_take,List.length_drop]; rw [hr.1] at hseg ⊢; omega
 · rw [List.length_set,← hn]
   apply List.ext_getElem?; intro q; rw [List.getElem?_take,h5]; rw [XP cur.toList seg (i.toNat * d.sz + j) (by rw [Array.length_toList]; omega) q,XP inner seg (i.toNat * d.sz + j) (by omega) q]
   have hcur : ∀ q,q < n * d.sz → cur.toList[q]? = inner[q]? := by
    intro q hq; rw [← ht,List.getElem?_take,if_pos (by rw [← hn]; exact hq)]
   by_cases hq : q < n * d.sz
   · rw [if_pos hq,hcur q hq]
   · rw [if_neg hq,if_neg (by omega),if_neg (by omega),List.getElem?_eq_none (by omega)]
 · refine ⟨?_,fun m p hm => ?_⟩
   · rw [List.length_set]
     simp only [List.length_append,List.length_take,List.length_drop]; rw [hr.1] at hseg ⊢; omega
   · have hml : m < xs.length := by
      have := (List.getElem?_eq_some_iff.1 hm).1
      rwa [List.length_set] at this
     have hmfit : m * d.sz + d.sz ≤ inner.length := by rw [hr.1,← Nat.succ_mul]; exact Nat.mul_le_mul_right _ hml
     have hgo : some g = (Value.slice (some ⟨g,0,none⟩) n cap).ownBlock := by simp [Value.ownBlock]
     by_cases hmi : m = i.toNat
     · subst hmi
       rw [List.getElem?_set_self (by omega)] at hm
       injection hm with hm
       subst hm
       have hcells : ((inner.take (i.toNat * d.sz + j) ++ seg ++ inner.drop (i.toNat * d.sz + j + seg.length)).drop (i.toNat * d.sz)).take d.sz = c.take j ++ seg ++ c.drop (j + seg.length) := by
        apply List.ext_getElem?; intro q; rw [List.getElem?_take,List.getElem?_drop,XP inner seg _ (by omega),XP c seg j (by omega) q]
        by_cases hq : q < d.sz
        · rw [if_pos hq,hcin q hq]
          by_cases hq1 : q < j
          · rw [if_pos (by omega),if_pos hq1]
          · rw [if_neg (by omega),if_neg hq1]
            by_cases hq2 : q < j + seg.length
            · rw [if_pos (by omega),if_pos hq2]
              congr 1
              omega
            · rw [if_neg (by omega),if_neg hq2]
        · rw [if_neg hq,if_neg (by omega),if_neg (by omega),List.getElem?_eq_none (by omega)]
       rw [hcells]; refine d.M_mono (fun k hk => ?_) (d.M_move (w1 := W.setCells g (i.toNat * d.sz + j) seg) (fun k hk => hfar k (hokp k hk).2) hM); exact ⟨(hokp k hk).1,fun he => (hokp k hk).2 (by rw [← hgo] at he; injection he)⟩
     · rw [List.getElem?_set_ne (by omega)] at hm
       have hold := hr.2 m p hm
       have hcells : ((inner.take (i.toNat * d.sz + j) ++ seg ++ inner.drop (i.toNat * d.sz + j + seg.length)).drop (m * d.sz)).take d.sz = (inner.drop (m * d.sz)).take d.sz := by
        apply List.ext_getElem?; intro q; rw [List.getElem?_take,List.getElem?_take,List.getElem?_drop,List.getElem?_drop,XP inner seg _ (by omega)]
        by_cases hq : q < d.sz
        · rw [if_pos hq,if_pos hq]
          rcases Nat.lt_or_gt_of_ne hmi with hlt | hgt
          · have : m * d.sz + d.sz ≤ i.toNat * d.sz := by rw [← Nat.succ_mul]; exact Nat.mul_le_mul_right _ hlt
            rw [if_pos (by omega)]
          · have : i.toNat * d.sz + d.sz ≤ m * d.sz := by rw [← Nat.succ_mul]; exact Nat.mul_le_mul_right _ hgt
            rw [if_neg (by omega),if_neg (by omega)]
        · rw [if_neg hq,if_neg hq]
       rw [hcells]; refine d.M_move (fun k hk => hfar k (fun he => hk.2 (by rw [he]; exact hgo))) hold
end
end Kd
theorem Zt {w W : World} (h : Below w.heap.size w W) : w.heap.size ≤ W.heap.size := h.size
theorem Zv {w W w2 : World} (h : Below w.heap.size w W) (k : Below W.heap.size W w2) : Below w.heap.size w w2 := below_then h h.size k
theorem ReadsInt.nil (W : World) (k : IntKind) : ReadsInt W k none ([] : List Int).length [] := ⟨rfl,by simp,fun h => absurd h (Nat.lt_irrefl 0)⟩
theorem ReadsInt.drewN {W : World} {k : IntKind} {A : Option Addr} {n : Nat} {xs : List Int} (h : ReadsInt W k A n xs) (m : Nat) : ReadsInt (W.drewN m) k A n xs := h
theorem Zf {w W : World} {g j : Nat} {v : Value} (h : Below w.heap.size w W) (hg : w.heap.size ≤ g) : Below w.heap.size w (W.setCell ⟨g,j,none⟩ v) := h.setCell hg _
theorem Qy {w W : World} {g : Nat} (h : KeepBut w W g none) {a : Addr} {v : Value} (hc : w.cell? a = some v) (hne : a.block ≠ g) : W.cell? a = some v := by
 have := h.2 a.block (World.block_lt_of_cell? w a hc) hne (by simp)
 simpa [World.cell?,this] using hc
theorem Q2 (a : Addr) (i : Nat) : (a.add i).block = a.block := by unfold Addr.add; split <;> rfl
theorem ReadsOf.nil {α : Type} (enc : α → Value) (d : α) (W : World) : ReadsOf enc d W none ([] : List α).length [] := ⟨rfl,by simp,fun h => absurd h (Nat.lt_irrefl 0)⟩
theorem ReadsOf.drewN {α : Type} {enc : α → Value} {d : α} {W : World} {A : Option Addr} {n : Nat} {xs : List α} (h : ReadsOf enc d W A n xs) (m : Nat) : ReadsOf enc d (W.drewN m) A n xs := h
theorem ReadsInt.keep {w W : World} {k : IntKind} {A : Option Addr} {n g : Nat} {xs : List Int} (h : ReadsInt w k A n xs) (hk : KeepBut w W g none) (hf : ∀ ad,A = some ad → 0 < n → ad.block ≠ g) : ReadsInt W k A n xs :=
 ⟨h.1,h.2.1,fun hn => by
  obtain ⟨ad,e,hc⟩ := h.2.2 hn
  exact ⟨ad,e,fun j hj => Qy hk (hc j hj) (by rw [Q2]; exact hf ad e hn)⟩⟩
theorem ReadsOf.keep {α : Type} {enc : α → Value} {d : α} {w W : World} {A : Option Addr} {n g : Nat} {xs : List α} (h : ReadsOf enc d w A n xs) (hk : KeepBut w W g none) (hf : ∀ ad,A = some ad → 0 < n → ad.block ≠ g) : ReadsOf enc d W A n xs :=
 ⟨h.1,h.2.1,fun hn => by
  obtain ⟨ad,e,hc⟩ := h.2.2 hn
  exact ⟨ad,e,fun j hj => Qy hk (hc j hj) (by rw [Q2]; exact hf ad e hn)⟩⟩
theorem Zp {W : World} {p a : Addr} (h : a.block ≠ p.block) (u : Value) : (W.setCell p u).cell? a = W.cell? a := by
 have := Below.heap_setCell W p u a.block h; simp [World.cell?,this]
theorem Z6 {w : World} {g : Nat} {t : TypeId} {cs cs' : Array Value} (h : w.heap[g]? = some (.cells cs t (0,0))) (i : Nat) (u : Value) (e : cs.setIfInBounds i u = cs') : (w.setCell ⟨g,i,none⟩ u).heap[g]? = some (.cells cs' t (0,0)) := e ▸ QS h i u
theorem Zj {base : Nat} {w W : World} (h : Below base w W) : Below base w W.drew := h.drew
section
variable {P : Program} {ops : Array Oper} {rest : List Oper} {o : Oper} {a : Act} {Q : Exit → Act → World → Prop}
theorem Z9 {W : World} (hgd : o.guard = none) {N : Tmp} (_hd : o.dst = some N) {cs : Array Value} {t : TypeId}
 (hrun : (execOp a.eval o).run P W = .ok (.value (.pointer (some ⟨W.heap.size,0,none⟩))) (W.alloc (.cells cs t (0,0))))
 (h : ∀ g,g = W.heap.size → ∀ w1,w1.heap[g]? = some (.cells cs t (0,0)) → Below W.heap.size W w1 → wpList P ops Q rest (a.put o.dst (.pointer (some ⟨g,0,none⟩))) w1) : wpList P ops Q (o :: rest) a W :=
 Kd.Qw hgd hrun (h _ rfl _ (QW W _) (Zk (Below.refl _ _) _))
end
section
variable {P : Program} {ops : Array Oper} {rest : List Oper} {o : Oper} {a : Act} {Q : Exit → Act → World → Prop} {W : World}
theorem ZD {N : Tmp} (_hN : o.dst = some N) (h : wpList P ops Q (o :: rest) a W) : wpList P ops Q (o :: rest) a W := h
end
section
variable {P : Program} {ops : Array Oper} {o : Oper} {a : Act} {Q : Exit → Act → World → Prop} {Kc : Act → World → Prop}
theorem event_step {W w1 : World} {v : Value} (hw : Region.wanted o (yielded ops a.tmps) = true) (hrun : (execOp a.eval o).run P W = .ok (.value v) w1) (h : Kc (a.put o.dst v) w1) : if Region.wanted o (yielded ops a.tmps) = true then Oper.wp P o a W Kc Q else Kc (a.put o.dst undef) W := by
 rw [if_pos hw]; unfold Oper.wp; rw [hrun]; exact h
theorem X5 {W : World} (hw : Region.wanted o (yielded ops a.tmps) = true) {N : Tmp} (_hd : o.dst = some N) {cs : Array Value} {t : TypeId}
 (hrun : (execOp a.eval o).run P W = .ok (.value (.pointer (some ⟨W.heap.size,0,none⟩))) (W.alloc (.cells cs t (0,0))))
 (h : ∀ g,g = W.heap.size → ∀ w1,w1.heap[g]? = some (.cells cs t (0,0)) → Below W.heap.size W w1 → Kc (a.put o.dst (.pointer (some ⟨g,0,none⟩))) w1) : if Region.wanted o (yielded ops a.tmps) = true then Oper.wp P o a W Kc Q else Kc (a.put o.dst undef) W :=
 event_step hw hrun (h _ rfl _ (QW W _) (Zk (Below.refl _ _) _))
end
inductive Vals (P : Program) (tmps : Array Value) (w : World) : List ResultVar → List Value → Prop where
 | nil : Vals P tmps w [] []
 | tmp {u : Tmp} {rs : List ResultVar} {vs : List Value} (h : Vals P tmps w rs vs) : Vals P tmps w (.tmp u :: rs) (tmps.getD u undef :: vs)
 | cell {p : Tmp} {ty : TypeId} {rs : List ResultVar} {vs : List Value} (g : Nat) (t : TypeId) (cs : Array Value) (fr : Nat × Nat) (d : TypeDesc)
  (hp : tmps.getD p undef = .pointer (some ⟨g,0,none⟩)) (hg : w.heap[g]? = some (.cells cs t fr))
  (hu : P.underlying ty = some d) (hd : (match d with | .struct _ | .array _ _ => true | _ => false) = true) (hi : (P.info? ty).map (·.size) = some cs.size)
  (h : Vals P tmps w rs vs) : Vals P tmps w (.cell p ty :: rs) (.agg cs :: vs)
end Go.Proofs.YtcdiecgenpigbaaW.PrintWords

namespace Go.Proofs.YtcdiecgenpigbaaW.PrintLast
section
variable {P : Program} {ops : Array Oper} {Q : Exit → Act → World → Prop} {md : Region.Mode} {S : World → Prop} {ds : List Nat}
def Region.reachB (md : Region.Mode) (ops : Array Oper) (i : Nat) : Nat → Nat → Bool
 | 0,_ => false
 | fuel + 1,d => match ops[d]? with
  | some o => o.after.any fun e => Region.binds md e && (e.on == i || Region.reachB md ops i fuel e.on)
  | none => false
def Region.closedB (md : Region.Mode) (ops : Array Oper) (listed : Array Bool) : Bool :=
 (List.range ops.size).all fun j => !listed.getD j false || match ops[j]? with
  | some o => o.after.all fun e => !Region.binds md e || listed.getD e.on false
  | none => true
def Region.lastB (md : Region.Mode) (ops : Array Oper) (listed : Array Bool) (ds : List Nat) (i : Nat) : Bool :=
 ds.all fun d => listed.getD d true || Region.reachB md ops i ops.size d
def ListedClosed (md : Region.Mode) (ops : Array Oper) (listed : Array Bool) : Prop :=
 ∀ j oj,ops[j]? = some oj → listed.getD j false = true → ∀ e ∈ oj.after,Region.binds md e = true → listed.getD e.on false = true
theorem Region.closedB_spec {listed : Array Bool} (h : Region.closedB md ops listed = true) : ListedClosed md ops listed := by
 intro j oj hj hl e he hb; have hlt : j < ops.size := (Array.getElem?_eq_some_iff.1 hj).1; have h1 := List.all_eq_true.1 h j (List.mem_range.2 hlt); simp only [hl,hj,Bool.not_true,Bool.false_or] at h1; have h2 := Array.all_eq_true_iff_forall_mem.1 h1 e he
 simpa [hb] using h2
theorem ListedClosed.set {listed : Array Bool} {i : Nat} (h : ListedClosed md ops listed) (hi : i ∈ Region.ready md ops listed) : ListedClosed md ops (listed.setIfInBounds i true) := by
 obtain ⟨_,oi,hoi,hall⟩ := mem_ready.1 hi; intro j oj hj hl e he hb
 by_cases hij : i = j
 · subst hij
   have : oj = oi := Option.some.inj (hj.symm.trans hoi); subst this; exact getD_set_true (hall e he hb)
 · rw [getD_set_ne false hij] at hl
   exact getD_set_true (h j oj hj hl e he hb)
theorem Region.XM {listed : Array Bool} {i : Nat} (hc : ListedClosed md ops listed) : ∀ (fuel d : Nat),Region.reachB md ops i fuel d = true → listed.getD d false = true → listed.getD i false = true
 | 0,_,h,_ => by simp [Region.reachB] at h
 | fuel + 1,d,h,hl => by
  unfold Region.reachB at h
  cases ho : ops[d]? with
  | none => rw [ho] at h; simp at h
  | some o =>
   rw [ho] at h; obtain ⟨e,he,h1⟩ := Array.any_eq_true'.1 h; simp only [Bool.and_eq_true,Bool.or_eq_true,beq_iff_eq] at h1; have hle := hc d o ho hl e he h1.1
   rcases h1.2 with h2 | h2
   · rw [← h2]; exact hle
   · exact Region.XM hc fuel e.on h2 hle
theorem Region.reach_not_ready {listed : Array Bool} {i d fuel : Nat} (hc : ListedClosed md ops listed) (hr : Region.reachB md ops i fuel d = true) (hun : listed.getD i true = false) : d ∉ Region.ready md ops listed := by
 intro hd; obtain ⟨_,o,ho,hall⟩ := mem_ready.1 hd
 have hi : listed.getD i false = true := by
  cases fuel with
  | zero => simp [Region.reachB] at hr
  | succ n =>
   unfold Region.reachB at hr; rw [ho] at hr; obtain ⟨e,he,h1⟩ := Array.any_eq_true'.1 hr; simp only [Bool.and_eq_true,Bool.or_eq_true,beq_iff_eq] at h1; have hle := hall e he h1.1
   rcases h1.2 with h2 | h2
   · rw [← h2]; exact hle
   · exact Region.XM hc n e.on h2 hle
 rcases Nat.lt_or_ge i listed.size with h' | h'
 · simp [h'] at hun hi
   rw [hun] at hi
   cases hi
 · simp [Array.getElem?_eq_none h'] at hun
def wpAnyLast (P : Program) (md : Region.Mode) (ops : Array Oper) (Q : Exit → Act → World → Prop) (S : World → Prop) (ds : List Nat) : Nat → Array Bool → Act → World → Prop
 | 0,listed,a,w => Region.ready md ops listed = [] ∧ Q .normal a w
 | fuel + 1,listed,a,w =>
  (Region.ready md ops listed = [] → Q .normal a w) ∧
  ∀ i ∈ Region.ready md ops listed,wpOp P ops Q i (fun a' w' => (i ∉ ds → S w → S w') ∧ wpAnyLast P md ops Q S ds fuel (listed.setIfInBounds i true) a' w') a w
theorem XG : ∀ (fuel : Nat) (listed : Array Bool) (a : Act) (w : World),wpAnyLast P md ops Q S ds fuel listed a w → wpAny P md ops Q fuel listed a w
 | 0,_,_,_,h => h
 | fuel + 1,_,_,_,h => ⟨h.1,fun i hi => wpOp_mono (fun a' w' h' => XG fuel _ a' w' h'.2) (h.2 i hi)⟩
theorem wpAnyLast_first {i : Nat} {oi : Oper} {v : Value} (hi : ops[i]? = some oi) (hsel : ∀ (j : Nat) (o : Oper) cs b,ops[j]? = some o → o.op ≠ .select cs b)
 (hQ : ∀ c a w,Q (.panic c) (a.put oi.dst v) w → Q (.panic c) a w) (n : Nat) :
 ∀ (fuel : Nat) (listed : Array Bool) (a : Act) (w : World),
  (∀ j oj,ops[j]? = some oj → j ≠ i → listed.getD j true = false → (∀ e ∈ oj.after,Region.binds md e = true → e.on ≠ i) → oi.apart ops oj = true) →
  ListedClosed md ops listed → (∀ d ∈ ds,listed.getD d true = false → Region.reachB md ops i n d = true) →
  i ∈ Region.ready md ops listed → YieldsIf P ops S oi v a → S w →
  wpAnyLast P md ops Q S ds fuel (listed.setIfInBounds i true) (a.put oi.dst v) w → wpAnyLast P md ops Q S ds (fuel + 1) listed a w := by
 intro fuel
 induction fuel with
 | zero =>
  intro listed a w _ _ _ hr hy hS H; refine ⟨fun h => (by rw [h] at hr; cases hr),fun j hj => ?_⟩
  by_cases hji : j = i
  · subst hji; exact hy.wpOp hi hS ⟨fun _ h => h,H⟩
  · have := ready_mono hj hji
    rw [H.1] at this
    cases this
 | succ fuel ih =>
  intro listed a w hfree hc hd hr hy hS H; refine ⟨fun h => (by rw [h] at hr; cases hr),fun j hj => ?_⟩
  by_cases hji : j = i
  · subst hji; exact hy.wpOp hi hS ⟨fun _ h => h,H⟩
  · have h1 := H.2 j (ready_mono hj hji)
    obtain ⟨hjun,oj,hoj,hall⟩ := mem_ready.1 hj; have hiun := (mem_ready.1 hr).1
    have hnot : ∀ e ∈ oj.after,Region.binds md e = true → e.on ≠ i := fun e he hb heq => by
     have h1 := hall e he hb; rw [heq] at h1
     rcases Nat.lt_or_ge i listed.size with h' | h'
     · simp [h'] at hiun h1; rw [hiun] at h1; cases h1
     · simp [Array.getElem?_eq_none h'] at h1
    have hjd : j ∉ ds := fun hm => Region.reach_not_ready hc (hd j hm hjun) hiun hj
    have h2 := wpOp_putIf hoj (hfree j oj hoj hji hjun hnot) (fun cs b => hsel i oi cs b hi) (fun cs b => hsel j oj cs b hoj) hQ hy h1
    have hfree' : ∀ k ok,ops[k]? = some ok → k ≠ i → (listed.setIfInBounds j true).getD k true = false →
     (∀ e ∈ ok.after,Region.binds md e = true → e.on ≠ i) → oi.apart ops ok = true := fun k ok hk hki hun hno => by
     refine hfree k ok hk hki ?_ hno
     by_cases hjk : j = k
     · subst hjk; exact hjun
     · rw [getD_set_ne true hjk] at hun; exact hun
    have hd' : ∀ d ∈ ds,(listed.setIfInBounds j true).getD d true = false → Region.reachB md ops i n d = true := fun d hm hun => by
     refine hd d hm ?_
     by_cases hjk : j = d
     · subst hjk; exact hjun
     · rw [getD_set_ne true hjk] at hun; exact hun
    refine wpOp_mono (fun a' w' h3 => ⟨h3.2.1,ih (listed.setIfInBounds j true) a' w' hfree' (hc.set hj) hd' (ready_mono hr (Ne.symm hji)) h3.1 (h3.2.1 hjd hS) ?_⟩) h2; rw [Array.setIfInBounds_comm _ _ hji]; exact h3.2.2
theorem wpAnyLast_any {i : Nat} {oi : Oper} {v : Value} (hi : ops[i]? = some oi) (hsel : ∀ (j : Nat) (o : Oper) cs b,ops[j]? = some o → o.op ≠ .select cs b)
 (hQ : ∀ c a w,Q (.panic c) (a.put oi.dst v) w → Q (.panic c) a w) :
 ∀ (fuel : Nat) (listed : Array Bool) (a : Act) (w : World),
  (∀ j oj,ops[j]? = some oj → j ≠ i → listed.getD j true = false → (∀ e ∈ oj.after,Region.binds md e = true → e.on ≠ i) → oi.apart ops oj = true) →
  i ∈ Region.ready md ops listed → Yields P ops oi v a →
  wpAnyLast P md ops Q S ds fuel (listed.setIfInBounds i true) (a.put oi.dst v) w → wpAnyLast P md ops Q S ds (fuel + 1) listed a w := by
 intro fuel
 induction fuel with
 | zero =>
  intro listed a w _ hr hy H; refine ⟨fun h => (by rw [h] at hr; cases hr),fun j hj => ?_⟩
  by_cases hji : j = i
  · subst hji; exact (hy.yieldsIf (S := fun _ => True)).wpOp hi trivial ⟨fun _ h => h,H⟩
  · have := ready_mono hj hji
    rw [H.1] at this
    cases this
 | succ fuel ih =>
  intro listed a w hfree hr hy H; refine ⟨fun h => (by rw [h] at hr; cases hr),fun j hj => ?_⟩
  by_cases hji : j = i
  · subst hji; exact (hy.yieldsIf (S := fun _ => True)).wpOp hi trivial ⟨fun _ h => h,H⟩
  · have h1 := H.2 j (ready_mono hj hji)
    obtain ⟨hjun,oj,hoj,hall⟩ := mem_ready.1 hj; have hiun := (mem_ready.1 hr).1
    have hnot : ∀ e ∈ oj.after,Region.binds md e = true → e.on ≠ i := fun e he hb heq => by
     have h1 := hall e he hb; rw [heq] at h1
     rcases Nat.lt_or_ge i listed.size with h' | h'
     · simp [h'] at hiun h1; rw [hiun] at h1; cases h1
     · simp [Array.getElem?_eq_none h'] at h1
    have h2 := wpOp_put hoj (hfree j oj hoj hji hjun hnot) (fun cs b => hsel i oi cs b hi) (fun cs b => hsel j oj cs b hoj) hQ hy h1
    have hfree' : ∀ k ok,ops[k]? = some ok → k ≠ i → (listed.setIfInBounds j true).getD k true = false →
     (∀ e ∈ ok.after,Region.binds md e = true → e.on ≠ i) → oi.apart ops ok = true := fun k ok hk hki hun hno => by
     refine hfree k ok hk hki ?_ hno
     by_cases hjk : j = k
     · subst hjk; exact hjun
     · rw [getD_set_ne true hjk] at hun; exact hun
    refine wpOp_mono (fun a' w' h3 => ⟨h3.2.1,ih (listed.setIfInBounds j true) a' w' hfree' (ready_mono hr (Ne.symm hji)) h3.1 ?_⟩) h2; rw [Array.setIfInBounds_comm _ _ hji]; exact h3.2.2
theorem wpAnyLast_take {i : Nat} {oi : Oper} {v : Value} {fuel : Nat} {listed : Array Bool} {a : Act} {w : World} (hi : ops[i]? = some oi)
 (hs : Region.noSelect ops = true) (hf : Region.free md ops listed i = true) (hr : (Region.ready md ops listed).contains i = true)
 (hc : Region.closedB md ops listed = true) (hl : Region.lastB md ops listed ds i = true)
 (hQ : ∀ c a w,Q (.panic c) (a.put oi.dst v) w → Q (.panic c) a w) (hy : YieldsIf P ops S oi v a) (hS : S w)
 (h : wpAnyLast P md ops Q S ds fuel (listed.setIfInBounds i true) (a.put oi.dst v) w) : wpAnyLast P md ops Q S ds (fuel + 1) listed a w :=
 wpAnyLast_first hi (Region.noSelect_spec hs) hQ ops.size fuel listed a w (Region.free_spec hi hf) (Region.closedB_spec hc)
  (fun d hm hun => by have := List.all_eq_true.1 hl d hm; rw [hun] at this; simpa using this) (by simpa using hr) hy hS h
theorem wpAnyLast_all {rs : List Nat} {fuel : Nat} {listed : Array Bool} {a : Act} {w : World} (hr : Region.ready md ops listed = rs) (hne : rs ≠ [])
 (h : ∀ i ∈ rs,wpOp P ops Q i (fun a' w' => (i ∉ ds → S w → S w') ∧ wpAnyLast P md ops Q S ds fuel (listed.setIfInBounds i true) a' w') a w) : wpAnyLast P md ops Q S ds (fuel + 1) listed a w :=
 ⟨fun h0 => absurd (hr ▸ h0) hne,hr ▸ h⟩
theorem wpAnyLast_done {listed : Array Bool} {a : Act} {w : World} (hr : Region.ready md ops listed = []) (h : Q .normal a w) :
 ∀ fuel,wpAnyLast P md ops Q S ds fuel listed a w
 | 0 => ⟨hr,h⟩
 | _ + 1 => ⟨fun _ => h,by rw [hr]; simp⟩
theorem wp_region_last {id : Nat} {a : Act} {w : World} (hm : P.follows .mixedOrders = true)
 (h : wpAnyLast P .any ops Q S ds ops.size (Array.replicate ops.size false) a { w with drawn := w.drawn + 1 }) : (Code.region id ops true).wp P Q a w :=
 wp_region_any hm (XG _ _ _ _ h)
end
section
variable {P : Program} {ops : Array Oper} {Q : Exit → Act → World → Prop} {md : Region.Mode} {S : World → Prop} {ds : List Nat}
def AllReadyL (P : Program) (md : Region.Mode) (ops : Array Oper) (Q : Exit → Act → World → Prop) (S : World → Prop) (ds : List Nat) (fuel : Nat) (listed : Array Bool) (a : Act) (w : World) (rs : List Nat) : Prop :=
 ∀ i ∈ rs,wpOp P ops Q i (fun a' w' => (i ∉ ds → S w → S w') ∧ wpAnyLast P md ops Q S ds fuel (listed.setIfInBounds i true) a' w') a w
theorem AllReadyL.nil {fuel : Nat} {listed : Array Bool} {a : Act} {w : World} : AllReadyL P md ops Q S ds fuel listed a w [] := fun _ h => by cases h
theorem AllReadyL.cons {fuel : Nat} {listed : Array Bool} {a : Act} {w : World} {i : Nat} {o : Oper} {rs : List Nat} (ho : ops[i]? = some o) (hd : i ∉ ds)
 (h : ∀ K' : Act → World → Prop,Shut (∀ a w,S w → (S w → wpAnyLast P md ops Q S ds fuel (listed.setIfInBounds i true) a w) → K' a w) → if Region.wanted o (yielded ops a.tmps) = true then Oper.wp P o a w K' Q else K' (a.put o.dst undef) w)
 (hs : AllReadyL P md ops Q S ds fuel listed a w rs) : AllReadyL P md ops Q S ds fuel listed a w (i :: rs) := fun j hj => by
 rcases List.mem_cons.1 hj with rfl | hj
 · exact wpOp_step ho (fun K' hK => h K' (fun a w hS hW => hK a w ⟨fun _ _ => hS,hW hS⟩))
 · exact hs j hj
theorem X8 {rs : List Nat} {fuel : Nat} {listed : Array Bool} {a : Act} {w : World} (hr : Region.ready md ops listed = rs) (hne : rs ≠ [])
 (h : AllReadyL P md ops Q S ds fuel listed a w rs) : wpAnyLast P md ops Q S ds (fuel + 1) listed a w := wpAnyLast_all hr hne h
theorem Xk {id n : Nat} {a : Act} {w : World} (l : Array Bool) (hm : P.follows .mixedOrders = true) (hn : ops.size = n) (hl : Array.replicate n false = l) (hS : S w.drew)
 (h : S w.drew → wpAnyLast P .any ops Q S ds n l a w.drew) : (Code.region id ops true).wp P Q a w := by
 subst hn; subst hl; exact wp_region_last hm (h hS)
def takeB (md : Region.Mode) (ops : Array Oper) (ds : List Nat) (l l' : Array Bool) (i : Nat) : Bool :=
 Region.noSelect ops && Region.free md ops l i && (Region.ready md ops l).contains i && Region.closedB md ops l && Region.lastB md ops l ds i && (l.setIfInBounds i true == l')
theorem take_ {i : Nat} {N : Option Tmp} {oi : Oper} {v : Value} {fuel : Nat} {l : Array Bool} {a : Act} {w : World} (l' : Array Bool) (hi : ops[i]? = some oi) (hN : oi.dst = N) (hc : takeB md ops ds l l' i = true)
 (hQ : ∀ c a w,Q (.panic c) (a.put oi.dst v) w → Q (.panic c) a w) (hy : YieldsIf P ops S oi v a) (hS : S w) {a' : Act} (ha : a.put N v = a')
 (h : wpAnyLast P md ops Q S ds fuel l' a' w) : wpAnyLast P md ops Q S ds (fuel + 1) l a w := by
 subst ha; subst hN; simp only [takeB,Bool.and_eq_true,beq_iff_eq] at hc; obtain ⟨⟨⟨⟨⟨h1,h2⟩,h3⟩,h4⟩,h5⟩,h6⟩ := hc; subst h6; exact wpAnyLast_take hi h1 h2 h3 h4 h5 hQ hy hS h
def anyB (md : Region.Mode) (ops : Array Oper) (l l' : Array Bool) (i : Nat) : Bool :=
 Region.noSelect ops && Region.free md ops l i && (Region.ready md ops l).contains i && (l.setIfInBounds i true == l')
theorem pure_ {i : Nat} {N : Option Tmp} {oi : Oper} {v : Value} {fuel : Nat} {l : Array Bool} {a : Act} {w : World} (l' : Array Bool) (hi : ops[i]? = some oi) (hN : oi.dst = N) (hc : anyB md ops l l' i = true)
 (hQ : ∀ c a w,Q (.panic c) (a.put oi.dst v) w → Q (.panic c) a w) (hy : Yields P ops oi v a) {a' : Act} (ha : a.put N v = a')
 (h : wpAnyLast P md ops Q S ds fuel l' a' w) : wpAnyLast P md ops Q S ds (fuel + 1) l a w := by
 subst ha; subst hN; simp only [anyB,Bool.and_eq_true,beq_iff_eq] at hc; obtain ⟨⟨⟨h1,h2⟩,h3⟩,h6⟩ := hc; subst h6; exact wpAnyLast_any hi (Region.noSelect_spec h1) hQ fuel l a w (Region.free_spec hi h2) (by simpa using h3) hy h
def readyB (md : Region.Mode) (ops : Array Oper) (l l' : Array Bool) (i : Nat) : Bool := (Region.ready md ops l == [i]) && (l.setIfInBounds i true == l')
theorem one_ {i : Nat} {N : Option Tmp} {oi : Oper} {fuel : Nat} {l : Array Bool} {a : Act} {w : World} (l' : Array Bool) (hi : ops[i]? = some oi) (hN : oi.dst = N) (hc : readyB md ops l l' i = true) (hd : i ∉ ds)
 (h : ∀ K : Act → World → Prop,Shut (∀ a' w',S w' → (S w' → wpAnyLast P md ops Q S ds fuel l' a' w') → K a' w') → if Region.wanted oi (yielded ops a.tmps) = true then Oper.wp P oi a w K Q else K (a.put N undef) w) :
 wpAnyLast P md ops Q S ds (fuel + 1) l a w := by
 subst hN; simp only [readyB,Bool.and_eq_true,beq_iff_eq] at hc; obtain ⟨h1,h2⟩ := hc; subst h2; exact X8 h1 (by simp) (AllReadyL.cons hi hd (fun K hK => h K hK) AllReadyL.nil)
theorem done_ {l : Array Bool} {a : Act} {w : World} {n : Nat} (hr : (Region.ready md ops l == []) = true) (h : Q .normal a w) : wpAnyLast P md ops Q S ds n l a w := wpAnyLast_done (by simpa using hr) h n
theorem two_ {i j : Nat} {Ni Nj : Option Tmp} {oi oj : Oper} {fuel : Nat} {l : Array Bool} {a : Act} {w : World} (li lj : Array Bool) (hi : ops[i]? = some oi) (hj : ops[j]? = some oj) (hNi : oi.dst = Ni) (hNj : oj.dst = Nj)
 (hc : (Region.ready md ops l == [i,j] && l.setIfInBounds i true == li && l.setIfInBounds j true == lj) = true) (hdi : i ∉ ds) (hdj : j ∉ ds)
 (h1 : ∀ K : Act → World → Prop,Shut (∀ a' w',S w' → (S w' → wpAnyLast P md ops Q S ds fuel li a' w') → K a' w') → if Region.wanted oi (yielded ops a.tmps) = true then Oper.wp P oi a w K Q else K (a.put Ni undef) w)
 (h2 : ∀ K : Act → World → Prop,Shut (∀ a' w',S w' → (S w' → wpAnyLast P md ops Q S ds fuel lj a' w') → K a' w') → if Region.wanted oj (yielded ops a.tmps) = true then Oper.wp P oj a w K Q else K (a.put Nj undef) w) :
 wpAnyLast P md ops Q S ds (fuel + 1) l a w := by
 subst hNi; subst hNj; simp only [Bool.and_eq_true,beq_iff_eq] at hc; obtain ⟨⟨h3,h4⟩,h5⟩ := hc; subst h4; subst h5; exact X8 h3 (by simp) (AllReadyL.cons hi hdi (fun K hK => h1 K hK) (AllReadyL.cons hj hdj (fun K hK => h2 K hK) AllReadyL.nil))
def putAll : Act → List (Tmp × Value) → Act
 | a,[] => a
 | a,(n,v) :: r => putAll (a.put (some n) v) r
theorem join_ {σ : Type} {fuel : Nat} {l : Array Bool} {a : Act} {w : World} (fuel' : Nat) (l' : Array Bool) (ns : σ → List (Tmp × Value)) (F : σ → World → Prop)
 (hcont : ∀ s w',F s w' → wpAnyLast P md ops Q S ds fuel' l' (putAll a (ns s)) w')
 (h : (∀ s w',F s w' → wpAnyLast P md ops Q S ds fuel' l' (putAll a (ns s)) w') → wpAnyLast P md ops Q S ds fuel l a w) : wpAnyLast P md ops Q S ds fuel l a w := h hcont
theorem norm_ {fuel : Nat} {l : Array Bool} {a a' : Act} {w : World} (ha : a = a') (h : wpAnyLast P md ops Q S ds fuel l a' w) : wpAnyLast P md ops Q S ds fuel l a w := by
 subst ha; exact h
theorem call_ {oi : Oper} {N : Option Tmp} {a : Act} {w : World} {K : Act → World → Prop} (f : FuncId) (args : Array Value) (hw : Region.wanted oi (yielded ops a.tmps) = true) (hN : oi.dst = N) (hrun : (execOp a.eval oi).run P w = .ok (.enter f args) w)
 (h : Calls P f args w fun e w' => ∃ v,e = .returned v ∧ K (a.put N v) w') : if Region.wanted oi (yielded ops a.tmps) = true then Oper.wp P oi a w K Q else K (a.put N undef) w := by
 rw [if_pos hw]; subst hN; unfold Oper.wp; rw [hrun,Oper.upon_enter]
 refine h.mono fun e w'' hh => ?_
 obtain ⟨v,rfl,hk⟩ := hh; exact hk
theorem QU {f : FuncId} {fn : Func} (hf : P.funcs[f]? = some fn) (hname : (fn.name == "runtime.NumGoroutine") = false) (hb : fn.body.isSome = true) (args : Array Value) (w : World) : (callFunc f args).run P w = .ok (.enter f args) w := by
 have h1 : fn.name ≠ "runtime.NumGoroutine" := by simpa using hname
 obtain ⟨c,hc⟩ := Option.isSome_iff_exists.1 hb; simp [callFunc,hf,h1,hc]
theorem goes_ {oi : Oper} {N : Option Tmp} {a : Act} {w : World} {K : Act → World → Prop} {f : FuncId} {fn : Func} {as_ : Array Operand} {ts : Array TypeId} (hf : P.funcs[f]? = some fn) (hname : (fn.name == "runtime.NumGoroutine") = false) (hb : fn.body.isSome = true) (args : Array Value)
 (hw : Region.wanted oi (yielded ops a.tmps) = true) (hN : oi.dst = N) (hop : oi.op = .call { callee := .value (.func f),args := as_,argTypes := ts }) (hargs : as_.map a.eval = args)
 (h : Calls P f args w fun e w' => ∃ v,e = .returned v ∧ K (a.put N v) w') : if Region.wanted oi (yielded ops a.tmps) = true then Oper.wp P oi a w K Q else K (a.put N undef) w := by
 refine call_ f args hw hN ?_ h; have he := QU hf hname hb args w; unfold execOp; simp [hop,resolve,Deferred.ofValue,invoke,Act.eval,hargs,he]
theorem ZE {rest : List Oper} {oi : Oper} {a : Act} {w : World} (N : Option Tmp) (hd : oi.dst = N) (hg : oi.guard = none) {f : FuncId} {fn : Func} {as_ : Array Operand} {ts : Array TypeId} (hf : P.funcs[f]? = some fn) (hname : (fn.name == "runtime.NumGoroutine") = false) (hb : fn.body.isSome = true) (args : Array Value)
 (hop : oi.op = .call { callee := .value (.func f),args := as_,argTypes := ts }) (hargs : as_.map a.eval = args)
 (h : Calls P f args w fun e w' => ∃ v,e = .returned v ∧ wpList P ops Q rest (a.put N v) w') : wpList P ops Q (oi :: rest) a w := by
 refine wpList_plain hg fun K hK => ?_
 have he := QU hf hname hb args w
 have hrun : (execOp a.eval oi).run P w = .ok (.enter f args) w := by
  unfold execOp; simp [hop,resolve,Deferred.ofValue,invoke,Act.eval,hargs,he]
 unfold Oper.wp; rw [hrun,Oper.upon_enter]
 refine h.mono fun e w'' hh => ?_
 obtain ⟨v,rfl,hk⟩ := hh; subst hd; exact hK _ _ hk
theorem skip_ {oi : Oper} {a : Act} {w w1 : World} {K : Act → World → Prop} (hw : Region.wanted oi (yielded ops a.tmps) = true) (hN : oi.dst = none) (hrun : (execOp a.eval oi).run P w = .ok .skip w1)
 (h : K a w1) : if Region.wanted oi (yielded ops a.tmps) = true then Oper.wp P oi a w K Q else K (a.put none undef) w := by
 rw [if_pos hw]; unfold Oper.wp; rw [hrun]; show K (a.put oi.dst undef) w1; rw [hN]; exact h
theorem i64_w (n : Int) : IntKind.i64.wrap n = Go.RowKit.wrap64 n := by unfold Go.RowKit.wrap64; exact IntKind.wrap_i64 n
theorem i32_w (n : Int) : IntKind.i32.wrap n = Go.RowKit.wrap32 n := by unfold Go.RowKit.wrap32; exact IntKind.wrap_i32 n
end
end Go.Proofs.YtcdiecgenpigbaaW.PrintLast

namespace Go.Proofs.YtcdiecgenpigbaaW.PrintLast
open Go.Proofs.YtcdiecgenpigbaaW.PrintWords (Zh)
def needsOf (md : Region.Mode) (o : Oper) : List Nat := (o.after.toList.filter (fun e => Region.binds md e)).map (fun e => e.on)
def clashOf (md : Region.Mode) (ops : Array Oper) (i : Nat) (oi : Oper) : List Nat := (List.range ops.size).filter fun j => !(j == i) && match ops[j]? with
 | some oj => !(oj.after.any (fun e => Region.binds md e && e.on == i) || oi.apart ops oj)
 | none => false
def rtab (md : Region.Mode) (ops : Array Oper) : Bool × List (List Nat × List Nat) := (Region.noSelect ops,(List.range ops.size).map fun i => match ops[i]? with
 | some o => (needsOf md o,clashOf md ops i o)
 | none => ([],[]))
def readyAt (T : List (List Nat × List Nat)) (l : List Bool) (i : Nat) : Bool := !l.getD i true && match T[i]? with
 | some r => r.1.all (fun j => l.getD j false)
 | none => false
def readyT (T : List (List Nat × List Nat)) (l : List Bool) : List Nat := (List.range T.length).filter (readyAt T l)
def freeT (T : List (List Nat × List Nat)) (l : List Bool) (i : Nat) : Bool := match T[i]? with
 | some r => r.2.all (fun j => l.getD j true)
 | none => false
def closedT (T : List (List Nat × List Nat)) (l : List Bool) : Bool := (List.range T.length).all fun j => !l.getD j false || match T[j]? with
 | some r => r.1.all (fun k => l.getD k false)
 | none => true
def reachT (T : List (List Nat × List Nat)) (i : Nat) : Nat → Nat → Bool
 | 0,_ => false
 | fuel + 1,d => match T[d]? with
  | some r => r.1.any fun j => j == i || reachT T i fuel j
  | none => false
def lastT (T : List (List Nat × List Nat)) (l : List Bool) (ds : List Nat) (i : Nat) : Bool := ds.all fun d => l.getD d true || reachT T i T.length d
section
variable {md : Region.Mode} {ops : Array Oper} {T : Bool × List (List Nat × List Nat)} {l l' li lj lk : Array Bool} {ds : List Nat} {i j k : Nat}
theorem gd (l : Array Bool) (j : Nat) (b : Bool) : l.getD j b = l.toList.getD j b := by simp [Array.getD_eq_getD_getElem?,List.getD_eq_getElem?_getD]
theorem Qt (o : Oper) (p : Nat → Bool) : o.after.all (fun e => !Region.binds md e || p e.on) = (needsOf md o).all p := by
 unfold needsOf; rw [← Array.all_toList]
 induction o.after.toList with
 | nil => rfl
 | cons e r ih =>
  rw [List.all_cons,ih,List.filter_cons]
  cases h : Region.binds md e <;> simp
theorem needs_any (o : Oper) (p : Nat → Bool) : o.after.any (fun e => Region.binds md e && p e.on) = (needsOf md o).any p := by
 unfold needsOf; rw [← Array.any_toList]
 induction o.after.toList with
 | nil => rfl
 | cons e r ih =>
  rw [List.any_cons,ih,List.filter_cons]
  cases h : Region.binds md e <;> simp
theorem X0 : (rtab md ops).2.length = ops.size := by simp [rtab]
theorem XD {o : Oper} (h : ops[i]? = some o) : (rtab md ops).2[i]? = some (needsOf md o,clashOf md ops i o) := by
 have hi := (Array.getElem?_eq_some_iff.1 h).1; unfold rtab; rw [List.getElem?_map,List.getElem?_range hi,Option.map_some,h]
theorem XC (h : ops[i]? = none) : (rtab md ops).2[i]? = none := by
 have hi : ops.size ≤ i := Array.getElem?_eq_none_iff.1 h; exact List.getElem?_eq_none (by rw [X0]; exact hi)
theorem readyAt_eq : readyAt (rtab md ops).2 l.toList i = (!l.getD i true && ((ops[i]?).map (·.after.all fun e => !Region.binds md e || l.getD e.on false)).getD false) := by
 unfold readyAt; rw [gd]
 cases h : ops[i]? with
 | none => rw [XC h]; rfl
 | some o =>
  rw [XD h]; simp only [Option.map_some,Option.getD_some]; rw [← Qt]; simp only [gd]
theorem XN : Region.ready md ops l = readyT (rtab md ops).2 l.toList := by
 unfold Region.ready readyT; rw [X0]; refine List.filter_congr (fun i _ => ?_); rw [readyAt_eq]
theorem QY : Region.free md ops l i = freeT (rtab md ops).2 l.toList i := by
 unfold Region.free freeT
 cases h : ops[i]? with
 | none => rw [XC h]
 | some oi =>
  rw [XD h]; simp only [clashOf]; rw [List.all_filter]
  congr 1
  funext j
  rw [gd]
  cases hj : ops[j]? with
  | none => cases (j == i) <;> cases (l.toList.getD j true) <;> simp
  | some oj =>
   cases (j == i) <;> cases (l.toList.getD j true) <;> cases (oj.after.any (fun e => Region.binds md e && e.on == i) || oi.apart ops oj) <;> simp_all
theorem closed_eq : Region.closedB md ops l = closedT (rtab md ops).2 l.toList := by
 unfold Region.closedB closedT; rw [X0]
 congr 1
 funext j
 rw [gd]
 cases h : ops[j]? with
 | none => rw [XC h]
 | some o =>
  rw [XD h]; simp only; rw [← Qt]; simp only [gd]
theorem QF : ∀ (fuel d : Nat),Region.reachB md ops i fuel d = reachT (rtab md ops).2 i fuel d
 | 0,_ => rfl
 | fuel + 1,d => by
  unfold Region.reachB reachT
  cases h : ops[d]? with
  | none => rw [XC h]
  | some o =>
   rw [XD h]; simp only; rw [← needs_any]
   congr 1
   funext e
   rw [QF fuel]
theorem last_eq : Region.lastB md ops l ds i = lastT (rtab md ops).2 l.toList ds i := by
 unfold Region.lastB lastT; rw [X0]
 congr 1
 funext d
 rw [gd,QF]
theorem XZ (h : readyAt T.2 l.toList i = true) (hT : rtab md ops = T) : (Region.ready md ops l).contains i = true := by
 subst hT; rw [XN]; unfold readyT; rw [List.contains_iff_mem,List.mem_filter,List.mem_range]; refine ⟨?_,h⟩; unfold readyAt at h; rw [Bool.and_eq_true] at h
 cases hq : (rtab md ops).2[i]? with
 | none => rw [hq] at h; simp at h
 | some r => exact (List.getElem?_eq_some_iff.1 hq).1
theorem Qe (h : (l.toList.set i true == l'.toList) = true) : (l.setIfInBounds i true == l') = true := by
 rw [beq_iff_eq] at h ⊢; apply Array.ext'; rw [Array.toList_setIfInBounds]; exact h
def anyT (T : Bool × List (List Nat × List Nat)) (l l' : List Bool) (i : Nat) : Bool := T.1 && freeT T.2 l i && readyAt T.2 l i && (l.set i true == l')
theorem Zo (hT : rtab md ops = T) (h : anyT T l.toList l'.toList i = true) : anyB md ops l l' i = true := by
 simp only [anyT,Bool.and_eq_true] at h; obtain ⟨⟨⟨h1,h2⟩,h3⟩,h4⟩ := h; have h5 := XZ h3 hT; have h6 := Qe h4; subst hT; simp only [anyB,Bool.and_eq_true]; exact ⟨⟨⟨h1,by rw [QY]; exact h2⟩,h5⟩,h6⟩
def takeT (T : Bool × List (List Nat × List Nat)) (ds : List Nat) (l l' : List Bool) (i : Nat) : Bool := T.1 && freeT T.2 l i && readyAt T.2 l i && closedT T.2 l && lastT T.2 l ds i && (l.set i true == l')
theorem take_of (hT : rtab md ops = T) (h : takeT T ds l.toList l'.toList i = true) : takeB md ops ds l l' i = true := by
 simp only [takeT,Bool.and_eq_true] at h; obtain ⟨⟨⟨⟨⟨h1,h2⟩,h3⟩,h4⟩,h5⟩,h6⟩ := h; have h7 := XZ h3 hT; have h8 := Qe h6; subst hT; simp only [takeB,Bool.and_eq_true]; exact ⟨⟨⟨⟨⟨h1,by rw [QY]; exact h2⟩,h7⟩,by rw [closed_eq]; exact h4⟩,by rw [last_eq]; exact h5⟩,h8⟩
theorem Xd (hT : rtab md ops = T) (h : (readyT T.2 l.toList == [i] && l.toList.set i true == l'.toList) = true) : readyB md ops l l' i = true := by
 simp only [Bool.and_eq_true] at h; obtain ⟨h1,h2⟩ := h; subst hT; simp only [readyB,Bool.and_eq_true]; exact ⟨by rw [XN]; exact h1,Qe h2⟩
theorem QO (hT : rtab md ops = T) (h : (readyT T.2 l.toList == [i,j] && l.toList.set i true == li.toList && l.toList.set j true == lj.toList) = true) : (Region.ready md ops l == [i,j] && l.setIfInBounds i true == li && l.setIfInBounds j true == lj) = true := by
 simp only [Bool.and_eq_true] at h ⊢; obtain ⟨⟨h1,h2⟩,h3⟩ := h; subst hT; exact ⟨⟨by rw [XN]; exact h1,Qe h2⟩,Qe h3⟩
theorem Xh (hT : rtab md ops = T) (h : (readyT T.2 l.toList == []) = true) : (Region.ready md ops l == []) = true := by
 subst hT; rw [XN]; exact h
def upM (B : List Nat) (d : Nat) : List Nat → Nat
 | [] => 0
 | n :: r => (2 ^ n ||| (if n < d then B.getD n 0 else 0)) ||| upM B d r
def waitsOk (T : List (List Nat × List Nat)) (B : List Nat) : Bool := (List.range T.length).all fun d => match T[d]? with
 | some r => (B.getD d 0 ||| upM B d r.1) == upM B d r.1
 | none => false
theorem QT {B : List Nat} {d i : Nat} : ∀ {ns : List Nat},(upM B d ns).testBit i = true → ∃ n ∈ ns,n = i ∨ (n < d ∧ (B.getD n 0).testBit i = true)
 | [],h => by simp [upM] at h
 | n :: r,h => by
  unfold upM at h; rw [Nat.testBit_or,Nat.testBit_or,Bool.or_eq_true,Bool.or_eq_true] at h
  rcases h with (h | h) | h
  · rw [Nat.testBit_two_pow] at h
    exact ⟨n,List.mem_cons_self,.inl (by simpa using h)⟩
  · by_cases hn : n < d
    · rw [if_pos hn] at h
      exact ⟨n,List.mem_cons_self,.inr ⟨hn,h⟩⟩
    · rw [if_neg hn] at h
      simp at h
  · obtain ⟨m,hm,h2⟩ := QT h
    exact ⟨m,List.mem_cons_of_mem _ hm,h2⟩
theorem Qv {T : List (List Nat × List Nat)} {B : List Nat} (hB : waitsOk T B = true) : ∀ (fuel d : Nat),d < fuel → d < T.length → (B.getD d 0).testBit i = true → reachT T i fuel d = true
 | 0,d,h,_,_ => by omega
 | fuel + 1,d,h,hd,hb => by
  have h1 := List.all_eq_true.1 hB d (List.mem_range.2 hd)
  cases hr : T[d]? with
  | none => rw [hr] at h1; simp at h1
  | some r =>
   rw [hr] at h1; simp only [beq_iff_eq] at h1
   have h2 : (upM B d r.1).testBit i = true := by rw [← h1,Nat.testBit_or,hb,Bool.true_or]
   obtain ⟨n,hn,h3⟩ := QT h2; unfold reachT; rw [hr]; simp only; rw [List.any_eq_true]; refine ⟨n,hn,?_⟩
   rcases h3 with rfl | ⟨h4,h5⟩
   · simp
   · rw [Qv hB fuel n (by omega) (by omega) h5,Bool.or_true]
def lastW (T : List (List Nat × List Nat)) (B : List Nat) (l : List Bool) (ds : List Nat) (i : Nat) : Bool := ds.all fun d => l.getD d true || (decide (d < T.length) && (B.getD d 0).testBit i)
def takeW (T : Bool × List (List Nat × List Nat)) (B : List Nat) (ds : List Nat) (l l' : List Bool) (i : Nat) : Bool := T.1 && freeT T.2 l i && readyAt T.2 l i && closedT T.2 l && lastW T.2 B l ds i && (l.set i true == l')
theorem Z8 {B : List Nat} (hT : rtab md ops = T) (hB : waitsOk T.2 B = true) (h : takeW T B ds l.toList l'.toList i = true) : takeB md ops ds l l' i = true := by
 refine take_of hT ?_; simp only [takeW,takeT,Bool.and_eq_true] at h ⊢; obtain ⟨⟨⟨⟨⟨h1,h2⟩,h3⟩,h4⟩,h5⟩,h6⟩ := h; refine ⟨⟨⟨⟨⟨h1,h2⟩,h3⟩,h4⟩,?_⟩,h6⟩; unfold lastW at h5; unfold lastT; rw [List.all_eq_true] at h5 ⊢; intro d hd; have h7 := h5 d hd; rw [Bool.or_eq_true,Bool.and_eq_true,decide_eq_true_eq] at h7
 rcases h7 with h7 | ⟨h8,h9⟩
 · rw [h7,Bool.true_or]
 · rw [Qv hB _ d h8 h8 h9,Bool.or_true]
theorem Xb {P : Program} {Q : Exit → Act → World → Prop} {S : World → Prop} {n : Nat} {a : Act} {w : World} {B : List Nat} (hT : rtab md ops = T) (hB : waitsOk T.2 B = true) (h : Zh (rtab md ops = T) → Zh (waitsOk T.2 B = true) → wpAnyLast P md ops Q S ds n l a w) : wpAnyLast P md ops Q S ds n l a w := h ⟨hT⟩ ⟨hB⟩
end
def opsIn : Code → Nat → Option (Array Oper)
 | .region id ops _,k => if id == k then some ops else none
 | .seq a b,k => match opsIn a k with
  | some o => some o
  | none => opsIn b k
 | .cond _ a b,k => match opsIn a k with
  | some o => some o
  | none => opsIn b k
 | .block _ c,k => opsIn c k
 | .loop c,k => opsIn c k
 | .scope c,k => opsIn c k
 | .rangeFunc _ _ a b,k => match opsIn a k with
  | some o => some o
  | none => opsIn b k
 | _,_ => none
def opsOf (f : Func) (k : Nat) : Array Oper := ((f.body.bind fun c => opsIn c k)).getD #[]
end Go.Proofs.YtcdiecgenpigbaaW.PrintLast





namespace Go.Proofs.YtcdiecgenpigbaaW.PrintWords
open Go.RowKit
namespace Kd
def tag {α : Type} (f : Nat → Nat) (d : Kd α) : Kd (α × Nat) where
 sz := d.sz
 E := d.E
 K := fun w x cs => d.K w x.1 cs
 M := fun w base ok x cs => d.M w base (fun k => ok k ∧ f k = x.2) x.1 cs
 K_len := fun h => d.K_len h
 K_one := fun h => d.K_one h
 K_below := fun hb h => d.K_below hb h
 K_of_M := fun h => d.K_of_M h
 M_mono := fun hok h => d.M_mono (fun k hk => ⟨hok k hk.1,hk.2⟩) h
 M_bound := fun h => d.M_mono (fun _ hk => ⟨⟨hk.1.1,hk.2⟩,hk.1.2⟩) (d.M_bound h)
 M_move := fun hm h => d.M_move (fun k hk => hm k hk.1) h
 M_lower := fun hb h => d.M_lower hb h
def bare {α : Type} (d : Kd α) : Kd α where
 sz := d.sz
 E := d.E
 K := d.K
 M := fun w base _ x cs => d.M w base (fun _ => False) x cs
 K_len := fun h => d.K_len h
 K_one := fun h => d.K_one h
 K_below := fun hb h => d.K_below hb h
 K_of_M := fun h => d.K_of_M h
 M_mono := fun _ h => h
 M_bound := fun h => h
 M_move := fun _ h => d.M_move (fun _ hk => hk.elim) h
 M_lower := fun hb h => d.M_lower hb h
def raw (sz : Nat) : Kd (List Value) where
 sz := sz
 E := []
 K := fun _ x cs => cs = x ∧ cs.length = sz ∧ ∀ u ∈ cs,u.oneCell' = true
 M := fun _ _ _ x cs => cs = x ∧ cs.length = sz ∧ ∀ u ∈ cs,u.oneCell' = true
 K_len := fun h => h.2.1
 K_one := fun h => h.2.2
 K_below := fun _ h => h
 K_of_M := fun h => h
 M_mono := fun _ h => h
 M_bound := fun h => h
 M_move := fun _ h => h
 M_lower := fun _ h => h
def S {α : Type} (d : Kd α) (e : Nat) (w : World) (base : Nat) (ok : Nat → Prop) (v : Value) (xs : List α) : Prop := ∃ f,(tag f d).R e w base ok v xs.zipIdx
section
variable {α β : Type} {d : Kd α} {d' : Kd β} {e e' : Nat} {w w1 W : World} {base b : Nat} {ok ok' okv oku : Nat → Prop} {u v : Value} {xs : List α} {ys : List β}
theorem XA {xs : List α} {j : Nat} {p : α} (h : xs[j]? = some p) : xs.zipIdx[j]? = some (p,j) := by rw [List.getElem?_zipIdx,h,Nat.zero_add]; rfl
theorem S_R (h : S d e w base ok v xs) : d.R e w base ok v xs := by
 obtain ⟨f,h0,inner,ho,hr⟩ := h; rw [List.length_zipIdx] at ho; exact ⟨h0,inner,ho,by have := hr.1; rw [List.length_zipIdx] at this; exact this,fun j p hj => d.M_mono (fun _ hk => hk.1) (hr.2 j (p,j) (XA hj))⟩
theorem R_head {ad : Addr} {n cap : Nat} (h : d.R e w base ok (.slice (some ad) n cap) xs) : ∃ g,ad = ⟨g,0,none⟩ := by
 obtain ⟨_,inner,ho,hr⟩ := h
 rcases ho.2 with ⟨hv,_⟩ | ⟨g,cap',cur,hv,_⟩
 · cases hv
 · injection hv with ha _ _
   injection ha with ha
   exact ⟨g,ha⟩
theorem R_getA {ad : Addr} {n cap : Nat} (h : d.R e W base ok (.slice (some ad) n cap) xs) (z : α) (i : Int) (h0 : 0 ≤ i) (h1 : i < n) :
 ∃ c,c.length = d.sz ∧ d.M W base (fun k => ok k ∧ some k ≠ (Value.slice (some ad) n cap).ownBlock) (xs.getD i.toNat z) c ∧ ∀ j u,c[j]? = some u → W.cell? (ad.add (i.toNat * d.sz + j)) = some u := by
 obtain ⟨g,rfl⟩ := R_head h; obtain ⟨c,hcl,hM,hcc,_⟩ := Yh h z i h0 h1; refine ⟨c,hcl,d.M_mono (fun k hk => ⟨hk.1,fun he => hk.2 (by simpa [Value.ownBlock] using he)⟩) hM,fun j u hu => ?_⟩; rw [add_at,Nat.zero_add]; exact hcc j u hu
theorem R_tight (hE : d.E = []) (h : d.R e w base ok v xs) : d.R e w base (fun k => some k = v.ownBlock) v xs := by
 obtain ⟨h0,inner,ho,hr⟩ := h; refine ⟨fun k hk => hk.symm,inner,ho,hr.imp_ (fun p c hp => d.M_mono (fun k hk => ?_) (d.M_bound hp))⟩; obtain ⟨_,_,_,q,hq,_⟩ := hk; rw [hE] at hq
 cases hq
theorem S_nil (d : Kd α) (e : Nat) (w : World) (base : Nat) (ok : Nat → Prop) : S d e w base ok (.slice none 0 0) [] := ⟨fun _ => 0,R_nil _ _ _ _ _⟩
theorem XB (h : S d e w base ok v xs) (hok : ∀ k,ok k → ok' k) : S d e w base ok' v xs := by
 obtain ⟨f,h⟩ := h; exact ⟨f,Xu h hok⟩
theorem QC (h : S d e w base ok v xs) : S d e w base (fun k => ok k ∧ base ≤ k ∧ k < w.heap.size ∧ ∃ q,q ∈ e :: d.E ∧ ∃ cells,w.heap[k]? = some (.cells cells q (0,0))) v xs := by
 obtain ⟨f,h⟩ := h; exact ⟨f,Xx h⟩
theorem S_move (h : S d e w base ok v xs) (hm : ∀ k,ok k → w1.heap[k]? = w.heap[k]?) : S d e w1 base ok v xs := by
 obtain ⟨f,h⟩ := h; exact ⟨f,Qd h hm⟩
theorem Xw {base' : Nat} (h : S d e w base ok v xs) (hb : base' ≤ base) : S d e w base' ok v xs := by
 obtain ⟨f,h⟩ := h; exact ⟨f,Q6 h hb⟩
theorem Q8 (h : S d e w base ok v xs) (hm : ∀ k,ok k → k < w.heap.size → w1.heap[k]? = w.heap[k]?) : S d e w1 base ok v xs :=
 XB (S_move (QC h) (fun k hk => hm k hk.1 hk.2.2.1)) (fun _ hk => hk.1)
theorem ZN (h : S d e w base ok v xs) (hb : Below w.heap.size w w1) : S d e w1 base ok v xs := Q8 h (fun k _ hk => hb.block k hk)
theorem ZH (h : S d e w base ok v xs) (o : Obj) : S d e (w.alloc o) base ok v xs := ZN h (Zk (Below.refl _ _) o)
theorem ZG (h : S d e w base ok v xs) : S d e w.drew base ok v xs := ZN h (XI (Below.refl _ _))
theorem ZI (h : S d e w base ok v xs) (m : Nat) : S d e (w.drewN m) base ok v xs := ZN h (Zi (Below.refl _ _) m)
theorem S_far (h : S d e w base ok v xs) {p : Addr} (hok : ∀ k,ok k → k ≠ p.block) (u : Value) : S d e (w.setCell p u) base ok v xs := Q8 h (fun k ho _ => Below.heap_setCell w p u k (hok k ho))
theorem Ya (h : S d e w base ok v xs) : ∀ k,v.ownBlock = some k → ∃ cells,w.heap[k]? = some (.cells cells e (0,0)) := R_typed (S_R h)
theorem S_lt (h : S d e w base ok v xs) : ∀ k,v.ownBlock = some k → k < w.heap.size := R_lt (S_R h)
theorem S_base (h : S d e w base ok v xs) : ∀ k,v.ownBlock = some k → base ≤ k := QN (S_R h)
theorem QD (h : S d e W base ok u xs) (hbase : ∀ k,v.ownBlock = some k → W.heap.size ≤ k) (hb : Below W.heap.size W w1) : S d e w1 base (fun k => ok k ∧ some k ≠ v.ownBlock) u xs := by
 obtain ⟨f,h⟩ := h; exact ⟨f,QM h hbase hb⟩
theorem S_new' (h : S d e w1 W.heap.size ok v xs) (hlt : ∀ k,u.ownBlock = some k → k < W.heap.size) : S d e w1 W.heap.size (fun k => ok k ∧ some k ≠ u.ownBlock) v xs := by
 obtain ⟨f,h⟩ := h; exact ⟨f,Yg h hlt⟩
theorem S_after {v1 : Value} (h : S d e W base (fun k => ok k ∧ some k ≠ v.ownBlock) u xs) (hg : W.grownBy w1 v.ownBlock) (hat : v1.ownBlock = v.ownBlock ∨ ∃ b,v1.ownBlock = some b ∧ W.heap.size ≤ b) : S d e w1 base (fun k => ok k ∧ some k ≠ v1.ownBlock) u xs := by
 obtain ⟨f,h⟩ := h; exact ⟨f,R_after h hg hat⟩
theorem S_bare (h : (bare d).R e w base ok v xs) : S d e w base ok v xs := by
 obtain ⟨h0,inner,ho,hr⟩ := h; refine ⟨fun _ => 0,h0,inner,by rw [List.length_zipIdx]; exact ho,by rw [List.length_zipIdx]; exact hr.1,fun j p hj => ?_⟩; rw [List.getElem?_zipIdx,Nat.zero_add] at hj; obtain ⟨x,hx,rfl⟩ := Option.map_eq_some_iff.1 hj; exact d.M_mono (fun _ hk => hk.elim) (hr.2 j x hx)
theorem R_tag {f f' : Nat → Nat} {zs : List (α × Nat)} (h : (tag f d).R e w base ok v zs) (hf : ∀ k,ok k → k < w.heap.size → f' k = f k) : (tag f' d).R e w base ok v zs := by
 obtain ⟨h0,inner,ho,hr⟩ := Xx h; exact ⟨fun k hk => (h0 k hk).1,inner,ho,hr.1,fun j p hj => d.M_mono (fun k hk => ⟨⟨hk.1.1.1,hk.1.2⟩,(hf k hk.1.1.1 hk.1.1.2.2.1).trans hk.2⟩) (hr.2 j p hj)⟩
end
section
variable {α β : Type} {d : Kd α} {d' : Kd β} {e e' g : Nat} {w w1 W : World} {base b : Nat} {ok ok' okv oku : Nat → Prop} {u v : Value} {xs : List α} {ys : List β}
theorem S_ne (h : S d e w base ok v xs) {t : Nat} {cells : Array Value} (hb : w.heap[g]? = some (.cells cells t (0,0))) (ht : e ≠ t) : some g ≠ v.ownBlock := R_ne (S_R h) hb ht
theorem Xm (h : S d e w base ok v xs) : ∃ A c,v = .slice A xs.length c := Qc (S_R h)
theorem ZJ {A : Option Addr} {n c : Nat} (h : S d e w base ok (.slice A n c) xs) : n = xs.length ∧ n ≤ c ∧ d.C w A xs.length xs := Xz (S_R h)
theorem S_get {ad : Addr} {n cap : Nat} (h : S d e W base ok (.slice (some ad) n cap) xs) (z : α) (i : Int) (h0 : 0 ≤ i) (h1 : i < n) :
 ∃ c,c.length = d.sz ∧ d.M W base (fun k => ok k ∧ some k ≠ (Value.slice (some ad) n cap).ownBlock) (xs.getD i.toNat z) c ∧ ∀ j u,c[j]? = some u → W.cell? (ad.add (i.toNat * d.sz + j)) = some u := R_getA (S_R h) z i h0 h1
theorem zip_snoc (xs : List α) (p : α) : (xs ++ [p]).zipIdx = xs.zipIdx ++ [(p,xs.length)] := by rw [List.zipIdx_append]; simp
end
section
open Classical in
theorem S_tag {α : Type} {d : Kd α} {e base : Nat} {okv : Nat → Prop} {w : World} {v : Value} {xs : List α} (h : S d e w base okv v xs) (m : Nat) (okp : Nat → Prop) (hap : ∀ k,okp k → ¬ okv k) : ∃ f,(∀ k,okp k → f k = m) ∧ (tag f d).R e w base okv v xs.zipIdx := by
 obtain ⟨f,h⟩ := h; exact ⟨fun k => if okp k then m else f k,fun k hk => if_pos hk,R_tag h (fun k hk _ => if_neg (fun h2 => hap k h2 hk))⟩
variable {P : Program} {ops : Array Oper} {rest : List Oper} {o : Oper} {a : Act} {Q : Exit → Act → World → Prop} {Kc : Act → World → Prop} {α : Type}
theorem S_append (d : Kd α) {w0 W : World} (base : Nat) (hgd : o.guard = none) (s x : Operand) (t e : TypeId) (z : Value) (bytes : Nat)
 (ho : o.op = .call { callee := .builtin .append,args := #[s,x],argTypes := #[t,t] })
 (ht : P.underlying t = some (.slice e)) (hinfo : (P.info? e).map (fun i => (i.zero,i.size,i.bytes)) = some (some z,d.sz,bytes)) (hz : z.cells.size = d.sz) (hs0 : 0 < d.sz) (hb0 : 0 < bytes)
 (v : Value) (xs : List α) (p : α) (cs : List Value) (ok okp : Nat → Prop) (hs : a.eval s = v) (hx : a.eval x = .slice (some ⟨W.heap.size,0,none⟩) 1 1) (hp : d.M W base okp p cs) (hokp : ∀ k,okp k → ok k ∧ some k ≠ v.ownBlock) (hfresh : ∀ k,W.heap.size ≤ k → ok k)
 (HO : S d e W base (fun k => ok k ∧ ¬ okp k) v xs) (HB : Below base w0 W) (hbase : base ≤ W.heap.size) (hl : (xs.length + 1) * bytes ≤ 140737488355328)
 (h : ∀ v1 w1,S d e w1 base ok v1 (xs ++ [p]) → Below base w0 w1 → W.grownBy w1 v.ownBlock → (v1.ownBlock = v.ownBlock ∨ ∃ b,v1.ownBlock = some b ∧ W.heap.size ≤ b) → wpList P ops Q rest (a.put o.dst v1) w1) :
 wpList P ops Q (o :: rest) a (W.alloc (.cells cs.toArray e)) := by
 obtain ⟨f,hf,hR⟩ := S_tag HO xs.length okp (fun _ hk h2 => h2.2 hk); refine QL (tag f d) base hgd s x t e z bytes ho ht hinfo hz hs0 hb0 v xs.zipIdx (p,xs.length) cs ok okp hs hx (d.M_mono (fun k hk => ⟨hk,hf k hk⟩) hp) hokp hfresh (Xu hR (fun _ hk => hk.1)) HB hbase (by rw [List.length_zipIdx]; exact hl) ?_; intro v1 w1 hr; rw [← zip_snoc] at hr; exact h v1 w1 ⟨f,hr⟩
end
def gap {α : Type} (f : Nat → Nat) (d : Kd α) (i : Nat) (c : List Value) : Kd (α × Nat) where
 sz := d.sz
 E := d.E
 K := fun w x cs => (x.2 = i → cs = c ∧ cs.length = d.sz ∧ ∀ u ∈ cs,u.oneCell' = true) ∧ (x.2 ≠ i → d.K w x.1 cs)
 M := fun w base ok x cs => (x.2 = i → cs = c ∧ cs.length = d.sz ∧ ∀ u ∈ cs,u.oneCell' = true) ∧ (x.2 ≠ i → d.M w base (fun k => ok k ∧ f k = x.2) x.1 cs)
 K_len := fun {w x cs} h => by
  by_cases hx : x.2 = i
  · exact (h.1 hx).2.1
  · exact d.K_len (h.2 hx)
 K_one := fun {w x cs} h => by
  by_cases hx : x.2 = i
  · exact (h.1 hx).2.2
  · exact d.K_one (h.2 hx)
 K_below := fun hb h => ⟨h.1,fun hx => d.K_below hb (h.2 hx)⟩
 K_of_M := fun h => ⟨h.1,fun hx => d.K_of_M (h.2 hx)⟩
 M_mono := fun hok h => ⟨h.1,fun hx => d.M_mono (fun k hk => ⟨hok k hk.1,hk.2⟩) (h.2 hx)⟩
 M_bound := fun h => ⟨h.1,fun hx => d.M_mono (fun _ hk => ⟨⟨hk.1.1,hk.2⟩,hk.1.2⟩) (d.M_bound (h.2 hx))⟩
 M_move := fun hm h => ⟨h.1,fun hx => d.M_move (fun k hk => hm k hk.1) (h.2 hx)⟩
 M_lower := fun hb h => ⟨h.1,fun hx => d.M_lower hb (h.2 hx)⟩
def H {α : Type} (d : Kd α) (e : Nat) (w : World) (base : Nat) (ok : Nat → Prop) (v : Value) (xs : List α) (i : Int) (oki : Nat → Prop) (c : List Value) : Prop :=
 (∀ k,oki k → ok k) ∧ ∃ f,(gap f d i.toNat c).R e w base (fun k => ok k ∧ ¬ oki k) v xs.zipIdx
section
variable {α β : Type} {d : Kd α} {e e' g n cap : Nat} {w w1 W : World} {base : Nat} {ok ok' oki okp : Nat → Prop} {u v : Value} {xs : List α} {i : Int} {c : List Value}
theorem S_lend (h : S d e W base ok (.slice (some ⟨g,0,none⟩) n cap) xs) (z : α) (i : Int) (h0 : 0 ≤ i) (h1 : i < n) :
 ∃ (oki : Nat → Prop) (c : List Value),c.length = d.sz ∧ d.M W base oki (xs.getD i.toNat z) c ∧ (∀ j u,c[j]? = some u → W.cell? ⟨g,i.toNat * d.sz + j,none⟩ = some u) ∧ (∀ k,oki k → ok k ∧ k ≠ g) ∧ H d e W base ok (.slice (some ⟨g,0,none⟩) n cap) xs i oki c := by
 obtain ⟨f,hR⟩ := h; have hn := (Xz hR).1; rw [List.length_zipIdx] at hn
 have hgo : some g = (Value.slice (some ⟨g,0,none⟩) n cap).ownBlock := by simp [Value.ownBlock]
 obtain ⟨hok0,inner,ho,hr⟩ := hR
 have hil : i.toNat < xs.length := by omega
 have hlen : inner.length = xs.length * d.sz := by have := hr.1; rw [List.length_zipIdx] at this; exact this
 have hseg : i.toNat * d.sz + d.sz ≤ inner.length := by rw [hlen,← Nat.succ_mul]; exact Nat.mul_le_mul_right _ hil
 have hM := hr.2 i.toNat _ (XA (List.getElem?_eq_getElem hil))
 have hkg : ∀ k,some k ≠ (Value.slice (some ⟨g,0,none⟩) n cap).ownBlock → k ≠ g := fun k hk he => hk (by rw [he]; exact hgo)
 refine ⟨fun k => (ok k ∧ k ≠ g) ∧ f k = i.toNat,(inner.drop (i.toNat * d.sz)).take d.sz,by rw [List.length_take,List.length_drop]; omega,?_,fun j u hu => ?_,fun k hk => hk.1,fun k hk => hk.1.1,f,fun k hk => ⟨hok0 k hk,fun h2 => h2.1.2 ?_⟩,inner,ho,hr.1,fun m p hm => ?_⟩
 · rw [List.getD_eq_getElem?_getD,List.getElem?_eq_getElem hil]
   exact d.M_mono (fun k hk => ⟨⟨hk.1.1,hkg k hk.1.2⟩,hk.2⟩) hM
 · rw [List.getElem?_take] at hu
   split at hu
   · rw [List.getElem?_drop] at hu
     have := ho.cells (g := g) hgo.symm _ u hu
     rwa [XW] at this
   · cases hu
 · rw [← hgo] at hk; injection hk with hk; exact hk.symm
 · have hold := hr.2 m p hm
   have hp2 : p.2 = m := by
    rw [List.getElem?_zipIdx,Nat.zero_add] at hm; obtain ⟨q,_,rfl⟩ := Option.map_eq_some_iff.1 hm; rfl
   refine ⟨fun hx => ?_,fun hx => d.M_mono (fun k hk => ⟨⟨⟨hk.1.1,fun h2 => hx ?_⟩,hk.1.2⟩,hk.2⟩) hold⟩
   · have hmi : m = i.toNat := by omega
     subst hmi; exact ⟨rfl,d.K_len (d.K_of_M hM),d.K_one (d.K_of_M hM)⟩
   · rw [← hk.2]; exact h2.2
open Classical in
theorem H_back (h : H d e w base ok v xs i oki c) {x' : α} (hM : d.M w base okp x' c) (hok : ∀ k,okp k → oki k) : S d e w base ok v (xs.set i.toNat x') := by
 obtain ⟨ho,f,h0,inner,hown,hr⟩ := h; refine ⟨fun k => if oki k then i.toNat else f k,fun k hk => (h0 k hk).1,inner,by rw [List.length_zipIdx,List.length_set]; rw [List.length_zipIdx] at hown; exact hown,by have := hr.1; rw [List.length_zipIdx] at this; rw [List.length_zipIdx,List.length_set]; exact this,fun m p hm => ?_⟩; rw [List.getElem?_zipIdx,Nat.zero_add] at hm; obtain ⟨q,hq,rfl⟩ := Option.map_eq_some_iff.1 hm
 have hml : m < xs.length := by
  have := (List.getElem?_eq_some_iff.1 hq).1
  rwa [List.length_set] at this
 by_cases hmi : m = i.toNat
 · subst hmi
   rw [List.getElem?_set_self hml] at hq
   injection hq with hq
   subst hq; have hc := ((hr.2 i.toNat _ (XA (List.getElem?_eq_getElem hml))).1 rfl).1; show d.M w base _ x' ((inner.drop (i.toNat * d.sz)).take d.sz); rw [show (inner.drop (i.toNat * d.sz)).take d.sz = c from hc]; exact d.M_mono (fun k hk => ⟨⟨ho k (hok k hk),fun he => (h0 k he.symm).2 (hok k hk)⟩,if_pos (hok k hk)⟩) hM
 · rw [List.getElem?_set_ne (Ne.symm hmi)] at hq
   exact d.M_mono (fun k hk => ⟨⟨hk.1.1.1,hk.1.2⟩,(if_neg hk.1.1.2).trans hk.2⟩) ((hr.2 m (q,m) (XA hq)).2 hmi)
theorem H_widen (h : H d e w base ok v xs i oki c) : H d e w base ok v xs i (fun k => oki k ∨ ok k ∧ w.heap.size ≤ k) c := by
 obtain ⟨ho,f,h⟩ := h; exact ⟨fun k hk => hk.elim (ho k) (fun h2 => h2.1),f,Xu (Xx h) (fun k hk => ⟨hk.1.1,fun h2 => h2.elim hk.1.2 (fun h3 => by have := hk.2.2.1; omega)⟩)⟩
theorem Yc (h : H d e w base ok v xs i oki c) (hm : ∀ k,ok k → ¬ oki k → k < w.heap.size → w1.heap[k]? = w.heap[k]?) : H d e w1 base ok v xs i oki c := by
 obtain ⟨ho,f,h⟩ := h; exact ⟨ho,f,QP h (fun k hk hlt => hm k hk.1 hk.2 hlt)⟩
theorem H_grown (h : H d e w base ok v xs i oki c) {row : Option Nat} (hg : w.grownBy w1 row) (hrow : ∀ k,row = some k → oki k) : H d e w1 base ok v xs i oki c :=
 Yc h (fun k _ hn hlt => hg.block k hlt (fun he => hn (hrow k he.symm)))
theorem H_below (h : H d e w base ok v xs i oki c) (hb : Below w.heap.size w w1) : H d e w1 base ok v xs i oki c := Yc h (fun k _ _ hlt => hb.block k hlt)
theorem H_alloc (h : H d e w base ok v xs i oki c) (o : Obj) : H d e (w.alloc o) base ok v xs i oki c := H_below h (Zk (Below.refl _ _) o)
theorem S_elem (h : S d e W base ok (.slice (some ⟨g,0,none⟩) n cap) xs) (z : α) (i : Int) (h0 : 0 ≤ i) (h1 : i < n) :
 ∃ (oki : Nat → Prop) (c : List Value),c.length = d.sz ∧ d.M W base oki (xs.getD i.toNat z) c ∧ (∀ j u,c[j]? = some u → W.cell? ⟨g,i.toNat * d.sz + j,none⟩ = some u) ∧ (∀ j,W.frozen? ⟨g,i.toNat * d.sz + j,none⟩ = false) ∧ (∀ k,oki k → ok k ∧ k ≠ g) ∧ H d e W base ok (.slice (some ⟨g,0,none⟩) n cap) xs i oki c := by
 obtain ⟨_,_,_,_,hfr⟩ := Yh (S_R h) z i h0 h1; obtain ⟨oki,c,hcl,hM,hcc,hoki,hH⟩ := S_lend h z i h0 h1; exact ⟨oki,c,hcl,hM,hcc,hfr,hoki,hH⟩
theorem H_raw (h : H d e W base ok (.slice (some ⟨g,0,none⟩) n cap) xs i oki c) (h0 : 0 ≤ i) (h1 : i < n) :
 ∃ rows : List (List Value),rows.length = xs.length ∧ (raw d.sz).R e W base (fun _ => True) (.slice (some ⟨g,0,none⟩) n cap) rows ∧ c.length = d.sz ∧ (∀ u ∈ c,u.oneCell' = true) ∧ (∀ j u,c[j]? = some u → W.cell? ⟨g,i.toNat * d.sz + j,none⟩ = some u) ∧
  ∀ w1 c',W.grownBy w1 (some g) → (raw d.sz).R e w1 base (fun _ => True) (.slice (some ⟨g,0,none⟩) n cap) (rows.set i.toNat c') → H d e w1 base ok (.slice (some ⟨g,0,none⟩) n cap) xs i oki c' := by
 obtain ⟨hoo,f,hR⟩ := h; have hn := (Xz hR).1; rw [List.length_zipIdx] at hn
 have hgo : some g = (Value.slice (some ⟨g,0,none⟩) n cap).ownBlock := by simp [Value.ownBlock]
 obtain ⟨hok0,inner,ho,hr⟩ := hR
 have hil : i.toNat < xs.length := by omega
 have hlen : inner.length = xs.length * d.sz := by have := hr.1; rw [List.length_zipIdx] at this; exact this
 have hkg : ∀ k,some k ≠ (Value.slice (some ⟨g,0,none⟩) n cap).ownBlock → k ≠ g := fun k hk he => hk (by rw [he]; exact hgo)
 have hci := (hr.2 i.toNat _ (XA (List.getElem?_eq_getElem hil))).1 rfl; rw [hci.1] at hci; have hc := ((hr.2 i.toNat _ (XA (List.getElem?_eq_getElem hil))).1 rfl).1; refine ⟨(List.range xs.length).map fun j => (inner.drop (j * d.sz)).take d.sz,by rw [List.length_map,List.length_range],⟨fun _ _ => trivial,inner,?_,?_,fun j p hj => ?_⟩,hci.2.1,hci.2.2,fun j u hu => ?_,fun w1 c' hg hraw => ?_⟩
 · rw [List.length_map,List.length_range]; rw [List.length_zipIdx] at ho; exact ho
 · rw [List.length_map,List.length_range]; exact hlen
 · rw [List.getElem?_map] at hj
   obtain ⟨j',hj',rfl⟩ := Option.map_eq_some_iff.1 hj; obtain ⟨hl,he⟩ := List.getElem?_eq_some_iff.1 hj'; rw [List.getElem_range] at he; subst he; rw [List.length_range] at hl; have hm := (gap f d i.toNat c).K_of_M (hr.2 j _ (XA (List.getElem?_eq_getElem hl))); exact ⟨rfl,(gap f d i.toNat c).K_len hm,(gap f d i.toNat c).K_one hm⟩
 · rw [← hc,List.getElem?_take] at hu
   split at hu
   · rw [List.getElem?_drop] at hu
     have := ho.cells (g := g) hgo.symm _ u hu
     rwa [XW] at this
   · cases hu
 · obtain ⟨_,inner',ho',hr'⟩ := hraw
   have hl' : inner'.length = xs.length * d.sz := by have := hr'.1; rw [List.length_set,List.length_map,List.length_range] at this; exact this
   rw [List.length_set,List.length_map,List.length_range] at ho'; refine ⟨hoo,f,hok0,inner',by rw [List.length_zipIdx]; exact ho',by rw [List.length_zipIdx]; exact hl',fun m p hm => ?_⟩; rw [List.getElem?_zipIdx,Nat.zero_add] at hm; obtain ⟨q,hq,rfl⟩ := Option.map_eq_some_iff.1 hm; have hml : m < xs.length := (List.getElem?_eq_some_iff.1 hq).1; have hold := hr.2 m (q,m) (XA hq); refine ⟨fun hx => ?_,fun hx => ?_⟩
   · have hx' : m = i.toNat := hx
     subst hx'; exact hr'.2 i.toNat c' (List.getElem?_set_self (by rw [List.length_map,List.length_range]; exact hml))
   · have hx' : m ≠ i.toNat := hx
     have hcm := (hr'.2 m ((inner.drop (m * d.sz)).take d.sz) (by
      rw [List.getElem?_set_ne (Ne.symm hx'),List.getElem?_map,List.getElem?_eq_getElem (by rw [List.length_range]; exact hml),List.getElem_range]
      rfl)).1
     show d.M w1 base _ q ((inner'.drop (m * d.sz)).take d.sz); rw [show (inner'.drop (m * d.sz)).take d.sz = _ from hcm]; exact d.M_mono (fun k hk => hk.1) (d.M_move (w1 := w1) (fun k hk => hg.block k hk.2.2.1 (fun he => hkg k hk.1.1.2 (by injection he))) (d.M_bound (hold.2 hx)))
theorem H_seg (h : H d e W base ok (.slice (some ⟨g,0,none⟩) n cap) xs i oki c) (h0 : 0 ≤ i) (h1 : i < n) {seg : List Value} {j : Nat} (hj : j + seg.length ≤ d.sz) (hone : ∀ q ∈ seg,q.oneCell' = true) :
 H d e (W.setCells g (i.toNat * d.sz + j) seg) base ok (.slice (some ⟨g,0,none⟩) n cap) xs i oki (c.take j ++ seg ++ c.drop (j + seg.length)) ∧ W.grownBy (W.setCells g (i.toNat * d.sz + j) seg) (some g) := by
 obtain ⟨rows,_,hraw,hcl,hco,hcc,hback⟩ := H_raw h h0 h1
 obtain ⟨h2,h3⟩ := R_seg hraw i h0 h1 (c := c) (seg := seg) (j := j) (x' := c.take j ++ seg ++ c.drop (j + seg.length)) (okp := fun _ => False) hcl hcc hj
  ⟨rfl,by
   show (c.take j ++ seg ++ c.drop (j + seg.length)).length = d.sz
   simp only [List.length_append,List.length_take,List.length_drop]; omega,fun u hu => by
   rcases List.mem_append.1 hu with hu | hu
   · rcases List.mem_append.1 hu with hu | hu
     · exact hco u (List.mem_of_mem_take hu)
     · exact hone u hu
   · exact hco u (List.mem_of_mem_drop hu)⟩ (fun _ hk => hk.elim)
 exact ⟨hback _ _ h3 h2,h3⟩
end
end Kd
end Go.Proofs.YtcdiecgenpigbaaW.PrintWords





namespace Go.Proofs.YtcdiecgenpigbaaW.PrintWords
open Go.RowKit
namespace Kd
structure Heap {α : Type} (d : Kd α) : Prop where
 K : ∀ {w w1 : World} {x : α} {cs : List Value},(∀ k,k < w.heap.size → w1.heap[k]? = w.heap[k]?) → d.K w x cs → d.K w1 x cs
theorem cell_heap {w w1 : World} (hb : ∀ k,k < w.heap.size → w1.heap[k]? = w.heap[k]?) {a : Addr} {v : Value} (h : w.cell? a = some v) : w1.cell? a = some v := by
 have := hb a.block (World.block_lt_of_cell? w a h)
 simpa [World.cell?,this] using h
theorem Heap.C {α : Type} {d : Kd α} (hd : Heap d) {w w1 : World} {A : Option Addr} {n : Nat} {xs : List α} (hb : ∀ k,k < w.heap.size → w1.heap[k]? = w.heap[k]?) (h : d.C w A n xs) : d.C w1 A n xs :=
 ⟨h.1,h.2.1,fun hn => by
  obtain ⟨ad,e,hc⟩ := h.2.2 hn; refine ⟨ad,e,fun j p hj => ?_⟩; obtain ⟨c,hs,hr,hcell⟩ := hc j p hj
  exact ⟨c,hs,hd.K hb hr,fun i u hu => cell_heap hb (hcell i u hu)⟩⟩
end Kd
end Go.Proofs.YtcdiecgenpigbaaW.PrintWords

namespace Go.Proofs.YtcdiecgenpigbaaW.PrintWords
open Go.RowKit
def Kept (w W : World) (S : Nat → Prop) : Prop := w.heap.size ≤ W.heap.size ∧ ∀ i,i < w.heap.size → ¬ S i → W.heap[i]? = w.heap[i]?
section
variable {w W W2 : World} {S S2 S' : Nat → Prop}
theorem Kept.refl (w : World) (S : Nat → Prop) : Kept w w S := ⟨Nat.le_refl _,fun _ _ _ => rfl⟩
theorem Kept.QK (h : Below w.heap.size w W) (S : Nat → Prop) : Kept w W S := ⟨h.size,fun i hi _ => h.block i hi⟩
theorem Kept.mono (h : Kept w W S) (hs : ∀ k,S k → S' k) : Kept w W S' := ⟨h.1,fun i hi hn => h.2 i hi (fun hk => hn (hs i hk))⟩
theorem Kept.then_ (h : Kept w W S) (k : Kept W W2 S2) (hs : ∀ k,S2 k → S k ∨ w.heap.size ≤ k) : Kept w W2 S :=
 ⟨Nat.le_trans h.1 k.1,fun i hi hn => (k.2 i (Nat.lt_of_lt_of_le hi h.1) (fun h2 => (hs i h2).elim hn (fun h3 => by omega))).trans (h.2 i hi hn)⟩
theorem Kept.below (h : Kept w W S) (hb : Below W.heap.size W W2) : Kept w W2 S := h.then_ (Kept.QK hb (fun _ => False)) (fun _ hk => hk.elim)
theorem Kept.alloc (h : Kept w W S) (o : Obj) : Kept w (W.alloc o) S := h.below (Zk (Below.refl _ _) o)
theorem Kept.drew (h : Kept w W S) : Kept w W.drew S := h
theorem Kept.drewN (h : Kept w W S) (m : Nat) : Kept w (W.drewN m) S := h
theorem Kept.setCell (h : Kept w W S) {p : Addr} (hp : S p.block ∨ w.heap.size ≤ p.block) (u : Value) : Kept w (W.setCell p u) S :=
 h.then_ (S2 := fun k => k = p.block) ⟨by simp [World.setCell],fun i _ hn => Below.heap_setCell W p u i hn⟩ (fun k hk => by rw [hk]; exact hp)
theorem Kept.keep {g : Nat} (h : KeepBut w W g none) (k : Kept W W2 S2) (hs : ∀ k,S2 k → w.heap.size ≤ k) : KeepBut w W2 g none :=
 ⟨Nat.le_trans h.1 k.1,fun i hi hg hr => (k.2 i (Nat.lt_of_lt_of_le hi h.1) (fun h2 => by have := hs i h2; omega)).trans (h.2 i hi hg hr)⟩
end
end Go.Proofs.YtcdiecgenpigbaaW.PrintWords

namespace Go.Proofs.YtcdiecgenpigbaaW.PrintWords
open Go.RowKit
def Foot (P : World → Prop) (W : World) (ok : Nat → Prop) : Prop := ∀ W' : World,(∀ k,ok k → k < W.heap.size → W'.heap[k]? = W.heap[k]?) → P W'
theorem heap_lt {W W1 : World} {k : Nat} (h : W1.heap[k]? = W.heap[k]?) (hlt : k < W.heap.size) : k < W1.heap.size := by
 rw [Array.getElem?_eq_getElem hlt] at h; exact (Array.getElem?_eq_some_iff.1 h).1
namespace Foot
variable {P Q : World → Prop} {W W1 : World} {ok ok' : Nat → Prop}
theorem mono (h : Foot P W ok) (hok : ∀ k,ok k → ok' k) : Foot P W ok' := fun W' hW => h W' (fun k hk hlt => hW k (hok k hk) hlt)
theorem step (h : Foot P W ok) (hm : ∀ k,ok k → k < W.heap.size → W1.heap[k]? = W.heap[k]?) : Foot P W1 ok := fun W' hW => h W' (fun k hk hlt => (hW k hk (heap_lt (hm k hk hlt) hlt)).trans (hm k hk hlt))
theorem imp (h : Foot P W ok) (hi : ∀ W',P W' → Q W') : Foot Q W ok := fun W' hW => hi W' (h W' hW)
end Foot
namespace Kd
def F {α : Type} (d : Kd α) (W : World) (ok : Nat → Prop) (A : Option Addr) (n : Nat) (xs : List α) : Prop := Foot (fun W => d.C W A n xs) W ok
def FK {α : Type} (d : Kd α) (W : World) (ok : Nat → Prop) (x : α) (c : List Value) : Prop := Foot (fun W => d.K W x c) W ok
section
variable {α β : Type} {d : Kd α} {e base n n' cc g N : Nat} {ok ok' okp S : Nat → Prop} {w w0 w1 W W1 : World} {A A' : Option Addr} {u v v1 : Value} {xs : List α} {xs' : List β} {d' : Kd β} {x : α} {c : List Value}
theorem F_nil (d : Kd α) (W : World) (ok : Nat → Prop) : F d W ok none ([] : List α).length [] := fun W' _ => C_nil d W'
theorem FK_of_M (h : d.M W base ok x c) : FK d W ok x c := fun _ hW => d.K_of_M (Yd h hW)
end
end Kd
end Go.Proofs.YtcdiecgenpigbaaW.PrintWords

namespace Go.Proofs.YtcdiecgenpigbaaW.PrintWords
open Go.RowKit
namespace Kd
def chunks (sz : Nat) (n : Nat) (inner : List Value) : List (List Value) := (List.range n).map fun j => (inner.drop (j * sz)).take sz
theorem Xo (sz n : Nat) (inner : List Value) : (chunks sz n inner).length = n := by simp [chunks]
theorem chunks_at {sz n : Nat} {inner : List Value} {j : Nat} (hj : j < n) : (chunks sz n inner)[j]? = some ((inner.drop (j * sz)).take sz) := by simp [chunks,hj]
theorem Qr {sz n : Nat} {inner : List Value} {j : Nat} {c : List Value} (h : (chunks sz n inner)[j]? = some c) : c = (inner.drop (j * sz)).take sz := by
 have hj : j < n := by have := (List.getElem?_eq_some_iff.1 h).1; rwa [Xo] at this
 rw [chunks_at hj] at h
 injection h with h
 exact h.symm
theorem reps_raw {α : Type} {Rr : α → List Value → Prop} {sz : Nat} {xs : List α} {inner : List Value} (h : Reps Rr sz xs inner) (hR : ∀ x c,Rr x c → c.length = sz ∧ ∀ u ∈ c,u.oneCell' = true) : Reps (fun x cs => cs = x ∧ cs.length = sz ∧ ∀ u ∈ cs,u.oneCell' = true) sz (chunks sz xs.length inner) inner := by
 refine ⟨by rw [Xo]; exact h.1,fun j p hj => ?_⟩
 have hjl : j < xs.length := by have := (List.getElem?_eq_some_iff.1 hj).1; rwa [Xo] at this
 have hp := Qr hj; exact ⟨hp.symm,hR _ _ (h.2 j _ (List.getElem?_eq_getElem hjl))⟩
section
variable {α : Type} {d : Kd α} {e base n cc g : Nat} {ok ok' okp S : Nat → Prop} {w w1 W W1 : World} {A : Option Addr} {u v v1 : Value} {xs : List α} {x : α} {c : List Value}
def N {α : Type} (d : Kd α) (e : Nat) (w : World) (base : Nat) (ok : Nat → Prop) (v : Value) (xs : List α) : Prop :=
 (∀ k,v.ownBlock = some k → ok k) ∧ ∃ rows : List (List Value),rows.length = xs.length ∧ (raw d.sz).R e w base (fun k => some k = v.ownBlock) v rows ∧ ∀ (j : Nat) (x : α) (c : List Value),xs[j]? = some x → rows[j]? = some c → FK d w (fun k => ok k ∧ some k ≠ v.ownBlock) x c
theorem R_N (h : d.R e w base ok v xs) : N d e w base ok v xs := by
 obtain ⟨h0,inner,ho,hr⟩ := h; refine ⟨h0,chunks d.sz xs.length inner,Xo _ _ _,⟨fun k hk => hk.symm,inner,by rw [Xo]; exact ho,reps_raw hr (fun x c hp => ⟨d.K_len (d.K_of_M hp),d.K_one (d.K_of_M hp)⟩)⟩,fun j x c hx hc => ?_⟩; rw [Qr hc]; exact FK_of_M (hr.2 j x hx)
theorem N_nil (d : Kd α) (e : Nat) (w : World) (base : Nat) (ok : Nat → Prop) : N d e w base ok (.slice none 0 0) [] := R_N (R_nil _ _ _ _ _)
end
end Kd
end Go.Proofs.YtcdiecgenpigbaaW.PrintWords





namespace Go.Proofs.YtcdiecgenpigbaaW.PrintWords
open Go.RowKit
section
variable {P : Program} {d : Nat} {xs ys : Array Value} {f : Field} {fs : List Field} {a b : Value} {r s : Bool} {w : World}
theorem eqf_last (hn : (f.name == "_") = false) (ha : (part f.type xs f.offset).run P w = .ok a w) (hb : (part f.type ys f.offset).run P w = .ok b w) (he : (Op.equalIn d f.type a b).run P w = .ok r w) : (Op.eqFields d xs ys [f]).run P w = .ok r w := by
 have hn' : f.name ≠ "_" := by simpa using hn
 simp only [Op.eqFields,if_pos hn',Sem.run_bind,ha,hb,he,Result.andThen_ok]
 cases r <;> simp
theorem X9 (hn : (f.name == "_") = false) (ha : (part f.type xs f.offset).run P w = .ok a w) (hb : (part f.type ys f.offset).run P w = .ok b w) (he : (Op.equalIn d f.type a b).run P w = .ok r w) (hr : (Op.eqFields d xs ys fs).run P w = .ok s w) : (Op.eqFields d xs ys (f :: fs)).run P w = .ok (r && s) w := by
 have hn' : f.name ≠ "_" := by simpa using hn
 rw [Op.eqFields]; simp only [if_pos hn',Sem.run_bind,ha,hb,he,Result.andThen_ok]
 cases r
 · simp
 · simpa using hr
theorem eqA_of {t : TypeId} {fs : Array Field} (hu : P.underlying t = some (.struct fs)) (hp : P.stoodInHeld t = false) (h : (Op.eqFields d xs ys fs.toList).run P w = .ok r w) : (Op.equalIn (d + 1) t (.agg xs) (.agg ys)).run P w = .ok r w := by
 have hf : P.fieldsOf t = fs := by simp [Program.fieldsOf,hu]
 rw [run_equalIn_struct (P := P) w d t xs ys (by rw [hf]; exact hu) hp,hf]; exact h
end
end Go.Proofs.YtcdiecgenpigbaaW.PrintWords

namespace Go.Proofs.YtcdiecgenpigbaaW.PrintWords
theorem Reps.one {α : Type} {R : α → List Value → Prop} {ps : List α} {cs : List Value} {p : α} {v : Value} (hp : R p [v]) (h : Reps R 1 ps cs) : Reps R 1 (p :: ps) (v :: cs) := by
 refine ⟨by simp [h.1],fun j q hq => ?_⟩
 cases j with
 | zero =>
  simp only [List.getElem?_cons_zero,Option.some.injEq] at hq; subst hq
  simpa using hp
 | succ j =>
  simp only [List.getElem?_cons_succ] at hq; have h1 := h.2 j q hq
  simpa [Nat.mul_one] using h1
theorem Reps.front {α : Type} {R : α → List Value → Prop} {size : Nat} {ps : List α} {cs c all : List Value} {p : α} (hp : R p c) (hc : c.length = size) (h : Reps R size ps cs) (ha : c ++ cs = all) : Reps R size (p :: ps) all := by
 subst ha; refine ⟨by rw [List.length_append,hc,h.1,List.length_cons,Nat.succ_mul,Nat.add_comm],fun j q hq => ?_⟩
 cases j with
 | zero =>
  simp only [List.getElem?_cons_zero,Option.some.injEq] at hq; subst hq; rw [Nat.zero_mul,List.drop_zero,List.take_append_of_le_length (by omega),List.take_of_length_le (by omega)]; exact hp
 | succ j =>
  simp only [List.getElem?_cons_succ] at hq; have h1 := h.2 j q hq; rw [Nat.succ_mul,List.drop_append,List.drop_of_length_le (by rw [hc]; exact Nat.le_add_left _ _),List.nil_append,hc,Nat.add_sub_cancel]; exact h1
theorem Reps.c2 {α : Type} {R : α → List Value → Prop} {ps : List α} {cs : List Value} {p : α} {va vb : Value} (hp : R p [va,vb]) (h : Reps R 2 ps cs) : Reps R 2 (p :: ps) (va :: vb :: cs) := Reps.front hp rfl h rfl
theorem Reps.c3 {α : Type} {R : α → List Value → Prop} {ps : List α} {cs : List Value} {p : α} {va vb vc : Value} (hp : R p [va,vb,vc]) (h : Reps R 3 ps cs) : Reps R 3 (p :: ps) (va :: vb :: vc :: cs) := Reps.front hp rfl h rfl
theorem Reps.c4 {α : Type} {R : α → List Value → Prop} {ps : List α} {cs : List Value} {p : α} {va vb vc vd : Value} (hp : R p [va,vb,vc,vd]) (h : Reps R 4 ps cs) : Reps R 4 (p :: ps) (va :: vb :: vc :: vd :: cs) := Reps.front hp rfl h rfl
theorem Reps.c5 {α : Type} {R : α → List Value → Prop} {ps : List α} {cs : List Value} {p : α} {va vb vc vd ve : Value} (hp : R p [va,vb,vc,vd,ve]) (h : Reps R 5 ps cs) : Reps R 5 (p :: ps) (va :: vb :: vc :: vd :: ve :: cs) := Reps.front hp rfl h rfl
theorem Reps.c6 {α : Type} {R : α → List Value → Prop} {ps : List α} {cs : List Value} {p : α} {va vb vc vd ve vf : Value} (hp : R p [va,vb,vc,vd,ve,vf]) (h : Reps R 6 ps cs) : Reps R 6 (p :: ps) (va :: vb :: vc :: vd :: ve :: vf :: cs) := Reps.front hp rfl h rfl
theorem Reps.c7 {α : Type} {R : α → List Value → Prop} {ps : List α} {cs : List Value} {p : α} {va vb vc vd ve vf vg : Value} (hp : R p [va,vb,vc,vd,ve,vf,vg]) (h : Reps R 7 ps cs) : Reps R 7 (p :: ps) (va :: vb :: vc :: vd :: ve :: vf :: vg :: cs) := Reps.front hp rfl h rfl
theorem Reps.c8 {α : Type} {R : α → List Value → Prop} {ps : List α} {cs : List Value} {p : α} {va vb vc vd ve vf vg vh : Value} (hp : R p [va,vb,vc,vd,ve,vf,vg,vh]) (h : Reps R 8 ps cs) : Reps R 8 (p :: ps) (va :: vb :: vc :: vd :: ve :: vf :: vg :: vh :: cs) := Reps.front hp rfl h rfl
theorem Reps.c9 {α : Type} {R : α → List Value → Prop} {ps : List α} {cs : List Value} {p : α} {va vb vc vd ve vf vg vh vi : Value} (hp : R p [va,vb,vc,vd,ve,vf,vg,vh,vi]) (h : Reps R 9 ps cs) : Reps R 9 (p :: ps) (va :: vb :: vc :: vd :: ve :: vf :: vg :: vh :: vi :: cs) := Reps.front hp rfl h rfl
theorem Reps.c10 {α : Type} {R : α → List Value → Prop} {ps : List α} {cs : List Value} {p : α} {va vb vc vd ve vf vg vh vi vj : Value} (hp : R p [va,vb,vc,vd,ve,vf,vg,vh,vi,vj]) (h : Reps R 10 ps cs) : Reps R 10 (p :: ps) (va :: vb :: vc :: vd :: ve :: vf :: vg :: vh :: vi :: vj :: cs) := Reps.front hp rfl h rfl
end Go.Proofs.YtcdiecgenpigbaaW.PrintWords





namespace Go.Proofs.YtcdiecgenpigbaaW.PrintWords
open Go.RowKit
section
variable {P : Program} {ops : Array Oper} {rest : List Oper} {o : Oper} {a : Act} {Q : Exit → Act → World → Prop} {W : World}
theorem Xp (hw : Region.wanted o (yielded ops a.tmps) = true) (h : wpList P ops Q ({ o with guard := none } :: rest) a W) : wpList P ops Q (o :: rest) a W := by
 have h1 : Region.wanted { o with guard := none } (yielded ops a.tmps) = true := rfl; unfold wpList at h ⊢; rw [if_pos h1] at h; rw [if_pos hw]; exact h
end
end Go.Proofs.YtcdiecgenpigbaaW.PrintWords



namespace Go.Proofs.YtcdiecgenpigbaaW.PrintMore
open Go.RowKit Go.Proofs.YtcdiecgenpigbaaW.PrintWords
theorem ZQ (k k' : IntKind) (x y : Int) : Builtin.max2 (.int k x) (.int k' y) = pure (.int k (if x < y then y else x)) := by simp only [Builtin.max2,gt_iff_lt]
theorem ZS (k k' : IntKind) (x y : Int) : Builtin.min2 (.int k x) (.int k' y) = pure (.int k (if y < x then y else x)) := by simp only [Builtin.min2]
theorem ZZ (ats : Array TypeId) (ty : TypeId) (a b : Value) : Builtin.max_ ats ty #[a,b] = (Builtin.max2 a b >>= fun s => pure s) := by simp only [Builtin.max_,List.foldlM_cons,List.foldlM_nil]
theorem ZY (ats : Array TypeId) (ty : TypeId) (a b : Value) : Builtin.min_ ats ty #[a,b] = (Builtin.min2 a b >>= fun s => pure s) := by simp only [Builtin.min_,List.foldlM_cons,List.foldlM_nil]
theorem ZL (ats : Array TypeId) (ty : TypeId) (a b c : Value) : Builtin.max_ ats ty #[a,b,c] = (Builtin.max2 a b >>= fun s => Builtin.max2 s c >>= fun s => pure s) := by simp only [Builtin.max_,List.foldlM_cons,List.foldlM_nil]
theorem ZM (ats : Array TypeId) (ty : TypeId) (a b c : Value) : Builtin.min_ ats ty #[a,b,c] = (Builtin.min2 a b >>= fun s => Builtin.min2 s c >>= fun s => pure s) := by simp only [Builtin.min_,List.foldlM_cons,List.foldlM_nil]
theorem ZT (ats : Array TypeId) (ty : TypeId) (a b c d : Value) : Builtin.max_ ats ty #[a,b,c,d] = (Builtin.max2 a b >>= fun s => Builtin.max2 s c >>= fun s => Builtin.max2 s d >>= fun s => pure s) := by simp only [Builtin.max_,List.foldlM_cons,List.foldlM_nil]
theorem ZU (ats : Array TypeId) (ty : TypeId) (a b c d : Value) : Builtin.min_ ats ty #[a,b,c,d] = (Builtin.min2 a b >>= fun s => Builtin.min2 s c >>= fun s => Builtin.min2 s d >>= fun s => pure s) := by simp only [Builtin.min_,List.foldlM_cons,List.foldlM_nil]
end Go.Proofs.YtcdiecgenpigbaaW.PrintMore
namespace Go.Proofs.YtcdiecgenpigbaaW.PrintWords
open Go.RowKit
section
variable {P : Program} {ops : Array Oper} {rest : List Oper} {o : Oper} {a : Act} {Q : Exit → Act → World → Prop} {W : World}
theorem Z3 {f : FuncId} {as_ : Array Operand} {ts : Array TypeId} (_ho : o.op = .call { callee := .value (.func f),args := as_,argTypes := ts }) (h : wpList P ops Q (o :: rest) a W) : wpList P ops Q (o :: rest) a W := h
theorem XK {b : Builtin} {xs : Array Operand} {ts : Array TypeId} (_ho : o.op = .call { callee := .builtin b,args := xs,argTypes := ts }) (h : wpList P ops Q (o :: rest) a W) : wpList P ops Q (o :: rest) a W := h
end
def mx (a b : Int) : Int := if a < b then b else a
def mn (a b : Int) : Int := if b < a then b else a
def shr (k : IntKind) (x y : Int) : Int := x / 2 ^ min y.toNat k.bits
theorem Qu {k : IntKind} {x y j : Int} (h : shr k x y = j) (hy : y ≤ k.bits) : x / 2 ^ y.toNat = j := by rw [← h]; unfold shr; rw [Nat.min_eq_left (by omega)]
theorem Qm (w : World) (n : Nat) : w.drewN n = w.drewN n := rfl
end Go.Proofs.YtcdiecgenpigbaaW.PrintWords
namespace Go.Proofs.YtcdiecgenpigbaaW.PrintWords
open Go.RowKit
namespace Kd
def V {α : Type} (d : Kd α) (_e : Nat) (W : World) (_base : Nat) (ok : Nat → Prop) (v : Value) (xs : List α) : Prop := ∃ A c,v = .slice A xs.length c ∧ xs.length ≤ c ∧ F d W ok A xs.length xs
section
variable {α β : Type} {d : Kd α} {e base base' n m c g N' lo hi : Nat} {ok ok' S : Nat → Prop} {w W w1 : World} {A : Option Addr} {ad : Addr} {u v v1 : Value} {xs : List α}
theorem V_nil (d : Kd α) (e : Nat) (W : World) (base : Nat) (ok : Nat → Prop) : V d e W base ok (.slice none 0 0) [] := ⟨none,0,rfl,Nat.le_refl _,F_nil d W ok⟩
end
end Kd
end Go.Proofs.YtcdiecgenpigbaaW.PrintWords

namespace Go.Proofs.Ytcdiecgenpigbaa.PA
open Go.RowKit Go.Proofs.YtcdiecgenpigbaaW.PrintWords Go.Proofs.YtcdiecgenpigbaaW.PrintLast Go.Proofs.YtcdiecgenpigbaaW.PrintMore
attribute [local go_sem] ZQ ZS ZZ ZY ZL ZM ZT ZU
set_option linter.unusedVariables false
set_option linter.unusedSimpArgs false
def errW : Option Int → Value
 | none => .nilIface
 | some c => .iface 0 (.int .i64 c)
theorem Zw : errW none = .nilIface := rfl
theorem Zx (c : Int) : errW (some c) = .iface 0 (.int .i64 c) := rfl
theorem info3 : (Try.prog.info? 3).map (fun i => (i.zero,i.size,i.bytes)) = some (some (.int .i64 0),1,8) := by kernel_rfl
theorem info37 : (Try.prog.info? 37).map (fun i => (i.zero,i.size,i.bytes)) = some (some (.slice none 0 0),1,24) := by kernel_rfl
structure S23 where
 f0 : Int
 f1 : Int
 f2 : Int
 f3 : Int
 f4 : Int
 f5 : Int
 f6 : Int
structure S25 where
 f0 : Int
 f1 : Int
 f2 : Int
 f3 : Int
 f4 : Int
 f5 : Int
def rd_L4 (xs : List (List Int)) (i : Int) : (List Int) := xs.getD i.toNat ([] : List Int)
theorem at_L4 {w : World} {A : Option Addr} {n : Nat} {xs : List (List Int)} (h : Kd.C (Kd.slice 3 (Kd.int .i64)) w A n xs) (i : Int) (h0 : 0 ≤ i) (h1 : i < n) : ∃ ad A0 c0,A = some ad ∧ w.cell? (ad.add i.toNat) = some (.slice A0 (rd_L4 xs i).length c0) ∧ (rd_L4 xs i).length ≤ c0 ∧ (Kd.int .i64).C w A0 (rd_L4 xs i).length (rd_L4 xs i) := by
 obtain ⟨ad,c,e,_,hK,hc0⟩ := Kd.C_get h ([] : List Int) i h0 h1; have hc : ∀ j u,c[j]? = some u → w.cell? (ad.add (i.toNat * 1 + j)) = some u := hc0; obtain ⟨A0,c0,rfl,l0,g0⟩ := hK; exact ⟨ad,A0,c0,e,by have hq := hc 0 _ rfl; rwa [Nat.mul_one,Nat.add_zero] at hq,l0,g0⟩
end Go.Proofs.Ytcdiecgenpigbaa.PA

namespace Go.Proofs.Ytcdiecgenpigbaa.PA
open Go.RowKit Go.Proofs.YtcdiecgenpigbaaW.PrintWords Go.Proofs.YtcdiecgenpigbaaW.PrintLast Go.Proofs.YtcdiecgenpigbaaW.PrintMore
attribute [local go_sem] ZQ ZS ZZ ZY ZL ZM ZT ZU
set_option linter.unusedVariables false
set_option linter.unusedSimpArgs false
theorem eqA25 (d : Nat) (w : World) (x0 y0 : Int) (x1 y1 : Int) (x2 y2 : Int) (x3 y3 : Int) (x4 y4 : Int) (x5 y5 : Int) :
 (Op.equalIn (d + 2) 25 (.agg #[.int .i64 x0,.int .i64 x1,.int .i64 x2,.int .i64 x3,.int .i64 x4,.int .i64 x5]) (.agg #[.int .i64 y0,.int .i64 y1,.int .i64 y2,.int .i64 y3,.int .i64 y4,.int .i64 y5])).run Try.prog w = .ok (x0 == y0 && (x1 == y1 && (x2 == y2 && (x3 == y3 && (x4 == y4 && (x5 == y5)))))) w := by
 refine eqA_of Try.underlying25 (by kernel_rfl) ?_; refine X9 (by rfl) (by go_simp; rfl) (by go_simp; rfl) (by go_simp) ?_; refine X9 (by rfl) (by go_simp; rfl) (by go_simp; rfl) (by go_simp) ?_; refine X9 (by rfl) (by go_simp; rfl) (by go_simp; rfl) (by go_simp) ?_; refine X9 (by rfl) (by go_simp; rfl) (by go_simp; rfl) (by go_simp) ?_; refine X9 (by rfl) (by go_simp; rfl) (by go_simp; rfl) (by go_simp) ?_; exact eqf_last (by rfl) (by go_simp; rfl) (by go_simp; rfl) (by go_simp)
end Go.Proofs.Ytcdiecgenpigbaa.PA

namespace Go
open Go.RowKit
set_option linter.unusedVariables false
variable {F : Fence} {n : Nat} {P : Program}
def roundPostP (P : Program) (l : Nat) (R : Ending → World → Prop) : Exit → Act → World → Prop
 | .normal,_,w => ∃ v w',(Instr.endRound l none).run P w = .ok v w' ∧ R (.returned v) w'
 | .panic chain,a,w => a.defers = [] ∧ R (.panicked chain) w
 | _,_,_ => False
theorem roundIn_of_wpInP {l : Nat} {f : FuncId} {fn : Func} {tmps : Array Value} {assign body : Code} {w : World} {R : Ending → World → Prop} (hF : F.fn f) (hfn : P.funcs[f]? = some fn)
 (h : assign.wpIn (F.inRound l) n P (Exit.then (fun a₁ w₁ => ∃ w₂,(Instr.beginRound l).run P w₁ = .ok () w₂ ∧ body.wpIn (F.inRound l) n P (roundPostP P l R) a₁ w₂) (fun _ _ _ => False))
  { tmps := tmps,defers := [] } w) :
 RoundIn F n P l f tmps assign body w R := by
 refine ⟨hF,fun c cs hr => ?_⟩
 let b : Frame := { (default : Frame) with fn := f,kind := .normal,roundOf := some l }
 have hb0 : Frame.round l f tmps assign body .normal = b.atR { tmps := tmps,defers := [] } [.code assign,.beginRound,.code body] := by
  simp [Frame.round,Frame.atR,b]
 have hr' : (F.inRound l).room ((c :: cs).length + 1 + n) := hr; have hF' : (F.inRound l).fn b.fn := hF; obtain ⟨e,a₁,w₁,hq,harr⟩ := h b [.beginRound,.code body] (c :: cs) rfl hF' hr'; rw [← hb0] at harr
 cases e with
 | normal =>
  obtain ⟨w₂,hbr,hbody⟩ := hq
  have s1 : StepsIn (Machine.fenced P (F.inRound l)) P (lone (b.atR a₁ [.beginRound,.code body]) (c :: cs) w₁) (lone (b.atR a₁ [.code body]) (c :: cs) w₂) :=
   .one (fenced_calm (fr := b.atR a₁ [.beginRound,.code body]) hF' hr' rfl) (stepR_beginRound rfl hbr)
  obtain ⟨e₂,a₂,w₃,hq₂,harr₂⟩ := hbody b [] (c :: cs) rfl hF' hr'
  cases e₂ with
  | normal =>
   obtain ⟨v,w₄,hend,hR⟩ := hq₂; exact ⟨.returned v,w₄,hR,(StepsIn.trans harr s1).trans (StepsIn.trans harr₂ (.one (fenced_calm (fr := b.atR a₂ []) hF' hr' rfl) (stepR_round_end rfl rfl hend)))⟩
  | panic chain =>
   obtain ⟨hd,hR⟩ := hq₂; obtain ⟨todo,hs⟩ := harr₂
   have hleave : Frame.leaving P { b.atR a₂ todo with mode := .panicking chain } w₃ (.panicked chain) := ⟨rfl,hd,fn,hfn⟩
   exact ⟨.panicked chain,w₃,hR,(StepsIn.trans harr s1).trans (StepsIn.trans hs (.one (fenced_leaving (n := n) hF' hr' hleave) (step_leave_panicked hleave)))⟩
  | ret => exact hq₂.elim
  | exit id => exact hq₂.elim
  | goto t => exact hq₂.elim
  | outgrown => exact hq₂.elim
 | exit id => exact hq.elim
 | goto t => exact hq.elim
 | ret => exact hq.elim
 | panic chain => exact hq.elim
 | outgrown => exact hq.elim
def panPost {α : Type} (I : List α → World → Prop) (Ip : List PanicEntry → World → Prop) (Kt : World → World → Prop) (xs : List α) (W : World) : Exit → Act → World → Prop
 | .normal,_,W' => KeepsOthers W W' ∧ I xs W' ∧ Kt W W'
 | .panic ch,a,W' => a.defers = [] ∧ KeepsOthers W W' ∧ Ip ch W'
 | _,_,_ => False
def IterP {α : Type} (F : Fence) (n : Nat) (P : Program) (g : Nat) (lb : Array Value) (encs : α → Array Value) (all : List α) (Kt Ti : World → World → Prop) (w : World) : Prop :=
 ∀ (l : Nat) (J : List α → World → Prop) (Jp : List PanicEntry → World → Prop) (W : World),Kt w W → (∀ pre A B,J pre A → Ti A B → J pre B) →
  (∀ pre x W1,J pre W1 → (∃ rest,pre ++ x :: rest = all) → YieldAt F (n - 1) P l (encs x) W1 fun e W' => (e = .returned (.bool true) ∧ J (pre ++ [x]) W' ∧ Kt W1 W') ∨ (∃ ch,e = .panicked ch ∧ Jp ch W')) →
  J [] W → CallsIn F n P g (#[.func (.yield l) #[] #[]] ++ lb) W fun e W' => (∃ v,e = .returned v ∧ J all W') ∨ (∃ ch,e = .panicked ch ∧ Jp ch W')
theorem wpIn_rangeFunc_P {α : Type} {g : Operand} {ps : Array Tmp} {assign body : Code} {Q : Exit → Act → World → Prop} {a : Act} {w : World}
 (hro : F.round = none) (h1 : 1 ≤ n) {gf : Nat} {lb : Array Value} (hg : a.eval g = .func (.func gf) #[] lb) (hFg : F.fn gf) (eg : ∀ args w,(callFunc gf args).run P w = .ok (.enter gf args) w)
 (hfnP : ∀ fn,F.fn fn → ∃ f,P.funcs[fn]? = some f)
 {encs : α → Array Value} {all : List α} {Kt Ti : World → World → Prop} (hseq : IterP F (n - 1) P gf lb encs all Kt Ti w) (hps : ∀ x,(encs x).size = ps.size)
 (hKt : ∀ A B C,Kt A B → Kt B C → Kt A C) (hKa : ∀ (W : World) (o : Obj),Kt W (W.alloc o)) (hKp : ∀ (W : World) (l : Nat) (o o' : Obj),W.heap[l]? = some o → o.isCells = false → Kt W (W.putObj l o'))
 (hTi : ∀ (A B : World) (k : Nat) (o : Obj),Ti A B → A.heap[k]? = some o → o.isCells = false → B.heap[k]? = some o)
 (I : List α → World → Prop) (Ip : List PanicEntry → World → Prop) (hIa : ∀ pre (W : World) (o : Obj),I pre W → I pre (W.alloc o)) (hIp : ∀ pre (W : World) (l : Nat) (o o' : Obj),I pre W → w.heap.size ≤ l → W.heap[l]? = some o → o.isCells = false → I pre (W.putObj l o')) (hIt : ∀ pre A B,I pre A → Ti A B → I pre B)
 (h0 : I [] w) (Ax : List α → α → Act → World → Prop) (hAx : ∀ pre x a' (W : World) (l : Nat) (o o' : Obj),Ax pre x a' W → w.heap.size ≤ l → W.heap[l]? = some o → o.isCells = false → Ax pre x a' (W.putObj l o'))
 (hassign : ∀ (l : Nat) (pre : List α) (x : α) (W : World) (K : Act → World → Prop),I pre W → (∀ a' W',Ax pre x a' W' → KeepsOthers W W' → Kt W W' → K a' W') →
  assign.wpIn (F.inRound l) (n - 1 - 1) P (Exit.then K (fun _ _ _ => False)) { tmps := (ps.zip (encs x)).foldl (fun t (p,v) => t.setIfInBounds p v) a.tmps,defers := [] } W)
 (hbody : ∀ (l : Nat) (pre : List α) (x : α) (a' : Act) (W : World),Ax pre x a' W → (∃ rest,pre ++ x :: rest = all) → body.wpIn (F.inRound l) (n - 1 - 1) P (panPost I Ip Kt (pre ++ [x]) W) a' W)
 (hdone : ∀ (D : Nat) (W : World),I all W → w.heap.size ≤ D → W.heap[D]? = some (.deferred (some [])) → Q .normal { a with defers := { target := .collected D,args := #[] } :: a.defers } W)
 (hpanic : ∀ (D : Nat) (ch : List PanicEntry) (W : World),Ip ch W → w.heap.size ≤ D → W.heap[D]? = some (.deferred (some [])) → Q (.panic ch) { a with defers := { target := .collected D,args := #[] } :: a.defers } W) :
 (Code.rangeFunc g ps assign body).wpIn F n P Q a w := by
 refine wpIn_rangeFunc ?_; intro fn hfn; obtain ⟨fd,hfd⟩ := hfnP fn hfn; rw [hro]
 obtain ⟨rec,hrec⟩ : ∃ rec : LoopState → Option Code → Loop,rec = fun st pe => { state := st,pending := pe,fn,tmps := a.tmps,params := ps,assign,body,defers := w.heap.size } := ⟨_,rfl⟩
 obtain ⟨W1,hW1⟩ : ∃ W1,(w.alloc (.deferred (some []))).alloc (.loop (rec .ready none)) = W1 := ⟨_,rfl⟩
 have hL1 : W1.heap[w.heap.size + 1]? = some (.loop (rec .ready none)) := by
  rw [← hW1]; have := World.alloc_heap_new (w.alloc (.deferred (some []))) (.loop (rec .ready none)); rwa [World.size_alloc] at this
 have hK1 : W1.heap[w.heap.size]? = some (.deferred (some [])) := by
  rw [← hW1]; exact (Below.heap_alloc _ _ _ (by simp)).trans (World.alloc_heap_new w _)
 have hI1 : I [] W1 := by rw [← hW1]; exact hIa _ _ _ (hIa _ _ _ h0)
 have hb1 : Kt w W1 := by rw [← hW1]; exact hKt _ _ _ (hKa _ _) (hKa _ _)
 refine ⟨w.heap.size + 1,[{ target := .collected w.heap.size,args := #[] }],W1,{ target := .fn (.func gf) lb,args := #[.func (.yield (w.heap.size + 1)) #[] #[]] },W1,gf,
  #[.func (.yield (w.heap.size + 1)) #[] #[]] ++ lb,W1,?_,?_,?_,?_,fun _ => h1,?_⟩
 · rw [← hW1,hrec]; exact run_enterLoop_outer _ _ _ _ _
 · simp only [resolve,hg]
   simp [go_sem]
 · intro f' hf'; simp [Target.leads] at hf'; subst hf'; exact hFg
 · simp [invoke,go_sem,eg]
 · refine (hseq (w.heap.size + 1)
    (fun pre W => I pre W ∧ W.heap[w.heap.size + 1]? = some (.loop (rec .ready none)) ∧ W.heap[w.heap.size]? = some (.deferred (some [])))
    (fun ch W => Ip ch W ∧ W.heap[w.heap.size]? = some (.deferred (some [])))
    W1 hb1
    (fun pre A B hs ht => ⟨hIt pre A B hs.1 ht,hTi A B _ _ ht hs.2.1 rfl,hTi A B _ _ ht hs.2.2 rfl⟩)
    ?_ ⟨hI1,hL1,hK1⟩).mono ?_
   ·
    rintro pre x W ⟨hi,hl,hk⟩ hlen; have hlt : w.heap.size + 1 < W.heap.size := (Array.getElem?_eq_some_iff.1 hl).1; have hy := run_yield (P := P) (args := encs x) hl (by rw [hrec]; exact hps x); rw [hrec] at hy; refine ⟨fn,_,assign,body,hy,roundIn_of_wpInP hfn hfd (hassign _ pre x W _ hi ?_)⟩; intro a' Wa hax hka hkt; have hla := hka.same _ _ hl rfl; have hkka := hka.same _ _ hk rfl; have hlta : w.heap.size + 1 < Wa.heap.size := (Array.getElem?_eq_some_iff.1 hla).1; refine ⟨_,run_beginRound hla (by rw [hrec]),?_⟩; have hl2 : (Wa.putObj (w.heap.size + 1) (.loop { rec .ready none with state := .busy })).heap[w.heap.size + 1]? = some (.loop { rec .ready none with state := .busy }) := World.putObj_heap_same hlta; have hk2 : (Wa.putObj (w.heap.size + 1) (.loop { rec .ready none with state := .busy })).heap[w.heap.size]? = some (.deferred (some [])) := (World.putObj_heap_other (by omega)).trans hkka; have hkt2 : Kt W (Wa.putObj (w.heap.size + 1) (.loop { rec .ready none with state := .busy })) := hKt _ _ _ hkt (hKp _ _ _ _ hla rfl); refine wpIn_mono (hbody _ pre x _ _ (hAx _ _ _ _ _ _ _ hax (by omega) hla rfl) hlen) ?_; rintro e a3 W3 hp
    cases e with
    | normal =>
     obtain ⟨hk3,hi3,hkt3⟩ := hp; have hl3 := hk3.same _ _ hl2 rfl; have hr := run_endRound (P := P) none hl3; have hlt3 : w.heap.size + 1 < W3.heap.size := (Array.getElem?_eq_some_iff.1 hl3).1; refine ⟨_,_,hr,.inl ⟨rfl,⟨hIp _ _ _ _ _ hi3 (by omega) hl3 rfl,?_,(World.putObj_heap_other (by omega)).trans (hk3.same _ _ hk2 rfl)⟩,hKt _ _ _ hkt2 (hKt _ _ _ hkt3 (hKp _ _ _ _ hl3 rfl))⟩⟩; refine (World.putObj_heap_same hlt3).trans ?_; rw [hrec]; rfl
    | panic ch =>
     obtain ⟨hd,hk3,hip⟩ := hp; exact ⟨hd,.inr ⟨ch,rfl,hip,hk3.same _ _ hk2 rfl⟩⟩
    | ret => exact hp.elim
    | exit id => exact hp.elim
    | goto t => exact hp.elim
    | outgrown => exact hp.elim
   ·
    rintro e W2 (⟨v,rfl,hi,hl,hk⟩ | ⟨ch,rfl,hip,hk⟩)
    · exact ⟨none,_,by have := run_endLoop (P := P) hl (by rw [hrec]; simp); rw [hrec] at this; exact this,hdone _ _ (hIp _ _ _ _ _ hi (by omega) hl rfl) (Nat.le_refl _) ((World.putObj_heap_other (by omega)).trans hk)⟩
    · exact hpanic _ ch _ hip (Nat.le_refl _) hk
def quietPost {α : Type} (I : List α → World → Prop) (Kt : World → World → Prop) (xs : List α) (W : World) : Exit → Act → World → Prop
 | .normal,_,W' => KeepsOthers W W' ∧ I xs W' ∧ Kt W W'
 | _,_,_ => False
theorem wpIn_rangeFunc_N {α : Type} {g : Operand} {ps : Array Tmp} {assign body : Code} {Q : Exit → Act → World → Prop} {a : Act} {w : World}
 (hro : F.round = none) (h1 : 1 ≤ n) {gf : Nat} {lb : Array Value} (hg : a.eval g = .func (.func gf) #[] lb) (hFg : F.fn gf) (eg : ∀ args w,(callFunc gf args).run P w = .ok (.enter gf args) w)
 {encs : α → Array Value} {all : List α} {Kt Ti : World → World → Prop} (hseq : IterP F (n - 1) P gf lb encs all Kt Ti w) (hps : ∀ x,(encs x).size = ps.size)
 (hKt : ∀ A B C,Kt A B → Kt B C → Kt A C) (hKa : ∀ (W : World) (o : Obj),Kt W (W.alloc o)) (hKp : ∀ (W : World) (l : Nat) (o o' : Obj),W.heap[l]? = some o → o.isCells = false → Kt W (W.putObj l o'))
 (hTi : ∀ (A B : World) (k : Nat) (o : Obj),Ti A B → A.heap[k]? = some o → o.isCells = false → B.heap[k]? = some o)
 (I : List α → World → Prop) (hIa : ∀ pre (W : World) (o : Obj),I pre W → I pre (W.alloc o)) (hIp : ∀ pre (W : World) (l : Nat) (o o' : Obj),I pre W → w.heap.size ≤ l → W.heap[l]? = some o → o.isCells = false → I pre (W.putObj l o')) (hIt : ∀ pre A B,I pre A → Ti A B → I pre B)
 (h0 : I [] w) (Ax : List α → α → Act → World → Prop) (hAx : ∀ pre x a' (W : World) (l : Nat) (o o' : Obj),Ax pre x a' W → w.heap.size ≤ l → W.heap[l]? = some o → o.isCells = false → Ax pre x a' (W.putObj l o'))
 (hassign : ∀ (l : Nat) (pre : List α) (x : α) (W : World) (K : Act → World → Prop),I pre W → (∀ a' W',Ax pre x a' W' → KeepsOthers W W' → Kt W W' → K a' W') →
  assign.wpIn (F.inRound l) (n - 1 - 1) P (Exit.then K (fun _ _ _ => False)) { tmps := (ps.zip (encs x)).foldl (fun t (p,v) => t.setIfInBounds p v) a.tmps,defers := [] } W)
 (hbody : ∀ (l : Nat) (pre : List α) (x : α) (a' : Act) (W : World),Ax pre x a' W → (∃ rest,pre ++ x :: rest = all) → body.wpIn (F.inRound l) (n - 1 - 1) P (quietPost I Kt (pre ++ [x]) W) a' W)
 (hdone : ∀ (D : Nat) (W : World),I all W → w.heap.size ≤ D → W.heap[D]? = some (.deferred (some [])) → Q .normal { a with defers := { target := .collected D,args := #[] } :: a.defers } W) :
 (Code.rangeFunc g ps assign body).wpIn F n P Q a w := by
 refine wpIn_rangeFunc ?_; intro fn hfn; rw [hro]
 obtain ⟨rec,hrec⟩ : ∃ rec : LoopState → Option Code → Loop,rec = fun st pe => { state := st,pending := pe,fn,tmps := a.tmps,params := ps,assign,body,defers := w.heap.size } := ⟨_,rfl⟩
 obtain ⟨W1,hW1⟩ : ∃ W1,(w.alloc (.deferred (some []))).alloc (.loop (rec .ready none)) = W1 := ⟨_,rfl⟩
 have hL1 : W1.heap[w.heap.size + 1]? = some (.loop (rec .ready none)) := by
  rw [← hW1]; have := World.alloc_heap_new (w.alloc (.deferred (some []))) (.loop (rec .ready none)); rwa [World.size_alloc] at this
 have hK1 : W1.heap[w.heap.size]? = some (.deferred (some [])) := by
  rw [← hW1]; exact (Below.heap_alloc _ _ _ (by simp)).trans (World.alloc_heap_new w _)
 have hI1 : I [] W1 := by rw [← hW1]; exact hIa _ _ _ (hIa _ _ _ h0)
 have hb1 : Kt w W1 := by rw [← hW1]; exact hKt _ _ _ (hKa _ _) (hKa _ _)
 refine ⟨w.heap.size + 1,[{ target := .collected w.heap.size,args := #[] }],W1,{ target := .fn (.func gf) lb,args := #[.func (.yield (w.heap.size + 1)) #[] #[]] },W1,gf,
  #[.func (.yield (w.heap.size + 1)) #[] #[]] ++ lb,W1,?_,?_,?_,?_,fun _ => h1,?_⟩
 · rw [← hW1,hrec]; exact run_enterLoop_outer _ _ _ _ _
 · simp only [resolve,hg]
   simp [go_sem]
 · intro f' hf'; simp [Target.leads] at hf'; subst hf'; exact hFg
 · simp [invoke,go_sem,eg]
 · refine (hseq (w.heap.size + 1)
    (fun pre W => I pre W ∧ W.heap[w.heap.size + 1]? = some (.loop (rec .ready none)) ∧ W.heap[w.heap.size]? = some (.deferred (some [])))
    (fun _ _ => False)
    W1 hb1
    (fun pre A B hs ht => ⟨hIt pre A B hs.1 ht,hTi A B _ _ ht hs.2.1 rfl,hTi A B _ _ ht hs.2.2 rfl⟩)
    ?_ ⟨hI1,hL1,hK1⟩).mono ?_
   ·
    rintro pre x W ⟨hi,hl,hk⟩ hlen; have hlt : w.heap.size + 1 < W.heap.size := (Array.getElem?_eq_some_iff.1 hl).1; have hy := run_yield (P := P) (args := encs x) hl (by rw [hrec]; exact hps x); rw [hrec] at hy; refine ⟨fn,_,assign,body,hy,roundIn_of_wpIn hfn (hassign _ pre x W _ hi ?_)⟩; intro a' Wa hax hka hkt; have hla := hka.same _ _ hl rfl; have hkka := hka.same _ _ hk rfl; have hlta : w.heap.size + 1 < Wa.heap.size := (Array.getElem?_eq_some_iff.1 hla).1; refine ⟨_,run_beginRound hla (by rw [hrec]),?_⟩; have hl2 : (Wa.putObj (w.heap.size + 1) (.loop { rec .ready none with state := .busy })).heap[w.heap.size + 1]? = some (.loop { rec .ready none with state := .busy }) := World.putObj_heap_same hlta; have hk2 : (Wa.putObj (w.heap.size + 1) (.loop { rec .ready none with state := .busy })).heap[w.heap.size]? = some (.deferred (some [])) := (World.putObj_heap_other (by omega)).trans hkka; have hkt2 : Kt W (Wa.putObj (w.heap.size + 1) (.loop { rec .ready none with state := .busy })) := hKt _ _ _ hkt (hKp _ _ _ _ hla rfl); refine wpIn_mono (hbody _ pre x _ _ (hAx _ _ _ _ _ _ _ hax (by omega) hla rfl) hlen) ?_; rintro e a3 W3 hp
    cases e with
    | normal =>
     obtain ⟨hk3,hi3,hkt3⟩ := hp; have hl3 := hk3.same _ _ hl2 rfl; have hr := run_endRound (P := P) none hl3; have hlt3 : w.heap.size + 1 < W3.heap.size := (Array.getElem?_eq_some_iff.1 hl3).1; refine ⟨_,_,hr,.inl ⟨rfl,⟨hIp _ _ _ _ _ hi3 (by omega) hl3 rfl,?_,(World.putObj_heap_other (by omega)).trans (hk3.same _ _ hk2 rfl)⟩,hKt _ _ _ hkt2 (hKt _ _ _ hkt3 (hKp _ _ _ _ hl3 rfl))⟩⟩; refine (World.putObj_heap_same hlt3).trans ?_; rw [hrec]; rfl
    | panic ch => exact hp.elim
    | ret => exact hp.elim
    | exit id => exact hp.elim
    | goto t => exact hp.elim
    | outgrown => exact hp.elim
   ·
    rintro e W2 (⟨v,rfl,hi,hl,hk⟩ | ⟨ch,_,hip⟩)
    · exact ⟨none,_,by have := run_endLoop (P := P) hl (by rw [hrec]; simp); rw [hrec] at this; exact this,hdone _ _ (hIp _ _ _ _ _ hi (by omega) hl rfl) (Nat.le_refl _) ((World.putObj_heap_other (by omega)).trans hk)⟩
    · exact hip.elim
end Go

namespace Go.Proofs.Ytcdiecgenpigbaa.PA
open Go.RowKit Go.Shelf Go.Proofs.YtcdiecgenpigbaaW.PrintWords Go.Proofs.YtcdiecgenpigbaaW.PrintLast Go.Proofs.YtcdiecgenpigbaaW.PrintMore
attribute [local go_sem] Oper.semAt_some
set_option linter.unusedVariables false
set_option linter.unusedSimpArgs false
theorem w64 {x : Int} (h0 : -9223372036854775808 ≤ x) (h1 : x ≤ 9223372036854775807) : wrap64 x = x := by unfold wrap64; omega
def upN (n t : Int) : Int := (n + t - 1) / t * t
theorem Xl {n t : Int} (ht : 1 ≤ t) : n ≤ upN n t ∧ upN n t ≤ n + t - 1 := by
 unfold upN; have h1 := Int.ediv_mul_le (n + t - 1) (show t ≠ 0 by omega); have h2 := Int.lt_ediv_add_one_mul_self (n + t - 1) (show 0 < t by omega); rw [Int.add_mul,Int.one_mul] at h2; omega
def blkF (al sz : Int) (B : Nat) : Nat → Nat → Int → List ((Int × Int) × Int)
 | 0,_,_ => []
 | m + 1,t,at' => ((((t / B : Nat) : Int),((t % B : Nat) : Int)),upN at' al) :: blkF al sz B m (t + 1) (upN at' al + sz)
def endF (al sz : Int) : Nat → Int → Int
 | 0,at' => at'
 | m + 1,at' => endF al sz m (upN at' al + sz)
theorem XH {al sz : Int} (ha : 1 ≤ al) (ha2 : al ≤ 256) (hs : 0 ≤ sz) (hs2 : sz ≤ 65536) : ∀ (m : Nat) (at' : Int),at' ≤ endF al sz m at' ∧ endF al sz m at' ≤ at' + m * 65791
 | 0,at' => by simp [endF]
 | m + 1,at' => by
  have h1 := Xl (n := at') ha; have h2 := XH ha ha2 hs hs2 m (upN at' al + sz); simp only [endF]; omega
set_option maxRecDepth 100000 in
theorem up_in (F : Fence) (n : Nat) (h24 : F.fn 24) (hro : F.round = none) (x t : Int) (hx : 0 ≤ x) (hx2 : x ≤ 2000000000) (ht : 1 ≤ t) (ht2 : t ≤ 65536) (w : World) :
 CallsIn F n Try.prog 24 #[.int .i64 x,.int .i64 t] w fun ee w' => ee = .returned (.int .i64 (upN x t)) ∧ w' = w := by
 have hb := Xl (n := x) ht; have e1 : wrap64 (x + t) = x + t := w64 (by omega) (by omega); have e2 : wrap64 (x + t - 1) = x + t - 1 := w64 (by omega) (by omega); have e3 : (x + t - 1).tdiv t = (x + t - 1) / t := Int.tdiv_eq_ediv_of_nonneg (by omega)
 have e4 : wrap64 ((x + t - 1) / t) = (x + t - 1) / t := by
  have : 0 ≤ (x + t - 1) / t := Int.ediv_nonneg (by omega) (by omega); have : (x + t - 1) / t ≤ x + t - 1 := Int.ediv_le_self _ (by omega); exact w64 (by omega) (by omega)
 have e5 : wrap64 ((x + t - 1) / t * t) = upN x t := w64 (by unfold upN at hb; omega) (by unfold upN at hb; omega)
 have ht0 : ¬ t = 0 := by omega
 refine callsIn_of_wp Try.func24 rfl h24 ?_ hro; simp only [Try.ntmps24,List.size_toArray,List.length_cons,List.length_nil,Nat.reduceAdd,Nat.reduceSub,Array.replicate_succ,Array.replicate_zero,List.push_toArray,List.append_toArray,List.nil_append,List.cons_append]
 gi_wp2
 go_ret; exact ⟨by rw [e5]; rfl,rfl⟩
def KtB (bD bA : Nat) (A B : World) : Prop := ∀ (k : Nat) (cs : Array Value) (t : TypeId),((k = bD ∧ t = 25) ∨ (k = bA ∧ t = 3)) → A.heap[k]? = some (.cells cs t (0,0)) → B.heap[k]? = some (.cells cs t (0,0))
def TiB (bA : Nat) (A B : World) : Prop := ∃ x : Int,B = A.setCell ⟨bA,0,none⟩ (.int .i64 x)
def encB (x : (Int × Int) × Int) : Array Value := #[.agg #[.int .i64 x.1.1,.int .i64 x.1.2],.int .i64 x.2]
def atOf (v : Value) : Nat := match v with
 | .int _ x => x.toNat
 | _ => 0
theorem Xc (W : World) (q : Nat) (v : Value) (k : Nat) (h : k ≠ q) : (W.setCell ⟨q,0,none⟩ v).heap[k]? = W.heap[k]? := Below.heap_setCell W ⟨q,0,none⟩ v k h
theorem QI {W : World} {B q : Nat} {t : TypeId} {v : Value} (h : Boxed W B t v) (hne : B ≠ q) (x : Value) : Boxed (W.setCell ⟨q,0,none⟩ x) B t v := (Xc W q x B hne).trans h
def dealAt (W : World) (b : Nat) (c bl sz st al kd : Int) : Prop := W.heap[b]? = some (.cells #[.int .i64 c,.int .i64 bl,.int .i64 sz,.int .i64 st,.int .i64 al,.int .i64 kd] 25 (0,0))
structure DealOk (c bl sz al : Int) : Prop where
 c0 : 0 ≤ c
 c1 : c ≤ 64
 b0 : 1 ≤ bl
 b1 : bl ≤ 8
 s0 : 0 ≤ sz
 s1 : sz ≤ 65536
 a0 : 1 ≤ al
 a1 : al ≤ 256
set_option maxRecDepth 100000 in
set_option maxHeartbeats 8000000 in
theorem Qf (F : Fence) (n : Nat) (h48 : F.fn 48) (h24 : F.fn 24) (hro : F.round = none) (hn : 2 ≤ n) (bD bA : Nat) (hne : bD ≠ bA) (c bl sz st al kd : Int) (hok : DealOk c bl sz al) (a0 : Int) (ha0 : 0 ≤ a0) (ha1 : a0 ≤ 1000000000) (w : World)
 (hD : dealAt w bD c bl sz st al kd) (hA : Boxed w bA 3 (.int .i64 a0)) :
 IterP F n Try.prog 48 #[.pointer (some ⟨bD,0,none⟩),.pointer (some ⟨bA,0,none⟩)] encB (blkF al sz bl.toNat (c.toNat * bl.toNat) 0 a0) (KtB bD bA) (TiB bA) w := by
 intro l J Jp W hK hT hY h0
 have hn1 : 1 ≤ n := by omega
 have hD := hK _ _ _ (.inl ⟨rfl,rfl⟩) hD; have hA : Boxed W bA 3 _ := hK _ _ _ (.inr ⟨rfl,rfl⟩) hA; clear hK; obtain ⟨o1,o2,o3,o4,o5,o6,o7,o8⟩ := hok
 have kD0 : W.cell? ⟨bD,0,none⟩ = some (.int .i64 c) := by simp [World.cell?,hD]
 refine callsIn_of_wp Try.func48 rfl h48 ?_ hro; simp only [Try.ntmps48,List.size_toArray,List.length_cons,List.length_nil,Nat.reduceAdd,Nat.reduceSub,Array.replicate_succ,Array.replicate_zero,List.push_toArray,List.append_toArray,List.nil_append,List.cons_append]
 gi_wp2
 gi_loopw [8] (fun (s8 : Value) wr => ∃ (i : Nat) (pre : List ((Int × Int) × Int)) (a : Int),s8 = .int .i64 (i : Int) ∧ i ≤ c.toNat ∧ 0 ≤ a ∧ a ≤ 1000000000 + (i * bl.toNat : Nat) * 65791 ∧ blkF al sz bl.toNat (c.toNat * bl.toNat) 0 a0 = pre ++ blkF al sz bl.toNat ((c.toNat - i) * bl.toNat) (i * bl.toNat) a ∧ Boxed wr bA 3 (.int .i64 a) ∧ dealAt wr bD c bl sz st al kd ∧ J pre wr)
  (fun s8 wr => c.toNat - atOf s8)
 case atStart => exact ⟨0,[],a0,rfl,Nat.zero_le _,ha0,by simpa using ha1,by simp,hA,hD,h0⟩
 case round =>
  obtain ⟨i,pre,a,rfl,hi,y0,y1,hx,hA',hD',hJ⟩ := hrel; unfold dealAt at hD'
  have kD1 : wr.cell? ⟨bD,1,none⟩ = some (.int .i64 bl) := by simp [World.cell?,hD']
  by_cases hlt : (i : Int) < c
  · obtain ⟨P,hP⟩ : ∃ P,i * bl.toNat = P := ⟨_,rfl⟩
    have hP1 : P ≤ 504 := by
     have := Nat.mul_le_mul (show i ≤ 63 by omega) (show bl.toNat ≤ 8 by omega); omega
    have hrem : (c.toNat - i) * bl.toNat = bl.toNat + (c.toNat - (i + 1)) * bl.toNat := by
     rw [show c.toNat - i = (c.toNat - (i + 1)) + 1 by omega,Nat.add_mul,Nat.one_mul,Nat.add_comm]
    obtain ⟨M,hM⟩ : ∃ M,(c.toNat - (i + 1)) * bl.toNat = M := ⟨_,rfl⟩
    rw [hrem,hM,hP] at hx; rw [hP] at y1
    gi_wp2
    gi_loopw [13] (fun (s13 : Value) wr2 => ∃ (k : Nat) (pre2 : List ((Int × Int) × Int)) (a2 : Int),s13 = .int .i64 (k : Int) ∧ k ≤ bl.toNat ∧ 0 ≤ a2 ∧ a2 ≤ 1000000000 + (P + k : Nat) * 65791 ∧ blkF al sz bl.toNat (c.toNat * bl.toNat) 0 a0 = pre2 ++ blkF al sz bl.toNat (bl.toNat - k + M) (P + k) a2 ∧ Boxed wr2 bA 3 (.int .i64 a2) ∧ dealAt wr2 bD c bl sz st al kd ∧ J pre2 wr2)
     (fun s13 wr2 => bl.toNat - atOf s13)
    case atStart => exact ⟨0,pre,a,rfl,Nat.zero_le _,y0,by simpa using y1,by simpa using hx,hA',hD',hJ⟩
    case round =>
     clear hJ hA' hD' hx kD1 y1 y0; obtain ⟨k,pre2,a2,rfl,hk,y0,y1,hx,hA',hD',hJ⟩ := hrel; unfold dealAt at hD'
     by_cases hkl : (k : Int) < bl
     · have hcA := hA'.cell
       have hfA := hA'.frozen
       have kD4 : wr.cell? ⟨bD,4,none⟩ = some (.int .i64 al) := by simp [World.cell?,hD']
       obtain ⟨m,hm⟩ : ∃ m,bl.toNat - k + M = m + 1 := ⟨bl.toNat - k + M - 1,by omega⟩
       have hb := Xl (n := a2) o7
       obtain ⟨g,hg⟩ : ∃ g,upN a2 al = g := ⟨_,rfl⟩
       have hdv : (P + k) / bl.toNat = i := by
        rw [← hP,Nat.mul_comm,Nat.mul_add_div (by omega),Nat.div_eq_of_lt (by omega),Nat.add_zero]
       have hmd : (P + k) % bl.toNat = k := by
        rw [← hP,Nat.mul_comm,Nat.mul_add_mod,Nat.mod_eq_of_lt (by omega)]
       rw [hm] at hx; simp only [blkF,hdv,hmd] at hx
       have hcall : ∀ w,CallsIn F (n - 1) Try.prog 24 #[.int .i64 a2,.int .i64 al] w fun ee w' => ee = .returned (.int .i64 (upN a2 al)) ∧ w' = w := fun w => up_in F (n - 1) h24 hro a2 al y0 (by omega) o7 (by omega) w
       rw [hg] at hx hb hcall; have hD1 : dealAt (wr.setCell ⟨bA,0,none⟩ (.int .i64 g)) bD c bl sz st al kd := (Xc wr bA _ bD hne).trans hD'; have hA1 : Boxed (wr.setCell ⟨bA,0,none⟩ (.int .i64 g)) bA 3 (.int .i64 g) := hA'.set _; have hcA1 := hA1.cell; have hJ1 := hT _ _ _ hJ ⟨g,rfl⟩; obtain ⟨fn,tmps,assign,body,hy,hR⟩ := hY pre2 (((i : Int),(k : Int)),g) _ hJ1 ⟨_,hx.symm⟩; dsimp only [encB] at hy; have hdeal1 := hD1; unfold dealAt at hD1
       gi_wp2_with (gi_at_call 24; refine (hcall _).mono ?_; rintro ee w' ⟨rfl,rfl⟩)
       refine hR.mono ?_; rintro ee W3 (⟨rfl,hJ3,hk3⟩ | ⟨ch,rfl,hJp⟩)
       · have hD3 := hk3 _ _ _ (.inl ⟨rfl,rfl⟩) hdeal1
         have hA3 : Boxed W3 bA 3 _ := hk3 _ _ _ (.inr ⟨rfl,rfl⟩) hA1; clear hcA hfA kD4 hcA1 hy hR hk3 hJ1 hJ; have cA := hA3.cell; have fA := hA3.frozen
         have cD2 : W3.cell? ⟨bD,2,none⟩ = some (.int .i64 sz) := by simp [World.cell?,hD3]
         have hw : wrap64 (g + sz) = g + sz := w64 (by omega) (by omega)
         gi_wp2
         go_roundw
         case rel => exact ⟨k + 1,pre2 ++ [(((i : Int),(k : Int)),g)],g + sz,by simp,by omega,by omega,by omega,by rw [hx,show bl.toNat - (k + 1) + M = m by omega,show P + (k + 1) = P + k + 1 by omega]; simp,hA3.set _,(Xc W3 bA _ bD hne).trans hD3,hT _ _ _ hJ3 ⟨_,rfl⟩⟩
         case measure => simp only [atOf]; omega
       · gi_wp2
         exact ⟨rfl,.inr ⟨ch,rfl,hJp⟩⟩
     · gi_wp2
       have hkb : k = bl.toNat := by omega
       have h2 : (i + 1) * bl.toNat = P + bl.toNat := by rw [Nat.add_mul,Nat.one_mul,hP]
       refine ⟨⟨i + 1,pre2,a2,by simp,by omega,y0,by rw [h2,← hkb]; exact y1,?_,hA',hD',hJ⟩,by simp only [atOf]; omega⟩; rw [hx,h2,hM,hkb,Nat.sub_self,Nat.zero_add]
  · gi_wp2
    go_end0; exact .inl ⟨⟨_,rfl⟩,by simpa [blkF] using hJ⟩
end Go.Proofs.Ytcdiecgenpigbaa.PA

namespace Go.Proofs.Ytcdiecgenpigbaa.PA
open Go.RowKit Go.Shelf Go.Proofs.YtcdiecgenpigbaaW.PrintWords Go.Proofs.YtcdiecgenpigbaaW.PrintLast Go.Proofs.YtcdiecgenpigbaaW.PrintMore
attribute [local go_sem] Oper.semAt_some
set_option linter.unusedVariables false
set_option linter.unusedSimpArgs false
theorem Qx (F : Fence) (n : Nat) (h30 : F.fn 30) (hro : F.round = none) (c bl sz st al kd a0 : Int) (w : World) :
 CallsIn F n Try.prog 30 #[.agg #[.int .i64 c,.int .i64 bl,.int .i64 sz,.int .i64 st,.int .i64 al,.int .i64 kd],.int .i64 a0] w fun ee w' =>
  ee = .returned (.func (.func 48) #[] #[.pointer (some ⟨w.heap.size,0,none⟩),.pointer (some ⟨w.heap.size + 1,0,none⟩)]) ∧
  w' = (w.alloc (.cells #[.int .i64 c,.int .i64 bl,.int .i64 sz,.int .i64 st,.int .i64 al,.int .i64 kd] 25)).alloc (.cells #[.int .i64 a0] 3) := by
 refine callsIn_of_wp Try.func30 rfl h30 ?_ hro; simp only [Try.ntmps30,List.size_toArray,List.length_cons,List.length_nil,Nat.reduceAdd,Nat.reduceSub,Array.replicate_succ,Array.replicate_zero,List.push_toArray,List.append_toArray,List.nil_append,List.cons_append]
 gi_wp2
 go_ret; exact ⟨rfl,rfl⟩
theorem hal (W : World) (o : Obj) (k : Nat) : (W.alloc o).heap[k]? = if k = W.heap.size then some o else W.heap[k]? := by
 by_cases h : k = W.heap.size
 · rw [if_pos h,h]; exact World.alloc_heap_new W o
 · rw [if_neg h]
   show (W.heap.push o)[k]? = _; simp [Array.getElem?_push,h]
structure Ie (c bl sz st al kd a0 : Int) (m : Nat) (w : World) (pre : List ((Int × Int) × Int)) (k : Nat) (a : Int) (W : World) : Prop where
 dl : dealAt W m c bl sz st al kd
 bl' : Below m w W
 ab : Boxed W (m + 1) 3 (.int .i64 a)
 k1 : k ≤ c.toNat * bl.toNat
 p0 : 0 ≤ a
 p1 : a ≤ 1000000000 + k * 65791
 all : blkF al sz bl.toNat (c.toNat * bl.toNat) 0 a0 = pre ++ blkF al sz bl.toNat (c.toNat * bl.toNat - k) k a
 fin : endF al sz (c.toNat * bl.toNat) a0 = endF al sz (c.toNat * bl.toNat - k) a
theorem Xn {W : World} {l k : Nat} {o : Obj} {cs : Array Value} {t : TypeId} (h : W.heap[k]? = some (.cells cs t (0,0))) (ho : W.heap[l]? = some o) (hc : o.isCells = false) : k ≠ l := fun e => by subst e; rw [h] at ho; cases ho; cases hc
set_option maxRecDepth 100000 in
set_option maxHeartbeats 8000000 in
theorem ends_in (F : Fence) (n : Nat) (h25 : F.fn 25) (h30 : F.fn 30) (h48 : F.fn 48) (h24 : F.fn 24) (hro : F.round = none) (hfnP : ∀ fn,F.fn fn → ∃ f,Try.prog.funcs[fn]? = some f) (hn : 5 ≤ n) (c bl sz st al kd : Int) (hok : DealOk c bl sz al) (a0 : Int) (ha0 : 0 ≤ a0) (ha1 : a0 ≤ 1000000000) (w : World) :
 CallsIn F n Try.prog 25 #[.agg #[.int .i64 c,.int .i64 bl,.int .i64 sz,.int .i64 st,.int .i64 al,.int .i64 kd],.int .i64 a0] w fun ee W' =>
  ee = .returned (.int .i64 (endF al sz (c.toNat * bl.toNat) a0)) ∧ Below w.heap.size w W' := by
 have h1 : 1 ≤ n := by omega
 refine callsIn_of_wp_marks Try.func25 rfl h25 ?_ hro; simp only [Try.ntmps25,List.size_toArray,List.length_cons,List.length_nil,Nat.reduceAdd,Nat.reduceSub,Array.replicate_succ,Array.replicate_zero,List.push_toArray,List.append_toArray,List.nil_append,List.cons_append]
 gi_wp2_with (gi_at_call 30; refine (Qx F (n - 1) h30 hro c bl sz st al kd a0 _).mono ?_; rintro ee w' ⟨rfl,rfl⟩)
 obtain ⟨W0,hW0⟩ : ∃ W0,((((w.alloc (Obj.cells #[.int .i64 c,.int .i64 bl,.int .i64 sz,.int .i64 st,.int .i64 al,.int .i64 kd] 25)).alloc (Obj.cells #[.int .i64 a0] 3)).alloc (Obj.cells #[.int .i64 c,.int .i64 bl,.int .i64 sz,.int .i64 st,.int .i64 al,.int .i64 kd] 25)).alloc (Obj.cells #[.int .i64 a0] 3)) = W0 := ⟨_,rfl⟩
 have sz' : W0.heap.size = w.heap.size + 4 := by rw [← hW0]; simp
 have hB0 : Below w.heap.size w W0 := by
  rw [← hW0]; exact ((((Below.refl _ w).alloc (by simp) _).alloc (by simp) _).alloc (by simp; omega) _).alloc (by simp; omega) _
 have g0 : dealAt W0 w.heap.size c bl sz st al kd := by
  unfold dealAt; rw [← hW0]; simp only [hal,World.size_alloc]; repeat (first | rw [if_pos (by omega)] | rw [if_pos trivial] | rw [if_neg (by omega)])
 have g1 : Boxed W0 (w.heap.size + 1) 3 (.int .i64 a0) := by
  unfold Boxed; rw [← hW0]; simp only [hal,World.size_alloc]; repeat (first | rw [if_pos (by omega)] | rw [if_pos trivial] | rw [if_neg (by omega)])
 have g2 : dealAt W0 (w.heap.size + 1 + 1) c bl sz st al kd := by
  unfold dealAt; rw [← hW0]; simp only [hal,World.size_alloc]; repeat (first | rw [if_pos (by omega)] | rw [if_pos trivial] | rw [if_neg (by omega)])
 have g3 : Boxed W0 (w.heap.size + 1 + 1 + 1) 3 (.int .i64 a0) := by
  unfold Boxed; rw [← hW0]; simp only [hal,World.size_alloc]; repeat (first | rw [if_pos (by omega)] | rw [if_pos trivial] | rw [if_neg (by omega)])
 rw [hW0]; clear hW0
 refine wpIn_rangeFunc_P (n := n) hro h1 (gf := 48) (lb := #[.pointer (some ⟨w.heap.size + 1 + 1,0,none⟩),.pointer (some ⟨w.heap.size + 1 + 1 + 1,0,none⟩)]) rfl h48 (enters_of Try.func48 (by kernel_rfl) rfl) hfnP
  (Qf F (n - 1) h48 h24 hro (by omega) (w.heap.size + 1 + 1) (w.heap.size + 1 + 1 + 1) (by omega) c bl sz st al kd hok a0 ha0 ha1 W0 g2 g3) (fun _ => rfl)
  (fun A B C h k j cs t hj hh => k j cs t hj (h j cs t hj hh)) (fun W o j cs t hj hh => (Below.heap_alloc W o j (Array.getElem?_eq_some_iff.1 hh).1).trans hh)
  (fun W l o o' hl ho j cs t hj hh => (World.putObj_heap_other (fun ee => by subst ee; rw [hl] at hh; cases hh; cases ho)).trans hh)
  (fun A B k o ht hk ho => by obtain ⟨x,rfl⟩ := ht; exact (KeepsOthers.setCell A ⟨_,0,none⟩ _).same k o hk ho)
  (fun pre W => ∃ k a,Ie c bl sz st al kd a0 w.heap.size w pre k a W) (fun _ _ => False)
  ?Ia ?Ip ?It ?I0
  (fun pre x a' W => (∃ k a,Ie c bl sz st al kd a0 w.heap.size w pre k a W) ∧ a' = { tmps := #[.agg #[.int .i64 c,.int .i64 bl,.int .i64 sz,.int .i64 st,.int .i64 al,.int .i64 kd],.int .i64 a0,.pointer (some ⟨w.heap.size,0,none⟩),.pointer (some ⟨w.heap.size + 1,0,none⟩),.int .i64 0,undef,.int .i64 x.2,.agg #[.int .i64 c,.int .i64 bl,.int .i64 sz,.int .i64 st,.int .i64 al,.int .i64 kd],.int .i64 a0,.func (.func 48) #[] #[.pointer (some ⟨w.heap.size + 1 + 1,0,none⟩),.pointer (some ⟨w.heap.size + 1 + 1 + 1,0,none⟩)],.agg #[.int .i64 x.1.1,.int .i64 x.1.2],.int .i64 x.2,undef,undef,undef,undef,undef],defers := [] })
  ?Axp ?assign ?body ?done ?panic
 case Ia =>
  rintro pre W o ⟨k,a,h⟩; exact ⟨k,a,(Below.heap_alloc W o _ (Array.getElem?_eq_some_iff.1 h.dl).1).trans h.dl,h.bl'.alloc h.bl'.size _,h.ab.alloc o,h.k1,h.p0,h.p1,h.all,h.fin⟩
 case Ip =>
  rintro pre W l o o' ⟨k,a,h⟩ hl ho hc; exact ⟨k,a,(World.putObj_heap_other (Xn h.dl ho hc)).trans h.dl,h.bl'.grown (grownBy_putObj' W l o') h.bl'.size (fun k ek => by cases ek; omega),h.ab.kept (grownBy_putObj' W l o') (fun ee => Xn h.ab ho hc (Option.some.inj ee)),h.k1,h.p0,h.p1,h.all,h.fin⟩
 case It =>
  rintro pre A B ⟨k,a,h⟩ ⟨x,rfl⟩; exact ⟨k,a,(Xc A _ _ _ (by omega)).trans h.dl,h.bl'.setCell (p := ⟨w.heap.size + 1 + 1 + 1,0,none⟩) (by simp; omega) _,QI h.ab (by omega) _,h.k1,h.p0,h.p1,h.all,h.fin⟩
 case I0 => exact ⟨0,a0,g0,hB0,g1,Nat.zero_le _,ha0,by simpa using ha1,by simp,by simp⟩
 case Axp =>
  rintro pre x a' W l o o' ⟨⟨k,a,h⟩,rfl⟩ hl ho hc; exact ⟨⟨k,a,(World.putObj_heap_other (Xn h.dl ho hc)).trans h.dl,h.bl'.grown (grownBy_putObj' W l o') h.bl'.size (fun k ek => by cases ek; omega),h.ab.kept (grownBy_putObj' W l o') (fun ee => Xn h.ab ho hc (Option.some.inj ee)),h.k1,h.p0,h.p1,h.all,h.fin⟩,rfl⟩
 case assign =>
  rintro l pre x W K hI hK; simp only [encB]
  gi_wp2
  exact hK _ _ ⟨hI,rfl⟩ (KeepsOthers.refl _) (fun j cs t hj hh => hh)
 case body =>
  rintro l pre x a' W ⟨⟨k,a,h⟩,rfl⟩ ⟨rest,hrest⟩; have hcan : x :: rest = blkF al sz bl.toNat (c.toNat * bl.toNat - k) k a := List.append_cancel_left (hrest.trans h.all)
  obtain ⟨m,hm⟩ : ∃ m,c.toNat * bl.toNat - k = m + 1 := by
   cases hq : c.toNat * bl.toNat - k with
   | zero => rw [hq] at hcan; cases hcan
   | succ m => exact ⟨m,rfl⟩
  have hall := h.all; have hfin := h.fin; rw [hm] at hcan hall hfin; simp only [blkF] at hcan hall; simp only [endF] at hfin; obtain ⟨rfl,hr⟩ := List.cons.inj hcan; have hb := Xl (n := a) hok.a0
  obtain ⟨g,hg⟩ : ∃ g,upN a al = g := ⟨_,rfl⟩
  rw [hg] at hall hfin hb ⊢; have hk1 := h.k1
  have hN : c.toNat * bl.toNat ≤ 512 := by
   have := Nat.mul_le_mul (show c.toNat ≤ 64 by have := hok.c1; omega) (show bl.toNat ≤ 8 by have := hok.b1; omega); omega
  obtain ⟨o1,o2,o3,o4,o5,o6,o7,o8⟩ := hok; have hp0 := h.p0; have hp1 := h.p1; have cA := h.ab.cell; have fA := h.ab.frozen
  have cD2 : W.cell? ⟨w.heap.size,2,none⟩ = some (.int .i64 sz) := by have := h.dl; unfold dealAt at this; simp [World.cell?,this]
  have hw : wrap64 (g + sz) = g + sz := w64 (by omega) (by omega)
  gi_wp2
  refine ⟨KeepsOthers.setCell _ _ _,⟨k + 1,g + sz,?_⟩,fun j cs t hj hh => (Xc W _ _ _ (by omega)).trans hh⟩; exact ⟨(Xc W _ _ _ (by omega)).trans h.dl,h.bl'.setCell (p := ⟨w.heap.size + 1,0,none⟩) (by simp) _,h.ab.set _,by omega,by omega,by omega,by rw [hall,show c.toNat * bl.toNat - (k + 1) = m by omega]; simp,by rw [hfin,show c.toNat * bl.toNat - (k + 1) = m by omega]⟩
 case done =>
  rintro D W ⟨k,a,h⟩ hD hK; have ca := h.ab.cell
  have hnil : blkF al sz bl.toNat (c.toNat * bl.toNat - k) k a = [] := by
   have := congrArg List.length h.all; rw [List.length_append] at this; exact List.length_eq_zero_iff.1 (by omega)
  have hz : c.toNat * bl.toNat - k = 0 := by
   cases hq : c.toNat * bl.toNat - k with
   | zero => rfl
   | succ m => rw [hq] at hnil; cases hnil
  have hend : endF al sz (c.toNat * bl.toNat) a0 = a := by rw [h.fin,hz]; rfl
  gi_wp2
  show LeavesInM F n Try.prog Try.f25 _ _ _ _ _; refine ⟨by simp,.inl ⟨D,_,rfl,run_takeDeferred hK,?_⟩⟩; exact ⟨_,results_tmp rfl _ _ _,by rw [hend]; rfl,h.bl'.grown (grownBy_putObj' W D _) h.bl'.size (fun k ek => by cases ek; omega)⟩
 case panic =>
  rintro D ch W h hD hK; exact h.elim
end Go.Proofs.Ytcdiecgenpigbaa.PA

namespace Go.Proofs.Ytcdiecgenpigbaa.PA
open Go.RowKit Go.Proofs.YtcdiecgenpigbaaW.PrintWords Go.Proofs.YtcdiecgenpigbaaW.PrintLast Go.Proofs.YtcdiecgenpigbaaW.PrintMore
attribute [local go_sem] ZQ ZS ZZ ZY ZL ZM ZT ZU
set_option linter.unusedVariables false
set_option linter.unusedSimpArgs false
def Zq.f (a0 : Int) (a1 : Int) (a2 : Int) : Option (Bool) := if a0 ≥ a1 then (some (decide (a0 ≤ a2))) else (some false)
set_option maxHeartbeats 8000000 in
set_option maxRecDepth 100000 in
theorem Zq.calls (a0 : Int) (a1 : Int) (a2 : Int) (r : Bool) (w : World) (h : Zq.f a0 a1 a2 = some r) :
 Calls Try.prog 23 #[.int .i64 a0,.int .i64 a1,.int .i64 a2] w fun e w' => e = .returned (.bool r) ∧ Drawn0 w w' := by
 have H : (if a0 ≥ a1 then (some (decide (a0 ≤ a2))) else (some false)) = some r := h; clear h
 by_cases c4 : a0 ≥ a1
 · rw [if_pos c4] at H
   have c4b0 : decide (a1 ≤ a0) = true := decide_eq_true c4; clear c4; obtain rfl := Option.some.inj H
   go_enter Try.func23,Try.ntmps23
   go_wp2
   go_ret; exact ⟨by first | rfl | (simp; done) | (simp [*]; done),by repeat (first | exact Drawn0.refl _ | apply Drawn0.step)⟩
 · rw [if_neg c4] at H
   have c4b0 : decide (a1 ≤ a0) = false := decide_eq_false c4; clear c4; obtain rfl := Option.some.inj H
   go_enter Try.func23,Try.ntmps23
   go_wp2
   go_ret; exact ⟨by first | rfl | (simp; done) | (simp [*]; done),by repeat (first | exact Drawn0.refl _ | apply Drawn0.step)⟩
end Go.Proofs.Ytcdiecgenpigbaa.PA

namespace Go.Proofs.Ytcdiecgenpigbaa.PA
open Go.RowKit Go.Proofs.YtcdiecgenpigbaaW.PrintWords Go.Proofs.YtcdiecgenpigbaaW.PrintLast Go.Proofs.YtcdiecgenpigbaaW.PrintMore
attribute [local go_sem] ZQ ZS ZZ ZY ZL ZM ZT ZU
set_option linter.unusedVariables false
set_option linter.unusedSimpArgs false
def ZP.f (a0 : Int) : Option (Bool) := (Zq.f a0 1 256).bind fun t148 => (if t148 = true then (some ((Go.bits .and .i64 a0 (wrap64 (a0 - 1))) == 0)) else (some false))
set_option maxHeartbeats 8000000 in
set_option maxRecDepth 100000 in
theorem ZP.calls (a0 : Int) (r : Bool) (w : World) (h : ZP.f a0 = some r) :
 Calls Try.prog 36 #[.int .i64 a0] w fun e w' => e = .returned (.bool r) ∧ Drawn0 w w' := by
 have H : ((Zq.f a0 1 256).bind fun t148 => (if t148 = true then (some ((Go.bits .and .i64 a0 (wrap64 (a0 - 1))) == 0)) else (some false))) = some r := h; clear h; replace H := Option.bind_eq_some_iff.mp H; obtain ⟨t148,A20,H⟩ := H; replace H : (if t148 = true then (some ((Go.bits .and .i64 a0 (wrap64 (a0 - 1))) == 0)) else (some false)) = some r := H; have A2 := Zh.mk A20; clear A20
 by_cases c3 : t148 = true
 · subst c3
   have H1 : (some ((Go.bits .and .i64 a0 (wrap64 (a0 - 1))) == 0)) = some r := by rw [if_pos rfl] at H; exact H
   clear H; have H := H1; clear H1; obtain rfl := Option.some.inj H
   go_enter Try.func36,Try.ntmps36
   go_wp2_with (first | ((with_reducible refine Z3 (f := 23) rfl ?_); refine ZE (some 4) rfl rfl Try.func23 (by kernel_rfl) rfl #[.int .i64 a0,.int .i64 1,.int .i64 256] rfl (by (try simp only [List.map_toArray,List.map_cons,List.map_nil]); first | done | rfl | (simp only [List.length_drop,List.length_take]; rfl)) ?_; (with_reducible refine (Zq.calls a0 1 256 true _ A2.out).mono ?_); rintro e w' ⟨rfl,⟨nd,rfl⟩⟩; refine ⟨_,rfl,?_⟩))
   go_ret; exact ⟨by first | rfl | (simp; done) | (simp [*]; done),by repeat (first | exact Drawn0.refl _ | apply Drawn0.step)⟩
 · replace c3 := Bool.eq_false_iff.mpr c3
   subst c3
   have H1 : (some false) = some r := by rw [if_neg (show ¬ (false = true) by decide)] at H; exact H
   clear H; have H := H1; clear H1; obtain rfl := Option.some.inj H
   go_enter Try.func36,Try.ntmps36
   go_wp2_with (first | ((with_reducible refine Z3 (f := 23) rfl ?_); refine ZE (some 4) rfl rfl Try.func23 (by kernel_rfl) rfl #[.int .i64 a0,.int .i64 1,.int .i64 256] rfl (by (try simp only [List.map_toArray,List.map_cons,List.map_nil]); first | done | rfl | (simp only [List.length_drop,List.length_take]; rfl)) ?_; (with_reducible refine (Zq.calls a0 1 256 false _ A2.out).mono ?_); rintro e w' ⟨rfl,⟨nd,rfl⟩⟩; refine ⟨_,rfl,?_⟩))
   go_ret; exact ⟨by first | rfl | (simp; done) | (simp [*]; done),by repeat (first | exact Drawn0.refl _ | apply Drawn0.step)⟩
end Go.Proofs.Ytcdiecgenpigbaa.PA

namespace Go.Proofs.Ytcdiecgenpigbaa.PA
open Go.RowKit Go.Shelf Go.Proofs.YtcdiecgenpigbaaW.PrintWords Go.Proofs.YtcdiecgenpigbaaW.PrintLast Go.Proofs.YtcdiecgenpigbaaW.PrintMore
set_option linter.unusedVariables false
set_option linter.unusedSimpArgs false
theorem fence_room (k : Nat) : (Fence.list [25,30,48,24] none).room k := by simp [Fence.room,Fence.list]
def ZK.f (a0_0 a0_1 a0_2 a0_3 a0_4 a0_5 : Int) (a1 : Int) : Option Int :=
 if 0 ≤ a0_0 ∧ a0_0 ≤ 64 ∧ 1 ≤ a0_1 ∧ a0_1 ≤ 8 ∧ 0 ≤ a0_2 ∧ a0_2 ≤ 65536 ∧ 1 ≤ a0_4 ∧ a0_4 ≤ 256 ∧ 0 ≤ a1 ∧ a1 ≤ 1000000000 then some (endF a0_4 a0_2 (a0_0.toNat * a0_1.toNat) a1) else none
theorem ZK.calls (a0_0 : Int) (a0_1 : Int) (a0_2 : Int) (a0_3 : Int) (a0_4 : Int) (a0_5 : Int) (a1 : Int) (r : Int) (w : World) (h : ZK.f a0_0 a0_1 a0_2 a0_3 a0_4 a0_5 a1 = some r) :
 Calls Try.prog 25 #[.agg #[.int .i64 a0_0,.int .i64 a0_1,.int .i64 a0_2,.int .i64 a0_3,.int .i64 a0_4,.int .i64 a0_5],.int .i64 a1] w fun e w' => e = .returned (.int .i64 r) ∧ Below w.heap.size w w' := by
 unfold ZK.f at h; split at h
 · rename_i hc
   obtain ⟨h1,h2,h3,h4,h5,h6,h7,h8,h9,h10⟩ := hc; rw [← Option.some.inj h]; refine (ends_in (Fence.list [25,30,48,24] none) 5 (by simp [Fence.list]) (by simp [Fence.list]) (by simp [Fence.list]) (by simp [Fence.list]) rfl ?_ (by omega) a0_0 a0_1 a0_2 a0_3 a0_4 a0_5 ⟨h1,h2,h3,h4,h5,h6,h7,h8⟩ a1 h9 h10 w).calls fence_room; intro fn h
   have : fn = 25 ∨ fn = 30 ∨ fn = 48 ∨ fn = 24 := by simpa [Fence.list] using h
   rcases this with rfl | rfl | rfl | rfl
   · exact ⟨_,Try.func25⟩
   · exact ⟨_,Try.func30⟩
   · exact ⟨_,Try.func48⟩
   · exact ⟨_,Try.func24⟩
 · cases h
def alB (n : Int) : Bool := decide (1 ≤ n ∧ n ≤ 256) && (Go.bits .and .i64 n (wrap64 (n - 1)) == 0)
def inB (n a b : Int) : Bool := decide (a ≤ n ∧ n ≤ b)
theorem Xi (n a b : Int) : Zq.f n a b = some (inB n a b) := by
 unfold Zq.f inB
 by_cases h : a ≤ n
 · rw [if_pos h]; simp [h]
 · rw [if_neg h]; simp [h]
theorem Qk (n : Int) : ZP.f n = some (alB n) := by
 unfold ZP.f alB; rw [Xi]; simp only [Option.bind_some,inB]
 by_cases h : 1 ≤ n ∧ n ≤ 256
 · rw [decide_eq_true h]; simp
 · rw [decide_eq_false h]; simp
def wantAt (W : World) (b : Nat) (a0 a1 a2 a3 a4 a5 a6 : Int) : Prop := W.heap[b]? = some (.cells #[.int .i64 a0,.int .i64 a1,.int .i64 a2,.int .i64 a3,.int .i64 a4,.int .i64 a5,.int .i64 a6] 23 (0,0))
section
variable (b : Nat) (a0 a1 a2 a3 a4 a5 a6 : Int) (w : World) (h : wantAt w b a0 a1 a2 a3 a4 a5 a6)
include h
theorem valid1 : Calls Try.prog 32 #[.pointer (some ⟨b,0,none⟩)] w fun e w' => e = .returned (.bool (inB a0 1 64 && inB a1 a0 64)) ∧ Drawn0 w w' := by
 have c0 : w.cell? ⟨b,0,none⟩ = some (.int .i64 a0) := by unfold wantAt at h; simp [World.cell?,h]
 have c1 : w.cell? ⟨b,1,none⟩ = some (.int .i64 a1) := by unfold wantAt at h; simp [World.cell?,h]
 have h1 := Xi a0 1 64; have h2 := Xi a1 a0 64
 cases q1 : inB a0 1 64 with
 | true =>
  rw [q1] at h1
  cases q2 : inB a1 a0 64 with
  | true =>
   rw [q2] at h2
   go_enter Try.func32,Try.ntmps32
   go_wp2_with (first | (go_at_call 23; (with_reducible refine (Zq.calls a0 1 64 true _ h1).mono ?_); rintro e w' ⟨rfl,⟨nd,rfl⟩⟩) | (go_at_call 23; (with_reducible refine (Zq.calls a1 a0 64 true _ h2).mono ?_); rintro e w' ⟨rfl,⟨nd,rfl⟩⟩))
   go_ret; exact ⟨rfl,⟨_,rfl⟩⟩
  | false =>
   rw [q2] at h2
   go_enter Try.func32,Try.ntmps32
   go_wp2_with (first | (go_at_call 23; (with_reducible refine (Zq.calls a0 1 64 true _ h1).mono ?_); rintro e w' ⟨rfl,⟨nd,rfl⟩⟩) | (go_at_call 23; (with_reducible refine (Zq.calls a1 a0 64 false _ h2).mono ?_); rintro e w' ⟨rfl,⟨nd,rfl⟩⟩))
   go_ret; exact ⟨rfl,⟨_,rfl⟩⟩
 | false =>
  rw [q1] at h1
  go_enter Try.func32,Try.ntmps32
  go_wp2_with (first | (go_at_call 23; (with_reducible refine (Zq.calls a0 1 64 false _ h1).mono ?_); rintro e w' ⟨rfl,⟨nd,rfl⟩⟩))
  go_ret; exact ⟨rfl,⟨_,rfl⟩⟩
theorem valid2 : Calls Try.prog 33 #[.pointer (some ⟨b,0,none⟩)] w fun e w' => e = .returned (.bool (inB a2 1 8)) ∧ Drawn0 w w' := by
 have c2 : w.cell? ⟨b,2,none⟩ = some (.int .i64 a2) := by unfold wantAt at h; simp [World.cell?,h]
 have h1 := Xi a2 1 8; generalize inB a2 1 8 = q at h1 ⊢
 go_enter Try.func33,Try.ntmps33
 go_wp2_with (first | (go_at_call 23; (with_reducible refine (Zq.calls a2 1 8 q _ h1).mono ?_); rintro e w' ⟨rfl,⟨nd,rfl⟩⟩))
 go_ret; exact ⟨rfl,⟨_,rfl⟩⟩
theorem valid3 : Calls Try.prog 34 #[.pointer (some ⟨b,0,none⟩)] w fun e w' => e = .returned (.bool (inB a4 1 256 && inB a3 a4 65536)) ∧ Drawn0 w w' := by
 have c0 : w.cell? ⟨b,4,none⟩ = some (.int .i64 a4) := by unfold wantAt at h; simp [World.cell?,h]
 have c1 : w.cell? ⟨b,3,none⟩ = some (.int .i64 a3) := by unfold wantAt at h; simp [World.cell?,h]
 have h1 := Xi a4 1 256; have h2 := Xi a3 a4 65536
 cases q1 : inB a4 1 256 with
 | true =>
  rw [q1] at h1
  cases q2 : inB a3 a4 65536 with
  | true =>
   rw [q2] at h2
   go_enter Try.func34,Try.ntmps34
   go_wp2_with (first | (go_at_call 23; (with_reducible refine (Zq.calls a4 1 256 true _ h1).mono ?_); rintro e w' ⟨rfl,⟨nd,rfl⟩⟩) | (go_at_call 23; (with_reducible refine (Zq.calls a3 a4 65536 true _ h2).mono ?_); rintro e w' ⟨rfl,⟨nd,rfl⟩⟩))
   go_ret; exact ⟨rfl,⟨_,rfl⟩⟩
  | false =>
   rw [q2] at h2
   go_enter Try.func34,Try.ntmps34
   go_wp2_with (first | (go_at_call 23; (with_reducible refine (Zq.calls a4 1 256 true _ h1).mono ?_); rintro e w' ⟨rfl,⟨nd,rfl⟩⟩) | (go_at_call 23; (with_reducible refine (Zq.calls a3 a4 65536 false _ h2).mono ?_); rintro e w' ⟨rfl,⟨nd,rfl⟩⟩))
   go_ret; exact ⟨rfl,⟨_,rfl⟩⟩
 | false =>
  rw [q1] at h1
  go_enter Try.func34,Try.ntmps34
  go_wp2_with (first | (go_at_call 23; (with_reducible refine (Zq.calls a4 1 256 false _ h1).mono ?_); rintro e w' ⟨rfl,⟨nd,rfl⟩⟩))
  go_ret; exact ⟨rfl,⟨_,rfl⟩⟩
theorem valid4 : Calls Try.prog 35 #[.pointer (some ⟨b,0,none⟩)] w fun e w' => e = .returned (.bool (alB a5 && inB a6 1 255)) ∧ Drawn0 w w' := by
 have c0 : w.cell? ⟨b,5,none⟩ = some (.int .i64 a5) := by unfold wantAt at h; simp [World.cell?,h]
 have c1 : w.cell? ⟨b,6,none⟩ = some (.int .i64 a6) := by unfold wantAt at h; simp [World.cell?,h]
 have h1 := Qk a5; have h2 := Xi a6 1 255
 cases q1 : alB a5 with
 | true =>
  rw [q1] at h1
  cases q2 : inB a6 1 255 with
  | true =>
   rw [q2] at h2
   go_enter Try.func35,Try.ntmps35
   go_wp2_with (first | (go_at_call 36; (with_reducible refine (ZP.calls a5 true _ h1).mono ?_); rintro e w' ⟨rfl,⟨nd,rfl⟩⟩) | (go_at_call 23; (with_reducible refine (Zq.calls a6 1 255 true _ h2).mono ?_); rintro e w' ⟨rfl,⟨nd,rfl⟩⟩))
   go_ret; exact ⟨rfl,⟨_,rfl⟩⟩
  | false =>
   rw [q2] at h2
   go_enter Try.func35,Try.ntmps35
   go_wp2_with (first | (go_at_call 36; (with_reducible refine (ZP.calls a5 true _ h1).mono ?_); rintro e w' ⟨rfl,⟨nd,rfl⟩⟩) | (go_at_call 23; (with_reducible refine (Zq.calls a6 1 255 false _ h2).mono ?_); rintro e w' ⟨rfl,⟨nd,rfl⟩⟩))
   go_ret; exact ⟨rfl,⟨_,rfl⟩⟩
 | false =>
  rw [q1] at h1
  go_enter Try.func35,Try.ntmps35
  go_wp2_with (first | (go_at_call 36; (with_reducible refine (ZP.calls a5 false _ h1).mono ?_); rintro e w' ⟨rfl,⟨nd,rfl⟩⟩))
  go_ret; exact ⟨rfl,⟨_,rfl⟩⟩
end
def q0 (a0 a1 a2 a3 a4 a5 a6 : Int) : Bool := (inB a0 1 64 && inB a1 a0 64)
def q1 (a0 a1 a2 a3 a4 a5 a6 : Int) : Bool := inB a2 1 8
def q2 (a0 a1 a2 a3 a4 a5 a6 : Int) : Bool := (inB a4 1 256 && inB a3 a4 65536)
def q3 (a0 a1 a2 a3 a4 a5 a6 : Int) : Bool := (alB a5 && inB a6 1 255)
def validW (a0 a1 a2 a3 a4 a5 a6 : Int) : Bool := q0 a0 a1 a2 a3 a4 a5 a6 && (q1 a0 a1 a2 a3 a4 a5 a6 && (q2 a0 a1 a2 a3 a4 a5 a6 && q3 a0 a1 a2 a3 a4 a5 a6))
def pre_q : Nat → Int → Int → Int → Int → Int → Int → Int → Bool
 | 0 => q0
 | 1 => q1
 | 2 => q2
 | _ => q3
theorem hix0 (W : World) (p : Value) : (Instr.index 71 (.agg #[.func (.func 32) #[] #[p],.func (.func 33) #[] #[p],.func (.func 34) #[] #[p],.func (.func 35) #[] #[p]]) (.int .i64 0)).run Try.prog W = .ok (.func (.func 32) #[] #[p]) W := by kernel_rfl
theorem hix1 (W : World) (p : Value) : (Instr.index 71 (.agg #[.func (.func 32) #[] #[p],.func (.func 33) #[] #[p],.func (.func 34) #[] #[p],.func (.func 35) #[] #[p]]) (.int .i64 1)).run Try.prog W = .ok (.func (.func 33) #[] #[p]) W := by kernel_rfl
theorem hix2 (W : World) (p : Value) : (Instr.index 71 (.agg #[.func (.func 32) #[] #[p],.func (.func 33) #[] #[p],.func (.func 34) #[] #[p],.func (.func 35) #[] #[p]]) (.int .i64 2)).run Try.prog W = .ok (.func (.func 34) #[] #[p]) W := by kernel_rfl
theorem hix3 (W : World) (p : Value) : (Instr.index 71 (.agg #[.func (.func 32) #[] #[p],.func (.func 33) #[] #[p],.func (.func 34) #[] #[p],.func (.func 35) #[] #[p]]) (.int .i64 3)).run Try.prog W = .ok (.func (.func 35) #[] #[p]) W := by kernel_rfl
set_option maxRecDepth 100000 in
set_option maxHeartbeats 8000000 in
theorem valid_calls (a0 a1 a2 a3 a4 a5 a6 : Int) (w : World) : Calls Try.prog 11 #[.agg #[.int .i64 a0,.int .i64 a1,.int .i64 a2,.int .i64 a3,.int .i64 a4,.int .i64 a5,.int .i64 a6]] w fun e w' => e = .returned (.bool (validW a0 a1 a2 a3 a4 a5 a6)) ∧ Below w.heap.size w w' := by
 have hmf : ∀ (fn : Fn) (first cap : Array Value) (w : World),(Instr.makeFunc fn first cap).run Try.prog w = .ok (.func fn first cap) w := fun _ _ _ _ => rfl
 go_enter Try.func11,Try.ntmps11
 go_wp2
 have hval : ∀ i,(∀ n,n < i → pre_q n a0 a1 a2 a3 a4 a5 a6 = true) → (∃ n,n < 4 ∧ pre_q n a0 a1 a2 a3 a4 a5 a6 = false) → validW a0 a1 a2 a3 a4 a5 a6 = false := by
  rintro i _ ⟨n,hn,hf⟩; unfold validW
  match n,hn,hf with
  | 0,_,hf => simp [show q0 a0 a1 a2 a3 a4 a5 a6 = false from hf]
  | 1,_,hf => simp [show q1 a0 a1 a2 a3 a4 a5 a6 = false from hf]
  | 2,_,hf => simp [show q2 a0 a1 a2 a3 a4 a5 a6 = false from hf]
  | 3,_,hf => simp [show q3 a0 a1 a2 a3 a4 a5 a6 = false from hf]
 go_loopg [12] 4 (fun gg s12 wr => ∃ i : Nat,s12 = .int .i64 (i : Int) ∧ i ≤ 4 ∧ 4 - i ≤ gg ∧ (∀ n,n < i → pre_q n a0 a1 a2 a3 a4 a5 a6 = true) ∧ wantAt wr w.heap.size a0 a1 a2 a3 a4 a5 a6 ∧ Below w.heap.size w wr)
 case atStart =>
  refine ⟨0,rfl,by omega,by omega,fun n hn => by omega,?_,((Below.refl _ w).alloc (by simp) _).alloc (by simp) _⟩; unfold wantAt; simp only [hal,World.size_alloc]
  repeat (first | rw [if_pos (by omega)] | rw [if_pos trivial] | rw [if_neg (by omega)])
 case round =>
  obtain ⟨i,rfl,hi,hg,hpre,hW,hB⟩ := hrel
  have h5 : i = 0 ∨ i = 1 ∨ i = 2 ∨ i = 3 ∨ i = 4 := by omega
  rcases h5 with rfl | rfl | rfl | rfl | rfl
  · have hix : ∀ W,(Instr.index 71 (.agg #[.func (.func 32) #[] #[.pointer (some ⟨w.heap.size,0,none⟩)],.func (.func 33) #[] #[.pointer (some ⟨w.heap.size,0,none⟩)],.func (.func 34) #[] #[.pointer (some ⟨w.heap.size,0,none⟩)],.func (.func 35) #[] #[.pointer (some ⟨w.heap.size,0,none⟩)]]) (.int .i64 0)).run Try.prog W = .ok (.func (.func 32) #[] #[.pointer (some ⟨w.heap.size,0,none⟩)]) W := fun W => hix0 W _
    have hcall := valid1 w.heap.size a0 a1 a2 a3 a4 a5 a6 wr hW
    cases e : q0 a0 a1 a2 a3 a4 a5 a6 with
    | true =>
     rw [show (inB a0 1 64 && inB a1 a0 64) = true from e] at hcall
     go_wp2_with (first | (go_at_call 32; refine hcall.mono ?_; rintro e' w' ⟨rfl,⟨nd,rfl⟩⟩))
     go_roundg (gk - 1)
     case measure => omega
     case rel => exact ⟨1,rfl,by omega,by omega,fun n hn => (by
      by_cases hl : n < 0
      · exact hpre n hl
      · have : n = 0 := by omega
        subst this
        exact e),hW,Zi hB _⟩
    | false =>
     rw [show (inB a0 1 64 && inB a1 a0 64) = false from e] at hcall
     go_wp2_with (first | (go_at_call 32; refine hcall.mono ?_; rintro e' w' ⟨rfl,⟨nd,rfl⟩⟩))
     go_ret; exact ⟨by rw [hval 0 hpre ⟨0,by omega,e⟩]; rfl,Zi hB _⟩
  · have hix : ∀ W,(Instr.index 71 (.agg #[.func (.func 32) #[] #[.pointer (some ⟨w.heap.size,0,none⟩)],.func (.func 33) #[] #[.pointer (some ⟨w.heap.size,0,none⟩)],.func (.func 34) #[] #[.pointer (some ⟨w.heap.size,0,none⟩)],.func (.func 35) #[] #[.pointer (some ⟨w.heap.size,0,none⟩)]]) (.int .i64 1)).run Try.prog W = .ok (.func (.func 33) #[] #[.pointer (some ⟨w.heap.size,0,none⟩)]) W := fun W => hix1 W _
    have hcall := valid2 w.heap.size a0 a1 a2 a3 a4 a5 a6 wr hW
    cases e : q1 a0 a1 a2 a3 a4 a5 a6 with
    | true =>
     rw [show inB a2 1 8 = true from e] at hcall
     go_wp2_with (first | (go_at_call 33; refine hcall.mono ?_; rintro e' w' ⟨rfl,⟨nd,rfl⟩⟩))
     go_roundg (gk - 1)
     case measure => omega
     case rel => exact ⟨2,rfl,by omega,by omega,fun n hn => (by
      by_cases hl : n < 1
      · exact hpre n hl
      · have : n = 1 := by omega
        subst this
        exact e),hW,Zi hB _⟩
    | false =>
     rw [show inB a2 1 8 = false from e] at hcall
     go_wp2_with (first | (go_at_call 33; refine hcall.mono ?_; rintro e' w' ⟨rfl,⟨nd,rfl⟩⟩))
     go_ret; exact ⟨by rw [hval 1 hpre ⟨1,by omega,e⟩]; rfl,Zi hB _⟩
  · have hix : ∀ W,(Instr.index 71 (.agg #[.func (.func 32) #[] #[.pointer (some ⟨w.heap.size,0,none⟩)],.func (.func 33) #[] #[.pointer (some ⟨w.heap.size,0,none⟩)],.func (.func 34) #[] #[.pointer (some ⟨w.heap.size,0,none⟩)],.func (.func 35) #[] #[.pointer (some ⟨w.heap.size,0,none⟩)]]) (.int .i64 2)).run Try.prog W = .ok (.func (.func 34) #[] #[.pointer (some ⟨w.heap.size,0,none⟩)]) W := fun W => hix2 W _
    have hcall := valid3 w.heap.size a0 a1 a2 a3 a4 a5 a6 wr hW
    cases e : q2 a0 a1 a2 a3 a4 a5 a6 with
    | true =>
     rw [show (inB a4 1 256 && inB a3 a4 65536) = true from e] at hcall
     go_wp2_with (first | (go_at_call 34; refine hcall.mono ?_; rintro e' w' ⟨rfl,⟨nd,rfl⟩⟩))
     go_roundg (gk - 1)
     case measure => omega
     case rel => exact ⟨3,rfl,by omega,by omega,fun n hn => (by
      by_cases hl : n < 2
      · exact hpre n hl
      · have : n = 2 := by omega
        subst this
        exact e),hW,Zi hB _⟩
    | false =>
     rw [show (inB a4 1 256 && inB a3 a4 65536) = false from e] at hcall
     go_wp2_with (first | (go_at_call 34; refine hcall.mono ?_; rintro e' w' ⟨rfl,⟨nd,rfl⟩⟩))
     go_ret; exact ⟨by rw [hval 2 hpre ⟨2,by omega,e⟩]; rfl,Zi hB _⟩
  · have hix : ∀ W,(Instr.index 71 (.agg #[.func (.func 32) #[] #[.pointer (some ⟨w.heap.size,0,none⟩)],.func (.func 33) #[] #[.pointer (some ⟨w.heap.size,0,none⟩)],.func (.func 34) #[] #[.pointer (some ⟨w.heap.size,0,none⟩)],.func (.func 35) #[] #[.pointer (some ⟨w.heap.size,0,none⟩)]]) (.int .i64 3)).run Try.prog W = .ok (.func (.func 35) #[] #[.pointer (some ⟨w.heap.size,0,none⟩)]) W := fun W => hix3 W _
    have hcall := valid4 w.heap.size a0 a1 a2 a3 a4 a5 a6 wr hW
    cases e : q3 a0 a1 a2 a3 a4 a5 a6 with
    | true =>
     rw [show (alB a5 && inB a6 1 255) = true from e] at hcall
     go_wp2_with (first | (go_at_call 35; refine hcall.mono ?_; rintro e' w' ⟨rfl,⟨nd,rfl⟩⟩))
     go_roundg (gk - 1)
     case measure => omega
     case rel => exact ⟨4,rfl,by omega,by omega,fun n hn => (by
      by_cases hl : n < 3
      · exact hpre n hl
      · have : n = 3 := by omega
        subst this
        exact e),hW,Zi hB _⟩
    | false =>
     rw [show (alB a5 && inB a6 1 255) = false from e] at hcall
     go_wp2_with (first | (go_at_call 35; refine hcall.mono ?_; rintro e' w' ⟨rfl,⟨nd,rfl⟩⟩))
     go_ret; exact ⟨by rw [hval 3 hpre ⟨3,by omega,e⟩]; rfl,Zi hB _⟩
  · have hv : validW a0 a1 a2 a3 a4 a5 a6 = true := by
     unfold validW; rw [show q0 a0 a1 a2 a3 a4 a5 a6 = true from hpre 0 (by omega),show q1 a0 a1 a2 a3 a4 a5 a6 = true from hpre 1 (by omega),show q2 a0 a1 a2 a3 a4 a5 a6 = true from hpre 2 (by omega),show q3 a0 a1 a2 a3 a4 a5 a6 = true from hpre 3 (by omega)]; rfl
    go_wp2
    go_ret; exact ⟨by rw [hv]; rfl,hB⟩
def ZC.f (a0_0 a0_1 a0_2 a0_3 a0_4 a0_5 a0_6 : Int) : Option Bool := some (validW a0_0 a0_1 a0_2 a0_3 a0_4 a0_5 a0_6)
theorem ZC.calls (a0_0 : Int) (a0_1 : Int) (a0_2 : Int) (a0_3 : Int) (a0_4 : Int) (a0_5 : Int) (a0_6 : Int) (r : Bool) (w : World) (h : ZC.f a0_0 a0_1 a0_2 a0_3 a0_4 a0_5 a0_6 = some r) :
 Calls Try.prog 11 #[.agg #[.int .i64 a0_0,.int .i64 a0_1,.int .i64 a0_2,.int .i64 a0_3,.int .i64 a0_4,.int .i64 a0_5,.int .i64 a0_6]] w fun e w' => e = .returned (.bool r) ∧ Below w.heap.size w w' := by
 rw [← Option.some.inj h]; exact valid_calls _ _ _ _ _ _ _ w
end Go.Proofs.Ytcdiecgenpigbaa.PA

namespace Go.Proofs.Ytcdiecgenpigbaa.PA
open Go.RowKit Go.Proofs.YtcdiecgenpigbaaW.PrintWords Go.Proofs.YtcdiecgenpigbaaW.PrintLast Go.Proofs.YtcdiecgenpigbaaW.PrintMore
attribute [local go_sem] ZQ ZS ZZ ZY ZL ZM ZT ZU
set_option linter.unusedVariables false
set_option linter.unusedSimpArgs false
end Go.Proofs.Ytcdiecgenpigbaa.PA

namespace Go.Proofs.Ytcdiecgenpigbaa.PA
open Go.RowKit Go.Proofs.YtcdiecgenpigbaaW.PrintWords Go.Proofs.YtcdiecgenpigbaaW.PrintLast Go.Proofs.YtcdiecgenpigbaaW.PrintMore
attribute [local go_sem] ZQ ZS ZZ ZY ZL ZM ZT ZU
set_option linter.unusedVariables false
set_option linter.unusedSimpArgs false
def Xs.f (a0 : Int) (a1 : Int) : Option (Int) := if a1 = 0 then (none) else (some (wrap64 ((wrap64 (Int.tdiv (wrap64 ((wrap64 (a0 + a1)) - 1)) a1)) * a1)))
set_option maxHeartbeats 8000000 in
set_option maxRecDepth 100000 in
theorem Xs.calls (a0 : Int) (a1 : Int) (r : Int) (w : World) (h : Xs.f a0 a1 = some r) :
 Calls Try.prog 24 #[.int .i64 a0,.int .i64 a1] w fun e w' => e = .returned (.int .i64 r) ∧ Drawn0 w w' := by
 have H : (if a1 = 0 then (none) else (some (wrap64 ((wrap64 (Int.tdiv (wrap64 ((wrap64 (a0 + a1)) - 1)) a1)) * a1)))) = some r := h; clear h
 by_cases c3 : a1 = 0
 · rw [if_pos c3] at H
   exact absurd H (by simp)
 · rw [if_neg c3] at H
   have c3b0 : (a1 == 0) = false := beq_eq_false_iff_ne.mpr c3; have c3b1 : (a1 != 0) = true := bne_iff_ne.mpr c3; obtain rfl := Option.some.inj H
   go_enter Try.func24,Try.ntmps24
   go_wp2
   go_ret; exact ⟨by first | rfl | (simp; done) | (simp [*]; done),by repeat (first | exact Drawn0.refl _ | apply Drawn0.step)⟩
end Go.Proofs.Ytcdiecgenpigbaa.PA

namespace Go.Proofs.Ytcdiecgenpigbaa.PA
open Go.RowKit Go.Proofs.YtcdiecgenpigbaaW.PrintWords Go.Proofs.YtcdiecgenpigbaaW.PrintLast Go.Proofs.YtcdiecgenpigbaaW.PrintMore
attribute [local go_sem] ZQ ZS ZZ ZY ZL ZM ZT ZU
set_option linter.unusedVariables false
set_option linter.unusedSimpArgs false
end Go.Proofs.Ytcdiecgenpigbaa.PA
