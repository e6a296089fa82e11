/- TransportCut, part 1: what the row is built on. -/
import Derived.RangeFuncNested
import Derived.RangeFuncBound
import Derived.RangeFuncCalls
import Derived.RangeFuncLeaves
import Derived.Below
import Derived.Deep.Draws
import Derived.Deep.AppendLies
import Derived.Maps.AppendAt
import Derived.OwnWalk
import Derived.Laws.BytesArg
import Derived.Laws.MakeOwn
import Derived.Laws.OwnMore
import Derived.Deep.OwnRows
import Derived.Tactics
import Derived.Lib.ConvBytes
import Derived.Laws.Slices
import Derived.WalkKit
import Derived.KernelRfl
import Derived.RowKit3
import Derived.Deep.LoopGhost
import Derived.Deep.QuietTactic
import Derived.BigQuiet
import Derived.WideLaws
import Derived.Deep.DeepCutAuto
import Derived.Deep.CutBlock
import Derived.Deep.RegionHeld3
import Derived.Laws.Rows
import Derived.Lib.AppendStr
import Derived.ArgAppend
import Derived.Laws.IdiomCopy
import Derived.RowKit
import Derived.OrdersHeld
import Derived.Laws.BitsLemmas
import Derived.Laws.StructEq
import Derived.Test.YtlffhagjpfcecaaProg
import Derived.RangeFuncBox
import Derived.Shelf.Abstract
import Derived.Shelf.RegionOpen
import Derived.OwnWalkIn
import Derived.TacticsInMore
import Derived.LoopNIn
import Derived.LoopIn
import Derived.WalkSmall
import Derived.Defers
import Derived.Recover
import Derived.BigRegion
import Derived.Laws.Pointers
import Derived.Maps.OwnSet
import Derived.Maps.RangeWalk
import Derived.Shelf.SortM.Plain
import Derived.Shelf.SortM.SortNone
import Derived.Shelf.SlGeneric
import Derived.Shelf.SlIterI.Nil
import Derived.Shelf.SlMaps.Clone
import Derived.Shelf.SlicesE.Clone
import Derived.Ground.GgzProg
import Derived.Ground.SlmcProg
import Derived.Ground.SlgmProg
import Derived.Ground.SlgnProg
import Derived.Lib.SlKeysI
import Derived.Laws.AppendOwn
import Derived.ChangeMaps
import Derived.Maps.Keyed
import Derived.StillTailTactics
import Derived.Lib.Hide
import Derived.RegionTactic
import Derived.ChangeAlike
namespace Go
open Go.RowKit
set_option linter.unusedVariables false
variable {F : Fence} {n : Nat} {P : Program}
def roundPostP (P : Program) (l : Nat) (R : Ending → World → Prop) : Exit → Act → World → Prop
 | .normal, _, w => ∃ v w', (Instr.endRound l none).run P w = .ok v w' ∧ R (.returned v) w'
 | .panic chain, a, w => a.defers = [] ∧ R (.panicked chain) w
 | _, _, _ => False
theorem roundIn_of_wpInP {l : Nat} {f : FuncId} {fn : Func} {tmps : Array Value} {assign body : Code} {w : World} {R : Ending → World → Prop} (hF : F.fn f) (hfn : P.funcs[f]? = some fn)
 (h : assign.wpIn (F.inRound l) n P (Exit.then (fun a₁ w₁ => ∃ w₂, (Instr.beginRound l).run P w₁ = .ok () w₂ ∧ body.wpIn (F.inRound l) n P (roundPostP P l R) a₁ w₂) (fun _ _ _ => False))
  { tmps := tmps, defers := [] } w) :
 RoundIn F n P l f tmps assign body w R := by
 refine ⟨hF, fun c cs hr => ?_⟩
 let b : Frame := { (default : Frame) with fn := f, kind := .normal, roundOf := some l }
 have hb0 : Frame.round l f tmps assign body .normal = b.atR { tmps := tmps, defers := [] } [.code assign, .beginRound, .code body] := by
  simp [Frame.round, Frame.atR, b]
 have hr' : (F.inRound l).room ((c :: cs).length + 1 + n) := hr
 have hF' : (F.inRound l).fn b.fn := hF
 obtain ⟨e, a₁, w₁, hq, harr⟩ := h b [.beginRound, .code body] (c :: cs) rfl hF' hr'
 rw [← hb0] at harr
 cases e with
 | normal =>
  obtain ⟨w₂, hbr, hbody⟩ := hq
  have s1 : StepsIn (Machine.fenced P (F.inRound l)) P (lone (b.atR a₁ [.beginRound, .code body]) (c :: cs) w₁) (lone (b.atR a₁ [.code body]) (c :: cs) w₂) :=
   .one (fenced_calm (fr := b.atR a₁ [.beginRound, .code body]) hF' hr' rfl) (stepR_beginRound rfl hbr)
  obtain ⟨e₂, a₂, w₃, hq₂, harr₂⟩ := hbody b [] (c :: cs) rfl hF' hr'
  cases e₂ with
  | normal =>
   obtain ⟨v, w₄, hend, hR⟩ := hq₂
   exact ⟨.returned v, w₄, hR, (StepsIn.trans harr s1).trans (StepsIn.trans harr₂ (.one (fenced_calm (fr := b.atR a₂ []) hF' hr' rfl) (stepR_round_end rfl rfl hend)))⟩
  | panic chain =>
   obtain ⟨hd, hR⟩ := hq₂
   obtain ⟨todo, hs⟩ := harr₂
   have hleave : Frame.leaving P { b.atR a₂ todo with mode := .panicking chain } w₃ (.panicked chain) := ⟨rfl, hd, fn, hfn⟩
   exact ⟨.panicked chain, w₃, hR, (StepsIn.trans harr s1).trans (StepsIn.trans hs (.one (fenced_leaving (n := n) hF' hr' hleave) (step_leave_panicked hleave)))⟩
  | ret => exact hq₂.elim
  | exit id => exact hq₂.elim
  | goto t => exact hq₂.elim
  | outgrown => exact hq₂.elim
 | exit id => exact hq.elim
 | goto t => exact hq.elim
 | ret => exact hq.elim
 | panic chain => exact hq.elim
 | outgrown => exact hq.elim
def panPost {α : Type} (I : List α → World → Prop) (Ip : List PanicEntry → World → Prop) (Kt : World → World → Prop) (xs : List α) (W : World) : Exit → Act → World → Prop
 | .normal, _, W' => KeepsOthers W W' ∧ I xs W' ∧ Kt W W'
 | .panic ch, a, W' => a.defers = [] ∧ KeepsOthers W W' ∧ Ip ch W'
 | _, _, _ => False
def IterP {α : Type} (F : Fence) (n : Nat) (P : Program) (g : Nat) (lb : Array Value) (encs : α → Array Value) (all : List α) (Kt Ti : World → World → Prop) (w : World) : Prop :=
 ∀ (l : Nat) (J : List α → World → Prop) (Jp : List PanicEntry → World → Prop) (W : World), Kt w W → (∀ pre A B, J pre A → Ti A B → J pre B) →
  (∀ pre x W1, J pre W1 → (∃ rest, pre ++ x :: rest = all) → YieldAt F (n - 1) P l (encs x) W1 fun e W' => (e = .returned (.bool true) ∧ J (pre ++ [x]) W' ∧ Kt W1 W') ∨ (∃ ch, e = .panicked ch ∧ Jp ch W')) →
  J [] W → CallsIn F n P g (#[.func (.yield l) #[] #[]] ++ lb) W fun e W' => (∃ v, e = .returned v ∧ J all W') ∨ (∃ ch, e = .panicked ch ∧ Jp ch W')
theorem wpIn_rangeFunc_P {α : Type} {g : Operand} {ps : Array Tmp} {assign body : Code} {Q : Exit → Act → World → Prop} {a : Act} {w : World}
 (hro : F.round = none) (h1 : 1 ≤ n) {gf : Nat} {lb : Array Value} (hg : a.eval g = .func (.func gf) #[] lb) (hFg : F.fn gf) (eg : ∀ args w, (callFunc gf args).run P w = .ok (.enter gf args) w)
 (hfnP : ∀ fn, F.fn fn → ∃ f, P.funcs[fn]? = some f)
 {encs : α → Array Value} {all : List α} {Kt Ti : World → World → Prop} (hseq : IterP F (n - 1) P gf lb encs all Kt Ti w) (hps : ∀ x, (encs x).size = ps.size)
 (hKt : ∀ A B C, Kt A B → Kt B C → Kt A C) (hKa : ∀ (W : World) (o : Obj), Kt W (W.alloc o)) (hKp : ∀ (W : World) (l : Nat) (o o' : Obj), W.heap[l]? = some o → o.isCells = false → Kt W (W.putObj l o'))
 (hTi : ∀ (A B : World) (k : Nat) (o : Obj), Ti A B → A.heap[k]? = some o → o.isCells = false → B.heap[k]? = some o)
 (I : List α → World → Prop) (Ip : List PanicEntry → World → Prop) (hIa : ∀ pre (W : World) (o : Obj), I pre W → I pre (W.alloc o)) (hIp : ∀ pre (W : World) (l : Nat) (o o' : Obj), I pre W → w.heap.size ≤ l → W.heap[l]? = some o → o.isCells = false → I pre (W.putObj l o')) (hIt : ∀ pre A B, I pre A → Ti A B → I pre B)
 (h0 : I [] w) (Ax : List α → α → Act → World → Prop) (hAx : ∀ pre x a' (W : World) (l : Nat) (o o' : Obj), Ax pre x a' W → w.heap.size ≤ l → W.heap[l]? = some o → o.isCells = false → Ax pre x a' (W.putObj l o'))
 (hassign : ∀ (l : Nat) (pre : List α) (x : α) (W : World) (K : Act → World → Prop), I pre W → (∀ a' W', Ax pre x a' W' → KeepsOthers W W' → Kt W W' → K a' W') →
  assign.wpIn (F.inRound l) (n - 1 - 1) P (Exit.then K (fun _ _ _ => False)) { tmps := (ps.zip (encs x)).foldl (fun t (p, v) => t.setIfInBounds p v) a.tmps, defers := [] } W)
 (hbody : ∀ (l : Nat) (pre : List α) (x : α) (a' : Act) (W : World), Ax pre x a' W → (∃ rest, pre ++ x :: rest = all) → body.wpIn (F.inRound l) (n - 1 - 1) P (panPost I Ip Kt (pre ++ [x]) W) a' W)
 (hdone : ∀ (D : Nat) (W : World), I all W → w.heap.size ≤ D → W.heap[D]? = some (.deferred (some [])) → Q .normal { a with defers := { target := .collected D, args := #[] } :: a.defers } W)
 (hpanic : ∀ (D : Nat) (ch : List PanicEntry) (W : World), Ip ch W → w.heap.size ≤ D → W.heap[D]? = some (.deferred (some [])) → Q (.panic ch) { a with defers := { target := .collected D, args := #[] } :: a.defers } W) :
 (Code.rangeFunc g ps assign body).wpIn F n P Q a w := by
 refine wpIn_rangeFunc ?_
 intro fn hfn
 obtain ⟨fd, hfd⟩ := hfnP fn hfn
 rw [hro]
 obtain ⟨rec, hrec⟩ : ∃ rec : LoopState → Option Code → Loop, rec = fun st pe => { state := st, pending := pe, fn, tmps := a.tmps, params := ps, assign, body, defers := w.heap.size } := ⟨_, rfl⟩
 obtain ⟨W1, hW1⟩ : ∃ W1, (w.alloc (.deferred (some []))).alloc (.loop (rec .ready none)) = W1 := ⟨_, rfl⟩
 have hL1 : W1.heap[w.heap.size + 1]? = some (.loop (rec .ready none)) := by
  rw [← hW1]; have := World.alloc_heap_new (w.alloc (.deferred (some []))) (.loop (rec .ready none)); rwa [World.size_alloc] at this
 have hK1 : W1.heap[w.heap.size]? = some (.deferred (some [])) := by
  rw [← hW1]; exact (Below.heap_alloc _ _ _ (by simp)).trans (World.alloc_heap_new w _)
 have hI1 : I [] W1 := by rw [← hW1]; exact hIa _ _ _ (hIa _ _ _ h0)
 have hb1 : Kt w W1 := by rw [← hW1]; exact hKt _ _ _ (hKa _ _) (hKa _ _)
 refine ⟨w.heap.size + 1, [{ target := .collected w.heap.size, args := #[] }], W1, { target := .fn (.func gf) lb, args := #[.func (.yield (w.heap.size + 1)) #[] #[]] }, W1, gf,
  #[.func (.yield (w.heap.size + 1)) #[] #[]] ++ lb, W1, ?_, ?_, ?_, ?_, fun _ => h1, ?_⟩
 · rw [← hW1, hrec]; exact run_enterLoop_outer _ _ _ _ _
 · simp only [resolve, hg]
   simp [go_sem]
 · intro f' hf'; simp [Target.leads] at hf'; subst hf'; exact hFg
 · simp [invoke, go_sem, eg]
 · refine (hseq (w.heap.size + 1)
    (fun pre W => I pre W ∧ W.heap[w.heap.size + 1]? = some (.loop (rec .ready none)) ∧ W.heap[w.heap.size]? = some (.deferred (some [])))
    (fun ch W => Ip ch W ∧ W.heap[w.heap.size]? = some (.deferred (some [])))
    W1 hb1
    (fun pre A B hs ht => ⟨hIt pre A B hs.1 ht, hTi A B _ _ ht hs.2.1 rfl, hTi A B _ _ ht hs.2.2 rfl⟩)
    ?_ ⟨hI1, hL1, hK1⟩).mono ?_
   ·
    rintro pre x W ⟨hi, hl, hk⟩ hlen
    have hlt : w.heap.size + 1 < W.heap.size := (Array.getElem?_eq_some_iff.1 hl).1
    have hy := run_yield (P := P) (args := encs x) hl (by rw [hrec]; exact hps x)
    rw [hrec] at hy
    refine ⟨fn, _, assign, body, hy, roundIn_of_wpInP hfn hfd (hassign _ pre x W _ hi ?_)⟩
    intro a' Wa hax hka hkt
    have hla := hka.same _ _ hl rfl
    have hkka := hka.same _ _ hk rfl
    have hlta : w.heap.size + 1 < Wa.heap.size := (Array.getElem?_eq_some_iff.1 hla).1
    refine ⟨_, run_beginRound hla (by rw [hrec]), ?_⟩
    have hl2 : (Wa.putObj (w.heap.size + 1) (.loop { rec .ready none with state := .busy })).heap[w.heap.size + 1]? = some (.loop { rec .ready none with state := .busy }) := World.putObj_heap_same hlta
    have hk2 : (Wa.putObj (w.heap.size + 1) (.loop { rec .ready none with state := .busy })).heap[w.heap.size]? = some (.deferred (some [])) := (World.putObj_heap_other (by omega)).trans hkka
    have hkt2 : Kt W (Wa.putObj (w.heap.size + 1) (.loop { rec .ready none with state := .busy })) := hKt _ _ _ hkt (hKp _ _ _ _ hla rfl)
    refine wpIn_mono (hbody _ pre x _ _ (hAx _ _ _ _ _ _ _ hax (by omega) hla rfl) hlen) ?_
    rintro e a3 W3 hp
    cases e with
    | normal =>
     obtain ⟨hk3, hi3, hkt3⟩ := hp
     have hl3 := hk3.same _ _ hl2 rfl
     have hr := run_endRound (P := P) none hl3
     have hlt3 : w.heap.size + 1 < W3.heap.size := (Array.getElem?_eq_some_iff.1 hl3).1
     refine ⟨_, _, hr, .inl ⟨rfl, ⟨hIp _ _ _ _ _ hi3 (by omega) hl3 rfl, ?_, (World.putObj_heap_other (by omega)).trans (hk3.same _ _ hk2 rfl)⟩, hKt _ _ _ hkt2 (hKt _ _ _ hkt3 (hKp _ _ _ _ hl3 rfl))⟩⟩
     refine (World.putObj_heap_same hlt3).trans ?_
     rw [hrec]; rfl
    | panic ch =>
     obtain ⟨hd, hk3, hip⟩ := hp
     exact ⟨hd, .inr ⟨ch, rfl, hip, hk3.same _ _ hk2 rfl⟩⟩
    | ret => exact hp.elim
    | exit id => exact hp.elim
    | goto t => exact hp.elim
    | outgrown => exact hp.elim
   ·
    rintro e W2 (⟨v, rfl, hi, hl, hk⟩ | ⟨ch, rfl, hip, hk⟩)
    · exact ⟨none, _, by have := run_endLoop (P := P) hl (by rw [hrec]; simp); rw [hrec] at this; exact this, hdone _ _ (hIp _ _ _ _ _ hi (by omega) hl rfl) (Nat.le_refl _) ((World.putObj_heap_other (by omega)).trans hk)⟩
    · exact hpanic _ ch _ hip (Nat.le_refl _) hk
end Go

set_option linter.unusedVariables false
set_option linter.unusedSimpArgs false
namespace Go.Proofs.YtlffhagjpfcecaaW.PrintWords
open Go.RowKit
structure Aside0 (p : Prop) : Prop where mk :: (out : p)
structure Drawn0 (w w' : World) : Prop where mk :: (out : ∃ n, w' = w.drewN n)
theorem Drawn0.refl (w : World) : Drawn0 w w := ⟨⟨0, rfl⟩⟩
theorem Drawn0.step {w w' : World} (h : Drawn0 w w') (n : Nat) : Drawn0 w (w'.drewN n) := by
 obtain ⟨m, rfl⟩ := h
 exact ⟨⟨m + n, World.drewN_drewN ..⟩⟩
theorem Drawn0.grown {w w' : World} (h : Drawn0 w w') : Grown w w' := by
 obtain ⟨n, rfl⟩ := h
 induction n with
 | zero => exact Grown.refl _
 | succ n ih => rw [← World.drew_drewN]; exact Grown.drew ih
theorem Drawn0.below {w w' : World} (h : Drawn0 w w') : Below w.heap.size w w' := by
 obtain ⟨n, rfl⟩ := h
 induction n with
 | zero => exact Below.refl _ _
 | succ n ih => rw [← World.drew_drewN]; exact ih.drew
def rd (xs : List Int) (i : Int) : Int := xs.getD i.toNat 0
theorem below_alloc {w W : World} (h : Below w.heap.size w W) (o : Obj) : Below w.heap.size w (W.alloc o) := h.alloc h.size o
theorem below_drew {B : Nat} {w W : World} (h : Below B w W) : Below B w W.drew := ⟨h.os, h.tape, h.output, h.size, h.block⟩
theorem pw_below_drewN {B : Nat} {w W : World} (h : Below B w W) (n : Nat) : Below B w (W.drewN n) := ⟨h.os, h.tape, h.output, h.size, h.block⟩
theorem below_then {B : Nat} {w w1 w2 : World} (h : Below B w w1) (hB : B ≤ w1.heap.size) (k : Below w1.heap.size w1 w2) : Below B w w2 :=
 h.trans ⟨k.os, k.tape, k.output, k.size, fun i hi => k.block i (Nat.lt_of_lt_of_le hi hB)⟩
theorem grown_of_below {w w1 : World} (h : Below w.heap.size w w1) (row : Option Nat) : w.grownBy w1 row := ⟨h.os, h.tape, h.output, h.size, fun i hi _ => h.block i hi⟩
theorem pw_cell_below {w w1 : World} (h : Below w.heap.size w w1) {a : Addr} {v : Value} (hc : w.cell? a = some v) : w1.cell? a = some v := (h.cell (World.block_lt_of_cell? w a hc)).trans hc
def ReadsInt (w : World) (k : IntKind) (A : Option Addr) (n : Nat) (xs : List Int) : Prop :=
 xs.length = n ∧ n ≤ 9223372036854775807 ∧ (0 < n → ∃ ad, A = some ad ∧ ∀ j, j < n → w.cell? (ad.add j) = some (.int k (xs.getD j 0)))
theorem ReadsInt.at_ {w : World} {k : IntKind} {A : Option Addr} {n : Nat} {xs : List Int} (h : ReadsInt w k A n xs) (i : Int) (h0 : 0 ≤ i) (h1 : i < n) : ∃ ad, A = some ad ∧ w.cell? (ad.add i.toNat) = some (.int k (rd xs i)) := by
 obtain ⟨ad, e, hc⟩ := h.2.2 (by omega)
 exact ⟨ad, e, hc _ (by omega)⟩
theorem ReadsInt.below {w w1 : World} {k : IntKind} {A : Option Addr} {n : Nat} {xs : List Int} (h : ReadsInt w k A n xs) (hb : Below w.heap.size w w1) : ReadsInt w1 k A n xs :=
 ⟨h.1, h.2.1, fun hn => by
  obtain ⟨ad, e, hc⟩ := h.2.2 hn
  exact ⟨ad, e, fun j hj => pw_cell_below hb (hc j hj)⟩⟩
theorem own_nil (W : World) (base : Nat) (e : TypeId) (size : Nat) : W.ownsRow base e size (.slice none 0 0) 0 [] := ⟨by simp, .inl ⟨rfl, rfl⟩⟩
theorem own_base {w : World} {base : Nat} {e : TypeId} {size n : Nat} {v : Value} {xs : List Value} (h : w.ownsRow base e size v n xs) (k : Nat) (hk : v.ownBlock = some k) : base ≤ k := by
 rcases h.2 with ⟨rfl, _⟩ | ⟨g, cap, cur, rfl, hb, _⟩
 · simp [Value.ownBlock] at hk
 · have : g = k := by simpa [Value.ownBlock] using hk
   omega
theorem own_lt {w : World} {base : Nat} {e : TypeId} {size n : Nat} {v : Value} {xs : List Value} (h : w.ownsRow base e size v n xs) (k : Nat) (hk : v.ownBlock = some k) : k < w.heap.size := by
 rcases h.2 with ⟨rfl, _⟩ | ⟨g, cap, cur, rfl, hb, hh, _⟩
 · simp [Value.ownBlock] at hk
 · have : g = k := by simpa [Value.ownBlock] using hk
   subst this
   exact (Array.getElem?_eq_some_iff.1 hh).1
theorem pw_own_below {w w1 : World} {base : Nat} {e : TypeId} {size n : Nat} {v : Value} {xs : List Value} (h : w.ownsRow base e size v n xs) (hb : Below w.heap.size w w1) : w1.ownsRow base e size v n xs :=
 h.kept (grown_of_below hb none) (by cases v.ownBlock <;> simp)
theorem own_other {w w1 : World} {base : Nat} {e : TypeId} {size n : Nat} {v : Value} {xs : List Value} (h : w.ownsRow base e size v n xs) {row : Option Nat} (hg : w.grownBy w1 row) (hne : v.ownBlock = none ∨ v.ownBlock ≠ row) : w1.ownsRow base e size v n xs := h.kept hg hne
def LeO {α : Type} (a b : Option α) : Prop := ∀ r, a = some r → b = some r
theorem LeO.refl {α : Type} (a : Option α) : LeO a a := fun _ h => h
theorem LeO.none {α : Type} (b : Option α) : LeO Option.none b := fun _ h => by cases h
theorem LeO.trans {α : Type} {a b c : Option α} (h : LeO a b) (k : LeO b c) : LeO a c := fun r hr => k r (h r hr)
theorem LeO.ite {α : Type} {c : Prop} [Decidable c] {a a' b b' : Option α} (h : LeO a a') (k : LeO b b') : LeO (if c then a else b) (if c then a' else b') := by
 split
 · exact h
 · exact k
theorem LeO.bind {α β : Type} {a a' : Option α} {f f' : α → Option β} (h : LeO a a') (k : ∀ x, LeO (f x) (f' x)) : LeO (a.bind f) (a'.bind f') := by
 intro r hr
 obtain ⟨x, hx, hf⟩ := Option.bind_eq_some_iff.1 hr
 exact Option.bind_eq_some_iff.2 ⟨x, h x hx, k x r hf⟩
theorem LeO.map {α β : Type} {a a' : Option α} (f : α → β) (h : LeO a a') : LeO (a.map f) (a'.map f) := by
 intro r hr
 obtain ⟨x, hx, hf⟩ := Option.map_eq_some_iff.1 hr
 exact Option.map_eq_some_iff.2 ⟨x, h x hx, hf⟩
theorem more_rounds {α : Type} {g : Nat → Option α} (h : ∀ k, LeO (g k) (g (k + 1))) (k : Nat) : ∀ j, LeO (g k) (g (k + j))
 | 0 => LeO.refl _
 | j + 1 => (more_rounds h k j).trans (h (k + j))
theorem at_rounds {α : Type} {g : Nat → Option α} (h : ∀ k, LeO (g k) (g (k + 1))) {k k' : Nat} (hk : k ≤ k') {r : α} (hr : g k = some r) : g k' = some r := by
 have := more_rounds h k (k' - k) r hr
 rwa [Nat.add_sub_cancel' hk] at this
def Reps {α : Type} (R : α → List Value → Prop) (size : Nat) (ps : List α) (cs : List Value) : Prop :=
 cs.length = ps.length * size ∧ ∀ j p, ps[j]? = some p → R p ((cs.drop (j * size)).take size)
theorem Reps.none {α : Type} (R : α → List Value → Prop) (size : Nat) : Reps R size [] [] := ⟨by simp, fun j p h => by simp at h⟩
theorem Reps.snoc {α : Type} {R : α → List Value → Prop} {size : Nat} {ps : List α} {cs c : List Value} {p : α} (h : Reps R size ps cs) (hp : R p c) (hc : c.length = size) : Reps R size (ps ++ [p]) (cs ++ c) := by
 refine ⟨by rw [List.length_append, h.1, hc, List.length_append, List.length_singleton, Nat.add_mul, Nat.one_mul], fun j q hq => ?_⟩
 rcases Nat.lt_or_ge j ps.length with hj | hj
 · rw [List.getElem?_append_left hj] at hq
   have h1 : j * size + size ≤ cs.length := by rw [h.1, ← Nat.succ_mul]; exact Nat.mul_le_mul_right _ hj
   have h2 := h.2 j q hq
   rw [List.drop_append_of_le_length (by omega), List.take_append_of_le_length (by rw [List.length_drop]; omega)]
   exact h2
 · have hj' : j = ps.length := by
    have := (List.getElem?_eq_some_iff.1 hq).1
    rw [List.length_append, List.length_singleton] at this
    omega
   subst hj'
   have hq' : p = q := by simpa using hq
   subst hq'
   rw [← h.1, List.drop_left, ← hc, List.take_length]
   exact hp
theorem Reps.imp_ {α : Type} {R R' : α → List Value → Prop} {size : Nat} {ps : List α} {cs : List Value} (h : Reps R size ps cs) (hR : ∀ p c, R p c → R' p c) : Reps R' size ps cs := ⟨h.1, fun j p hj => hR _ _ (h.2 j p hj)⟩
def ReadsRow {α : Type} (R : α → List Value → Prop) (size : Nat) (w : World) (A : Option Addr) (n : Nat) (ps : List α) : Prop :=
 ps.length = n ∧ n ≤ 9223372036854775807 ∧ (0 < n → ∃ ad, A = some ad ∧ ∀ j p, ps[j]? = some p → ∃ c, c.length = size ∧ R p c ∧ ∀ i u, c[i]? = some u → w.cell? (ad.add (j * size + i)) = some u)
theorem ReadsRow.get_ {α : Type} {R : α → List Value → Prop} {size : Nat} {w : World} {A : Option Addr} {n : Nat} {ps : List α} (h : ReadsRow R size w A n ps) (d : α) (i : Int) (h0 : 0 ≤ i) (h1 : i < n) :
 ∃ ad c, A = some ad ∧ c.length = size ∧ R (ps.getD i.toNat d) c ∧ ∀ j u, c[j]? = some u → w.cell? (ad.add (i.toNat * size + j)) = some u := by
 obtain ⟨ad, e, hc⟩ := h.2.2 (by omega)
 have hl : i.toNat < ps.length := by have := h.1; omega
 obtain ⟨c, hs, hr, hcell⟩ := hc i.toNat _ (List.getElem?_eq_getElem hl)
 refine ⟨ad, c, e, hs, ?_, hcell⟩
 rw [List.getD_eq_getElem?_getD, List.getElem?_eq_getElem hl]
 exact hr
theorem ReadsRow.imp_ {α : Type} {R R' : α → List Value → Prop} {size : Nat} {w w1 : World} {A : Option Addr} {n : Nat} {ps : List α} (h : ReadsRow R size w A n ps) (hb : Below w.heap.size w w1) (hR : ∀ p c, R p c → R' p c) : ReadsRow R' size w1 A n ps :=
 ⟨h.1, h.2.1, fun hn => by
  obtain ⟨ad, e, hc⟩ := h.2.2 hn
  refine ⟨ad, e, fun j p hj => ?_⟩
  obtain ⟨c, hs, hr, hcell⟩ := hc j p hj
  exact ⟨c, hs, hR _ _ hr, fun i u hu => pw_cell_below hb (hcell i u hu)⟩⟩
theorem own_reads_row {α : Type} {R : α → List Value → Prop} {w : World} {base n size : Nat} {e : TypeId} {v : Value} {ps : List α} {cs : List Value} (h : w.ownsRow base e size v n cs) (hR : Reps R size ps cs) (hn : ps.length = n) :
 ∃ A c, v = .slice A n c ∧ ReadsRow R size w A n ps := by
 rcases Nat.eq_zero_or_pos n with h0 | h0
 · rcases h.2 with ⟨rfl, rfl⟩ | ⟨g, cap, cur, rfl, _⟩
   · exact ⟨none, 0, rfl, hn, by omega, fun hp => absurd hp (by omega)⟩
   · exact ⟨_, cap, rfl, hn, by omega, fun hp => absurd hp (by omega)⟩
 · obtain ⟨g, cap, rfl, _, _⟩ := h.form h0
   have hm : n ≤ 9223372036854775807 := by
    rcases h.2 with ⟨_, h1⟩ | ⟨g', cap', cur, he, _, _, h1, h2, _⟩
    · omega
    · simp only [maxLen] at h2
      omega
   refine ⟨_, cap, rfl, hn, hm, fun _ => ⟨_, rfl, fun j p hj => ⟨(cs.drop (j * size)).take size, ?_, hR.2 j p hj, fun i u hu => ?_⟩⟩⟩
   · have hjl := (List.getElem?_eq_some_iff.1 hj).1
     have h1 : j * size + size ≤ cs.length := by rw [hR.1, ← Nat.succ_mul]; exact Nat.mul_le_mul_right _ hjl
     rw [List.length_take, List.length_drop]
     omega
   · refine h.cells (g := g) rfl _ u ?_
     rw [List.getElem?_take] at hu
     split at hu
     · rw [List.getElem?_drop] at hu
       exact hu
     · cases hu
theorem add_field (ad : Addr) (m j : Nat) (hj : 0 < j) : ad.add (m + j) = ⟨(ad.add m).block, (ad.add m).off + j, none⟩ := by
 unfold Addr.add
 by_cases hm : m = 0
 · subst hm
   simp [Nat.ne_of_gt hj]
 · simp [hm, Nat.add_assoc]
theorem blk_lt {w : World} {g : Nat} {o : Obj} (h : w.heap[g]? = some o) : g < w.heap.size := (Array.getElem?_eq_some_iff.1 h).1
def KeepBut (w w' : World) (g : Nat) (row : Option Nat) : Prop := w.heap.size ≤ w'.heap.size ∧ ∀ i, i < w.heap.size → i ≠ g → some i ≠ row → w'.heap[i]? = w.heap[i]?
theorem KeepBut.refl (w : World) (g : Nat) (row : Option Nat) : KeepBut w w g row := ⟨Nat.le_refl _, fun _ _ _ _ => rfl⟩
theorem KeepBut.of_grown {w w1 : World} {row : Option Nat} (h : w.grownBy w1 row) (g : Nat) : KeepBut w w1 g row := ⟨h.size, fun i hi _ hr => h.block i hi hr⟩
theorem KeepBut.of_below {w w1 : World} (h : Below w.heap.size w w1) (g : Nat) (row : Option Nat) : KeepBut w w1 g row := ⟨h.size, fun i hi _ _ => h.block i hi⟩
theorem KeepBut.trans {w w1 w2 : World} {g : Nat} {row row1 : Option Nat} (h : KeepBut w w1 g row) (k : KeepBut w1 w2 g row1) (hr : row1 = row ∨ ∃ b, row1 = some b ∧ w.heap.size ≤ b) : KeepBut w w2 g row :=
 ⟨Nat.le_trans h.1 k.1, fun i hi hg hn => by
  refine (k.2 i (Nat.lt_of_lt_of_le hi h.1) hg ?_).trans (h.2 i hi hg hn)
  rcases hr with rfl | ⟨b, rfl, hb⟩
  · exact hn
  · intro e
    injection e with e
    omega⟩
theorem KeepBut.blk {w w1 : World} {g g' : Nat} {row : Option Nat} {o : Obj} (h : KeepBut w w1 g row) (hb : w.heap[g']? = some o) (hg : g' ≠ g) (hr : some g' ≠ row) : w1.heap[g']? = some o := (h.2 g' (blk_lt hb) hg hr).trans hb
theorem KeepBut.own {w w1 : World} {g : Nat} {row : Option Nat} {base : Nat} {e : TypeId} {size n : Nat} {v : Value} {xs : List Value} (h : KeepBut w w1 g row) (ho : w.ownsRow base e size v n xs) (hg : v.ownBlock ≠ some g) (hr : v.ownBlock = none ∨ v.ownBlock ≠ row) : w1.ownsRow base e size v n xs := by
 obtain ⟨h1, h2⟩ := ho
 refine ⟨h1, ?_⟩
 rcases h2 with h2 | ⟨b, cap, cur, rfl, hb, hh, r⟩
 · exact .inl h2
 · refine .inr ⟨b, cap, cur, rfl, hb, h.blk hh ?_ ?_, r⟩
   · intro e
     exact hg (by rw [← e]; rfl)
   · rcases hr with hr | hr
     · simp [Value.ownBlock] at hr
     · exact hr
def Ev {α : Type} (g : Nat → Option α) (r : α) : Prop := ∃ K, ∀ k, K ≤ k → g k = some r
theorem Ev.of {α : Type} {g : Nat → Option α} {r : α} (hg : ∀ k, LeO (g k) (g (k + 1))) {k : Nat} (h : g k = some r) : Ev g r := ⟨k, fun _ hk => at_rounds hg hk h⟩
theorem Ev.bind {α β : Type} {g : Nat → Option α} {f : Nat → α → Option β} {a : α} {r : β} (h : Ev g a) (k : Ev (fun n => f n a) r) : Ev (fun n => (g n).bind (f n)) r := by
 obtain ⟨K, h⟩ := h
 obtain ⟨K', k⟩ := k
 refine ⟨max K K', fun n hn => ?_⟩
 have h1 := h n (by omega)
 have h2 := k n (by omega)
 simp only [h1, Option.bind_some]
 exact h2
theorem Ev.step {α : Type} {g f : Nat → Option α} {r : α} (h : ∀ k, g (k + 1) = f k) (k : Ev f r) : Ev g r := by
 obtain ⟨K, k⟩ := k
 refine ⟨K + 1, fun n hn => ?_⟩
 obtain ⟨m, rfl⟩ : ∃ m, n = m + 1 := ⟨n - 1, by omega⟩
 rw [h]
 exact k m (by omega)
theorem Ev.congr {α : Type} {g f : Nat → Option α} {r : α} (h : ∀ k, g k = f k) (k : Ev f r) : Ev g r := by
 obtain ⟨K, k⟩ := k
 exact ⟨K, fun n hn => (h n).trans (k n hn)⟩
theorem own_weaken {w : World} {base base' : Nat} {e : TypeId} {size n : Nat} {v : Value} {xs : List Value} (h : w.ownsRow base e size v n xs) (hb : base' ≤ base) : w.ownsRow base' e size v n xs := by
 obtain ⟨h1, h2⟩ := h
 refine ⟨h1, ?_⟩
 rcases h2 with h2 | ⟨g, cap, cur, rfl, hg, r⟩
 · exact .inl h2
 · exact .inr ⟨g, cap, cur, rfl, Nat.le_trans hb hg, r⟩
section
variable {α : Type} {enc : α → Value} {d : α}
def encs (enc : α → Value) (xs : List α) : List Value := xs.map enc
def rdOf (d : α) (xs : List α) (i : Int) : α := xs.getD i.toNat d
def ReadsOf (enc : α → Value) (d : α) (w : World) (A : Option Addr) (n : Nat) (xs : List α) : Prop :=
 xs.length = n ∧ n ≤ 9223372036854775807 ∧ (0 < n → ∃ ad, A = some ad ∧ ∀ j, j < n → w.cell? (ad.add j) = some (enc (xs.getD j d)))
theorem ReadsOf.at_ {w : World} {A : Option Addr} {n : Nat} {xs : List α} (h : ReadsOf enc d w A n xs) (i : Int) (h0 : 0 ≤ i) (h1 : i < n) : ∃ ad, A = some ad ∧ w.cell? (ad.add i.toNat) = some (enc (rdOf d xs i)) := by
 obtain ⟨ad, e, hc⟩ := h.2.2 (by omega)
 exact ⟨ad, e, hc _ (by omega)⟩
theorem ReadsOf.below {w w1 : World} {A : Option Addr} {n : Nat} {xs : List α} (h : ReadsOf enc d w A n xs) (hb : Below w.heap.size w w1) : ReadsOf enc d w1 A n xs :=
 ⟨h.1, h.2.1, fun hn => by
  obtain ⟨ad, e, hc⟩ := h.2.2 hn
  exact ⟨ad, e, fun j hj => pw_cell_below hb (hc j hj)⟩⟩
end
theorem own_le {w : World} {base n m c size : Nat} {e : TypeId} {A : Option Addr} {xs : List Value} (h : w.ownsRow base e size (.slice A m c) n xs) : m ≤ c := by
 rcases h.2 with ⟨he, _⟩ | ⟨g, cap, cur, he, _, _, hnc, _⟩
 · injection he with _ h2 h3
   omega
 · injection he with _ h2 h3
   omega
def OwnRow {α : Type} (R : α → List Value → Prop) (e : TypeId) (size : Nat) (w : World) (base : Nat) (v : Value) (ps : List α) : Prop :=
 ∃ inner, w.ownsRow base e size v ps.length inner ∧ Reps R size ps inner
section
variable {α : Type} {R R' : α → List Value → Prop} {e : TypeId} {size : Nat} {w w1 : World} {base : Nat} {v : Value} {ps : List α}
theorem OwnRow.none_ (R : α → List Value → Prop) (e : TypeId) (size : Nat) (w : World) (base : Nat) : OwnRow R e size w base (.slice none 0 0) [] := ⟨[], own_nil _ _ _ _, Reps.none _ _⟩
theorem OwnRow.imp_ (h : OwnRow R e size w base v ps) (hR : ∀ p c, R p c → R' p c) : OwnRow R' e size w base v ps := by
 obtain ⟨inner, ho, hr⟩ := h
 exact ⟨inner, ho, hr.imp_ hR⟩
theorem OwnRow.below (h : OwnRow R e size w base v ps) (hb : Below w.heap.size w w1) : OwnRow R e size w1 base v ps := by
 obtain ⟨inner, ho, hr⟩ := h
 exact ⟨inner, pw_own_below ho hb, hr⟩
theorem OwnRow.other (h : OwnRow R e size w base v ps) {row : Option Nat} (hg : w.grownBy w1 row) (hne : v.ownBlock = none ∨ v.ownBlock ≠ row) : OwnRow R e size w1 base v ps := by
 obtain ⟨inner, ho, hr⟩ := h
 exact ⟨inner, own_other ho hg hne, hr⟩
theorem OwnRow.reads (h : OwnRow R e size w base v ps) : ∃ A c, v = .slice A ps.length c ∧ ps.length ≤ c ∧ ReadsRow R size w A ps.length ps := by
 obtain ⟨inner, ho, hr⟩ := h
 obtain ⟨A, c, rfl, hrow⟩ := own_reads_row ho hr rfl
 exact ⟨A, c, rfl, own_le ho, hrow⟩
theorem OwnRow.lit (W : World) (base : Nat) {inner : List Value} (hr : Reps R size ps inner) (hb : base ≤ W.heap.size) (hm : ps.length ≤ 9223372036854775807) :
 OwnRow R e size (W.alloc (.cells inner.toArray e)) base (.slice (some ⟨W.heap.size, 0, none⟩) ps.length ps.length) ps := by
 have h := World.ownsRow_lit (base := base) (e := e) (size := size) W inner.toArray ps.length hb (by simpa [maxLen] using hm) (by simpa using hr.1)
 exact ⟨inner, by simpa using h, hr⟩
end
section
variable {α : Type} {P : Program}
theorem ReadsOf.len_ {enc : α → Value} {d : α} {w : World} {A : Option Addr} {n : Nat} {xs : List α} (h : ReadsOf enc d w A n xs) : ReadsOf enc d w A xs.length xs := by rw [h.1]; exact h
end
structure Kd (α : Type) where
 sz : Nat
 E : List Nat
 K : World → α → List Value → Prop
 M : World → Nat → (Nat → Prop) → α → List Value → Prop
 K_len : ∀ {w x cs}, K w x cs → cs.length = sz
 K_one : ∀ {w x cs}, K w x cs → ∀ u ∈ cs, u.oneCell' = true
 K_below : ∀ {w w1 : World} {x cs}, Below w.heap.size w w1 → K w x cs → K w1 x cs
 K_of_M : ∀ {w base ok x cs}, M w base ok x cs → K w x cs
 M_mono : ∀ {w base ok ok' x cs}, (∀ k, ok k → ok' k) → M w base ok x cs → M w base ok' x cs
 M_bound : ∀ {w : World} {base ok x cs}, M w base ok x cs → M w base (fun k => ok k ∧ base ≤ k ∧ k < w.heap.size ∧ ∃ q, q ∈ E ∧ ∃ cells, w.heap[k]? = some (.cells cells q (0, 0))) x cs
 M_move : ∀ {w w1 : World} {base ok x cs}, (∀ k, ok k → w1.heap[k]? = w.heap[k]?) → M w base ok x cs → M w1 base ok x cs
 M_lower : ∀ {w base base' ok x cs}, base' ≤ base → M w base ok x cs → M w base' ok x cs
theorem own_move {w w1 : World} {base : Nat} {e : TypeId} {size n : Nat} {v : Value} {xs : List Value} (h : w.ownsRow base e size v n xs) (hm : ∀ k, v.ownBlock = some k → w1.heap[k]? = w.heap[k]?) : w1.ownsRow base e size v n xs := by
 obtain ⟨h1, h2⟩ := h
 refine ⟨h1, ?_⟩
 rcases h2 with h2 | ⟨g, cap, cur, rfl, hg, hh, r⟩
 · exact .inl h2
 · exact .inr ⟨g, cap, cur, rfl, hg, (hm g (by simp [Value.ownBlock])).trans hh, r⟩
theorem own_typed {w : World} {base : Nat} {e : TypeId} {size n : Nat} {v : Value} {xs : List Value} (h : w.ownsRow base e size v n xs) (k : Nat) (hk : v.ownBlock = some k) : ∃ cells, w.heap[k]? = some (.cells cells e (0, 0)) := by
 rcases h.2 with ⟨rfl, _⟩ | ⟨g, cap, cur, rfl, hg, hh, r⟩
 · simp [Value.ownBlock] at hk
 · have : g = k := by simpa [Value.ownBlock] using hk
   subst this
   exact ⟨cur, hh⟩
namespace Kd
def C {α : Type} (d : Kd α) (w : World) (A : Option Addr) (n : Nat) (xs : List α) : Prop := ReadsRow (d.K w) d.sz w A n xs
def R {α : Type} (d : Kd α) (e : Nat) (w : World) (base : Nat) (ok : Nat → Prop) (v : Value) (xs : List α) : Prop :=
 (∀ k, v.ownBlock = some k → ok k) ∧ OwnRow (d.M w base (fun k => ok k ∧ some k ≠ v.ownBlock)) e d.sz w base v xs
section
variable {α : Type} {d : Kd α} {e : Nat} {w w1 : World} {base : Nat} {ok ok' : Nat → Prop} {v : Value} {xs : List α}
theorem C_below {A : Option Addr} {n : Nat} (h : d.C w A n xs) (hb : Below w.heap.size w w1) : d.C w1 A n xs := ReadsRow.imp_ h hb (fun _ _ hp => d.K_below hb hp)
theorem R_nil (d : Kd α) (e : Nat) (w : World) (base : Nat) (ok : Nat → Prop) : d.R e w base ok (.slice none 0 0) [] := ⟨fun k hk => by simp [Value.ownBlock] at hk, OwnRow.none_ _ _ _ _ _⟩
theorem R_mono (h : d.R e w base ok v xs) (hok : ∀ k, ok k → ok' k) : d.R e w base ok' v xs := ⟨fun k hk => hok k (h.1 k hk), h.2.imp_ (fun _ _ hp => d.M_mono (fun k hk => ⟨hok k hk.1, hk.2⟩) hp)⟩
theorem R_bound (h : d.R e w base ok v xs) : d.R e w base (fun k => ok k ∧ base ≤ k ∧ k < w.heap.size ∧ ∃ q, q ∈ e :: d.E ∧ ∃ cells, w.heap[k]? = some (.cells cells q (0, 0))) v xs := by
 obtain ⟨h0, inner, ho, hr⟩ := h
 refine ⟨fun k hk => ?_, inner, ho, hr.imp_ (fun _ _ hp => d.M_mono (fun k hk => ?_) (d.M_bound hp))⟩
 · obtain ⟨cells, hc⟩ := own_typed ho k hk
   exact ⟨h0 k hk, own_base ho k hk, own_lt ho k hk, e, List.mem_cons_self, cells, hc⟩
 · obtain ⟨⟨h1, h2⟩, h3, h4, q, hq, hc⟩ := hk
   exact ⟨⟨h1, h3, h4, q, List.mem_cons_of_mem _ hq, hc⟩, h2⟩
theorem R_move (h : d.R e w base ok v xs) (hm : ∀ k, ok k → w1.heap[k]? = w.heap[k]?) : d.R e w1 base ok v xs := by
 obtain ⟨h0, inner, ho, hr⟩ := h
 exact ⟨h0, inner, own_move ho (fun k hk => hm k (h0 k hk)), hr.imp_ (fun _ _ hp => d.M_move (fun k hk => hm k hk.1) hp)⟩
theorem R_lower {base' : Nat} (h : d.R e w base ok v xs) (hb : base' ≤ base) : d.R e w base' ok v xs := by
 obtain ⟨h0, inner, ho, hr⟩ := h
 exact ⟨h0, inner, own_weaken ho hb, hr.imp_ (fun _ _ hp => d.M_lower hb hp)⟩
theorem R_step (h : d.R e w base ok v xs) (hm : ∀ k, ok k → k < w.heap.size → w1.heap[k]? = w.heap[k]?) : d.R e w1 base ok v xs :=
 R_mono (R_move (R_bound h) (fun k hk => hm k hk.1 hk.2.2.1)) (fun _ hk => hk.1)
theorem M_step {x : α} {cs : List Value} (h : d.M w base ok x cs) (hm : ∀ k, ok k → k < w.heap.size → w1.heap[k]? = w.heap[k]?) : d.M w1 base ok x cs :=
 d.M_mono (fun _ hk => hk.1) (d.M_move (fun k hk => hm k hk.1 hk.2.2.1) (d.M_bound h))
theorem R_below (h : d.R e w base ok v xs) (hb : Below w.heap.size w w1) : d.R e w1 base ok v xs := R_step h (fun k _ hk => hb.block k hk)
theorem M_below {x : α} {cs : List Value} (h : d.M w base ok x cs) (hb : Below w.heap.size w w1) : d.M w1 base ok x cs := M_step h (fun k _ hk => hb.block k hk)
theorem R_reads (h : d.R e w base ok v xs) : ∃ A c, v = .slice A xs.length c ∧ xs.length ≤ c ∧ d.C w A xs.length xs := by
 obtain ⟨A, c, he, hl, hr⟩ := OwnRow.reads h.2
 exact ⟨A, c, he, hl, hr.imp_ (Below.refl _ _) (fun _ _ hp => d.K_of_M hp)⟩
theorem R_slice (h : d.R e w base ok v xs) : ∃ A c, v = .slice A xs.length c := by
 obtain ⟨A, c, he, _⟩ := R_reads h
 exact ⟨A, c, he⟩
theorem R_own (h : d.R e w base ok v xs) : ∃ inner, w.ownsRow base e d.sz v xs.length inner := by
 obtain ⟨_, inner, ho, _⟩ := h
 exact ⟨inner, ho⟩
end
def scalar {α : Type} (enc : α → Value) (h1 : ∀ x, (enc x).oneCell' = true) : Kd α where
 sz := 1
 E := []
 K := fun _ x cs => cs = [enc x]
 M := fun _ _ _ x cs => cs = [enc x]
 K_len := fun h => by rw [h]; rfl
 K_one := fun h u hu => by
  rw [h] at hu
  rw [List.mem_singleton.1 hu]
  exact h1 _
 K_below := fun _ h => h
 K_of_M := fun h => h
 M_mono := fun _ h => h
 M_bound := fun h => h
 M_move := fun _ h => h
 M_lower := fun _ h => h
def int (k : IntKind) : Kd Int := scalar (Value.int k) (fun _ => rfl)
def bool : Kd Bool := scalar Value.bool (fun _ => rfl)
def slice {α : Type} (e : Nat) (d : Kd α) : Kd (List α) where
 sz := 1
 E := e :: d.E
 K := fun w xs cs => ∃ A c, cs = [.slice A xs.length c] ∧ xs.length ≤ c ∧ d.C w A xs.length xs
 M := fun w base ok xs cs => ∃ v, cs = [v] ∧ d.R e w base ok v xs
 K_len := by
  rintro w x cs ⟨A, c, rfl, _⟩
  rfl
 K_one := by
  rintro w x cs ⟨A, c, rfl, _⟩ u hu
  rw [List.mem_singleton.1 hu]
  rfl
 K_below := by
  rintro w w1 x cs hb ⟨A, c, rfl, hl, hr⟩
  exact ⟨A, c, rfl, hl, C_below hr hb⟩
 K_of_M := by
  rintro w base ok x cs ⟨v, rfl, h⟩
  obtain ⟨A, c, rfl, hl, hr⟩ := R_reads h
  exact ⟨A, c, rfl, hl, hr⟩
 M_mono := by
  rintro w base ok ok' x cs hok ⟨v, rfl, h⟩
  exact ⟨v, rfl, R_mono h hok⟩
 M_bound := by
  rintro w base ok x cs ⟨v, rfl, h⟩
  exact ⟨v, rfl, R_bound h⟩
 M_move := by
  rintro w w1 base ok x cs hm ⟨v, rfl, h⟩
  exact ⟨v, rfl, R_move h hm⟩
 M_lower := by
  rintro w base base' ok x cs hb ⟨v, rfl, h⟩
  exact ⟨v, rfl, R_lower h hb⟩
def pair {α β : Type} (a : Kd α) (b : Kd β) : Kd (α × β) where
 sz := a.sz + b.sz
 E := a.E ++ b.E
 K := fun w x cs => ∃ c0 c1, cs = c0 ++ c1 ∧ a.K w x.1 c0 ∧ b.K w x.2 c1
 M := fun w base ok x cs => ∃ c0 c1, cs = c0 ++ c1 ∧ a.M w base ok x.1 c0 ∧ b.M w base ok x.2 c1
 K_len := by
  rintro w x cs ⟨c0, c1, rfl, h0, h1⟩
  rw [List.length_append, a.K_len h0, b.K_len h1]
 K_one := by
  rintro w x cs ⟨c0, c1, rfl, h0, h1⟩ u hu
  rcases List.mem_append.1 hu with hu | hu
  · exact a.K_one h0 u hu
  · exact b.K_one h1 u hu
 K_below := by
  rintro w w1 x cs hb ⟨c0, c1, rfl, h0, h1⟩
  exact ⟨c0, c1, rfl, a.K_below hb h0, b.K_below hb h1⟩
 K_of_M := by
  rintro w base ok x cs ⟨c0, c1, rfl, h0, h1⟩
  exact ⟨c0, c1, rfl, a.K_of_M h0, b.K_of_M h1⟩
 M_mono := by
  rintro w base ok ok' x cs hok ⟨c0, c1, rfl, h0, h1⟩
  exact ⟨c0, c1, rfl, a.M_mono hok h0, b.M_mono hok h1⟩
 M_bound := by
  rintro w base ok x cs ⟨c0, c1, rfl, h0, h1⟩
  refine ⟨c0, c1, rfl, a.M_mono ?_ (a.M_bound h0), b.M_mono ?_ (b.M_bound h1)⟩
  · rintro k ⟨h2, h3, h4, q, hq, hc⟩
    exact ⟨h2, h3, h4, q, List.mem_append_left _ hq, hc⟩
  · rintro k ⟨h2, h3, h4, q, hq, hc⟩
    exact ⟨h2, h3, h4, q, List.mem_append_right _ hq, hc⟩
 M_move := by
  rintro w w1 base ok x cs hm ⟨c0, c1, rfl, h0, h1⟩
  exact ⟨c0, c1, rfl, a.M_move hm h0, b.M_move hm h1⟩
 M_lower := by
  rintro w base base' ok x cs hb ⟨c0, c1, rfl, h0, h1⟩
  exact ⟨c0, c1, rfl, a.M_lower hb h0, b.M_lower hb h1⟩
def iso {α β : Type} (d : Kd α) (f : β → α) : Kd β where
 sz := d.sz
 E := d.E
 K := fun w x cs => d.K w (f x) cs
 M := fun w base ok x cs => d.M w base ok (f x) cs
 K_len := d.K_len
 K_one := d.K_one
 K_below := d.K_below
 K_of_M := d.K_of_M
 M_mono := d.M_mono
 M_bound := d.M_bound
 M_move := d.M_move
 M_lower := d.M_lower
def bot {α : Type} (sz : Nat) (E : List Nat) : Kd α where
 sz := sz
 E := E
 K := fun _ _ _ => False
 M := fun _ _ _ _ _ => False
 K_len := fun h => h.elim
 K_one := fun h => h.elim
 K_below := fun _ h => h
 K_of_M := fun h => h
 M_mono := fun _ h => h
 M_bound := fun h => h
 M_move := fun _ h => h
 M_lower := fun _ h => h
def upto {α : Type} (F : Kd α → Kd α) (sz : Nat) (E : List Nat) : Nat → Kd α
 | 0 => bot sz E
 | n + 1 => F (upto F sz E n)
theorem C_get {α : Type} {d : Kd α} {w : World} {A : Option Addr} {n : Nat} {xs : List α} (h : d.C w A n xs) (z : α) (i : Int) (h0 : 0 ≤ i) (h1 : i < n) :
 ∃ ad c, A = some ad ∧ c.length = d.sz ∧ d.K w (xs.getD i.toNat z) c ∧ ∀ j u, c[j]? = some u → w.cell? (ad.add (i.toNat * d.sz + j)) = some u := ReadsRow.get_ h z i h0 h1
theorem reads_of_C {α : Type} {enc : α → Value} {d : α} {h1 : ∀ x, (enc x).oneCell' = true} {w : World} {A : Option Addr} {n : Nat} {xs : List α} (h : (scalar enc h1).C w A n xs) : ReadsOf enc d w A n xs := by
 refine ⟨h.1, h.2.1, fun hn => ?_⟩
 obtain ⟨ad, e, hc⟩ := h.2.2 hn
 refine ⟨ad, e, fun j hj => ?_⟩
 have hl : j < xs.length := by have := h.1; omega
 obtain ⟨c, _, hK, hcell⟩ := hc j _ (List.getElem?_eq_getElem hl)
 have hK' : c = [enc xs[j]] := hK
 subst hK'
 have := hcell 0 _ rfl
 simpa [scalar, List.getD_eq_getElem?_getD, List.getElem?_eq_getElem hl] using this
end Kd
namespace Kd
structure Mono {α β : Type} (F : Kd α → Kd β) : Prop where
 sz : ∀ d d' : Kd α, d.sz = d'.sz → (F d).sz = (F d').sz
 K : ∀ d d' : Kd α, d.sz = d'.sz → (∀ w x cs, d.K w x cs → d'.K w x cs) → ∀ w x cs, (F d).K w x cs → (F d').K w x cs
 M : ∀ d d' : Kd α, d.sz = d'.sz → (∀ w base ok x cs, d.M w base ok x cs → d'.M w base ok x cs) → ∀ w base ok x cs, (F d).M w base ok x cs → (F d').M w base ok x cs
end Kd
namespace Kd
section
variable {α β : Type} {d : Kd α} {d' : Kd β} {e e' : Nat} {w w1 W : World} {base b b' : Nat} {ok ok' okv oku : Nat → Prop} {v u : Value} {xs : List α} {ys : List β}
theorem R_alloc (h : d.R e w base ok v xs) (o : Obj) : d.R e (w.alloc o) base ok v xs := R_below h (below_alloc (Below.refl _ _) o)
theorem R_drew (h : d.R e w base ok v xs) : d.R e w.drew base ok v xs := R_below h (below_drew (Below.refl _ _))
theorem R_drewN (h : d.R e w base ok v xs) (m : Nat) : d.R e (w.drewN m) base ok v xs := R_below h (pw_below_drewN (Below.refl _ _) m)
theorem C_alloc {A : Option Addr} {n : Nat} (h : d.C w A n xs) (o : Obj) : d.C (w.alloc o) A n xs := C_below h (below_alloc (Below.refl _ _) o)
theorem C_drew {A : Option Addr} {n : Nat} (h : d.C w A n xs) : d.C w.drew A n xs := C_below h (below_drew (Below.refl _ _))
theorem C_drewN {A : Option Addr} {n : Nat} (h : d.C w A n xs) (m : Nat) : d.C (w.drewN m) A n xs := C_below h (pw_below_drewN (Below.refl _ _) m)
theorem R_reads' {A : Option Addr} {n c : Nat} (h : d.R e w base ok (.slice A n c) xs) : n = xs.length ∧ n ≤ c ∧ d.C w A xs.length xs := by
 obtain ⟨A', c', he, hl, hr⟩ := R_reads h
 injection he with h1 h2 h3
 subst h1
 exact ⟨h2, by omega, hr⟩
theorem R_lt (h : d.R e w base ok v xs) : ∀ k, v.ownBlock = some k → k < w.heap.size := by
 obtain ⟨inner, ho⟩ := R_own h
 exact own_lt ho
theorem R_base (h : d.R e w base ok v xs) : ∀ k, v.ownBlock = some k → base ≤ k := by
 obtain ⟨inner, ho⟩ := R_own h
 exact own_base ho
end
section
variable {w W : World} {A : Option Addr} {n : Nat}
theorem at_int {k : IntKind} {xs : List Int} (h : (Kd.int k).C w A n xs) (i : Int) (h0 : 0 ≤ i) (h1 : i < n) : ∃ ad, A = some ad ∧ w.cell? (ad.add i.toNat) = some (.int k (rd xs i)) :=
 ReadsOf.at_ (reads_of_C (enc := Value.int k) (d := (0 : Int)) (h1 := fun _ => rfl) h) i h0 h1
variable {α : Type} {enc : α → Value} {h1 : ∀ x, (enc x).oneCell' = true} {e base g cap : Nat} {ok : Nat → Prop} {xs : List α}
end
section
variable {P : Program} {ops : Array Oper} {rest : List Oper} {o : Oper} {a : Act} {Q : Exit → Act → World → Prop}
theorem event_run {W w1 : World} {v : Value} (hgd : o.guard = none) (hrun : (execOp a.eval o).run P W = .ok (.value v) w1) (h : wpList P ops Q rest (a.put o.dst v) w1) : wpList P ops Q (o :: rest) a W := by
 refine wpList_plain hgd fun K hK => ?_
 unfold Oper.wp
 rw [hrun]
 exact hK _ _ h
variable {α : Type}
theorem R_lit (d : Kd α) {w0 W : World} (base e : Nat) (hgd : o.guard = none) {N : Tmp} (_hd : o.dst = some N) {xs : List α} {inner : List Value} {ok okp : Nat → Prop}
 (hrun : (execOp a.eval o).run P W = .ok (.value (.slice (some ⟨W.heap.size, 0, none⟩) xs.length xs.length)) (W.alloc (.cells inner.toArray e)))
 (hrep : Reps (d.M W base okp) d.sz xs inner) (hok : ∀ k, okp k → ok k) (hfresh : ok W.heap.size) (HB : Below base w0 W) (hbase : base ≤ W.heap.size) (hm : xs.length ≤ 9223372036854775807)
 (h : ∀ v1 w1, d.R e w1 base ok v1 xs → Below base w0 w1 → W.grownBy w1 none → (∃ b, v1.ownBlock = some b ∧ W.heap.size ≤ b) → wpList P ops Q rest (a.put o.dst v1) w1) : wpList P ops Q (o :: rest) a W := by
 refine event_run hgd hrun (h _ _ ⟨fun k hk => ?_, inner, ?_, ?_⟩ (HB.alloc hbase _) (World.grownBy_alloc W _ none) ⟨W.heap.size, by simp [Value.ownBlock], Nat.le_refl _⟩)
 · have : W.heap.size = k := by simpa [Value.ownBlock] using hk
   subst this
   exact hfresh
 · have h2 := World.ownsRow_lit (base := base) (e := e) (size := d.sz) W inner.toArray xs.length hbase (by simpa [maxLen] using hm) (by simpa using hrep.1)
   simpa using h2
 · refine hrep.imp_ (fun p c hp => d.M_mono (fun k hk => ⟨hok k hk.1, fun he => ?_⟩) (M_below (d.M_bound hp) (below_alloc (Below.refl _ _) _)))
   have h3 : k = W.heap.size := by simpa [Value.ownBlock] using he
   have := hk.2.2.1
   omega
end
end Kd
def QRow (w : World) (base : Nat) (e : TypeId) (size : Nat) (v : Value) (n : Nat) (xs : List Value) : Prop :=
 xs.length = n * size ∧
 ((n = 0 ∧ ∃ A, v = .slice A 0 0 ∧ ∀ a, A = some a → base ≤ a.block ∧ ∃ cur, w.heap[a.block]? = some (.cells cur e (0, 0))) ∨
  ∃ g off cap cur, v = .slice (some ⟨g, off * size, none⟩) n cap ∧ base ≤ g ∧ w.heap[g]? = some (.cells cur e (0, 0)) ∧ n ≤ cap ∧ off + cap ≤ maxLen ∧ cur.size = (off + cap) * size ∧ (cur.toList.drop (off * size)).take (n * size) = xs)
namespace Kd
def Q {α : Type} (d : Kd α) (e : Nat) (w : World) (base : Nat) (ok : Nat → Prop) (v : Value) (xs : List α) : Prop :=
 (∀ k, v.ownBlock = some k → ok k) ∧ ∃ inner, QRow w base e d.sz v xs.length inner ∧ Reps (d.M w base (fun k => ok k ∧ some k ≠ v.ownBlock)) d.sz xs inner
end Kd
namespace Kd
section
variable {α : Type} {d : Kd α} {e e' : Nat} {w w1 W : World} {base : Nat} {ok : Nat → Prop} {u v : Value} {xs : List α}
theorem R_elder' (hu : d.R e W base ok u xs) (hbase : ∀ k, v.ownBlock = some k → W.heap.size ≤ k) (hb : Below W.heap.size W w1) : d.R e w1 base (fun k => ok k ∧ some k ≠ v.ownBlock) u xs :=
 R_mono (R_move (R_bound hu) (fun k hk => hb.block k hk.2.2.1)) (fun k hk => ⟨hk.1, fun he => by have := hbase k he.symm; have := hk.2.2.1; omega⟩)
theorem R_new' (h : d.R e w1 W.heap.size ok v xs) (hlt : ∀ k, u.ownBlock = some k → k < W.heap.size) : d.R e w1 W.heap.size (fun k => ok k ∧ some k ≠ u.ownBlock) v xs :=
 R_mono (R_bound h) (fun k hk => ⟨hk.1, fun he => by have := hlt k he.symm; have := hk.2.1; omega⟩)
end
end Kd
theorem below_size {w W : World} (h : Below w.heap.size w W) : w.heap.size ≤ W.heap.size := h.size
theorem below_step {w W w2 : World} (h : Below w.heap.size w W) (k : Below W.heap.size W w2) : Below w.heap.size w w2 := below_then h h.size k
theorem ReadsInt.nil (W : World) (k : IntKind) : ReadsInt W k none ([] : List Int).length [] := ⟨rfl, by simp, fun h => absurd h (Nat.lt_irrefl 0)⟩
theorem ReadsInt.drewN {W : World} {k : IntKind} {A : Option Addr} {n : Nat} {xs : List Int} (h : ReadsInt W k A n xs) (m : Nat) : ReadsInt (W.drewN m) k A n xs := h
theorem ReadsOf.nil {α : Type} (enc : α → Value) (d : α) (W : World) : ReadsOf enc d W none ([] : List α).length [] := ⟨rfl, by simp, fun h => absurd h (Nat.lt_irrefl 0)⟩
theorem ReadsOf.drewN {α : Type} {enc : α → Value} {d : α} {W : World} {A : Option Addr} {n : Nat} {xs : List α} (h : ReadsOf enc d W A n xs) (m : Nat) : ReadsOf enc d (W.drewN m) A n xs := h
theorem cell_far {W : World} {p a : Addr} (h : a.block ≠ p.block) (u : Value) : (W.setCell p u).cell? a = W.cell? a := by
 have := Below.heap_setCell W p u a.block h
 simp [World.cell?, this]
theorem own_cap {W : World} {base n c : Nat} {e : TypeId} {size : Nat} {A : Option Addr} {xs : List Value} (h : W.ownsRow base e size (.slice A n c) n xs) : n ≤ c := by
 rcases h.2 with ⟨h1, h2⟩ | ⟨g, cap, cur, h1, _, _, h2, _⟩
 · injection h1 with _ h3 h4
   omega
 · injection h1 with _ _ h4
   omega
theorem below_drew1 {base : Nat} {w W : World} (h : Below base w W) : Below base w W.drew := h.drew
section
variable {P : Program} {ops : Array Oper} {rest : List Oper} {o : Oper} {a : Act} {Q : Exit → Act → World → Prop} {W : World}
theorem gate_dst {N : Tmp} (_hN : o.dst = some N) (h : wpList P ops Q (o :: rest) a W) : wpList P ops Q (o :: rest) a W := h
end
inductive Vals (P : Program) (tmps : Array Value) (w : World) : List ResultVar → List Value → Prop where
 | nil : Vals P tmps w [] []
 | tmp {u : Tmp} {rs : List ResultVar} {vs : List Value} (h : Vals P tmps w rs vs) : Vals P tmps w (.tmp u :: rs) (tmps.getD u undef :: vs)
 | cell {p : Tmp} {ty : TypeId} {rs : List ResultVar} {vs : List Value} (g : Nat) (t : TypeId) (cs : Array Value) (fr : Nat × Nat) (d : TypeDesc)
  (hp : tmps.getD p undef = .pointer (some ⟨g, 0, none⟩)) (hg : w.heap[g]? = some (.cells cs t fr))
  (hu : P.underlying ty = some d) (hd : (match d with | .struct _ | .array _ _ => true | _ => false) = true) (hi : (P.info? ty).map (·.size) = some cs.size)
  (h : Vals P tmps w rs vs) : Vals P tmps w (.cell p ty :: rs) (.agg cs :: vs)
end Go.Proofs.YtlffhagjpfcecaaW.PrintWords

namespace Go.Proofs.YtlffhagjpfcecaaW.PrintLast
section
variable {P : Program} {ops : Array Oper} {Q : Exit → Act → World → Prop} {md : Region.Mode} {S : World → Prop} {ds : List Nat}
def ListedClosed (md : Region.Mode) (ops : Array Oper) (listed : Array Bool) : Prop :=
 ∀ j oj, ops[j]? = some oj → listed.getD j false = true → ∀ e ∈ oj.after, Region.binds md e = true → listed.getD e.on false = true
theorem ListedClosed.set {listed : Array Bool} {i : Nat} (h : ListedClosed md ops listed) (hi : i ∈ Region.ready md ops listed) : ListedClosed md ops (listed.setIfInBounds i true) := by
 obtain ⟨_, oi, hoi, hall⟩ := mem_ready.1 hi
 intro j oj hj hl e he hb
 by_cases hij : i = j
 · subst hij
   have : oj = oi := Option.some.inj (hj.symm.trans hoi)
   subst this
   exact getD_set_true (hall e he hb)
 · rw [getD_set_ne false hij] at hl
   exact getD_set_true (h j oj hj hl e he hb)
def wpAnyLast (P : Program) (md : Region.Mode) (ops : Array Oper) (Q : Exit → Act → World → Prop) (S : World → Prop) (ds : List Nat) : Nat → Array Bool → Act → World → Prop
 | 0, listed, a, w => Region.ready md ops listed = [] ∧ Q .normal a w
 | fuel + 1, listed, a, w =>
  (Region.ready md ops listed = [] → Q .normal a w) ∧
  ∀ i ∈ Region.ready md ops listed, wpOp P ops Q i (fun a' w' => (i ∉ ds → S w → S w') ∧ wpAnyLast P md ops Q S ds fuel (listed.setIfInBounds i true) a' w') a w
end
section
variable {P : Program} {ops : Array Oper} {Q : Exit → Act → World → Prop} {md : Region.Mode} {S : World → Prop} {ds : List Nat}
def AllReadyL (P : Program) (md : Region.Mode) (ops : Array Oper) (Q : Exit → Act → World → Prop) (S : World → Prop) (ds : List Nat) (fuel : Nat) (listed : Array Bool) (a : Act) (w : World) (rs : List Nat) : Prop :=
 ∀ i ∈ rs, wpOp P ops Q i (fun a' w' => (i ∉ ds → S w → S w') ∧ wpAnyLast P md ops Q S ds fuel (listed.setIfInBounds i true) a' w') a w
theorem AllReadyL.nil {fuel : Nat} {listed : Array Bool} {a : Act} {w : World} : AllReadyL P md ops Q S ds fuel listed a w [] := fun _ h => by cases h
theorem AllReadyL.cons {fuel : Nat} {listed : Array Bool} {a : Act} {w : World} {i : Nat} {o : Oper} {rs : List Nat} (ho : ops[i]? = some o) (hd : i ∉ ds)
 (h : ∀ K' : Act → World → Prop, Shut (∀ a w, S w → (S w → wpAnyLast P md ops Q S ds fuel (listed.setIfInBounds i true) a w) → K' a w) → if Region.wanted o (yielded ops a.tmps) = true then Oper.wp P o a w K' Q else K' (a.put o.dst undef) w)
 (hs : AllReadyL P md ops Q S ds fuel listed a w rs) : AllReadyL P md ops Q S ds fuel listed a w (i :: rs) := fun j hj => by
 rcases List.mem_cons.1 hj with rfl | hj
 · exact wpOp_step ho (fun K' hK => h K' (fun a w hS hW => hK a w ⟨fun _ _ => hS, hW hS⟩))
 · exact hs j hj
theorem enters_ {f : FuncId} {fn : Func} (hf : P.funcs[f]? = some fn) (hname : (fn.name == "runtime.NumGoroutine") = false) (hb : fn.body.isSome = true) (args : Array Value) (w : World) : (callFunc f args).run P w = .ok (.enter f args) w := by
 have h1 : fn.name ≠ "runtime.NumGoroutine" := by simpa using hname
 obtain ⟨c, hc⟩ := Option.isSome_iff_exists.1 hb
 simp [callFunc, hf, h1, hc]
theorem goesL_ {rest : List Oper} {oi : Oper} {a : Act} {w : World} (N : Option Tmp) (hd : oi.dst = N) (hg : oi.guard = none) {f : FuncId} {fn : Func} {as_ : Array Operand} {ts : Array TypeId} (hf : P.funcs[f]? = some fn) (hname : (fn.name == "runtime.NumGoroutine") = false) (hb : fn.body.isSome = true) (args : Array Value)
 (hop : oi.op = .call { callee := .value (.func f), args := as_, argTypes := ts }) (hargs : as_.map a.eval = args)
 (h : Calls P f args w fun e w' => ∃ v, e = .returned v ∧ wpList P ops Q rest (a.put N v) w') : wpList P ops Q (oi :: rest) a w := by
 refine wpList_plain hg fun K hK => ?_
 have he := enters_ hf hname hb args w
 have hrun : (execOp a.eval oi).run P w = .ok (.enter f args) w := by
  unfold execOp
  simp [hop, resolve, Deferred.ofValue, invoke, Act.eval, hargs, he]
 unfold Oper.wp
 rw [hrun, Oper.upon_enter]
 refine h.mono fun e w'' hh => ?_
 obtain ⟨v, rfl, hk⟩ := hh
 subst hd
 exact hK _ _ hk
end
end Go.Proofs.YtlffhagjpfcecaaW.PrintLast







namespace Go.Proofs.YtlffhagjpfcecaaW.PrintWords
open Go.RowKit
namespace Kd
def tag {α : Type} (f : Nat → Nat) (d : Kd α) : Kd (α × Nat) where
 sz := d.sz
 E := d.E
 K := fun w x cs => d.K w x.1 cs
 M := fun w base ok x cs => d.M w base (fun k => ok k ∧ f k = x.2) x.1 cs
 K_len := fun h => d.K_len h
 K_one := fun h => d.K_one h
 K_below := fun hb h => d.K_below hb h
 K_of_M := fun h => d.K_of_M h
 M_mono := fun hok h => d.M_mono (fun k hk => ⟨hok k hk.1, hk.2⟩) h
 M_bound := fun h => d.M_mono (fun _ hk => ⟨⟨hk.1.1, hk.2⟩, hk.1.2⟩) (d.M_bound h)
 M_move := fun hm h => d.M_move (fun k hk => hm k hk.1) h
 M_lower := fun hb h => d.M_lower hb h
def raw (sz : Nat) : Kd (List Value) where
 sz := sz
 E := []
 K := fun _ x cs => cs = x ∧ cs.length = sz ∧ ∀ u ∈ cs, u.oneCell' = true
 M := fun _ _ _ x cs => cs = x ∧ cs.length = sz ∧ ∀ u ∈ cs, u.oneCell' = true
 K_len := fun h => h.2.1
 K_one := fun h => h.2.2
 K_below := fun _ h => h
 K_of_M := fun h => h
 M_mono := fun _ h => h
 M_bound := fun h => h
 M_move := fun _ h => h
 M_lower := fun _ h => h
def S {α : Type} (d : Kd α) (e : Nat) (w : World) (base : Nat) (ok : Nat → Prop) (v : Value) (xs : List α) : Prop := ∃ f, (tag f d).R e w base ok v xs.zipIdx
def gap {α : Type} (f : Nat → Nat) (d : Kd α) (i : Nat) (c : List Value) : Kd (α × Nat) where
 sz := d.sz
 E := d.E
 K := fun w x cs => (x.2 = i → cs = c ∧ cs.length = d.sz ∧ ∀ u ∈ cs, u.oneCell' = true) ∧ (x.2 ≠ i → d.K w x.1 cs)
 M := fun w base ok x cs => (x.2 = i → cs = c ∧ cs.length = d.sz ∧ ∀ u ∈ cs, u.oneCell' = true) ∧ (x.2 ≠ i → d.M w base (fun k => ok k ∧ f k = x.2) x.1 cs)
 K_len := fun {w x cs} h => by
  by_cases hx : x.2 = i
  · exact (h.1 hx).2.1
  · exact d.K_len (h.2 hx)
 K_one := fun {w x cs} h => by
  by_cases hx : x.2 = i
  · exact (h.1 hx).2.2
  · exact d.K_one (h.2 hx)
 K_below := fun hb h => ⟨h.1, fun hx => d.K_below hb (h.2 hx)⟩
 K_of_M := fun h => ⟨h.1, fun hx => d.K_of_M (h.2 hx)⟩
 M_mono := fun hok h => ⟨h.1, fun hx => d.M_mono (fun k hk => ⟨hok k hk.1, hk.2⟩) (h.2 hx)⟩
 M_bound := fun h => ⟨h.1, fun hx => d.M_mono (fun _ hk => ⟨⟨hk.1.1, hk.2⟩, hk.1.2⟩) (d.M_bound (h.2 hx))⟩
 M_move := fun hm h => ⟨h.1, fun hx => d.M_move (fun k hk => hm k hk.1) (h.2 hx)⟩
 M_lower := fun hb h => ⟨h.1, fun hx => d.M_lower hb (h.2 hx)⟩
def H {α : Type} (d : Kd α) (e : Nat) (w : World) (base : Nat) (ok : Nat → Prop) (v : Value) (xs : List α) (i : Int) (oki : Nat → Prop) (c : List Value) : Prop :=
 (∀ k, oki k → ok k) ∧ ∃ f, (gap f d i.toNat c).R e w base (fun k => ok k ∧ ¬ oki k) v xs.zipIdx
end Kd
end Go.Proofs.YtlffhagjpfcecaaW.PrintWords





namespace Go.Proofs.YtlffhagjpfcecaaW.PrintWords
open Go.RowKit
namespace Kd
structure Heap {α : Type} (d : Kd α) : Prop where
 K : ∀ {w w1 : World} {x : α} {cs : List Value}, (∀ k, k < w.heap.size → w1.heap[k]? = w.heap[k]?) → d.K w x cs → d.K w1 x cs
theorem cell_heap {w w1 : World} (hb : ∀ k, k < w.heap.size → w1.heap[k]? = w.heap[k]?) {a : Addr} {v : Value} (h : w.cell? a = some v) : w1.cell? a = some v := by
 have := hb a.block (World.block_lt_of_cell? w a h)
 simpa [World.cell?, this] using h
theorem Heap.C {α : Type} {d : Kd α} (hd : Heap d) {w w1 : World} {A : Option Addr} {n : Nat} {xs : List α} (hb : ∀ k, k < w.heap.size → w1.heap[k]? = w.heap[k]?) (h : d.C w A n xs) : d.C w1 A n xs :=
 ⟨h.1, h.2.1, fun hn => by
  obtain ⟨ad, e, hc⟩ := h.2.2 hn
  refine ⟨ad, e, fun j p hj => ?_⟩
  obtain ⟨c, hs, hr, hcell⟩ := hc j p hj
  exact ⟨c, hs, hd.K hb hr, fun i u hu => cell_heap hb (hcell i u hu)⟩⟩
end Kd
end Go.Proofs.YtlffhagjpfcecaaW.PrintWords

namespace Go.Proofs.YtlffhagjpfcecaaW.PrintWords
open Go.RowKit
def Kept (w W : World) (S : Nat → Prop) : Prop := w.heap.size ≤ W.heap.size ∧ ∀ i, i < w.heap.size → ¬ S i → W.heap[i]? = w.heap[i]?
section
variable {w W W2 : World} {S S2 S' : Nat → Prop}
theorem Kept.refl (w : World) (S : Nat → Prop) : Kept w w S := ⟨Nat.le_refl _, fun _ _ _ => rfl⟩
theorem Kept.of_below (h : Below w.heap.size w W) (S : Nat → Prop) : Kept w W S := ⟨h.size, fun i hi _ => h.block i hi⟩
theorem Kept.mono (h : Kept w W S) (hs : ∀ k, S k → S' k) : Kept w W S' := ⟨h.1, fun i hi hn => h.2 i hi (fun hk => hn (hs i hk))⟩
theorem Kept.then_ (h : Kept w W S) (k : Kept W W2 S2) (hs : ∀ k, S2 k → S k ∨ w.heap.size ≤ k) : Kept w W2 S :=
 ⟨Nat.le_trans h.1 k.1, fun i hi hn => (k.2 i (Nat.lt_of_lt_of_le hi h.1) (fun h2 => (hs i h2).elim hn (fun h3 => by omega))).trans (h.2 i hi hn)⟩
theorem Kept.of_grown {row : Option Nat} (hg : W.grownBy W2 row) (h : Kept w W S) (hr : ∀ k, row = some k → S k ∨ w.heap.size ≤ k) : Kept w W2 S :=
 h.then_ (S2 := fun k => row = some k) ⟨hg.size, fun i hi hn => hg.block i hi (fun he => hn he.symm)⟩ hr
theorem Kept.below (h : Kept w W S) (hb : Below W.heap.size W W2) : Kept w W2 S := h.then_ (Kept.of_below hb (fun _ => False)) (fun _ hk => hk.elim)
theorem Kept.alloc (h : Kept w W S) (o : Obj) : Kept w (W.alloc o) S := h.below (below_alloc (Below.refl _ _) o)
theorem Kept.drew (h : Kept w W S) : Kept w W.drew S := h
theorem Kept.drewN (h : Kept w W S) (m : Nat) : Kept w (W.drewN m) S := h
theorem Kept.setCell (h : Kept w W S) {p : Addr} (hp : S p.block ∨ w.heap.size ≤ p.block) (u : Value) : Kept w (W.setCell p u) S :=
 h.then_ (S2 := fun k => k = p.block) ⟨by simp [World.setCell], fun i _ hn => Below.heap_setCell W p u i hn⟩ (fun k hk => by rw [hk]; exact hp)
end
end Go.Proofs.YtlffhagjpfcecaaW.PrintWords

namespace Go.Proofs.YtlffhagjpfcecaaW.PrintWords
open Go.RowKit
def Foot (P : World → Prop) (W : World) (ok : Nat → Prop) : Prop := ∀ W' : World, (∀ k, ok k → k < W.heap.size → W'.heap[k]? = W.heap[k]?) → P W'
theorem heap_lt {W W1 : World} {k : Nat} (h : W1.heap[k]? = W.heap[k]?) (hlt : k < W.heap.size) : k < W1.heap.size := by
 rw [Array.getElem?_eq_getElem hlt] at h
 exact (Array.getElem?_eq_some_iff.1 h).1
namespace Foot
variable {P Q : World → Prop} {W W1 : World} {ok ok' : Nat → Prop}
theorem mono (h : Foot P W ok) (hok : ∀ k, ok k → ok' k) : Foot P W ok' := fun W' hW => h W' (fun k hk hlt => hW k (hok k hk) hlt)
theorem step (h : Foot P W ok) (hm : ∀ k, ok k → k < W.heap.size → W1.heap[k]? = W.heap[k]?) : Foot P W1 ok := fun W' hW => h W' (fun k hk hlt => (hW k hk (heap_lt (hm k hk hlt) hlt)).trans (hm k hk hlt))
theorem imp (h : Foot P W ok) (hi : ∀ W', P W' → Q W') : Foot Q W ok := fun W' hW => hi W' (h W' hW)
end Foot
namespace Kd
def F {α : Type} (d : Kd α) (W : World) (ok : Nat → Prop) (A : Option Addr) (n : Nat) (xs : List α) : Prop := Foot (fun W => d.C W A n xs) W ok
def FK {α : Type} (d : Kd α) (W : World) (ok : Nat → Prop) (x : α) (c : List Value) : Prop := Foot (fun W => d.K W x c) W ok
end Kd
end Go.Proofs.YtlffhagjpfcecaaW.PrintWords

namespace Go.Proofs.YtlffhagjpfcecaaW.PrintWords
open Go.RowKit
namespace Kd
section
variable {α : Type} {d : Kd α} {e base n cc g : Nat} {ok ok' okp S : Nat → Prop} {w w1 W W1 : World} {A : Option Addr} {u v v1 : Value} {xs : List α} {x : α} {c : List Value}
def N {α : Type} (d : Kd α) (e : Nat) (w : World) (base : Nat) (ok : Nat → Prop) (v : Value) (xs : List α) : Prop :=
 (∀ k, v.ownBlock = some k → ok k) ∧ ∃ rows : List (List Value), rows.length = xs.length ∧ (raw d.sz).R e w base (fun k => some k = v.ownBlock) v rows ∧ ∀ (j : Nat) (x : α) (c : List Value), xs[j]? = some x → rows[j]? = some c → FK d w (fun k => ok k ∧ some k ≠ v.ownBlock) x c
end
end Kd
end Go.Proofs.YtlffhagjpfcecaaW.PrintWords





namespace Go.Proofs.YtlffhagjpfcecaaW.PrintWords
open Go.RowKit
section
variable {P : Program} {d : Nat} {xs ys : Array Value} {f : Field} {fs : List Field} {a b : Value} {r s : Bool} {w : World}
theorem eqf_last (hn : (f.name == "_") = false) (ha : (part f.type xs f.offset).run P w = .ok a w) (hb : (part f.type ys f.offset).run P w = .ok b w) (he : (Op.equalIn d f.type a b).run P w = .ok r w) : (Op.eqFields d xs ys [f]).run P w = .ok r w := by
 have hn' : f.name ≠ "_" := by simpa using hn
 simp only [Op.eqFields, if_pos hn', Sem.run_bind, ha, hb, he, Result.andThen_ok]
 cases r <;> simp
theorem eqf_cons (hn : (f.name == "_") = false) (ha : (part f.type xs f.offset).run P w = .ok a w) (hb : (part f.type ys f.offset).run P w = .ok b w) (he : (Op.equalIn d f.type a b).run P w = .ok r w) (hr : (Op.eqFields d xs ys fs).run P w = .ok s w) : (Op.eqFields d xs ys (f :: fs)).run P w = .ok (r && s) w := by
 have hn' : f.name ≠ "_" := by simpa using hn
 rw [Op.eqFields]
 simp only [if_pos hn', Sem.run_bind, ha, hb, he, Result.andThen_ok]
 cases r
 · simp
 · simpa using hr
theorem eqA_of {t : TypeId} {fs : Array Field} (hu : P.underlying t = some (.struct fs)) (hp : P.stoodInHeld t = false) (h : (Op.eqFields d xs ys fs.toList).run P w = .ok r w) : (Op.equalIn (d + 1) t (.agg xs) (.agg ys)).run P w = .ok r w := by
 have hf : P.fieldsOf t = fs := by simp [Program.fieldsOf, hu]
 rw [run_equalIn_struct (P := P) w d t xs ys (by rw [hf]; exact hu) hp, hf]
 exact h
end
end Go.Proofs.YtlffhagjpfcecaaW.PrintWords

namespace Go.Proofs.YtlffhagjpfcecaaW.PrintWords
theorem Reps.one {α : Type} {R : α → List Value → Prop} {ps : List α} {cs : List Value} {p : α} {v : Value} (hp : R p [v]) (h : Reps R 1 ps cs) : Reps R 1 (p :: ps) (v :: cs) := by
 refine ⟨by simp [h.1], fun j q hq => ?_⟩
 cases j with
 | zero =>
  simp only [List.getElem?_cons_zero, Option.some.injEq] at hq
  subst hq
  simpa using hp
 | succ j =>
  simp only [List.getElem?_cons_succ] at hq
  have h1 := h.2 j q hq
  simpa [Nat.mul_one] using h1
theorem Reps.front {α : Type} {R : α → List Value → Prop} {size : Nat} {ps : List α} {cs c all : List Value} {p : α} (hp : R p c) (hc : c.length = size) (h : Reps R size ps cs) (ha : c ++ cs = all) : Reps R size (p :: ps) all := by
 subst ha
 refine ⟨by rw [List.length_append, hc, h.1, List.length_cons, Nat.succ_mul, Nat.add_comm], fun j q hq => ?_⟩
 cases j with
 | zero =>
  simp only [List.getElem?_cons_zero, Option.some.injEq] at hq
  subst hq
  rw [Nat.zero_mul, List.drop_zero, List.take_append_of_le_length (by omega), List.take_of_length_le (by omega)]
  exact hp
 | succ j =>
  simp only [List.getElem?_cons_succ] at hq
  have h1 := h.2 j q hq
  rw [Nat.succ_mul, List.drop_append, List.drop_of_length_le (by rw [hc]; exact Nat.le_add_left _ _), List.nil_append, hc, Nat.add_sub_cancel]
  exact h1
theorem Reps.c2 {α : Type} {R : α → List Value → Prop} {ps : List α} {cs : List Value} {p : α} {va vb : Value} (hp : R p [va, vb]) (h : Reps R 2 ps cs) : Reps R 2 (p :: ps) (va :: vb :: cs) := Reps.front hp rfl h rfl
theorem Reps.c3 {α : Type} {R : α → List Value → Prop} {ps : List α} {cs : List Value} {p : α} {va vb vc : Value} (hp : R p [va, vb, vc]) (h : Reps R 3 ps cs) : Reps R 3 (p :: ps) (va :: vb :: vc :: cs) := Reps.front hp rfl h rfl
theorem Reps.c4 {α : Type} {R : α → List Value → Prop} {ps : List α} {cs : List Value} {p : α} {va vb vc vd : Value} (hp : R p [va, vb, vc, vd]) (h : Reps R 4 ps cs) : Reps R 4 (p :: ps) (va :: vb :: vc :: vd :: cs) := Reps.front hp rfl h rfl
theorem Reps.c5 {α : Type} {R : α → List Value → Prop} {ps : List α} {cs : List Value} {p : α} {va vb vc vd ve : Value} (hp : R p [va, vb, vc, vd, ve]) (h : Reps R 5 ps cs) : Reps R 5 (p :: ps) (va :: vb :: vc :: vd :: ve :: cs) := Reps.front hp rfl h rfl
theorem Reps.c6 {α : Type} {R : α → List Value → Prop} {ps : List α} {cs : List Value} {p : α} {va vb vc vd ve vf : Value} (hp : R p [va, vb, vc, vd, ve, vf]) (h : Reps R 6 ps cs) : Reps R 6 (p :: ps) (va :: vb :: vc :: vd :: ve :: vf :: cs) := Reps.front hp rfl h rfl
theorem Reps.c7 {α : Type} {R : α → List Value → Prop} {ps : List α} {cs : List Value} {p : α} {va vb vc vd ve vf vg : Value} (hp : R p [va, vb, vc, vd, ve, vf, vg]) (h : Reps R 7 ps cs) : Reps R 7 (p :: ps) (va :: vb :: vc :: vd :: ve :: vf :: vg :: cs) := Reps.front hp rfl h rfl
theorem Reps.c8 {α : Type} {R : α → List Value → Prop} {ps : List α} {cs : List Value} {p : α} {va vb vc vd ve vf vg vh : Value} (hp : R p [va, vb, vc, vd, ve, vf, vg, vh]) (h : Reps R 8 ps cs) : Reps R 8 (p :: ps) (va :: vb :: vc :: vd :: ve :: vf :: vg :: vh :: cs) := Reps.front hp rfl h rfl
theorem Reps.c9 {α : Type} {R : α → List Value → Prop} {ps : List α} {cs : List Value} {p : α} {va vb vc vd ve vf vg vh vi : Value} (hp : R p [va, vb, vc, vd, ve, vf, vg, vh, vi]) (h : Reps R 9 ps cs) : Reps R 9 (p :: ps) (va :: vb :: vc :: vd :: ve :: vf :: vg :: vh :: vi :: cs) := Reps.front hp rfl h rfl
theorem Reps.c10 {α : Type} {R : α → List Value → Prop} {ps : List α} {cs : List Value} {p : α} {va vb vc vd ve vf vg vh vi vj : Value} (hp : R p [va, vb, vc, vd, ve, vf, vg, vh, vi, vj]) (h : Reps R 10 ps cs) : Reps R 10 (p :: ps) (va :: vb :: vc :: vd :: ve :: vf :: vg :: vh :: vi :: vj :: cs) := Reps.front hp rfl h rfl
end Go.Proofs.YtlffhagjpfcecaaW.PrintWords





namespace Go.Proofs.YtlffhagjpfcecaaW.PrintWords
open Go.RowKit
section
variable {P : Program} {ops : Array Oper} {rest : List Oper} {o : Oper} {a : Act} {Q : Exit → Act → World → Prop} {W : World}
theorem gate_guard (hw : Region.wanted o (yielded ops a.tmps) = true) (h : wpList P ops Q ({ o with guard := none } :: rest) a W) : wpList P ops Q (o :: rest) a W := by
 have h1 : Region.wanted { o with guard := none } (yielded ops a.tmps) = true := rfl
 unfold wpList at h ⊢
 rw [if_pos h1] at h
 rw [if_pos hw]
 exact h
end
end Go.Proofs.YtlffhagjpfcecaaW.PrintWords



namespace Go.Proofs.YtlffhagjpfcecaaW.PrintMore
open Go.RowKit Go.Proofs.YtlffhagjpfcecaaW.PrintWords
theorem max2_int (k k' : IntKind) (x y : Int) : Builtin.max2 (.int k x) (.int k' y) = pure (.int k (if x < y then y else x)) := by simp only [Builtin.max2, gt_iff_lt]
theorem min2_int (k k' : IntKind) (x y : Int) : Builtin.min2 (.int k x) (.int k' y) = pure (.int k (if y < x then y else x)) := by simp only [Builtin.min2]
theorem max_two (ats : Array TypeId) (ty : TypeId) (a b : Value) : Builtin.max_ ats ty #[a, b] = (Builtin.max2 a b >>= fun s => pure s) := by simp only [Builtin.max_, List.foldlM_cons, List.foldlM_nil]
theorem min_two (ats : Array TypeId) (ty : TypeId) (a b : Value) : Builtin.min_ ats ty #[a, b] = (Builtin.min2 a b >>= fun s => pure s) := by simp only [Builtin.min_, List.foldlM_cons, List.foldlM_nil]
theorem max_three (ats : Array TypeId) (ty : TypeId) (a b c : Value) : Builtin.max_ ats ty #[a, b, c] = (Builtin.max2 a b >>= fun s => Builtin.max2 s c >>= fun s => pure s) := by simp only [Builtin.max_, List.foldlM_cons, List.foldlM_nil]
theorem min_three (ats : Array TypeId) (ty : TypeId) (a b c : Value) : Builtin.min_ ats ty #[a, b, c] = (Builtin.min2 a b >>= fun s => Builtin.min2 s c >>= fun s => pure s) := by simp only [Builtin.min_, List.foldlM_cons, List.foldlM_nil]
theorem max_four (ats : Array TypeId) (ty : TypeId) (a b c d : Value) : Builtin.max_ ats ty #[a, b, c, d] = (Builtin.max2 a b >>= fun s => Builtin.max2 s c >>= fun s => Builtin.max2 s d >>= fun s => pure s) := by simp only [Builtin.max_, List.foldlM_cons, List.foldlM_nil]
theorem min_four (ats : Array TypeId) (ty : TypeId) (a b c d : Value) : Builtin.min_ ats ty #[a, b, c, d] = (Builtin.min2 a b >>= fun s => Builtin.min2 s c >>= fun s => Builtin.min2 s d >>= fun s => pure s) := by simp only [Builtin.min_, List.foldlM_cons, List.foldlM_nil]
end Go.Proofs.YtlffhagjpfcecaaW.PrintMore
namespace Go.Proofs.YtlffhagjpfcecaaW.PrintWords
open Go.RowKit
section
variable {P : Program} {ops : Array Oper} {rest : List Oper} {o : Oper} {a : Act} {Q : Exit → Act → World → Prop} {W : World}
theorem gate_callee {f : FuncId} {as_ : Array Operand} {ts : Array TypeId} (_ho : o.op = .call { callee := .value (.func f), args := as_, argTypes := ts }) (h : wpList P ops Q (o :: rest) a W) : wpList P ops Q (o :: rest) a W := h
end
end Go.Proofs.YtlffhagjpfcecaaW.PrintWords
namespace Go.Proofs.YtlffhagjpfcecaaW.PrintWords
open Go.RowKit
namespace Kd
def V {α : Type} (d : Kd α) (_e : Nat) (W : World) (_base : Nat) (ok : Nat → Prop) (v : Value) (xs : List α) : Prop := ∃ A c, v = .slice A xs.length c ∧ xs.length ≤ c ∧ F d W ok A xs.length xs
end Kd
end Go.Proofs.YtlffhagjpfcecaaW.PrintWords

namespace Go.Proofs.Ytlffhagjpfcecaa.PA
open Go.RowKit Go.Proofs.YtlffhagjpfcecaaW.PrintWords Go.Proofs.YtlffhagjpfcecaaW.PrintLast Go.Proofs.YtlffhagjpfcecaaW.PrintMore
attribute [local go_sem] max2_int min2_int max_two min_two max_three min_three max_four min_four
set_option linter.unusedVariables false
set_option linter.unusedSimpArgs false
def errW : Option Int → Value
 | none => .nilIface
 | some c => .iface 0 (.int .i64 c)
theorem errW_none : errW none = .nilIface := rfl
theorem errW_some (c : Int) : errW (some c) = .iface 0 (.int .i64 c) := rfl
theorem info3 : (Try.prog.info? 3).map (fun i => (i.zero, i.size, i.bytes)) = some (some (.int .i64 0), 1, 8) := by kernel_rfl
structure S39 where
 f0 : Int
 f1 : Int
 f2 : Bool
def z39 : S39 := ⟨(0 : Int), (0 : Int), false⟩
def k39 : Kd S39 := Kd.iso (Kd.pair (Kd.int .i64) (Kd.pair (Kd.int .i64) Kd.bool)) (fun x : S39 => (x.f0, x.f1, x.f2))
theorem k39_open {w : World} {x : S39} {cs : List Value} (h : k39.K w x cs) : cs = [.int .i64 x.f0, .int .i64 x.f1, .bool x.f2] := by
 obtain ⟨_, _, rfl, rfl, ⟨_, _, rfl, rfl, rfl⟩⟩ := h
 exact rfl
theorem k39_openM {w : World} {base : Nat} {ok : Nat → Prop} {x : S39} {cs : List Value} (h : k39.M w base ok x cs) : cs = [.int .i64 x.f0, .int .i64 x.f1, .bool x.f2] := by
 obtain ⟨_, _, rfl, rfl, ⟨_, _, rfl, rfl, rfl⟩⟩ := h
 exact rfl
theorem k39_mkM (w : World) (base : Nat) (ok : Nat → Prop) (x : S39)  : k39.M w base ok x [.int .i64 x.f0, .int .i64 x.f1, .bool x.f2] := ⟨[.int .i64 x.f0], [.int .i64 x.f1, .bool x.f2], rfl, rfl, ⟨[.int .i64 x.f1], [.bool x.f2], rfl, rfl, rfl⟩⟩
def rd_T39 (xs : List S39) (i : Int) : S39 := xs.getD i.toNat z39
theorem at_T39 {w : World} {A : Option Addr} {n : Nat} {xs : List S39} (h : Kd.C k39 w A n xs) (i : Int) (h0 : 0 ≤ i) (h1 : i < n) : ∃ ad , A = some ad ∧ w.cell? (ad.add (i.toNat * 3)) = some (.int .i64 (rd_T39 xs i).f0) ∧ w.cell? ⟨(ad.add (i.toNat * 3)).block, (ad.add (i.toNat * 3)).off + 1, none⟩ = some (.int .i64 (rd_T39 xs i).f1) ∧ w.cell? ⟨(ad.add (i.toNat * 3)).block, (ad.add (i.toNat * 3)).off + 2, none⟩ = some (.bool (rd_T39 xs i).f2) := by
 obtain ⟨ad, c, e, _, hK, hc0⟩ := Kd.C_get h z39 i h0 h1
 have hc : ∀ j u, c[j]? = some u → w.cell? (ad.add (i.toNat * 3 + j)) = some u := hc0
 obtain rfl := k39_open hK
 exact ⟨ad, e, hc 0 _ rfl, by rw [← add_field _ _ 1 (by omega)]; exact hc 1 _ rfl, by rw [← add_field _ _ 2 (by omega)]; exact hc 2 _ rfl⟩
structure S90 where
 f0 : Int
 f1 : Bool
structure S98 where
 f0 : Int
 f1 : Int
 f2 : Int
end Go.Proofs.Ytlffhagjpfcecaa.PA

namespace Go.Proofs.Ytlffhagjpfcecaa.PA
open Go.RowKit Go.Shelf Go.Proofs.YtlffhagjpfcecaaW.PrintWords Go.Proofs.YtlffhagjpfcecaaW.PrintLast Go.Proofs.YtlffhagjpfcecaaW.PrintMore
attribute [local go_sem] Oper.semAt_some max2_int min2_int max_two min_two
set_option linter.unusedVariables false
set_option linter.unusedSimpArgs false
theorem w64 {x : Int} (h0 : -9223372036854775808 ≤ x) (h1 : x ≤ 9223372036854775807) : wrap64 x = x := by unfold wrap64; omega
def cntN (e p fr : Int) : Int := if 0 < e ∧ p < e then (if e - p < fr then e - p else fr) else fr
def nxtP (b e p fr : Int) : Int := if (0 < e ∧ p < e) ∧ p + cntN e p fr = e then b else p + cntN e p fr
def partsL (b e : Int) : Nat → Int → Int → List (Int × Int)
 | 0, _, _ => []
 | k + 1, p, fr => if 0 < fr then (p, cntN e p fr) :: partsL b e k (nxtP b e p fr) (fr - cntN e p fr) else []
structure Bd (b e p fr : Int) : Prop where
 b0 : 0 ≤ b
 b1 : b ≤ 1000000000
 e0 : 0 ≤ e
 e1 : e ≤ 1000000000
 p0 : 0 ≤ p
 p1 : p + fr ≤ 1000020000
 f0 : 0 ≤ fr
 f1 : fr ≤ 20000
theorem cntN_pos {e p fr : Int} (h : 0 < fr) : 1 ≤ cntN e p fr ∧ cntN e p fr ≤ fr := by
 unfold cntN; split <;> (try split) <;> omega
theorem Bd.next {b e p fr : Int} (h : Bd b e p fr) (hf : 0 < fr) : Bd b e (nxtP b e p fr) (fr - cntN e p fr) := by
 obtain ⟨h1, h2, h3, h4, h5, h6, h7, h8⟩ := h
 have := cntN_pos (e := e) (p := p) hf
 unfold nxtP
 split <;> exact ⟨h1, h2, h3, h4, by omega, by omega, by omega, by omega⟩
theorem partsL_more (b e : Int) : ∀ (k j : Nat) (p fr : Int), fr.toNat ≤ k → fr.toNat ≤ j → partsL b e k p fr = partsL b e j p fr := by
 intro k
 induction k with
 | zero =>
  intro j p fr h1 h2
  cases j with
  | zero => rfl
  | succ j => simp [partsL, show ¬ 0 < fr by omega]
 | succ k ih =>
  intro j p fr h1 h2
  by_cases hf : 0 < fr
  · obtain ⟨j, rfl⟩ : ∃ m, j = m + 1 := ⟨j - 1, by omega⟩
    have := cntN_pos (e := e) (p := p) hf
    simp only [partsL, if_pos hf]
    rw [ih j _ _ (by omega) (by omega)]
  · cases j with
    | zero => simp [partsL, hf]
    | succ j => simp [partsL, hf]
theorem partsL_step {b e p fr : Int} (hf : 0 < fr) : partsL b e fr.toNat p fr = (p, cntN e p fr) :: partsL b e (fr - cntN e p fr).toNat (nxtP b e p fr) (fr - cntN e p fr) := by
 obtain ⟨m, hm⟩ : ∃ m, fr.toNat = m + 1 := ⟨fr.toNat - 1, by omega⟩
 have := cntN_pos (e := e) (p := p) hf
 rw [hm]
 simp only [partsL, if_pos hf]
 rw [partsL_more b e m (fr - cntN e p fr).toNat _ _ (by omega) (Nat.le_refl _)]
def KtB (bL bP bF : Nat) (A B : World) : Prop := ∀ (k : Nat) (cs : Array Value) (t : TypeId), ((k = bL ∧ t = 70) ∨ (k = bP ∧ t = 3) ∨ (k = bF ∧ t = 3)) → A.heap[k]? = some (.cells cs t (0, 0)) → B.heap[k]? = some (.cells cs t (0, 0))
def TiB (bP bF : Nat) (A B : World) : Prop := ∃ (q : Nat) (x : Int), (q = bP ∨ q = bF) ∧ B = A.setCell ⟨q, 0, none⟩ (.int .i64 x)
def encS (x : Int × Int) : Array Value := #[.agg #[.int .i64 x.1, .int .i64 x.2, .bool true]]
def frOf (bF : Nat) (W : World) : Nat := match W.cell? ⟨bF, 0, none⟩ with
 | some (.int _ x) => x.toNat
 | _ => 0
theorem frOf_eq {bF : Nat} {W : World} {x : Int} (h : Boxed W bF 3 (.int .i64 x)) : frOf bF W = x.toNat := by simp [frOf, h.cell]
theorem heap_setOther (W : World) (q : Nat) (v : Value) (k : Nat) (h : k ≠ q) : (W.setCell ⟨q, 0, none⟩ v).heap[k]? = W.heap[k]? := Below.heap_setCell W ⟨q, 0, none⟩ v k h
theorem bx_other {W : World} {B q : Nat} {t : TypeId} {v : Value} (h : Boxed W B t v) (hne : B ≠ q) (x : Value) : Boxed (W.setCell ⟨q, 0, none⟩ x) B t v := (heap_setOther W q x B hne).trans h
set_option maxRecDepth 100000 in
set_option maxHeartbeats 8000000 in
theorem parts1_in (F : Fence) (n : Nat) (h76 : F.fn 76) (hro : F.round = none) (hn : 1 ≤ n) (bL bP bF : Nat) (hne1 : bL ≠ bP) (hne2 : bL ≠ bF) (hne3 : bP ≠ bF) (b e p fr : Int) (hBd : Bd b e p fr) (w : World)
 (hL : w.heap[bL]? = some (.cells #[.int .i64 b, .int .i64 e] 70 (0, 0))) (hP : Boxed w bP 3 (.int .i64 p)) (hF : Boxed w bF 3 (.int .i64 fr)) :
 IterP F n Try.prog 76 #[.pointer (some ⟨bF, 0, none⟩), .pointer (some ⟨bL, 0, none⟩), .pointer (some ⟨bP, 0, none⟩)] encS (partsL b e fr.toNat p fr) (KtB bL bP bF) (TiB bP bF) w := by
 intro l J Jp W hK hT hY h0
 have hL := hK _ _ _ (.inl ⟨rfl, rfl⟩) hL
 have hP := hK _ _ _ (.inr (.inl ⟨rfl, rfl⟩)) hP
 have hF := hK _ _ _ (.inr (.inr ⟨rfl, rfl⟩)) hF
 clear hK
 refine callsIn_of_wp Try.func76 rfl h76 ?_ hro
 simp only [Try.ntmps76, List.size_toArray, List.length_cons, List.length_nil, Nat.reduceAdd, Nat.reduceSub, Array.replicate_succ, Array.replicate_zero, List.push_toArray, List.append_toArray, List.nil_append, List.cons_append]
 gi_wp2
 gi_loopw [5] (fun (s5 : Value) wr => ∃ (pre : List (Int × Int)) (p' fr' : Int), Bd b e p' fr' ∧ partsL b e fr.toNat p fr = pre ++ partsL b e fr'.toNat p' fr' ∧ Boxed wr bF 3 (.int .i64 fr') ∧ Boxed wr bP 3 (.int .i64 p') ∧ wr.heap[bL]? = some (.cells #[.int .i64 b, .int .i64 e] 70 (0, 0)) ∧ J pre wr)
  (fun s5 wr => frOf bF wr)
 case atStart => exact ⟨[], p, fr, hBd, rfl, hF, hP, hL, h0⟩
 case round =>
  obtain ⟨pre, p', fr', hB', hx, hF', hP', hL', hJ⟩ := hrel
  have cF := hF'.cell
  have cP := hP'.cell
  have fF := hF'.frozen
  have fP := hP'.frozen
  have cL0 : wr.cell? ⟨bL, 0, none⟩ = some (.int .i64 b) := by simp [World.cell?, hL']
  have cL1 : wr.cell? ⟨bL, 1, none⟩ = some (.int .i64 e) := by simp [World.cell?, hL']
  obtain ⟨x1, x2, x3, x4, x5, x6, x7, x8⟩ := hB'
  have hFr := hF'
  by_cases hf : 0 < fr'
  · obtain ⟨fn, tmps, assign, body, hy, hR⟩ := hY pre (p', cntN e p' fr') wr hJ ⟨_, by rw [hx, partsL_step hf]⟩
    dsimp only [encS] at hy
    by_cases ht : 0 < e ∧ p' < e
    · obtain ⟨t1, t2⟩ := ht
      have hw : wrap64 (e - p') = e - p' := w64 (by omega) (by omega)
      by_cases hm : e - p' < fr'
      · have hc : cntN e p' fr' = e - p' := by unfold cntN; rw [if_pos ⟨t1, t2⟩, if_pos hm]
        have hn' : nxtP b e p' fr' = b := by unfold nxtP; rw [hc, if_pos ⟨⟨t1, t2⟩, by omega⟩]
        rw [hc] at hy hR
        gi_wp2
        refine hR.mono ?_
        rintro ee W3 (⟨rfl, hJ3, hk3⟩ | ⟨ch, rfl, hJp⟩)
        · have hL3 := hk3 _ _ _ (.inl ⟨rfl, rfl⟩) hL'
          have hP3 : Boxed W3 bP 3 _ := hk3 _ _ _ (.inr (.inl ⟨rfl, rfl⟩)) hP'
          have hF3 : Boxed W3 bF 3 _ := hk3 _ _ _ (.inr (.inr ⟨rfl, rfl⟩)) hF'
          clear cF cP fF fP cL0 cL1 hk3 hy hR hF' hP' hL' hJ
          have cF := hF3.cell
          have cP := hP3.cell
          have fF := hF3.frozen
          have fP := hP3.frozen
          have cL0 : W3.cell? ⟨bL, 0, none⟩ = some (.int .i64 b) := by simp [World.cell?, hL3]
          have cL1 : W3.cell? ⟨bL, 1, none⟩ = some (.int .i64 e) := by simp [World.cell?, hL3]
          have hs1 : ∀ v, (W3.setCell ⟨bP, 0, none⟩ v).cell? ⟨bF, 0, none⟩ = some (.int .i64 fr') := fun v => (bx_other hF3 (Ne.symm hne3) v).cell
          have hs2 : ∀ v v', ((W3.setCell ⟨bP, 0, none⟩ v).setCell ⟨bF, 0, none⟩ v').cell? ⟨bP, 0, none⟩ = some v := fun v v' => (bx_other (hP3.set v) hne3 v').cell
          have hs3 : ∀ v v', ((W3.setCell ⟨bP, 0, none⟩ v).setCell ⟨bF, 0, none⟩ v').cell? ⟨bL, 1, none⟩ = some (.int .i64 e) := fun v v' => by simp [World.cell?, (heap_setOther _ bF v' bL hne2).trans ((heap_setOther _ bP v bL hne1).trans hL3)]
          have hs4 : ∀ v v', ((W3.setCell ⟨bP, 0, none⟩ v).setCell ⟨bF, 0, none⟩ v').cell? ⟨bL, 0, none⟩ = some (.int .i64 b) := fun v v' => by simp [World.cell?, (heap_setOther _ bF v' bL hne2).trans ((heap_setOther _ bP v bL hne1).trans hL3)]
          have hs5 : ∀ v v', ((W3.setCell ⟨bP, 0, none⟩ v).setCell ⟨bF, 0, none⟩ v').frozen? ⟨bP, 0, none⟩ = false := fun v v' => (bx_other (hP3.set v) hne3 v').frozen
          have hs6 : ∀ v, (W3.setCell ⟨bP, 0, none⟩ v).frozen? ⟨bF, 0, none⟩ = false := fun v => (bx_other hF3 (Ne.symm hne3) v).frozen
          have hw1 : wrap64 (p' + (e - p')) = p' + (e - p') := w64 (by omega) (by omega)
          have hw2 : wrap64 (fr' - (e - p')) = fr' - (e - p') := w64 (by omega) (by omega)
          have hq : (p' + (e - p') == e) = true := by simp; omega
          gi_wp2
          go_roundw
          case rel => exact ⟨pre ++ [(p', (e - p'))], b, fr' - (e - p'), ⟨by omega, by omega, by omega, by omega, by omega, by omega, by omega, by omega⟩, by rw [hx, partsL_step hf, hc, hn']; simp, bx_other ((bx_other hF3 (Ne.symm hne3) _).set _) (Ne.symm hne3) _, (bx_other (hP3.set _) hne3 _).set _, (heap_setOther _ _ _ _ hne1).trans ((heap_setOther _ _ _ _ hne2).trans ((heap_setOther _ _ _ _ hne1).trans hL3)), hT _ _ _ (hT _ _ _ (hT _ _ _ hJ3 ⟨_, _, .inl rfl, rfl⟩) ⟨_, _, .inr rfl, rfl⟩) ⟨_, _, .inl rfl, rfl⟩⟩
          case measure => rw [frOf_eq (bx_other ((bx_other hF3 (Ne.symm hne3) _).set _) (Ne.symm hne3) _), frOf_eq hFr]; omega
        · gi_wp2
          exact ⟨rfl, .inr ⟨ch, rfl, hJp⟩⟩
      · have hc : cntN e p' fr' = fr' := by unfold cntN; rw [if_pos ⟨t1, t2⟩, if_neg hm]
        rw [hc] at hy hR
        by_cases hh : p' + fr' = e
        · have hn' : nxtP b e p' fr' = b := by unfold nxtP; rw [hc, if_pos ⟨⟨t1, t2⟩, hh⟩]
          gi_wp2
          refine hR.mono ?_
          rintro ee W3 (⟨rfl, hJ3, hk3⟩ | ⟨ch, rfl, hJp⟩)
          · have hL3 := hk3 _ _ _ (.inl ⟨rfl, rfl⟩) hL'
            have hP3 : Boxed W3 bP 3 _ := hk3 _ _ _ (.inr (.inl ⟨rfl, rfl⟩)) hP'
            have hF3 : Boxed W3 bF 3 _ := hk3 _ _ _ (.inr (.inr ⟨rfl, rfl⟩)) hF'
            clear cF cP fF fP cL0 cL1 hk3 hy hR hF' hP' hL' hJ
            have cF := hF3.cell
            have cP := hP3.cell
            have fF := hF3.frozen
            have fP := hP3.frozen
            have cL0 : W3.cell? ⟨bL, 0, none⟩ = some (.int .i64 b) := by simp [World.cell?, hL3]
            have cL1 : W3.cell? ⟨bL, 1, none⟩ = some (.int .i64 e) := by simp [World.cell?, hL3]
            have hs1 : ∀ v, (W3.setCell ⟨bP, 0, none⟩ v).cell? ⟨bF, 0, none⟩ = some (.int .i64 fr') := fun v => (bx_other hF3 (Ne.symm hne3) v).cell
            have hs2 : ∀ v v', ((W3.setCell ⟨bP, 0, none⟩ v).setCell ⟨bF, 0, none⟩ v').cell? ⟨bP, 0, none⟩ = some v := fun v v' => (bx_other (hP3.set v) hne3 v').cell
            have hs3 : ∀ v v', ((W3.setCell ⟨bP, 0, none⟩ v).setCell ⟨bF, 0, none⟩ v').cell? ⟨bL, 1, none⟩ = some (.int .i64 e) := fun v v' => by simp [World.cell?, (heap_setOther _ bF v' bL hne2).trans ((heap_setOther _ bP v bL hne1).trans hL3)]
            have hs4 : ∀ v v', ((W3.setCell ⟨bP, 0, none⟩ v).setCell ⟨bF, 0, none⟩ v').cell? ⟨bL, 0, none⟩ = some (.int .i64 b) := fun v v' => by simp [World.cell?, (heap_setOther _ bF v' bL hne2).trans ((heap_setOther _ bP v bL hne1).trans hL3)]
            have hs5 : ∀ v v', ((W3.setCell ⟨bP, 0, none⟩ v).setCell ⟨bF, 0, none⟩ v').frozen? ⟨bP, 0, none⟩ = false := fun v v' => (bx_other (hP3.set v) hne3 v').frozen
            have hs6 : ∀ v, (W3.setCell ⟨bP, 0, none⟩ v).frozen? ⟨bF, 0, none⟩ = false := fun v => (bx_other hF3 (Ne.symm hne3) v).frozen
            have hw1 : wrap64 (p' + fr') = p' + fr' := w64 (by omega) (by omega)
            have hw2 : wrap64 (fr' - fr') = fr' - fr' := w64 (by omega) (by omega)
            have hq : (p' + fr' == e) = true := by simp; omega
            gi_wp2
            go_roundw
            case rel => exact ⟨pre ++ [(p', fr')], b, 0, ⟨by omega, by omega, by omega, by omega, by omega, by omega, by omega, by omega⟩, by rw [hx, partsL_step hf, hc, hn', Int.sub_self]; simp, bx_other ((bx_other hF3 (Ne.symm hne3) _).set _) (Ne.symm hne3) _, (bx_other (hP3.set _) hne3 _).set _, (heap_setOther _ _ _ _ hne1).trans ((heap_setOther _ _ _ _ hne2).trans ((heap_setOther _ _ _ _ hne1).trans hL3)), hT _ _ _ (hT _ _ _ (hT _ _ _ hJ3 ⟨_, _, .inl rfl, rfl⟩) ⟨_, _, .inr rfl, rfl⟩) ⟨_, _, .inl rfl, rfl⟩⟩
            case measure => rw [frOf_eq (bx_other ((bx_other hF3 (Ne.symm hne3) _).set _) (Ne.symm hne3) _), frOf_eq hFr]; omega
          · gi_wp2
            exact ⟨rfl, .inr ⟨ch, rfl, hJp⟩⟩
        · have hn' : nxtP b e p' fr' = p' + fr' := by unfold nxtP; rw [hc, if_neg (fun h => hh h.2)]
          gi_wp2
          refine hR.mono ?_
          rintro ee W3 (⟨rfl, hJ3, hk3⟩ | ⟨ch, rfl, hJp⟩)
          · have hL3 := hk3 _ _ _ (.inl ⟨rfl, rfl⟩) hL'
            have hP3 : Boxed W3 bP 3 _ := hk3 _ _ _ (.inr (.inl ⟨rfl, rfl⟩)) hP'
            have hF3 : Boxed W3 bF 3 _ := hk3 _ _ _ (.inr (.inr ⟨rfl, rfl⟩)) hF'
            clear cF cP fF fP cL0 cL1 hk3 hy hR hF' hP' hL' hJ
            have cF := hF3.cell
            have cP := hP3.cell
            have fF := hF3.frozen
            have fP := hP3.frozen
            have cL0 : W3.cell? ⟨bL, 0, none⟩ = some (.int .i64 b) := by simp [World.cell?, hL3]
            have cL1 : W3.cell? ⟨bL, 1, none⟩ = some (.int .i64 e) := by simp [World.cell?, hL3]
            have hs1 : ∀ v, (W3.setCell ⟨bP, 0, none⟩ v).cell? ⟨bF, 0, none⟩ = some (.int .i64 fr') := fun v => (bx_other hF3 (Ne.symm hne3) v).cell
            have hs2 : ∀ v v', ((W3.setCell ⟨bP, 0, none⟩ v).setCell ⟨bF, 0, none⟩ v').cell? ⟨bP, 0, none⟩ = some v := fun v v' => (bx_other (hP3.set v) hne3 v').cell
            have hs3 : ∀ v v', ((W3.setCell ⟨bP, 0, none⟩ v).setCell ⟨bF, 0, none⟩ v').cell? ⟨bL, 1, none⟩ = some (.int .i64 e) := fun v v' => by simp [World.cell?, (heap_setOther _ bF v' bL hne2).trans ((heap_setOther _ bP v bL hne1).trans hL3)]
            have hs4 : ∀ v v', ((W3.setCell ⟨bP, 0, none⟩ v).setCell ⟨bF, 0, none⟩ v').cell? ⟨bL, 0, none⟩ = some (.int .i64 b) := fun v v' => by simp [World.cell?, (heap_setOther _ bF v' bL hne2).trans ((heap_setOther _ bP v bL hne1).trans hL3)]
            have hs5 : ∀ v v', ((W3.setCell ⟨bP, 0, none⟩ v).setCell ⟨bF, 0, none⟩ v').frozen? ⟨bP, 0, none⟩ = false := fun v v' => (bx_other (hP3.set v) hne3 v').frozen
            have hs6 : ∀ v, (W3.setCell ⟨bP, 0, none⟩ v).frozen? ⟨bF, 0, none⟩ = false := fun v => (bx_other hF3 (Ne.symm hne3) v).frozen
            have hw1 : wrap64 (p' + fr') = p' + fr' := w64 (by omega) (by omega)
            have hw2 : wrap64 (fr' - fr') = fr' - fr' := w64 (by omega) (by omega)
            have hq : (p' + fr' == e) = false := by simp; omega
            gi_wp2
            go_roundw
            case rel => exact ⟨pre ++ [(p', fr')], p' + fr', 0, ⟨by omega, by omega, by omega, by omega, by omega, by omega, by omega, by omega⟩, by rw [hx, partsL_step hf, hc, hn', Int.sub_self]; simp, (bx_other hF3 (Ne.symm hne3) _).set _, bx_other (hP3.set _) hne3 _, (heap_setOther _ _ _ _ hne2).trans ((heap_setOther _ _ _ _ hne1).trans hL3), hT _ _ _ (hT _ _ _ hJ3 ⟨_, _, .inl rfl, rfl⟩) ⟨_, _, .inr rfl, rfl⟩⟩
            case measure => rw [frOf_eq ((bx_other hF3 (Ne.symm hne3) _).set _), frOf_eq hFr]; omega
          · gi_wp2
            exact ⟨rfl, .inr ⟨ch, rfl, hJp⟩⟩
    · have hc : cntN e p' fr' = fr' := by unfold cntN; rw [if_neg ht]
      have hn' : nxtP b e p' fr' = p' + fr' := by unfold nxtP; rw [hc, if_neg (fun h => ht h.1)]
      rw [hc] at hy hR
      by_cases t1 : 0 < e
      · have t2 : ¬ p' < e := fun h => ht ⟨t1, h⟩
        gi_wp2
        refine hR.mono ?_
        rintro ee W3 (⟨rfl, hJ3, hk3⟩ | ⟨ch, rfl, hJp⟩)
        · have hL3 := hk3 _ _ _ (.inl ⟨rfl, rfl⟩) hL'
          have hP3 : Boxed W3 bP 3 _ := hk3 _ _ _ (.inr (.inl ⟨rfl, rfl⟩)) hP'
          have hF3 : Boxed W3 bF 3 _ := hk3 _ _ _ (.inr (.inr ⟨rfl, rfl⟩)) hF'
          clear cF cP fF fP cL0 cL1 hk3 hy hR hF' hP' hL' hJ
          have cF := hF3.cell
          have cP := hP3.cell
          have fF := hF3.frozen
          have fP := hP3.frozen
          have cL0 : W3.cell? ⟨bL, 0, none⟩ = some (.int .i64 b) := by simp [World.cell?, hL3]
          have cL1 : W3.cell? ⟨bL, 1, none⟩ = some (.int .i64 e) := by simp [World.cell?, hL3]
          have hs1 : ∀ v, (W3.setCell ⟨bP, 0, none⟩ v).cell? ⟨bF, 0, none⟩ = some (.int .i64 fr') := fun v => (bx_other hF3 (Ne.symm hne3) v).cell
          have hs2 : ∀ v v', ((W3.setCell ⟨bP, 0, none⟩ v).setCell ⟨bF, 0, none⟩ v').cell? ⟨bP, 0, none⟩ = some v := fun v v' => (bx_other (hP3.set v) hne3 v').cell
          have hs3 : ∀ v v', ((W3.setCell ⟨bP, 0, none⟩ v).setCell ⟨bF, 0, none⟩ v').cell? ⟨bL, 1, none⟩ = some (.int .i64 e) := fun v v' => by simp [World.cell?, (heap_setOther _ bF v' bL hne2).trans ((heap_setOther _ bP v bL hne1).trans hL3)]
          have hs4 : ∀ v v', ((W3.setCell ⟨bP, 0, none⟩ v).setCell ⟨bF, 0, none⟩ v').cell? ⟨bL, 0, none⟩ = some (.int .i64 b) := fun v v' => by simp [World.cell?, (heap_setOther _ bF v' bL hne2).trans ((heap_setOther _ bP v bL hne1).trans hL3)]
          have hs5 : ∀ v v', ((W3.setCell ⟨bP, 0, none⟩ v).setCell ⟨bF, 0, none⟩ v').frozen? ⟨bP, 0, none⟩ = false := fun v v' => (bx_other (hP3.set v) hne3 v').frozen
          have hs6 : ∀ v, (W3.setCell ⟨bP, 0, none⟩ v).frozen? ⟨bF, 0, none⟩ = false := fun v => (bx_other hF3 (Ne.symm hne3) v).frozen
          have hw1 : wrap64 (p' + fr') = p' + fr' := w64 (by omega) (by omega)
          have hw2 : wrap64 (fr' - fr') = fr' - fr' := w64 (by omega) (by omega)
          gi_wp2
          go_roundw
          case rel => exact ⟨pre ++ [(p', fr')], p' + fr', 0, ⟨by omega, by omega, by omega, by omega, by omega, by omega, by omega, by omega⟩, by rw [hx, partsL_step hf, hc, hn', Int.sub_self]; simp, (bx_other hF3 (Ne.symm hne3) _).set _, bx_other (hP3.set _) hne3 _, (heap_setOther _ _ _ _ hne2).trans ((heap_setOther _ _ _ _ hne1).trans hL3), hT _ _ _ (hT _ _ _ hJ3 ⟨_, _, .inl rfl, rfl⟩) ⟨_, _, .inr rfl, rfl⟩⟩
          case measure => rw [frOf_eq ((bx_other hF3 (Ne.symm hne3) _).set _), frOf_eq hFr]; omega
        · gi_wp2
          exact ⟨rfl, .inr ⟨ch, rfl, hJp⟩⟩
      · gi_wp2
        refine hR.mono ?_
        rintro ee W3 (⟨rfl, hJ3, hk3⟩ | ⟨ch, rfl, hJp⟩)
        · have hL3 := hk3 _ _ _ (.inl ⟨rfl, rfl⟩) hL'
          have hP3 : Boxed W3 bP 3 _ := hk3 _ _ _ (.inr (.inl ⟨rfl, rfl⟩)) hP'
          have hF3 : Boxed W3 bF 3 _ := hk3 _ _ _ (.inr (.inr ⟨rfl, rfl⟩)) hF'
          clear cF cP fF fP cL0 cL1 hk3 hy hR hF' hP' hL' hJ
          have cF := hF3.cell
          have cP := hP3.cell
          have fF := hF3.frozen
          have fP := hP3.frozen
          have cL0 : W3.cell? ⟨bL, 0, none⟩ = some (.int .i64 b) := by simp [World.cell?, hL3]
          have cL1 : W3.cell? ⟨bL, 1, none⟩ = some (.int .i64 e) := by simp [World.cell?, hL3]
          have hs1 : ∀ v, (W3.setCell ⟨bP, 0, none⟩ v).cell? ⟨bF, 0, none⟩ = some (.int .i64 fr') := fun v => (bx_other hF3 (Ne.symm hne3) v).cell
          have hs2 : ∀ v v', ((W3.setCell ⟨bP, 0, none⟩ v).setCell ⟨bF, 0, none⟩ v').cell? ⟨bP, 0, none⟩ = some v := fun v v' => (bx_other (hP3.set v) hne3 v').cell
          have hs3 : ∀ v v', ((W3.setCell ⟨bP, 0, none⟩ v).setCell ⟨bF, 0, none⟩ v').cell? ⟨bL, 1, none⟩ = some (.int .i64 e) := fun v v' => by simp [World.cell?, (heap_setOther _ bF v' bL hne2).trans ((heap_setOther _ bP v bL hne1).trans hL3)]
          have hs4 : ∀ v v', ((W3.setCell ⟨bP, 0, none⟩ v).setCell ⟨bF, 0, none⟩ v').cell? ⟨bL, 0, none⟩ = some (.int .i64 b) := fun v v' => by simp [World.cell?, (heap_setOther _ bF v' bL hne2).trans ((heap_setOther _ bP v bL hne1).trans hL3)]
          have hs5 : ∀ v v', ((W3.setCell ⟨bP, 0, none⟩ v).setCell ⟨bF, 0, none⟩ v').frozen? ⟨bP, 0, none⟩ = false := fun v v' => (bx_other (hP3.set v) hne3 v').frozen
          have hs6 : ∀ v, (W3.setCell ⟨bP, 0, none⟩ v).frozen? ⟨bF, 0, none⟩ = false := fun v => (bx_other hF3 (Ne.symm hne3) v).frozen
          have hw1 : wrap64 (p' + fr') = p' + fr' := w64 (by omega) (by omega)
          have hw2 : wrap64 (fr' - fr') = fr' - fr' := w64 (by omega) (by omega)
          gi_wp2
          go_roundw
          case rel => exact ⟨pre ++ [(p', fr')], p' + fr', 0, ⟨by omega, by omega, by omega, by omega, by omega, by omega, by omega, by omega⟩, by rw [hx, partsL_step hf, hc, hn', Int.sub_self]; simp, (bx_other hF3 (Ne.symm hne3) _).set _, bx_other (hP3.set _) hne3 _, (heap_setOther _ _ _ _ hne2).trans ((heap_setOther _ _ _ _ hne1).trans hL3), hT _ _ _ (hT _ _ _ hJ3 ⟨_, _, .inl rfl, rfl⟩) ⟨_, _, .inr rfl, rfl⟩⟩
          case measure => rw [frOf_eq ((bx_other hF3 (Ne.symm hne3) _).set _), frOf_eq hFr]; omega
        · gi_wp2
          exact ⟨rfl, .inr ⟨ch, rfl, hJp⟩⟩
  · gi_wp2
    go_end0
    exact .inl ⟨⟨_, rfl⟩, by
     have e0 : partsL b e fr'.toNat p' fr' = [] := by rw [show fr'.toNat = 0 by omega]; rfl
     rw [e0, List.append_nil] at hx
     first | (rw [hx]; exact hJ) | (rw [e0, List.append_nil]; exact hJ)⟩
end Go.Proofs.Ytlffhagjpfcecaa.PA

namespace Go.Proofs.Ytlffhagjpfcecaa.PA
open Go.RowKit Go.Shelf Go.Proofs.YtlffhagjpfcecaaW.PrintWords Go.Proofs.YtlffhagjpfcecaaW.PrintLast Go.Proofs.YtlffhagjpfcecaaW.PrintMore
attribute [local go_sem] Oper.semAt_some
set_option linter.unusedVariables false
set_option linter.unusedSimpArgs false
theorem parts_in (F : Fence) (n : Nat) (h71 : F.fn 71) (hro : F.round = none) (b e p fr : Int) (w : World) :
 CallsIn F n Try.prog 71 #[.agg #[.int .i64 b, .int .i64 e], .int .i64 p, .int .i64 fr] w fun ee w' =>
  ee = .returned (.func (.func 76) #[] #[.pointer (some ⟨w.heap.size + 2, 0, none⟩), .pointer (some ⟨w.heap.size, 0, none⟩), .pointer (some ⟨w.heap.size + 1, 0, none⟩)]) ∧
  w' = ((w.alloc (.cells #[.int .i64 b, .int .i64 e] 70)).alloc (.cells #[.int .i64 p] 3)).alloc (.cells #[.int .i64 fr] 3) := by
 refine callsIn_of_wp Try.func71 rfl h71 ?_ hro
 simp only [Try.ntmps71, List.size_toArray, List.length_cons, List.length_nil, Nat.reduceAdd, Nat.reduceSub, Array.replicate_succ, Array.replicate_zero, List.push_toArray, List.append_toArray, List.nil_append, List.cons_append]
 gi_wp2
 go_ret
 exact ⟨rfl, rfl⟩
def stopV (x : Int) : Value := .iface 77 (.agg #[.int .i64 x])
theorem must_ok (F : Fence) (n : Nat) (h46 : F.fn 46) (hro : F.round = none) (x : Int) (w : World) :
 CallsIn F n Try.prog 46 #[.bool true, .int .i64 x] w fun ee w' => ee = .returned (.tuple #[]) ∧ w' = w := by
 refine callsIn_of_wp Try.func46 rfl h46 ?_ hro
 simp only [Try.ntmps46, List.size_toArray, List.length_cons, List.length_nil, Nat.reduceAdd, Nat.reduceSub, Array.replicate_succ, Array.replicate_zero, List.push_toArray, List.append_toArray, List.nil_append, List.cons_append]
 gi_wp2
 go_end0
 exact ⟨rfl, rfl⟩
theorem must_no (F : Fence) (n : Nat) (h46 : F.fn 46) (hro : F.round = none) (x : Int) (w : World) :
 CallsIn F n Try.prog 46 #[.bool false, .int .i64 x] w fun ee w' => ee = .panicked [{ v := stopV x, recovered := false }] ∧ w' = w := by
 refine callsIn_of_wp Try.func46 rfl h46 ?_ hro
 simp only [Try.ntmps46, List.size_toArray, List.length_cons, List.length_nil, Nat.reduceAdd, Nat.reduceSub, Array.replicate_succ, Array.replicate_zero, List.push_toArray, List.append_toArray, List.nil_append, List.cons_append]
 gi_wp2
 exact ⟨rfl, rfl, rfl⟩
def endP (b e : Int) : Nat → Int → Int → Int
 | 0, p, _ => p
 | k + 1, p, fr => if 0 < fr then endP b e k (nxtP b e p fr) (fr - cntN e p fr) else p
def flatS (l : List (Int × Int)) : List Value := l.flatMap fun x => [.int .i64 x.1, .int .i64 x.2, .bool true]
theorem endP_more (b e : Int) : ∀ (k j : Nat) (p fr : Int), fr.toNat ≤ k → fr.toNat ≤ j → endP b e k p fr = endP b e j p fr := by
 intro k
 induction k with
 | zero =>
  intro j p fr h1 h2
  cases j with
  | zero => rfl
  | succ j => simp [endP, show ¬ 0 < fr by omega]
 | succ k ih =>
  intro j p fr h1 h2
  by_cases hf : 0 < fr
  · obtain ⟨j, rfl⟩ : ∃ m, j = m + 1 := ⟨j - 1, by omega⟩
    have := cntN_pos (e := e) (p := p) hf
    simp only [endP, if_pos hf]
    rw [ih j _ _ (by omega) (by omega)]
  · cases j with
    | zero => simp [endP, hf]
    | succ j => simp [endP, hf]
theorem endP_step {b e p fr : Int} (hf : 0 < fr) : endP b e fr.toNat p fr = endP b e (fr - cntN e p fr).toNat (nxtP b e p fr) (fr - cntN e p fr) := by
 obtain ⟨m, hm⟩ : ∃ m, fr.toNat = m + 1 := ⟨fr.toNat - 1, by omega⟩
 have := cntN_pos (e := e) (p := p) hf
 rw [hm]
 simp only [endP, if_pos hf]
 rw [endP_more b e m (fr - cntN e p fr).toNat _ _ (by omega) (Nat.le_refl _)]
theorem endP_far {b e p fr : Int} (hB : Bd b e p fr) (hf : 0 < fr) (h : 1000000000 < nxtP b e p fr) : 1000000000 < endP b e fr.toNat p fr := by
 rw [endP_step hf]
 obtain ⟨h1, h2, h3, h4, h5, h6, h7, h8⟩ := hB
 have hc : cntN e p fr = fr := by
  unfold nxtP at h
  unfold cntN at h ⊢
  split
  · rename_i ht
    rw [if_pos ht] at h
    split
    · rename_i hm
      rw [if_pos hm, if_pos ⟨ht, by omega⟩] at h
      omega
    · rfl
  · rfl
 rw [hc, Int.sub_self]
 exact h
theorem hal (W : World) (o : Obj) (k : Nat) : (W.alloc o).heap[k]? = if k = W.heap.size then some o else W.heap[k]? := by
 by_cases h : k = W.heap.size
 · rw [if_pos h, h]; exact World.alloc_heap_new W o
 · rw [if_neg h]
   show (W.heap.push o)[k]? = _
   simp [Array.getElem?_push, h]
structure Iw (b e p fr : Int) (m : Nat) (w : World) (pre : List (Int × Int)) (v : Value) (p' fr' : Int) (W : World) : Prop where
 st : W.heap[m]? = some (.cells #[.int .i64 b, .int .i64 e] 70 (0, 0))
 bl : Below m w W
 vb : Boxed W (m + 1) 22 v
 sz : m + 6 ≤ W.heap.size
 row : W.ownsRow (m + 6) 39 3 v pre.length (flatS pre)
 ab : Boxed W (m + 2) 3 (.int .i64 p')
 bd : Bd b e p' fr'
 p1 : p' ≤ 1000000000
 len : pre.length ≤ 100
 all : partsL b e fr.toNat p fr = pre ++ partsL b e fr'.toNat p' fr'
 fin : endP b e fr.toNat p fr = endP b e fr'.toNat p' fr'
def Iv (b e p fr : Int) (m : Nat) (w : World) (pre : List (Int × Int)) (W : World) : Prop := ∃ v p' fr', Iw b e p fr m w pre v p' fr' W
def encs3 (W : World) (Bx : Nat) (x : Int × Int) : Prop := W.heap[Bx]? = some (.cells #[.int .i64 x.1, .int .i64 x.2, .bool true] 39 (0, 0))
theorem row_lt {W : World} {base : Nat} {v : Value} {n : Nat} {xs : List Value} (h : W.ownsRow base 39 3 v n xs) : ∀ k, v.ownBlock = some k → k < W.heap.size := by
 intro k hk
 rcases h.2 with ⟨rfl, _⟩ | ⟨g, cap, cur, rfl, _, hgb, _⟩
 · simp [Value.ownBlock] at hk
 · obtain rfl : g = k := by simpa [Value.ownBlock] using hk
   exact (Array.getElem?_eq_some_iff.1 hgb).1
theorem row_ge {W : World} {base : Nat} {v : Value} {n : Nat} {xs : List Value} (h : W.ownsRow base 39 3 v n xs) : ∀ k, v.ownBlock = some k → base ≤ k := by
 intro k hk
 rcases h.2 with ⟨rfl, _⟩ | ⟨g, cap, cur, rfl, hb, hgb, _⟩
 · simp [Value.ownBlock] at hk
 · obtain rfl : g = k := by simpa [Value.ownBlock] using hk
   exact hb
theorem row_weaken {W : World} {base base' : Nat} {v : Value} {n : Nat} {xs : List Value} (hb : base' ≤ base) (h : W.ownsRow base 39 3 v n xs) : W.ownsRow base' 39 3 v n xs := by
 refine ⟨h.1, ?_⟩
 rcases h.2 with h | ⟨g, cap, cur, h1, h2, h3⟩
 · exact .inl h
 · exact .inr ⟨g, cap, cur, h1, Nat.le_trans hb h2, h3⟩
theorem cells_not_row {W : World} {k : Nat} {cs : Array Value} {t : TypeId} (h : W.heap[k]? = some (.cells cs t (0, 0))) (hte : t ≠ 39) {base n : Nat} {v : Value} {xs : List Value} (hr : W.ownsRow base 39 3 v n xs) : some k ≠ v.ownBlock := by
 rcases hr.2 with ⟨rfl, _⟩ | ⟨g, cap, cur, rfl, _, hgb, _⟩
 · simp [Value.ownBlock]
 · intro e'
   obtain rfl : k = g := by simpa [Value.ownBlock] using e'
   have := h.symm.trans hgb
   simp at this
   exact hte this.2
theorem row_cells {W : World} {base : Nat} {v : Value} {n : Nat} {xs : List Value} (h : W.ownsRow base 39 3 v n xs) (tmp : Obj) : ∀ (j : Nat) (o : Obj), v.ownBlock = some j → (W.alloc tmp).heap[j]? = some o → o.isCells = true := by
 intro j o hj ho
 rcases (h.alloc tmp).2 with ⟨rfl, _⟩ | ⟨g, cap, cur, rfl, _, hgb, _⟩
 · simp [Value.ownBlock] at hj
 · obtain rfl : g = j := by simpa [Value.ownBlock] using hj
   rw [hgb] at ho; cases ho; rfl
theorem app_keep {W w1 : World} {v v' : Value} {tmp o : Obj} {k q : Nat} (hg : (W.alloc tmp).grownBy w1 v.ownBlock) (hne : some k ≠ v.ownBlock) (hkq : k ≠ q) (h : W.heap[k]? = some o) : (w1.setCell ⟨q, 0, none⟩ v').heap[k]? = some o := by
 have hk := (Array.getElem?_eq_some_iff.1 h).1
 refine (heap_setOther w1 q v' k hkq).trans ((hg.block k (by simp; omega) hne).trans ?_)
 exact (Below.heap_alloc W tmp k hk).trans h
theorem cells3_new (W : World) (a b c : Value) (t : TypeId) : ∀ j u, [a, b, c][j]? = some u → (W.alloc (.cells #[a, b, c] t)).cell? ((⟨W.heap.size, 0, none⟩ : Addr).add j) = some u := by
 intro j u h
 match j, h with
 | 0, h => simp at h; subst h; show (W.alloc _).cell? ⟨W.heap.size, 0, none⟩ = _; simp only [World.cell?, World.alloc_heap_new]; rfl
 | 1, h => simp at h; subst h; show (W.alloc _).cell? ⟨W.heap.size, 1, none⟩ = _; simp only [World.cell?, World.alloc_heap_new]; rfl
 | 2, h => simp at h; subst h; show (W.alloc _).cell? ⟨W.heap.size, 2, none⟩ = _; simp only [World.cell?, World.alloc_heap_new]; rfl
 | j + 3, h => simp at h
theorem body_facts {W2 : World} {m Bx : Nat} {b e q c : Int} (st : W2.heap[m]? = some (.cells #[.int .i64 b, .int .i64 e] 70 (0, 0))) (bx : encs3 W2 Bx (q, c)) (at2 : Boxed W2 (m + 2) 3 (.int .i64 q)) (hne : Bx ≠ m + 2) :
 (W2.cell? ⟨Bx, 0, none⟩ = some (.int .i64 q) ∧ W2.cell? ⟨Bx, 1, none⟩ = some (.int .i64 c) ∧ W2.cell? ⟨m + 2, 0, none⟩ = some (.int .i64 q) ∧ W2.frozen? ⟨m + 2, 0, none⟩ = false) ∧
 (∀ u, (W2.setCell ⟨m + 2, 0, none⟩ u).cell? ⟨m, 0, none⟩ = some (.int .i64 b)) ∧ (∀ u, (W2.setCell ⟨m + 2, 0, none⟩ u).cell? ⟨m, 1, none⟩ = some (.int .i64 e)) ∧
 (∀ u, (W2.setCell ⟨m + 2, 0, none⟩ u).cell? ⟨Bx, 0, none⟩ = some (.int .i64 q)) ∧ (∀ u, (W2.setCell ⟨m + 2, 0, none⟩ u).cell? ⟨m + 2, 0, none⟩ = some u) ∧ (∀ u, (W2.setCell ⟨m + 2, 0, none⟩ u).frozen? ⟨m + 2, 0, none⟩ = false) ∧
 (∀ u u', ((W2.setCell ⟨m + 2, 0, none⟩ u).setCell ⟨m + 2, 0, none⟩ u').cell? ⟨m + 2, 0, none⟩ = some u') := by
 unfold encs3 at bx
 refine ⟨⟨by simp [World.cell?, bx], by simp [World.cell?, bx], at2.cell, at2.frozen⟩, fun u => ?_, fun u => ?_, fun u => ?_, fun u => (at2.set u).cell, fun u => (at2.set u).frozen, fun u u' => ((at2.set u).set u').cell⟩
 · simp [World.cell?, (heap_setOther W2 (m + 2) u m (by omega)).trans st]
 · simp [World.cell?, (heap_setOther W2 (m + 2) u m (by omega)).trans st]
 · simp [World.cell?, (heap_setOther W2 (m + 2) u Bx hne).trans bx]
structure Ik (b e : Int) (m : Nat) (w : World) (v : Value) (k : Nat) (xs : List Value) (q : Int) (W : World) : Prop where
 st : W.heap[m]? = some (.cells #[.int .i64 b, .int .i64 e] 70 (0, 0))
 bl : Below m w W
 vb : Boxed W (m + 1) 22 v
 sz : m + 6 ≤ W.heap.size
 row : W.ownsRow (m + 6) 39 3 v k xs
 ab : Boxed W (m + 2) 3 (.int .i64 q)
theorem size_set (W : World) (q : Nat) (v : Value) : (W.setCell ⟨q, 0, none⟩ v).heap.size = W.heap.size := by
 show (W.heap.modify q _).size = _
 simp
theorem Ik.set {b e : Int} {m : Nat} {w : World} {v : Value} {k : Nat} {xs : List Value} {q : Int} {W : World} (h : Ik b e m w v k xs q W) (q' : Int) : Ik b e m w v k xs q' (W.setCell ⟨m + 2, 0, none⟩ (.int .i64 q')) :=
 ⟨(heap_setOther W _ _ _ (by omega)).trans h.st, h.bl.setCell (p := ⟨m + 2, 0, none⟩) (by simp) _, bx_other h.vb (by omega) _, by rw [size_set]; exact h.sz, h.row.kept (grownBy_setCell' W _ _) (.inr (fun ee => by have := row_ge h.row _ ee; omega)), h.ab.set _⟩
theorem Ik.app {b e : Int} {m : Nat} {w : World} {v v' : Value} {k k' : Nat} {xs ys : List Value} {q : Int} {W w1 : World} {tmp : Obj} (h : Ik b e m w v k xs q W) (hgrow : (W.alloc tmp).grownBy w1 v.ownBlock) (hown : w1.ownsRow (m + 6) 39 3 v' k' ys) :
 Ik b e m w v' k' ys q (w1.setCell ⟨m + 1, 0, none⟩ v') ∧ KeepsOthers W (w1.setCell ⟨m + 1, 0, none⟩ v') ∧ KtB (m + 1 + 1 + 1) (m + 1 + 1 + 1 + 1) (m + 1 + 1 + 1 + 2) W (w1.setCell ⟨m + 1, 0, none⟩ v') := by
 have hs1 : W.heap.size + 1 ≤ w1.heap.size := by have := hgrow.size; simpa using this
 have hsz := h.sz
 refine ⟨⟨app_keep hgrow (cells_not_row h.st (by decide) h.row) (by omega) h.st, ?_, ?_, ?_, ?_, app_keep hgrow (cells_not_row h.ab (by decide) h.row) (by omega) h.ab⟩, ?_, ?_⟩
 · exact ((h.bl.alloc (by omega) _).grown hgrow (by simp; omega) (fun j ej => by have := row_ge h.row j ej; omega)).setCell (p := ⟨m + 1, 0, none⟩) (by simp) _
 · exact ((h.vb.alloc tmp).kept hgrow (cells_not_row h.vb (by decide) h.row)).set v'
 · rw [size_set]; omega
 · exact hown.kept (grownBy_setCell' w1 _ _) (.inr (fun ee => by have := row_ge hown _ ee; omega))
 · exact ((KeepsOthers.alloc W tmp).trans (KeepsOthers.of_grownBy hgrow (row_cells h.row tmp))).trans (KeepsOthers.setCell _ _ _)
 · intro j cs t hj hh
   refine app_keep hgrow (cells_not_row hh ?_ h.row) (by omega) hh
   rcases hj with ⟨_, rfl⟩ | ⟨_, rfl⟩ | ⟨_, rfl⟩ <;> decide
theorem Iw.of {b e p fr : Int} {m : Nat} {w : World} {pre : List (Int × Int)} {v : Value} {k : Nat} {xs : List Value} {q fr' : Int} {W : World} (h : Ik b e m w v k xs q W) (hk : k = pre.length) (hx : xs = flatS pre) (bd : Bd b e q fr') (p1 : q ≤ 1000000000) (len : pre.length ≤ 100)
 (all : partsL b e fr.toNat p fr = pre ++ partsL b e fr'.toNat q fr') (fin : endP b e fr.toNat p fr = endP b e fr'.toNat q fr') : Iv b e p fr m w pre W := by
 subst hk
 subst hx
 exact ⟨v, q, fr', h.st, h.bl, h.vb, h.sz, h.row, h.ab, bd, p1, len, all, fin⟩
theorem kt_set (W : World) (m : Nat) (v : Value) : KtB (m + 1 + 1 + 1) (m + 1 + 1 + 1 + 1) (m + 1 + 1 + 1 + 2) W (W.setCell ⟨m + 2, 0, none⟩ v) :=
 fun j cs t hj hh => (heap_setOther W _ _ _ (by omega)).trans hh
theorem kt_trans {x y z : Nat} {A B C : World} (h : KtB x y z A B) (h' : KtB x y z B C) : KtB x y z A C := fun j cs t hj hh => h' j cs t hj (h j cs t hj hh)
theorem info39p : (Try.prog.info? 39).map (fun i => (i.zero, i.size, i.bytes)) = some (some (.agg #[.int .i64 0, .int .i64 0, .bool false]), 3, 24) := by kernel_rfl
set_option maxRecDepth 100000 in
set_option maxHeartbeats 8000000 in
theorem spans_in (F : Fence) (n : Nat) (h65 : F.fn 65) (h71 : F.fn 71) (h76 : F.fn 76) (h46 : F.fn 46) (hro : F.round = none) (hfnP : ∀ fn, F.fn fn → ∃ f, Try.prog.funcs[fn]? = some f) (hn : 5 ≤ n) (b e p fr : Int) (hBd : Bd b e p fr) (hp : p ≤ 1000000000) (w : World) :
 CallsIn F n Try.prog 65 #[.agg #[.int .i64 b, .int .i64 e], .int .i64 p, .int .i64 fr] w fun ee W' =>
  (∃ v, ee = .returned (.tuple #[v, .int .i64 (endP b e fr.toNat p fr)]) ∧ (partsL b e fr.toNat p fr).length ≤ 100 ∧ endP b e fr.toNat p fr ≤ 1000000000 ∧
   W'.ownsRow w.heap.size 39 3 v (partsL b e fr.toNat p fr).length (flatS (partsL b e fr.toNat p fr)) ∧ Below w.heap.size w W') ∨
  (ee = .panicked [{ v := stopV 4, recovered := false }] ∧ (100 < (partsL b e fr.toNat p fr).length ∨ 1000000000 < endP b e fr.toNat p fr) ∧ Below w.heap.size w W') := by
 have h1 : 1 ≤ n := by omega
 refine callsIn_of_wp_marks Try.func65 rfl h65 ?_ hro
 simp only [Try.ntmps65, List.size_toArray, List.length_cons, List.length_nil, Nat.reduceAdd, Nat.reduceSub, Array.replicate_succ, Array.replicate_zero, List.push_toArray, List.append_toArray, List.nil_append, List.cons_append]
 gi_wp2_with (gi_at_call 71; refine (parts_in F (n - 1) h71 hro b e p fr _).mono ?_; rintro ee w' ⟨rfl, rfl⟩)
 have hwS : w.heap.size + 1 + 1 + 1 + 2 = w.heap.size + 5 := by omega
 obtain ⟨W0, hW0⟩ : ∃ W0, ((((((w.alloc (Obj.cells #[.int .i64 b, .int .i64 e] 70)).alloc (Obj.cells #[.slice none 0 0] 22)).alloc (Obj.cells #[.int .i64 p] 3)).alloc (Obj.cells #[.int .i64 b, .int .i64 e] 70)).alloc (Obj.cells #[.int .i64 p] 3)).alloc (Obj.cells #[.int .i64 fr] 3)) = W0 := ⟨_, rfl⟩
 have sz : W0.heap.size = w.heap.size + 6 := by rw [← hW0]; simp
 have hB0 : Below w.heap.size w W0 := by
  rw [← hW0]
  exact ((((((Below.refl _ w).alloc (by simp) _).alloc (by simp) _).alloc (by simp; omega) _).alloc (by simp; omega) _).alloc (by simp; omega) _).alloc (by simp; omega) _
 have g0 : W0.heap[w.heap.size]? = some (.cells #[.int .i64 b, .int .i64 e] 70 (0, 0)) := by
  rw [← hW0]; simp only [hal, World.size_alloc]; repeat (first | rw [if_pos (by omega)] | rw [if_pos trivial] | rw [if_neg (by omega)])
 have g1 : Boxed W0 (w.heap.size + 1) 22 (.slice none 0 0) := by
  unfold Boxed; rw [← hW0]; simp only [hal, World.size_alloc]; repeat (first | rw [if_pos (by omega)] | rw [if_pos trivial] | rw [if_neg (by omega)])
 have g2 : Boxed W0 (w.heap.size + 2) 3 (.int .i64 p) := by
  unfold Boxed; rw [← hW0]; simp only [hal, World.size_alloc]; repeat (first | rw [if_pos (by omega)] | rw [if_pos trivial] | rw [if_neg (by omega)])
 have g3 : W0.heap[w.heap.size + 1 + 1 + 1]? = some (.cells #[.int .i64 b, .int .i64 e] 70 (0, 0)) := by
  rw [← hW0]; simp only [hal, World.size_alloc]; repeat (first | rw [if_pos (by omega)] | rw [if_pos trivial] | rw [if_neg (by omega)])
 have g4 : Boxed W0 (w.heap.size + 1 + 1 + 1 + 1) 3 (.int .i64 p) := by
  unfold Boxed; rw [← hW0]; simp only [hal, World.size_alloc]; repeat (first | rw [if_pos (by omega)] | rw [if_pos trivial] | rw [if_neg (by omega)])
 have g5 : Boxed W0 (w.heap.size + 1 + 1 + 1 + 2) 3 (.int .i64 fr) := by
  unfold Boxed; rw [← hW0]; simp only [hal, World.size_alloc]; repeat (first | rw [if_pos (by omega)] | rw [if_pos trivial] | rw [if_neg (by omega)])
 rw [hW0]
 clear hW0
 refine wpIn_rangeFunc_P (n := n) hro h1 (gf := 76) (lb := #[.pointer (some ⟨w.heap.size + 1 + 1 + 1 + 2, 0, none⟩), .pointer (some ⟨w.heap.size + 1 + 1 + 1, 0, none⟩), .pointer (some ⟨w.heap.size + 1 + 1 + 1 + 1, 0, none⟩)]) rfl h76 (enters_of Try.func76 (by kernel_rfl) rfl) hfnP
  (parts1_in F (n - 1) h76 hro (by omega) (w.heap.size + 1 + 1 + 1) (w.heap.size + 1 + 1 + 1 + 1) (w.heap.size + 1 + 1 + 1 + 2) (by omega) (by omega) (by omega) b e p fr hBd W0 g3 g4 g5) (fun _ => rfl)
  (fun A B C h k j cs t hj hh => k j cs t hj (h j cs t hj hh)) (fun W o j cs t hj hh => (Below.heap_alloc W o j (Array.getElem?_eq_some_iff.1 hh).1).trans hh)
  (fun W l o o' hl ho j cs t hj hh => (World.putObj_heap_other (fun ee => by subst ee; rw [hl] at hh; cases hh; cases ho)).trans hh)
  (fun A B k o ht hk ho => by obtain ⟨q, x, _, rfl⟩ := ht; exact (KeepsOthers.setCell A ⟨q, 0, none⟩ _).same k o hk ho)
  (fun pre W => Iv b e p fr w.heap.size w pre W) (fun ch W => ch = [{ v := stopV 4, recovered := false }] ∧ (100 < (partsL b e fr.toNat p fr).length ∨ 1000000000 < endP b e fr.toNat p fr) ∧ Below w.heap.size w W)
  ?Ia ?Ip ?It ?I0
  (fun pre x a' W => ∃ Bx v p' fr', Iw b e p fr w.heap.size w pre v p' fr' W ∧ encs3 W Bx x ∧ w.heap.size + 6 ≤ Bx ∧ (∀ k, v.ownBlock = some k → k < Bx) ∧ a' = { tmps := #[.agg #[.int .i64 b, .int .i64 e], .int .i64 p, .int .i64 fr, .pointer (some ⟨w.heap.size, 0, none⟩), undef, undef, .slice none 0 0, .int .i64 0, .pointer (some ⟨w.heap.size + 1, 0, none⟩), .pointer (some ⟨w.heap.size + 2, 0, none⟩), .pointer (some ⟨Bx, 0, none⟩), .int .i64 p, .agg #[.int .i64 b, .int .i64 e], .int .i64 p, .int .i64 fr, .func (.func 76) #[] #[.pointer (some ⟨w.heap.size + 1 + 1 + 1 + 2, 0, none⟩), .pointer (some ⟨w.heap.size + 1 + 1 + 1, 0, none⟩), .pointer (some ⟨w.heap.size + 1 + 1 + 1 + 1, 0, none⟩)], .agg #[.int .i64 x.1, .int .i64 x.2, .bool true], undef, undef, undef, undef, undef, undef, undef, undef, undef, undef, undef, undef, undef, undef, undef, undef, undef, undef, undef, undef, undef, undef, undef, undef, undef, undef, undef, undef, undef, undef, undef, undef, undef, undef, undef, undef], defers := [] })
  ?Axp ?assign ?body ?done ?panic
 case Ia =>
  rintro pre W o ⟨v, p', fr', h⟩
  exact ⟨v, p', fr', (Below.heap_alloc W o _ (Array.getElem?_eq_some_iff.1 h.st).1).trans h.st, h.bl.alloc h.bl.size _, h.vb.alloc o, by have := h.sz; simp; omega, h.row.alloc o, h.ab.alloc o, h.bd, h.p1, h.len, h.all, h.fin⟩
 case Ip =>
  rintro pre W l o o' ⟨v, p', fr', h⟩ hl ho hc
  exact ⟨v, p', fr', (World.putObj_heap_other (fun ee => by rw [← ee, h.st] at ho; cases ho; cases hc)).trans h.st, h.bl.grown (grownBy_putObj' W l o') h.bl.size (fun k ek => by cases ek; omega), h.vb.kept (grownBy_putObj' W l o') (fun ee => by cases ee; rw [show W.heap[_]? = _ from h.vb] at ho; cases ho; cases hc), by have := h.sz; simp; omega, ownsRow_putObj h.row o' ho hc, h.ab.kept (grownBy_putObj' W l o') (fun ee => by cases ee; rw [show W.heap[_]? = _ from h.ab] at ho; cases ho; cases hc), h.bd, h.p1, h.len, h.all, h.fin⟩
 case It =>
  rintro pre A B ⟨v, p', fr', h⟩ ⟨q, x, hq, rfl⟩
  exact ⟨v, p', fr', (heap_setOther A q _ _ (by omega)).trans h.st, h.bl.setCell (p := ⟨q, 0, none⟩) (by simp; omega) _, bx_other h.vb (by omega) _, by have := h.sz; have := (grownBy_setCell' A q (.int .i64 x)).size; omega, h.row.kept (grownBy_setCell' A q _) (.inr (fun ee => by have := row_ge h.row _ ee; omega)), bx_other h.ab (by omega) _, h.bd, h.p1, h.len, h.all, h.fin⟩
 case I0 => exact ⟨_, p, fr, g0, hB0, g1, by omega, World.ownsRow_nil _ _ _ _, g2, hBd, hp, by simp, by simp, rfl⟩
 case Axp =>
  rintro pre x a' W l o o' ⟨Bx, v, p', fr', h, hx, hBx, hrb, rfl⟩ hl ho hc
  refine ⟨Bx, v, p', fr', ?_, (World.putObj_heap_other (fun ee => by unfold encs3 at hx; rw [← ee, hx] at ho; cases ho; cases hc)).trans hx, hBx, hrb, rfl⟩
  exact ⟨(World.putObj_heap_other (fun ee => by rw [← ee, h.st] at ho; cases ho; cases hc)).trans h.st, h.bl.grown (grownBy_putObj' W l o') h.bl.size (fun k ek => by cases ek; omega), h.vb.kept (grownBy_putObj' W l o') (fun ee => by cases ee; rw [show W.heap[_]? = _ from h.vb] at ho; cases ho; cases hc), by have := h.sz; simp; omega, ownsRow_putObj h.row o' ho hc, h.ab.kept (grownBy_putObj' W l o') (fun ee => by cases ee; rw [show W.heap[_]? = _ from h.ab] at ho; cases ho; cases hc), h.bd, h.p1, h.len, h.all, h.fin⟩
 case assign =>
  rintro l pre x W K ⟨v, p', fr', h⟩ hK
  simp only [encS]
  gi_wp2
  refine hK _ _ ⟨W.heap.size, v, p', fr', ?_, World.alloc_heap_new W _, ?_, row_lt h.row, rfl⟩ (KeepsOthers.alloc _ _) (fun j cs t hj hh => (Below.heap_alloc W _ j (Array.getElem?_eq_some_iff.1 hh).1).trans hh)
  · exact ⟨(Below.heap_alloc W _ _ (Array.getElem?_eq_some_iff.1 h.st).1).trans h.st, h.bl.alloc h.bl.size _, h.vb.alloc _, by have := h.sz; simp; omega, h.row.alloc _, h.ab.alloc _, h.bd, h.p1, h.len, h.all, h.fin⟩
  · have := h.sz; omega
 case body =>
  rintro l pre x a' W ⟨Bx, v, p', fr', hI, hx, hBx, hrb, rfl⟩ ⟨rest, hrest⟩
  have hn2 : 1 ≤ n - 1 - 1 := by omega
  obtain ⟨i0, hi, hz0, hz1, hz2⟩ := info_parts info39p
  have hcan : x :: rest = partsL b e fr'.toNat p' fr' := List.append_cancel_left (hrest.trans hI.all)
  have hf : 0 < fr' := by
   by_cases hf : 0 < fr'
   · exact hf
   · rw [show fr'.toNat = 0 by omega] at hcan; cases hcan
  rw [partsL_step hf] at hcan
  obtain ⟨rfl, hrst⟩ := List.cons.inj hcan
  have hcb := cntN_pos (e := e) (p := p') hf
  have hB2 := hI.bd.next hf
  have hfin := hI.fin
  rw [endP_step hf] at hfin
  have hall := hI.all
  rw [partsL_step hf] at hall
  have hfar := endP_far (p := p') hI.bd hf
  rw [endP_step hf] at hfar
  obtain ⟨c, hc⟩ : ∃ c, cntN e p' fr' = c := ⟨_, rfl⟩
  have hnx : nxtP b e p' fr' = if (0 < e ∧ p' < e) ∧ p' + c = e then b else p' + c := by unfold nxtP; rw [hc]
  have hcle : 0 < e ∧ p' < e → c ≤ e - p' := by
   rintro ⟨h1, h2⟩
   rw [← hc]; unfold cntN; rw [if_pos ⟨h1, h2⟩]; split <;> omega
  rw [hc] at hcb hB2 hfin hall hrst hx hfar ⊢
  obtain ⟨y1, y2, y3, y4, y5, y6, y7, y8⟩ := hI.bd
  have yp := hI.p1
  have hM : Ik b e w.heap.size w v pre.length (flatS pre) p' W := ⟨hI.st, hI.bl, hI.vb, hI.sz, hI.row, hI.ab⟩
  have hfl : flatS pre ++ [.int .i64 p', .int .i64 c, .bool true] = flatS (pre ++ [(p', c)]) := by simp [flatS]
  have ylen := hI.len
  have hw : wrap64 (p' + c) = p' + c := w64 (by omega) (by omega)
  have cv := hI.vb.cell
  have cb0 : W.cell? ⟨Bx, 0, none⟩ = some (.int .i64 p') := by unfold encs3 at hx; simp [World.cell?, hx]
  have cb1 : W.cell? ⟨Bx, 1, none⟩ = some (.int .i64 c) := by unfold encs3 at hx; simp [World.cell?, hx]
  have cb2 : W.cell? ⟨Bx, 2, none⟩ = some (.bool true) := by unfold encs3 at hx; simp [World.cell?, hx]
  by_cases hle : pre.length + 1 ≤ 100
  · have hle' : ((pre.length : Int) + 1 ≤ 100) := by omega
    by_cases ht : 0 < e ∧ p' < e
    · obtain ⟨t1, t2⟩ := ht
      have hcl := hcle ⟨t1, t2⟩
      by_cases hh : p' + c = e
      · rw [if_pos ⟨⟨t1, t2⟩, hh⟩] at hnx
        rw [hnx] at hB2 hfin hall hfar
        gi_wp2_with (first | (gi_at_builtin; refine wpListIn_append_own _ rfl _ _ 22 rfl (w.heap.size + 6) 39 i0 (.agg #[.int .i64 0, .int .i64 0, .bool false]) 3 24 Try.underlying22 hi hz0 hz1 hz2 rfl (by decide) _ _ _ rfl (hI.row.alloc _) ⟨W.heap.size, 0, none⟩ 1 1 [.int .i64 p', .int .i64 c, .bool true] rfl rfl (cells3_new _ _ _ _ _) (by simp [Value.oneCell']) (by have := hI.len; have : (101 : Nat) ≤ maxLen := (by decide); omega) (by have := hI.len; omega) (by have := hI.sz; simp; omega) ?_; intro v' w1 hown hgrow _; obtain ⟨g', cap', rfl⟩ := ownsRow_succ hown; have st2 := app_keep (v' := .slice (some ⟨g', 0, none⟩) (pre.length + 1) cap') (q := w.heap.size + 1) hgrow (cells_not_row hI.st (by decide) hI.row) (by omega) hI.st; have bx2 := app_keep (v' := .slice (some ⟨g', 0, none⟩) (pre.length + 1) cap') (q := w.heap.size + 1) hgrow (fun ee => Nat.lt_irrefl _ (hrb _ ee.symm)) (by omega) hx; have at2 := app_keep (v' := .slice (some ⟨g', 0, none⟩) (pre.length + 1) cap') (q := w.heap.size + 1) hgrow (cells_not_row hI.ab (by decide) hI.row) (by omega) hI.ab; have vb1 : Boxed w1 (w.heap.size + 1) 22 v := (hI.vb.alloc _).kept hgrow (cells_not_row hI.vb (by decide) hI.row); obtain ⟨⟨f1, f2, f3, f4⟩, f5, f6, f7, f8, f9, f10⟩ := body_facts st2 bx2 at2 (by omega); have K2 := Ik.app hM hgrow hown; have hc1 := vb1.cell; have hf1 := vb1.frozen; have hc2 := (vb1.set (.slice (some ⟨g', 0, none⟩) (pre.length + 1) cap')).cell) | (gi_at_call 46; refine (CallsIn.inRound l (must_ok F _ h46 hro 4 _)).mono ?_; rintro ee w' ⟨rfl, rfl⟩))
        exact ⟨K2.2.1.trans ((KeepsOthers.setCell _ _ _).trans (KeepsOthers.setCell _ _ _)), Iw.of ((K2.1.set _).set _) (by simp) hfl hB2 (by omega) (by simp; omega) (by rw [hall]; simp) hfin, kt_trans K2.2.2 (kt_trans (kt_set _ _ _) (kt_set _ _ _))⟩
      · rw [if_neg (fun h => hh h.2)] at hnx
        rw [hnx] at hB2 hfin hall hfar
        have hlo : p' + c ≤ 1000000000 := by omega
        have hh' : (p' + c == e) = false := by simpa using hh
        gi_wp2_with (first | (gi_at_builtin; refine wpListIn_append_own _ rfl _ _ 22 rfl (w.heap.size + 6) 39 i0 (.agg #[.int .i64 0, .int .i64 0, .bool false]) 3 24 Try.underlying22 hi hz0 hz1 hz2 rfl (by decide) _ _ _ rfl (hI.row.alloc _) ⟨W.heap.size, 0, none⟩ 1 1 [.int .i64 p', .int .i64 c, .bool true] rfl rfl (cells3_new _ _ _ _ _) (by simp [Value.oneCell']) (by have := hI.len; have : (101 : Nat) ≤ maxLen := (by decide); omega) (by have := hI.len; omega) (by have := hI.sz; simp; omega) ?_; intro v' w1 hown hgrow _; obtain ⟨g', cap', rfl⟩ := ownsRow_succ hown; have st2 := app_keep (v' := .slice (some ⟨g', 0, none⟩) (pre.length + 1) cap') (q := w.heap.size + 1) hgrow (cells_not_row hI.st (by decide) hI.row) (by omega) hI.st; have bx2 := app_keep (v' := .slice (some ⟨g', 0, none⟩) (pre.length + 1) cap') (q := w.heap.size + 1) hgrow (fun ee => Nat.lt_irrefl _ (hrb _ ee.symm)) (by omega) hx; have at2 := app_keep (v' := .slice (some ⟨g', 0, none⟩) (pre.length + 1) cap') (q := w.heap.size + 1) hgrow (cells_not_row hI.ab (by decide) hI.row) (by omega) hI.ab; have vb1 : Boxed w1 (w.heap.size + 1) 22 v := (hI.vb.alloc _).kept hgrow (cells_not_row hI.vb (by decide) hI.row); obtain ⟨⟨f1, f2, f3, f4⟩, f5, f6, f7, f8, f9, f10⟩ := body_facts st2 bx2 at2 (by omega); have K2 := Ik.app hM hgrow hown; have hc1 := vb1.cell; have hf1 := vb1.frozen; have hc2 := (vb1.set (.slice (some ⟨g', 0, none⟩) (pre.length + 1) cap')).cell) | (gi_at_call 46; refine (CallsIn.inRound l (must_ok F _ h46 hro 4 _)).mono ?_; rintro ee w' ⟨rfl, rfl⟩))
        exact ⟨K2.2.1.trans (KeepsOthers.setCell _ _ _), Iw.of (K2.1.set _) (by simp) hfl hB2 (by omega) (by simp; omega) (by rw [hall]; simp) hfin, kt_trans K2.2.2 (kt_set _ _ _)⟩
    · rw [if_neg (fun h => ht h.1)] at hnx
      rw [hnx] at hB2 hfin hall hfar
      by_cases hlo : p' + c ≤ 1000000000
      · have hlo' : decide (p' + c ≤ 1000000000) = true := decide_eq_true hlo
        by_cases t1 : 0 < e
        · have t2 : ¬ p' < e := fun h => ht ⟨t1, h⟩
          gi_wp2_with (first | (gi_at_builtin; refine wpListIn_append_own _ rfl _ _ 22 rfl (w.heap.size + 6) 39 i0 (.agg #[.int .i64 0, .int .i64 0, .bool false]) 3 24 Try.underlying22 hi hz0 hz1 hz2 rfl (by decide) _ _ _ rfl (hI.row.alloc _) ⟨W.heap.size, 0, none⟩ 1 1 [.int .i64 p', .int .i64 c, .bool true] rfl rfl (cells3_new _ _ _ _ _) (by simp [Value.oneCell']) (by have := hI.len; have : (101 : Nat) ≤ maxLen := (by decide); omega) (by have := hI.len; omega) (by have := hI.sz; simp; omega) ?_; intro v' w1 hown hgrow _; obtain ⟨g', cap', rfl⟩ := ownsRow_succ hown; have st2 := app_keep (v' := .slice (some ⟨g', 0, none⟩) (pre.length + 1) cap') (q := w.heap.size + 1) hgrow (cells_not_row hI.st (by decide) hI.row) (by omega) hI.st; have bx2 := app_keep (v' := .slice (some ⟨g', 0, none⟩) (pre.length + 1) cap') (q := w.heap.size + 1) hgrow (fun ee => Nat.lt_irrefl _ (hrb _ ee.symm)) (by omega) hx; have at2 := app_keep (v' := .slice (some ⟨g', 0, none⟩) (pre.length + 1) cap') (q := w.heap.size + 1) hgrow (cells_not_row hI.ab (by decide) hI.row) (by omega) hI.ab; have vb1 : Boxed w1 (w.heap.size + 1) 22 v := (hI.vb.alloc _).kept hgrow (cells_not_row hI.vb (by decide) hI.row); obtain ⟨⟨f1, f2, f3, f4⟩, f5, f6, f7, f8, f9, f10⟩ := body_facts st2 bx2 at2 (by omega); have K2 := Ik.app hM hgrow hown; have hc1 := vb1.cell; have hf1 := vb1.frozen; have hc2 := (vb1.set (.slice (some ⟨g', 0, none⟩) (pre.length + 1) cap')).cell) | (gi_at_call 46; refine (CallsIn.inRound l (must_ok F _ h46 hro 4 _)).mono ?_; rintro ee w' ⟨rfl, rfl⟩))
          exact ⟨K2.2.1.trans (KeepsOthers.setCell _ _ _), Iw.of (K2.1.set _) (by simp) hfl hB2 (by omega) (by simp; omega) (by rw [hall]; simp) hfin, kt_trans K2.2.2 (kt_set _ _ _)⟩
        · gi_wp2_with (first | (gi_at_builtin; refine wpListIn_append_own _ rfl _ _ 22 rfl (w.heap.size + 6) 39 i0 (.agg #[.int .i64 0, .int .i64 0, .bool false]) 3 24 Try.underlying22 hi hz0 hz1 hz2 rfl (by decide) _ _ _ rfl (hI.row.alloc _) ⟨W.heap.size, 0, none⟩ 1 1 [.int .i64 p', .int .i64 c, .bool true] rfl rfl (cells3_new _ _ _ _ _) (by simp [Value.oneCell']) (by have := hI.len; have : (101 : Nat) ≤ maxLen := (by decide); omega) (by have := hI.len; omega) (by have := hI.sz; simp; omega) ?_; intro v' w1 hown hgrow _; obtain ⟨g', cap', rfl⟩ := ownsRow_succ hown; have st2 := app_keep (v' := .slice (some ⟨g', 0, none⟩) (pre.length + 1) cap') (q := w.heap.size + 1) hgrow (cells_not_row hI.st (by decide) hI.row) (by omega) hI.st; have bx2 := app_keep (v' := .slice (some ⟨g', 0, none⟩) (pre.length + 1) cap') (q := w.heap.size + 1) hgrow (fun ee => Nat.lt_irrefl _ (hrb _ ee.symm)) (by omega) hx; have at2 := app_keep (v' := .slice (some ⟨g', 0, none⟩) (pre.length + 1) cap') (q := w.heap.size + 1) hgrow (cells_not_row hI.ab (by decide) hI.row) (by omega) hI.ab; have vb1 : Boxed w1 (w.heap.size + 1) 22 v := (hI.vb.alloc _).kept hgrow (cells_not_row hI.vb (by decide) hI.row); obtain ⟨⟨f1, f2, f3, f4⟩, f5, f6, f7, f8, f9, f10⟩ := body_facts st2 bx2 at2 (by omega); have K2 := Ik.app hM hgrow hown; have hc1 := vb1.cell; have hf1 := vb1.frozen; have hc2 := (vb1.set (.slice (some ⟨g', 0, none⟩) (pre.length + 1) cap')).cell) | (gi_at_call 46; refine (CallsIn.inRound l (must_ok F _ h46 hro 4 _)).mono ?_; rintro ee w' ⟨rfl, rfl⟩))
          exact ⟨K2.2.1.trans (KeepsOthers.setCell _ _ _), Iw.of (K2.1.set _) (by simp) hfl hB2 (by omega) (by simp; omega) (by rw [hall]; simp) hfin, kt_trans K2.2.2 (kt_set _ _ _)⟩
      · have hlo' : decide (p' + c ≤ 1000000000) = false := decide_eq_false hlo
        by_cases t1 : 0 < e
        · have t2 : ¬ p' < e := fun h => ht ⟨t1, h⟩
          gi_wp2_with (first | (gi_at_builtin; refine wpListIn_append_own _ rfl _ _ 22 rfl (w.heap.size + 6) 39 i0 (.agg #[.int .i64 0, .int .i64 0, .bool false]) 3 24 Try.underlying22 hi hz0 hz1 hz2 rfl (by decide) _ _ _ rfl (hI.row.alloc _) ⟨W.heap.size, 0, none⟩ 1 1 [.int .i64 p', .int .i64 c, .bool true] rfl rfl (cells3_new _ _ _ _ _) (by simp [Value.oneCell']) (by have := hI.len; have : (101 : Nat) ≤ maxLen := (by decide); omega) (by have := hI.len; omega) (by have := hI.sz; simp; omega) ?_; intro v' w1 hown hgrow _; obtain ⟨g', cap', rfl⟩ := ownsRow_succ hown; have st2 := app_keep (v' := .slice (some ⟨g', 0, none⟩) (pre.length + 1) cap') (q := w.heap.size + 1) hgrow (cells_not_row hI.st (by decide) hI.row) (by omega) hI.st; have bx2 := app_keep (v' := .slice (some ⟨g', 0, none⟩) (pre.length + 1) cap') (q := w.heap.size + 1) hgrow (fun ee => Nat.lt_irrefl _ (hrb _ ee.symm)) (by omega) hx; have at2 := app_keep (v' := .slice (some ⟨g', 0, none⟩) (pre.length + 1) cap') (q := w.heap.size + 1) hgrow (cells_not_row hI.ab (by decide) hI.row) (by omega) hI.ab; have vb1 : Boxed w1 (w.heap.size + 1) 22 v := (hI.vb.alloc _).kept hgrow (cells_not_row hI.vb (by decide) hI.row); obtain ⟨⟨f1, f2, f3, f4⟩, f5, f6, f7, f8, f9, f10⟩ := body_facts st2 bx2 at2 (by omega); have K2 := Ik.app hM hgrow hown; have hc1 := vb1.cell; have hf1 := vb1.frozen; have hc2 := (vb1.set (.slice (some ⟨g', 0, none⟩) (pre.length + 1) cap')).cell) | (gi_at_call 46; refine (CallsIn.inRound l (must_ok F _ h46 hro 4 _)).mono ?_; rintro ee w' ⟨rfl, rfl⟩) | (gi_at_call 46; refine (CallsIn.inRound l (must_no F _ h46 hro 4 _)).mono ?_; rintro ee w' ⟨rfl, rfl⟩))
          have K3 := K2.1.set (p' + c)
          refine ⟨rfl, K2.2.1.trans (KeepsOthers.setCell _ _ _), rfl, .inr ?_, K3.bl⟩
          rw [hfin]
          exact hfar (by omega)
        · gi_wp2_with (first | (gi_at_builtin; refine wpListIn_append_own _ rfl _ _ 22 rfl (w.heap.size + 6) 39 i0 (.agg #[.int .i64 0, .int .i64 0, .bool false]) 3 24 Try.underlying22 hi hz0 hz1 hz2 rfl (by decide) _ _ _ rfl (hI.row.alloc _) ⟨W.heap.size, 0, none⟩ 1 1 [.int .i64 p', .int .i64 c, .bool true] rfl rfl (cells3_new _ _ _ _ _) (by simp [Value.oneCell']) (by have := hI.len; have : (101 : Nat) ≤ maxLen := (by decide); omega) (by have := hI.len; omega) (by have := hI.sz; simp; omega) ?_; intro v' w1 hown hgrow _; obtain ⟨g', cap', rfl⟩ := ownsRow_succ hown; have st2 := app_keep (v' := .slice (some ⟨g', 0, none⟩) (pre.length + 1) cap') (q := w.heap.size + 1) hgrow (cells_not_row hI.st (by decide) hI.row) (by omega) hI.st; have bx2 := app_keep (v' := .slice (some ⟨g', 0, none⟩) (pre.length + 1) cap') (q := w.heap.size + 1) hgrow (fun ee => Nat.lt_irrefl _ (hrb _ ee.symm)) (by omega) hx; have at2 := app_keep (v' := .slice (some ⟨g', 0, none⟩) (pre.length + 1) cap') (q := w.heap.size + 1) hgrow (cells_not_row hI.ab (by decide) hI.row) (by omega) hI.ab; have vb1 : Boxed w1 (w.heap.size + 1) 22 v := (hI.vb.alloc _).kept hgrow (cells_not_row hI.vb (by decide) hI.row); obtain ⟨⟨f1, f2, f3, f4⟩, f5, f6, f7, f8, f9, f10⟩ := body_facts st2 bx2 at2 (by omega); have K2 := Ik.app hM hgrow hown; have hc1 := vb1.cell; have hf1 := vb1.frozen; have hc2 := (vb1.set (.slice (some ⟨g', 0, none⟩) (pre.length + 1) cap')).cell) | (gi_at_call 46; refine (CallsIn.inRound l (must_ok F _ h46 hro 4 _)).mono ?_; rintro ee w' ⟨rfl, rfl⟩) | (gi_at_call 46; refine (CallsIn.inRound l (must_no F _ h46 hro 4 _)).mono ?_; rintro ee w' ⟨rfl, rfl⟩))
          have K3 := K2.1.set (p' + c)
          refine ⟨rfl, K2.2.1.trans (KeepsOthers.setCell _ _ _), rfl, .inr ?_, K3.bl⟩
          rw [hfin]
          exact hfar (by omega)
  · have hle' : ¬ ((pre.length : Int) + 1 ≤ 100) := by omega
    gi_wp2_with (first | (gi_at_builtin; refine wpListIn_append_own _ rfl _ _ 22 rfl (w.heap.size + 6) 39 i0 (.agg #[.int .i64 0, .int .i64 0, .bool false]) 3 24 Try.underlying22 hi hz0 hz1 hz2 rfl (by decide) _ _ _ rfl (hI.row.alloc _) ⟨W.heap.size, 0, none⟩ 1 1 [.int .i64 p', .int .i64 c, .bool true] rfl rfl (cells3_new _ _ _ _ _) (by simp [Value.oneCell']) (by have := hI.len; have : (101 : Nat) ≤ maxLen := (by decide); omega) (by have := hI.len; omega) (by have := hI.sz; simp; omega) ?_; intro v' w1 hown hgrow _; obtain ⟨g', cap', rfl⟩ := ownsRow_succ hown; have st2 := app_keep (v' := .slice (some ⟨g', 0, none⟩) (pre.length + 1) cap') (q := w.heap.size + 1) hgrow (cells_not_row hI.st (by decide) hI.row) (by omega) hI.st; have bx2 := app_keep (v' := .slice (some ⟨g', 0, none⟩) (pre.length + 1) cap') (q := w.heap.size + 1) hgrow (fun ee => Nat.lt_irrefl _ (hrb _ ee.symm)) (by omega) hx; have at2 := app_keep (v' := .slice (some ⟨g', 0, none⟩) (pre.length + 1) cap') (q := w.heap.size + 1) hgrow (cells_not_row hI.ab (by decide) hI.row) (by omega) hI.ab; have vb1 : Boxed w1 (w.heap.size + 1) 22 v := (hI.vb.alloc _).kept hgrow (cells_not_row hI.vb (by decide) hI.row); obtain ⟨⟨f1, f2, f3, f4⟩, f5, f6, f7, f8, f9, f10⟩ := body_facts st2 bx2 at2 (by omega); have K2 := Ik.app hM hgrow hown; have hc1 := vb1.cell; have hf1 := vb1.frozen; have hc2 := (vb1.set (.slice (some ⟨g', 0, none⟩) (pre.length + 1) cap')).cell) | (gi_at_call 46; refine (CallsIn.inRound l (must_no F _ h46 hro 4 _)).mono ?_; rintro ee w' ⟨rfl, rfl⟩))
    refine ⟨rfl, K2.2.1, rfl, .inl ?_, K2.1.bl⟩
    rw [hall]; simp; omega
 case done =>
  rintro D W ⟨v, p', fr', h⟩ hD hK
  have cv := h.vb.cell
  have ca := h.ab.cell
  have hbd : Below w.heap.size w W.drew := by first | (apply below_drew1; exact h.bl) | (apply pw_below_drewN; exact h.bl)
  have hnil : partsL b e fr'.toNat p' fr' = [] := by
   have := congrArg List.length h.all
   rw [List.length_append] at this
   exact List.length_eq_zero_iff.1 (by omega)
  have hf0 : ¬ 0 < fr' := fun hf => by rw [partsL_step hf] at hnil; cases hnil
  have hend : endP b e fr.toNat p fr = p' := by rw [h.fin, show fr'.toNat = 0 by omega]; rfl
  gi_wp2
  gi_region
  all_goals gi_wp2
  all_goals show LeavesInM F n Try.prog Try.f65 _ _ _ _ _
  all_goals refine ⟨by simp, .inl ⟨D, _, rfl, run_takeDeferred hK, ?_⟩⟩
  all_goals refine ⟨.tuple #[v, .int .i64 p'], by simp [results, Try.results65, go_sem], .inl ⟨v, by rw [hend], h.len, by rw [hend]; exact h.p1, ?_, ?_⟩⟩
  all_goals first | exact row_weaken (by omega) (ownsRow_putObj (W := W) h.row _ hK rfl) | exact hbd.grown (grownBy_putObj' _ D _) hbd.size (fun k ek => by cases ek; omega) | trace_state
 case panic =>
  rintro D ch W ⟨rfl, hlim, hB⟩ hD hK
  show LeavesInM F n Try.prog Try.f65 _ _ _ _ _
  refine ⟨by simp, .inl ⟨D, _, rfl, run_takeDeferred hK, ?_⟩⟩
  exact .inr ⟨rfl, hlim, hB.grown (grownBy_putObj' W D _) hB.size (fun k ek => by cases ek; omega)⟩
end Go.Proofs.Ytlffhagjpfcecaa.PA

namespace Go.Proofs.Ytlffhagjpfcecaa.PA
open Go.RowKit Go.Proofs.YtlffhagjpfcecaaW.PrintWords Go.Proofs.YtlffhagjpfcecaaW.PrintLast Go.Proofs.YtlffhagjpfcecaaW.PrintMore
attribute [local go_sem] max2_int min2_int max_two min_two max_three min_three max_four min_four
set_option linter.unusedVariables false
set_option linter.unusedSimpArgs false
def transport_within.f (a0 : Int) (a1 : Int) (a2 : Int) : Option (Bool) := if a0 ≥ a1 then (some (decide (a0 ≤ a2))) else (some false)
set_option maxHeartbeats 8000000 in
set_option maxRecDepth 100000 in
theorem transport_within.calls (a0 : Int) (a1 : Int) (a2 : Int) (r : Bool) (w : World) (h : transport_within.f a0 a1 a2 = some r) :
 Calls Try.prog 38 #[.int .i64 a0, .int .i64 a1, .int .i64 a2] w fun e w' => e = .returned (.bool r) ∧ Drawn0 w w' := by
 have H : (if a0 ≥ a1 then (some (decide (a0 ≤ a2))) else (some false)) = some r := h
 clear h
 by_cases c4 : a0 ≥ a1
 · rw [if_pos c4] at H
   have c4b0 : decide (a1 ≤ a0) = true := decide_eq_true c4
   clear c4
   obtain rfl := Option.some.inj H
   go_enter Try.func38, Try.ntmps38
   go_wp2
   go_ret
   exact ⟨by first | rfl | (simp; done) | (simp [*]; done), by repeat (first | exact Drawn0.refl _ | apply Drawn0.step)⟩
 · rw [if_neg c4] at H
   have c4b0 : decide (a1 ≤ a0) = false := decide_eq_false c4
   clear c4
   obtain rfl := Option.some.inj H
   go_enter Try.func38, Try.ntmps38
   go_wp2
   go_ret
   exact ⟨by first | rfl | (simp; done) | (simp [*]; done), by repeat (first | exact Drawn0.refl _ | apply Drawn0.step)⟩
end Go.Proofs.Ytlffhagjpfcecaa.PA

namespace Go.Proofs.Ytlffhagjpfcecaa.PA
open Go.RowKit Go.Proofs.YtlffhagjpfcecaaW.PrintWords Go.Proofs.YtlffhagjpfcecaaW.PrintLast Go.Proofs.YtlffhagjpfcecaaW.PrintMore
attribute [local go_sem] max2_int min2_int max_two min_two max_three min_three max_four min_four
set_option linter.unusedVariables false
set_option linter.unusedSimpArgs false
def transport_looped.j0 : Nat → Int → Int → Bool → Option (Int)
 | 0, _, _, _ => none
 | k + 1, x0, x1, x5 => if x5 = true then (some 7) else (if x1 ≤ x0 then (if x0 = 0 then (if x1 = 0 then (some 0) else (some 12)) else (some 12)) else (some 0))
def transport_looped.f (k : Nat) (a0 : Int) (a1 : Int) : Option (Int) := (transport_within.f a0 0 1000000000).bind fun t101 => (if t101 = true then ((transport_within.f a1 0 1000000000).bind fun t102 => (transport_looped.j0 k a0 a1 (!t102))) else (transport_looped.j0 k a0 a1 true))
theorem transport_looped.mono_l : ∀ k, (∀ y0 y1 y2, LeO (transport_looped.j0 k y0 y1 y2) (transport_looped.j0 (k + 1) y0 y1 y2))
 | 0 => fun _ _ _ r h => by simp [transport_looped.j0] at h
 | k + 1 => by
  have ih0 := transport_looped.mono_l k
  · intro y0 y1 y2
    unfold transport_looped.j0
    repeat' first
    | (with_reducible exact ih0 _ _ _)
    | (with_reducible exact LeO.refl _)
    | (with_reducible exact LeO.none _)
    | (with_reducible refine LeO.ite ?_ ?_)
    | (with_reducible refine LeO.bind ?_ (fun _ => ?_))
    | exact ih0 _ _ _
    | exact LeO.none _
    | refine LeO.ite ?_ ?_
    | refine LeO.bind ?_ (fun _ => ?_)
theorem transport_looped.mono : ∀ a0 a1 k, LeO (transport_looped.f k a0 a1) (transport_looped.f (k + 1) a0 a1) := by
 intro a0 a1 k
 have ih0 := transport_looped.mono_l k
 unfold transport_looped.f
 repeat' first
  | (with_reducible exact ih0 _ _ _)
  | (with_reducible exact LeO.refl _)
  | (with_reducible exact LeO.none _)
  | (with_reducible refine LeO.ite ?_ ?_)
  | (with_reducible refine LeO.bind ?_ (fun _ => ?_))
  | exact ih0 _ _ _
  | exact LeO.none _
  | refine LeO.ite ?_ ?_
  | refine LeO.bind ?_ (fun _ => ?_)
set_option maxHeartbeats 8000000 in
set_option maxRecDepth 100000 in
theorem transport_looped.calls (k : Nat) (a0 : Int) (a1 : Int) (r : Int) (w : World) (h : transport_looped.f k a0 a1 = some r) :
 Calls Try.prog 42 #[.int .i64 a0, .int .i64 a1] w fun e w' => e = .returned (.int .i64 r) ∧ Drawn0 w w' := by
 have H : ((transport_within.f a0 0 1000000000).bind fun t101 => (if t101 = true then ((transport_within.f a1 0 1000000000).bind fun t102 => (transport_looped.j0 k a0 a1 (!t102))) else (transport_looped.j0 k a0 a1 true))) = some r := h
 clear h
 have HC3 := Aside0.mk H
 clear H
 go_enter Try.func42, Try.ntmps42
 go_upto_region 1 with (fail)
 go_cut [5] (fun v5 wc => ∃ (kq : Nat) (x5_2 : Bool), v5 = .bool x5_2 ∧ Aside0 (transport_looped.j0 kq a0 a1 x5_2 = some r) ∧ Aside0 (kq ≤ k) ∧ Drawn0 w wc)
 case first =>
  have H := HC3.out
  clear HC3
  replace H := Option.bind_eq_some_iff.mp H
  obtain ⟨t101, A40, H⟩ := H
  replace H : (if t101 = true then ((transport_within.f a1 0 1000000000).bind fun t102 => (transport_looped.j0 k a0 a1 (!t102))) else (transport_looped.j0 k a0 a1 true)) = some r := H
  have A4 := Aside0.mk A40
  clear A40
  by_cases c5 : t101 = true
  · subst c5
    have H1 : ((transport_within.f a1 0 1000000000).bind fun t102 => (transport_looped.j0 k a0 a1 (!t102))) = some r := by rw [if_pos rfl] at H; exact H
    clear H
    have H := H1
    clear H1
    replace H := Option.bind_eq_some_iff.mp H
    obtain ⟨t102, A60, H⟩ := H
    replace H : (transport_looped.j0 k a0 a1 (!t102)) = some r := H
    have A6 := Aside0.mk A60
    clear A60
    have H' := Aside0.mk H
    clear H
    go_wp2_with (first | ((with_reducible refine gate_callee (f := 38) rfl ?_); refine goesL_ (some 7) rfl rfl Try.func38 (by kernel_rfl) rfl #[.int .i64 a0, .int .i64 0, .int .i64 1000000000] rfl (by (try simp only [List.map_toArray, List.map_cons, List.map_nil]); first | done | rfl | (simp only [List.length_drop, List.length_take]; rfl)) ?_; (with_reducible refine (transport_within.calls a0 0 1000000000 true _ A4.out).mono ?_); rintro e w' ⟨rfl, ⟨nd, rfl⟩⟩; refine ⟨_, rfl, ?_⟩) | (go_at_call 38; (with_reducible refine (transport_within.calls a1 0 1000000000 t102 _ A6.out).mono ?_); rintro e w' ⟨rfl, ⟨nd, rfl⟩⟩))
    go_meet
    case rel => exact ⟨_, (!t102), (by first | rfl | (simp; done) | (simp [*]; done)), H', ⟨by first | omega | exact Nat.le_refl _⟩, by repeat (first | exact Drawn0.refl _ | apply Drawn0.step)⟩
  · replace c5 := Bool.eq_false_iff.mpr c5
    subst c5
    have H1 : (transport_looped.j0 k a0 a1 true) = some r := by rw [if_neg (show ¬ (false = true) by decide)] at H; exact H
    clear H
    have H := H1
    clear H1
    have H' := Aside0.mk H
    clear H
    go_wp2_with (first | ((with_reducible refine gate_callee (f := 38) rfl ?_); refine goesL_ (some 7) rfl rfl Try.func38 (by kernel_rfl) rfl #[.int .i64 a0, .int .i64 0, .int .i64 1000000000] rfl (by (try simp only [List.map_toArray, List.map_cons, List.map_nil]); first | done | rfl | (simp only [List.length_drop, List.length_take]; rfl)) ?_; (with_reducible refine (transport_within.calls a0 0 1000000000 false _ A4.out).mono ?_); rintro e w' ⟨rfl, ⟨nd, rfl⟩⟩; refine ⟨_, rfl, ?_⟩))
    go_meet
    case rel => exact ⟨_, (true), (by first | rfl | (simp; done) | (simp [*]; done)), H', ⟨by first | omega | exact Nat.le_refl _⟩, by repeat (first | exact Drawn0.refl _ | apply Drawn0.step)⟩
 case rest =>
  clear HC3
  try clear p2
  try clear c3
  try clear c4
  try clear c5
  obtain ⟨kq, x5_2, rfl, HA, HJ2, ⟨mc2, rfl⟩⟩ := hcut
  cases kq with
  | zero => exact absurd HA.out (by simp [transport_looped.j0])
  | succ kj2 =>
   have H := HA.out
   clear HA
   simp only [transport_looped.j0] at H
   by_cases c7 : x5_2 = true
   · subst c7
     have H1 : (some 7) = some r := by rw [if_pos rfl] at H; exact H
     clear H
     have H := H1
     clear H1
     obtain rfl := Option.some.inj H
     go_wp2
     go_ret
     exact ⟨by first | rfl | (simp; done) | (simp [*]; done), by repeat (first | exact Drawn0.refl _ | apply Drawn0.step)⟩
   · replace c7 := Bool.eq_false_iff.mpr c7
     subst c7
     have H1 : (if a1 ≤ a0 then (if a0 = 0 then (if a1 = 0 then (some 0) else (some 12)) else (some 12)) else (some 0)) = some r := by rw [if_neg (show ¬ (false = true) by decide)] at H; exact H
     clear H
     have H := H1
     clear H1
     by_cases c8 : a1 ≤ a0
     · rw [if_pos c8] at H
       have c8b0 : decide (a1 ≤ a0) = true := decide_eq_true c8
       clear c8
       by_cases c9 : a0 = 0
       · rw [if_pos c9] at H
         have c9b0 : (a0 == 0) = true := beq_iff_eq.mpr c9
         have c9b1 : (a0 != 0) = false := bne_eq_false_iff_eq.mpr c9
         clear c9
         by_cases c10 : a1 = 0
         · rw [if_pos c10] at H
           have c10b0 : (a1 == 0) = true := beq_iff_eq.mpr c10
           have c10b1 : (a1 != 0) = false := bne_eq_false_iff_eq.mpr c10
           clear c10
           obtain rfl := Option.some.inj H
           go_wp2
           go_ret
           exact ⟨by first | rfl | (simp; done) | (simp [*]; done), by repeat (first | exact Drawn0.refl _ | apply Drawn0.step)⟩
         · rw [if_neg c10] at H
           have c10b0 : (a1 == 0) = false := beq_eq_false_iff_ne.mpr c10
           have c10b1 : (a1 != 0) = true := bne_iff_ne.mpr c10
           obtain rfl := Option.some.inj H
           go_wp2
           go_ret
           exact ⟨by first | rfl | (simp; done) | (simp [*]; done), by repeat (first | exact Drawn0.refl _ | apply Drawn0.step)⟩
       · rw [if_neg c9] at H
         have c9b0 : (a0 == 0) = false := beq_eq_false_iff_ne.mpr c9
         have c9b1 : (a0 != 0) = true := bne_iff_ne.mpr c9
         obtain rfl := Option.some.inj H
         go_wp2
         go_ret
         exact ⟨by first | rfl | (simp; done) | (simp [*]; done), by repeat (first | exact Drawn0.refl _ | apply Drawn0.step)⟩
     · rw [if_neg c8] at H
       have c8b0 : decide (a1 ≤ a0) = false := decide_eq_false c8
       clear c8
       obtain rfl := Option.some.inj H
       go_wp2
       go_ret
       exact ⟨by first | rfl | (simp; done) | (simp [*]; done), by repeat (first | exact Drawn0.refl _ | apply Drawn0.step)⟩
end Go.Proofs.Ytlffhagjpfcecaa.PA

namespace Go.Proofs.Ytlffhagjpfcecaa.PA
open Go.RowKit Go.Shelf Go.Proofs.YtlffhagjpfcecaaW.PrintWords Go.Proofs.YtlffhagjpfcecaaW.PrintLast Go.Proofs.YtlffhagjpfcecaaW.PrintMore
set_option linter.unusedVariables false
set_option linter.unusedSimpArgs false
theorem fence_room (k : Nat) : (Fence.list [65, 71, 76, 46] none).room k := by simp [Fence.room, Fence.list]
theorem spans_calls (b e p fr : Int) (hBd : Bd b e p fr) (hp : p ≤ 1000000000) (w : World) :
 Calls Try.prog 65 #[.agg #[.int .i64 b, .int .i64 e], .int .i64 p, .int .i64 fr] w fun ee W' =>
  (∃ v, ee = .returned (.tuple #[v, .int .i64 (endP b e fr.toNat p fr)]) ∧ (partsL b e fr.toNat p fr).length ≤ 100 ∧ endP b e fr.toNat p fr ≤ 1000000000 ∧
   W'.ownsRow w.heap.size 39 3 v (partsL b e fr.toNat p fr).length (flatS (partsL b e fr.toNat p fr)) ∧ Below w.heap.size w W') ∨
  (ee = .panicked [{ v := stopV 4, recovered := false }] ∧ (100 < (partsL b e fr.toNat p fr).length ∨ 1000000000 < endP b e fr.toNat p fr) ∧ Below w.heap.size w W') := by
 refine (spans_in (Fence.list [65, 71, 76, 46] none) 5 (by simp [Fence.list]) (by simp [Fence.list]) (by simp [Fence.list]) (by simp [Fence.list]) rfl ?_ (by omega) b e p fr hBd hp w).calls fence_room
 intro fn h
 have : fn = 65 ∨ fn = 71 ∨ fn = 76 ∨ fn = 46 := by simpa [Fence.list] using h
 rcases this with rfl | rfl | rfl | rfl
 · exact ⟨_, Try.func65⟩
 · exact ⟨_, Try.func71⟩
 · exact ⟨_, Try.func76⟩
 · exact ⟨_, Try.func46⟩
theorem must_ok_calls (x : Int) (w : World) : Calls Try.prog 46 #[.bool true, .int .i64 x] w fun ee w' => ee = .returned (.tuple #[]) ∧ w' = w :=
 (must_ok (Fence.list [65, 71, 76, 46] none) 5 (by simp [Fence.list]) rfl x w).calls fence_room
theorem must_no_calls (x : Int) (w : World) : Calls Try.prog 46 #[.bool false, .int .i64 x] w fun ee w' => ee = .panicked [{ v := stopV x, recovered := false }] ∧ w' = w :=
 (must_no (Fence.list [65, 71, 76, 46] none) 5 (by simp [Fence.list]) rfl x w).calls fence_room
theorem as77 (v : Value) (w : World) : (Instr.typeAssert (.iface 77 v) 20 77 true).run Try.prog w = .ok (.tuple #[v, .bool true]) w := by kernel_rfl
theorem asnil (w : World) : (Instr.typeAssert .nilIface 20 77 true).run Try.prog w = .ok (.tuple #[.agg #[.int .i64 0], .bool false]) w := by kernel_rfl
attribute [local go_sem] as77 asnil
set_option maxRecDepth 100000 in
theorem catch_panicking (B0 B1 B2 : Nat) (h01 : B0 ≠ B1) (h02 : B0 ≠ B2) (h12 : B1 ≠ B2) (x y z : Int) (v : Value) (w : World) (c0 : Boxed w B0 22 v) (c1 : Boxed w B1 3 (.int .i64 y)) (c2 : Boxed w B2 23 (.int .i64 z)) :
 CallsD Try.prog 64 #[.pointer (some ⟨B0, 0, none⟩), .pointer (some ⟨B1, 0, none⟩), .pointer (some ⟨B2, 0, none⟩)] (.panicking [{ v := stopV x, recovered := false }]) w fun e u' w' =>
  e = .returned (.tuple #[]) ∧ u' = .panicking [{ v := stopV x, recovered := true }] ∧ Boxed w' B0 22 (.slice none 0 0) ∧ Boxed w' B1 3 (.int .i64 0) ∧ Boxed w' B2 23 (.int .i64 x) ∧ ∀ n, n ≤ B0 → n ≤ B1 → n ≤ B2 → Below n w w' := by
 refine callsD_of_wpS Try.func64 rfl fun c₀ cs hu => ?_
 apply wpS_seq
 apply wpS_region
 simp [wpOpsS, go_sem, recoverD, hu, Try.ntmps64, Exit.thenS, stopV]
 refine wpS_of_wp ?_
 simp only [Array.replicate_succ, Array.replicate_zero, List.push_toArray, List.setIfInBounds_toArray, List.set_cons_zero, List.set_cons_succ, List.append_toArray, List.cons_append, List.nil_append]
 have n0 : w.heap.size ≠ B0 := fun ee => absurd c0.lt (by omega)
 have n1 : w.heap.size ≠ B1 := fun ee => absurd c1.lt (by omega)
 have n2 : w.heap.size ≠ B2 := fun ee => absurd c2.lt (by omega)
 have k0 : ∀ (W : World) (u : Value), (W.setCell ⟨B0, 0, none⟩ u).cell? ⟨w.heap.size, 0, none⟩ = W.cell? ⟨w.heap.size, 0, none⟩ := fun W u => World.cell?_of_block (heap_setOther W B0 u _ n0)
 have k1 : ∀ (W : World) (u : Value), (W.setCell ⟨B1, 0, none⟩ u).cell? ⟨w.heap.size, 0, none⟩ = W.cell? ⟨w.heap.size, 0, none⟩ := fun W u => World.cell?_of_block (heap_setOther W B1 u _ n1)
 have k2 : ∀ (W : World) (u : Value), (W.setCell ⟨B2, 0, none⟩ u).cell? ⟨w.heap.size, 0, none⟩ = W.cell? ⟨w.heap.size, 0, none⟩ := fun W u => World.cell?_of_block (heap_setOther W B2 u _ n2)
 have j01 : ∀ (W : World) (u : Value), (W.setCell ⟨B0, 0, none⟩ u).cell? ⟨B1, 0, none⟩ = W.cell? ⟨B1, 0, none⟩ := fun W u => World.cell?_of_block (heap_setOther W B0 u _ (Ne.symm h01))
 have j02 : ∀ (W : World) (u : Value), (W.setCell ⟨B0, 0, none⟩ u).cell? ⟨B2, 0, none⟩ = W.cell? ⟨B2, 0, none⟩ := fun W u => World.cell?_of_block (heap_setOther W B0 u _ (Ne.symm h02))
 have j12 : ∀ (W : World) (u : Value), (W.setCell ⟨B1, 0, none⟩ u).cell? ⟨B2, 0, none⟩ = W.cell? ⟨B2, 0, none⟩ := fun W u => World.cell?_of_block (heap_setOther W B1 u _ (Ne.symm h12))
 have a0 := c0.alloc (Obj.cells #[.int .i64 x] 77)
 have a1 := c1.alloc (Obj.cells #[.int .i64 x] 77)
 have a2 := c2.alloc (Obj.cells #[.int .i64 x] 77)
 have b0 := a0.cell
 have b1 := a1.cell
 have b2 := a2.cell
 have z0 := a0.frozen
 have z1 := a1.frozen
 have z2 := a2.frozen
 go_wp2
 go_region
 refine ⟨rfl, FrameMode.panicking [{ v := stopV x, recovered := true }], rfl, .tuple #[], by simp [results, Try.results64], rfl, rfl, ?_, ?_, ?_, ?_⟩
 · exact bx_other (bx_other (a0.set _) h01 _) h02 _
 · exact bx_other ((bx_other a1 (Ne.symm h01) _).set _) h12 _
 · exact (bx_other (bx_other a2 (Ne.symm h02) _) (Ne.symm h12) _).set _
 · intro n q0 q1 q2
   have hlt := c0.lt
   apply below_drew1
   exact (((((Below.refl n w).alloc (by omega) _).setCell (p := ⟨B0, 0, none⟩) q0 _).setCell (p := ⟨B1, 0, none⟩) q1 _).setCell (p := ⟨B2, 0, none⟩) q2 _)
set_option maxRecDepth 100000 in
theorem catch_idle (p0 p1 p2 : Value) (w : World) :
 CallsD Try.prog 64 #[p0, p1, p2] .returning w fun e u' w' => e = .returned (.tuple #[]) ∧ u' = .returning ∧ w' = w.alloc (.cells #[.int .i64 0] 77) := by
 refine callsD_of_wpS Try.func64 rfl fun c₀ cs hu => ?_
 apply wpS_seq
 apply wpS_region
 simp [wpOpsS, go_sem, recoverD, hu, Try.ntmps64, Exit.thenS]
 refine wpS_of_wp ?_
 simp only [Array.replicate_succ, Array.replicate_zero, List.push_toArray, List.setIfInBounds_toArray, List.set_cons_zero, List.set_cons_succ, List.append_toArray, List.cons_append, List.nil_append]
 go_wp2
 refine ⟨rfl, FrameMode.returning, ?_, .tuple #[], by simp [results, Try.results64], rfl, rfl, rfl⟩
 cases c₀
 simp_all
def mkS (x : Int × Int) : S39 := ⟨x.1, x.2, true⟩
def rolledP (a0 a1 a2 a3 : Int) : List S39 × Int × Int :=
 if 0 ≤ a0 ∧ a0 ≤ 1000000000 ∧ 0 ≤ a1 ∧ a1 ≤ 1000000000 ∧ 0 ≤ a2 ∧ a2 ≤ 1000000000 ∧ 0 ≤ a3 ∧ a3 ≤ 20000 then
  (if a2 ≤ a1 ∧ (a1 ≠ 0 ∨ a2 ≠ 0) then ([], 0, 12)
  else if (partsL a1 a2 a3.toNat a0 a3).length ≤ 100 ∧ endP a1 a2 a3.toNat a0 a3 ≤ 1000000000 then ((partsL a1 a2 a3.toNat a0 a3).map mkS, endP a1 a2 a3.toNat a0 a3, 0)
  else ([], 0, 4))
 else ([], 0, 7)
theorem looped_eq (b e : Int) (hb : 0 ≤ b ∧ b ≤ 1000000000) (he : 0 ≤ e ∧ e ≤ 1000000000) : transport_looped.f 1 b e = some (if e ≤ b ∧ (b ≠ 0 ∨ e ≠ 0) then 12 else 0) := by
 unfold transport_looped.f transport_within.f
 rw [if_pos hb.1, if_pos he.1, decide_eq_true hb.2, decide_eq_true he.2]
 simp only [Option.bind_some, if_true, Bool.not_true]
 rw [transport_looped.j0.eq_2, if_neg (by simp)]
 by_cases h : e ≤ b
 · rw [if_pos h]
   by_cases h1 : b = 0
   · rw [if_pos h1]
     by_cases h2 : e = 0
     · rw [if_pos h2, if_neg (by omega)]
     · rw [if_neg h2, if_pos ⟨h, .inr h2⟩]
   · rw [if_neg h1, if_pos ⟨h, .inl h1⟩]
 · rw [if_neg h, if_neg (fun x => h x.1)]
theorem within_eq (a hi : Int) : transport_within.f a 0 hi = some (decide (0 ≤ a ∧ a ≤ hi)) := by
 unfold transport_within.f
 by_cases h : 0 ≤ a
 · rw [if_pos h]; simp [h]
 · rw [if_neg h]; simp [h]
def BothR (a0 a1 a2 a3 : Int) (w : World) : Ending → World → Prop := fun e w' =>
 ∃ v0_ : Value, e = .returned (.tuple #[v0_, .int .i64 (rolledP a0 a1 a2 a3).2.1, .int .i64 (rolledP a0 a1 a2 a3).2.2]) ∧ Kd.R k39 39 w' w.heap.size (fun _ => True) v0_ (rolledP a0 a1 a2 a3).1 ∧ Below w.heap.size w w'
def bothD (m : Nat) : List Deferred := [{ target := .fn (.func 64) #[.pointer (some ⟨m, 0, none⟩), .pointer (some ⟨m + 1, 0, none⟩), .pointer (some ⟨m + 1 + 1, 0, none⟩)], args := #[] }]
theorem bx_drewN {W : World} {B : Nat} {t : TypeId} {v : Value} (n : Nat) (h : Boxed W B t v) : Boxed (W.drewN n) B t v := h
theorem bx_drew {W : World} {B : Nat} {t : TypeId} {v : Value} (h : Boxed W B t v) : Boxed W.drew B t v := h
theorem row_slice {W : World} {base : Nat} {v : Value} {n : Nat} {xs : List Value} (h : W.ownsRow base 39 3 v n xs) : ∃ A k c, v = .slice A k c := by
 rcases h.2 with ⟨rfl, _⟩ | ⟨g, cap, cur, rfl, _⟩
 · exact ⟨_, _, _, rfl⟩
 · exact ⟨_, _, _, rfl⟩
theorem reps_flat (W : World) (base : Nat) (ok : Nat → Prop) : ∀ (l : List (Int × Int)), Reps (k39.M W base ok) 3 (l.map mkS) (flatS l) := by
 intro l
 have key : ∀ (r a : List (Int × Int)), Reps (k39.M W base ok) 3 (a.map mkS) (flatS a) → Reps (k39.M W base ok) 3 ((a ++ r).map mkS) (flatS (a ++ r)) := by
  intro r
  induction r with
  | nil => intro a h; simpa using h
  | cons x r ih =>
   intro a h
   have h1 : Reps (k39.M W base ok) 3 ((a ++ [x]).map mkS) (flatS (a ++ [x])) := by
    have := h.snoc (k39_mkM W base ok (mkS x)) rfl
    simpa [flatS, mkS] using this
   have := ih (a ++ [x]) h1
   simpa using this
 simpa using key l [] (Reps.none _ _)
theorem kd_of_row {W : World} {base : Nat} {v : Value} {l : List (Int × Int)} (h : W.ownsRow base 39 3 v l.length (flatS l)) : Kd.R k39 39 W base (fun _ => True) v (l.map mkS) := by
 refine ⟨fun _ _ => trivial, ?_⟩
 exact ⟨flatS l, by rw [List.length_map]; exact h, reps_flat _ _ _ l⟩
theorem both_results (tmps : Array Value) (m : Nat) (h8 : tmps[8]? = some (.pointer (some ⟨m, 0, none⟩))) (h9 : tmps[9]? = some (.pointer (some ⟨m + 1, 0, none⟩))) (h10 : tmps[10]? = some (.pointer (some ⟨m + 1 + 1, 0, none⟩))) (W : World) (v : Value) (y z : Int)
 (b0 : W.cell? ⟨m, 0, none⟩ = some v) (b1 : W.cell? ⟨m + 1, 0, none⟩ = some (.int .i64 y)) (b2 : W.cell? ⟨m + 1 + 1, 0, none⟩ = some (.int .i64 z)) : (results Try.f36 tmps).run Try.prog W = .ok (.tuple #[v, .int .i64 y, .int .i64 z]) W := by
 simp [results, Try.results36, go_sem, h8, h9, h10, b0, b1, b2]
theorem err_leave (a0 a1 a2 a3 x y z : Int) (v : Value) (w W : World) (tmps : Array Value) (h8 : tmps[8]? = some (.pointer (some ⟨w.heap.size, 0, none⟩))) (h9 : tmps[9]? = some (.pointer (some ⟨w.heap.size + 1, 0, none⟩))) (h10 : tmps[10]? = some (.pointer (some ⟨w.heap.size + 1 + 1, 0, none⟩)))
 (b0 : Boxed W w.heap.size 22 v) (b1 : Boxed W (w.heap.size + 1) 3 (.int .i64 y)) (b2 : Boxed W (w.heap.size + 1 + 1) 23 (.int .i64 z)) (hB : Below w.heap.size w W) (hr : rolledP a0 a1 a2 a3 = ([], 0, x)) :
 Leaves Try.prog Try.f36 tmps (BothR a0 a1 a2 a3 w) (bothD w.heap.size) (.panicking [{ v := stopV x, recovered := false }]) W := by
 refine leaves_cons (f := 64) (args := #[.pointer (some ⟨w.heap.size, 0, none⟩), .pointer (some ⟨w.heap.size + 1, 0, none⟩), .pointer (some ⟨w.heap.size + 1 + 1, 0, none⟩)]) (by simp) (by simp [go_sem]) ?_
 refine (catch_panicking w.heap.size (w.heap.size + 1) (w.heap.size + 1 + 1) (by omega) (by omega) (by omega) x y z v W b0 b1 b2).mono ?_
 rintro e u' w'' ⟨rfl, rfl, c0, c1, c2, hb⟩
 refine ⟨.tuple #[.slice none 0 0, .int .i64 0, .int .i64 x], both_results tmps w.heap.size h8 h9 h10 w'' _ 0 x c0.cell c1.cell c2.cell, ?_⟩
 exact ⟨.slice none 0 0, by rw [hr], by rw [hr]; exact Kd.R_nil _ _ _ _ _, hB.trans (hb _ (Nat.le_refl _) (by omega) (by omega))⟩
theorem ok_leave (a0 a1 a2 a3 y z : Int) (v : Value) (w W : World) (tmps : Array Value) (h8 : tmps[8]? = some (.pointer (some ⟨w.heap.size, 0, none⟩))) (h9 : tmps[9]? = some (.pointer (some ⟨w.heap.size + 1, 0, none⟩))) (h10 : tmps[10]? = some (.pointer (some ⟨w.heap.size + 1 + 1, 0, none⟩)))
 (b0 : Boxed W w.heap.size 22 v) (b1 : Boxed W (w.heap.size + 1) 3 (.int .i64 y)) (b2 : Boxed W (w.heap.size + 1 + 1) 23 (.int .i64 z)) (hB : Below w.heap.size w W) (hr : (rolledP a0 a1 a2 a3).2 = (y, z)) (hk : Kd.R k39 39 W w.heap.size (fun _ => True) v (rolledP a0 a1 a2 a3).1) :
 Leaves Try.prog Try.f36 tmps (BothR a0 a1 a2 a3 w) (bothD w.heap.size) .returning W := by
 refine leaves_cons (f := 64) (args := #[.pointer (some ⟨w.heap.size, 0, none⟩), .pointer (some ⟨w.heap.size + 1, 0, none⟩), .pointer (some ⟨w.heap.size + 1 + 1, 0, none⟩)]) (by simp) (by simp [go_sem]) ?_
 refine (catch_idle _ _ _ W).mono ?_
 rintro e u' w'' ⟨rfl, rfl, rfl⟩
 refine ⟨.tuple #[v, .int .i64 y, .int .i64 z], both_results tmps w.heap.size h8 h9 h10 _ _ y z (b0.alloc _).cell (b1.alloc _).cell (b2.alloc _).cell, ?_⟩
 exact ⟨v, by rw [hr], Kd.R_alloc hk _, hB.alloc hB.size _⟩
set_option maxRecDepth 100000 in
set_option maxHeartbeats 8000000 in
theorem both_calls (a0 a1 a2 a3 : Int) (w : World) : Calls Try.prog 36 #[.int .i64 a0, .int .i64 a1, .int .i64 a2, .int .i64 a3] w fun e w' =>
 ∃ v0_ : Value, e = .returned (.tuple #[v0_, .int .i64 (rolledP a0 a1 a2 a3).2.1, .int .i64 (rolledP a0 a1 a2 a3).2.2]) ∧ Kd.R k39 39 w' w.heap.size (fun _ => True) v0_ (rolledP a0 a1 a2 a3).1 ∧ Below w.heap.size w w' := by
 have hmf : ∀ (fn : Fn) (first cap : Array Value) (w : World), (Instr.makeFunc fn first cap).run Try.prog w = .ok (.func fn first cap) w := fun _ _ _ _ => rfl
 go_enter_defers Try.func36, Try.ntmps36
 have hA0 := within_eq a0 1000000000
 have hA1 := within_eq a1 1000000000
 have hA2 := within_eq a2 1000000000
 have hA3 := within_eq a3 20000
 go_upto_region 2 with (fail)
 obtain ⟨W0, hW0⟩ : ∃ W0, ((w.alloc (Obj.cells #[.slice none 0 0] 22)).alloc (Obj.cells #[.int .i64 0] 3)).alloc (Obj.cells #[.int .i64 0] 23) = W0 := ⟨_, rfl⟩
 have sz : W0.heap.size = w.heap.size + 3 := by rw [← hW0]; simp
 have HB : Below w.heap.size w W0 := by
  rw [← hW0]
  exact (((Below.refl _ w).alloc (by simp) _).alloc (by simp) _).alloc (by simp; omega) _
 have b0 : Boxed W0 w.heap.size 22 (.slice none 0 0) := by
  unfold Boxed; rw [← hW0]; simp only [hal, World.size_alloc]; repeat (first | rw [if_pos (by omega)] | rw [if_pos trivial] | rw [if_neg (by omega)])
 have b1 : Boxed W0 (w.heap.size + 1) 3 (.int .i64 0) := by
  unfold Boxed; rw [← hW0]; simp only [hal, World.size_alloc]; repeat (first | rw [if_pos (by omega)] | rw [if_pos trivial] | rw [if_neg (by omega)])
 have b2 : Boxed W0 (w.heap.size + 1 + 1) 23 (.int .i64 0) := by
  unfold Boxed; rw [← hW0]; simp only [hal, World.size_alloc]; repeat (first | rw [if_pos (by omega)] | rw [if_pos trivial] | rw [if_neg (by omega)])
 rw [hW0]
 clear hW0
 have d0 := b0.cell
 have d1 := b1.cell
 have d2 := b2.cell
 have z0 := b0.frozen
 have z1 := b1.frozen
 have z2 := b2.frozen
 by_cases c0 : 0 ≤ a0 ∧ a0 ≤ 1000000000
 · rw [decide_eq_true c0] at hA0
   by_cases c1 : 0 ≤ a1 ∧ a1 ≤ 1000000000
   · rw [decide_eq_true c1] at hA1
     by_cases c2 : 0 ≤ a2 ∧ a2 ≤ 1000000000
     · rw [decide_eq_true c2] at hA2
       by_cases c3 : 0 ≤ a3 ∧ a3 ≤ 20000
       · rw [decide_eq_true c3] at hA3
         have hlp := looped_eq a1 a2 c1 c2
         by_cases cl : a2 ≤ a1 ∧ (a1 ≠ 0 ∨ a2 ≠ 0)
         · rw [if_pos cl] at hlp
           have hrl : rolledP a0 a1 a2 a3 = ([], 0, 12) := by unfold rolledP; rw [if_pos ⟨c0.1, c0.2, c1.1, c1.2, c2.1, c2.2, c3.1, c3.2⟩, if_pos cl]
           go_wp2_with (first | (go_at_call 38; (with_reducible refine (transport_within.calls a0 0 1000000000 true _ hA0).mono ?_); rintro e w' ⟨rfl, ⟨nd, rfl⟩⟩) | (go_at_call 38; (with_reducible refine (transport_within.calls a1 0 1000000000 true _ hA1).mono ?_); rintro e w' ⟨rfl, ⟨nd, rfl⟩⟩) | (go_at_call 38; (with_reducible refine (transport_within.calls a2 0 1000000000 true _ hA2).mono ?_); rintro e w' ⟨rfl, ⟨nd, rfl⟩⟩) | (go_at_call 38; (with_reducible refine (transport_within.calls a3 0 20000 true _ hA3).mono ?_); rintro e w' ⟨rfl, ⟨nd, rfl⟩⟩) | (go_at_call 46; (with_reducible refine (must_ok_calls 7 _).mono ?_); rintro e w' ⟨rfl, rfl⟩) | (go_at_call 42; (with_reducible refine (transport_looped.calls 1 a1 a2 12 _ hlp).mono ?_); rintro e w' ⟨rfl, ⟨nd, rfl⟩⟩))
           refine ok_leave a0 a1 a2 a3 0 12 (.slice none 0 0) w _ _ rfl rfl rfl ?_ ?_ ?_ ?_ (by rw [hrl]) (by rw [hrl]; exact Kd.R_nil _ _ _ _ _)
           · exact bx_other (bx_other ((bx_drewN _ b0).set _) (by omega) _) (by omega) _
           · exact bx_other ((bx_other (bx_drewN _ b1) (by omega) _).set _) (by omega) _
           · exact (bx_other (bx_other (bx_drewN _ b2) (by omega) _) (by omega) _).set _
           · exact (((pw_below_drewN HB _).setCell (p := ⟨w.heap.size, 0, none⟩) (by simp) _).setCell (p := ⟨w.heap.size + 1, 0, none⟩) (by simp) _).setCell (p := ⟨w.heap.size + 1 + 1, 0, none⟩) (by simp; omega) _
         · rw [if_neg cl] at hlp
           have hBd : Bd a1 a2 a0 a3 := ⟨by omega, by omega, by omega, by omega, by omega, by omega, by omega, by omega⟩
           have s01 : ∀ (W : World) (u : Value), (W.setCell ⟨w.heap.size, 0, none⟩ u).cell? ⟨w.heap.size + 1, 0, none⟩ = W.cell? ⟨w.heap.size + 1, 0, none⟩ := fun W u => World.cell?_of_block (heap_setOther W _ u _ (by dsimp only; omega))
           have s10 : ∀ (W : World) (u : Value), (W.setCell ⟨w.heap.size + 1, 0, none⟩ u).cell? ⟨w.heap.size, 0, none⟩ = W.cell? ⟨w.heap.size, 0, none⟩ := fun W u => World.cell?_of_block (heap_setOther W _ u _ (by dsimp only; omega))
           have s02 : ∀ (W : World) (u : Value), (W.setCell ⟨w.heap.size, 0, none⟩ u).cell? ⟨w.heap.size + 1 + 1, 0, none⟩ = W.cell? ⟨w.heap.size + 1 + 1, 0, none⟩ := fun W u => World.cell?_of_block (heap_setOther W _ u _ (by dsimp only; omega))
           have s12 : ∀ (W : World) (u : Value), (W.setCell ⟨w.heap.size + 1, 0, none⟩ u).cell? ⟨w.heap.size + 1 + 1, 0, none⟩ = W.cell? ⟨w.heap.size + 1 + 1, 0, none⟩ := fun W u => World.cell?_of_block (heap_setOther W _ u _ (by dsimp only; omega))
           have s20 : ∀ (W : World) (u : Value), (W.setCell ⟨w.heap.size + 1 + 1, 0, none⟩ u).cell? ⟨w.heap.size, 0, none⟩ = W.cell? ⟨w.heap.size, 0, none⟩ := fun W u => World.cell?_of_block (heap_setOther W _ u _ (by dsimp only; omega))
           have s21 : ∀ (W : World) (u : Value), (W.setCell ⟨w.heap.size + 1 + 1, 0, none⟩ u).cell? ⟨w.heap.size + 1, 0, none⟩ = W.cell? ⟨w.heap.size + 1, 0, none⟩ := fun W u => World.cell?_of_block (heap_setOther W _ u _ (by dsimp only; omega))
           by_cases hL : (partsL a1 a2 a3.toNat a0 a3).length ≤ 100 ∧ endP a1 a2 a3.toNat a0 a3 ≤ 1000000000
           · have hrl : rolledP a0 a1 a2 a3 = ((partsL a1 a2 a3.toNat a0 a3).map mkS, endP a1 a2 a3.toNat a0 a3, 0) := by unfold rolledP; rw [if_pos ⟨c0.1, c0.2, c1.1, c1.2, c2.1, c2.2, c3.1, c3.2⟩, if_neg cl, if_pos hL]
             have hS : ∀ W, Calls Try.prog 65 #[.agg #[.int .i64 a1, .int .i64 a2], .int .i64 a0, .int .i64 a3] W fun ee W' => ∃ A n c, ee = .returned (.tuple #[.slice A n c, .int .i64 (endP a1 a2 a3.toNat a0 a3)]) ∧ W'.ownsRow W.heap.size 39 3 (.slice A n c) (partsL a1 a2 a3.toNat a0 a3).length (flatS (partsL a1 a2 a3.toNat a0 a3)) ∧ Below W.heap.size W W' := fun W =>
              (spans_calls a1 a2 a0 a3 hBd c0.2 W).mono (by rintro ee W' (⟨v, h1, h2, h3, h4, h5⟩ | ⟨h1, h2, h3⟩); obtain ⟨A, n, c, rfl⟩ := row_slice h4; exact ⟨A, n, c, h1, h4, h5⟩; omega)
             go_wp2_with (first | (go_at_call 38; (with_reducible refine (transport_within.calls a0 0 1000000000 true _ hA0).mono ?_); rintro e w' ⟨rfl, ⟨nd, rfl⟩⟩) | (go_at_call 38; (with_reducible refine (transport_within.calls a1 0 1000000000 true _ hA1).mono ?_); rintro e w' ⟨rfl, ⟨nd, rfl⟩⟩) | (go_at_call 38; (with_reducible refine (transport_within.calls a2 0 1000000000 true _ hA2).mono ?_); rintro e w' ⟨rfl, ⟨nd, rfl⟩⟩) | (go_at_call 38; (with_reducible refine (transport_within.calls a3 0 20000 true _ hA3).mono ?_); rintro e w' ⟨rfl, ⟨nd, rfl⟩⟩) | (go_at_call 46; (with_reducible refine (must_ok_calls 7 _).mono ?_); rintro e w' ⟨rfl, rfl⟩) | (go_at_call 42; (with_reducible refine (transport_looped.calls 1 a1 a2 0 _ hlp).mono ?_); rintro e w' ⟨rfl, ⟨nd, rfl⟩⟩) | (go_at_call 65; (with_reducible refine (hS _).mono ?_); rintro e w' ⟨A, n, c, rfl, hrow, hbel⟩; have e0 : Boxed w' w.heap.size 22 (.slice none 0 0) := (hbel.block _ (by have := sz; simp; omega)).trans b0; have e1 : Boxed w' (w.heap.size + 1) 3 (.int .i64 0) := (hbel.block _ (by have := sz; simp; omega)).trans b1; have e2 : Boxed w' (w.heap.size + 1 + 1) 23 (.int .i64 0) := (hbel.block _ (by have := sz; simp; omega)).trans b2; have f0 := e0.cell; have f1 := e1.cell; have f2 := e2.cell; have y0 := e0.frozen; have y1 := e1.frozen; have y2 := e2.frozen))
             go_region
             all_goals go_wp2
             have hw0 : w.heap.size ≤ (W0.drewN 0).heap.size := by have := sz; simp; omega
             have hrow0 := row_weaken (base' := w.heap.size) (by have := sz; simp; omega) hrow
             have hne : ∀ q, q < W0.heap.size → some q ≠ (Value.slice A n c).ownBlock := fun q hq ee => by have := row_ge hrow _ ee.symm; simp at this; omega
             refine ok_leave a0 a1 a2 a3 (endP a1 a2 a3.toNat a0 a3) 0 (.slice A n c) w _ _ rfl rfl rfl ?_ ?_ ?_ ?_ (by rw [hrl]) ?_
             · apply bx_drew; exact bx_other (bx_other ((bx_other (e0.set _) (by omega) _).set _) (by omega) _) (by omega) _
             · apply bx_drew; exact bx_other ((bx_other ((bx_other e1 (by omega) _).set _) (by omega) _).set _) (by omega) _
             · apply bx_drew; exact (bx_other (bx_other (bx_other (bx_other e2 (by omega) _) (by omega) _) (by omega) _) (by omega) _).set _
             · apply below_drew1
               exact ((((((pw_below_drewN HB _).trans (hbel.mono (by have := sz; simp; omega))).setCell (p := ⟨w.heap.size, 0, none⟩) (by simp) _).setCell (p := ⟨w.heap.size + 1, 0, none⟩) (by simp) _).setCell (p := ⟨w.heap.size, 0, none⟩) (by simp) _).setCell (p := ⟨w.heap.size + 1, 0, none⟩) (by simp) _).setCell (p := ⟨w.heap.size + 1 + 1, 0, none⟩) (by simp; omega) _
             · rw [hrl]
               apply Kd.R_drew
               exact kd_of_row (((((hrow0.kept (grownBy_setCell' _ _ _) (.inr (hne _ (by omega)).symm)).kept (grownBy_setCell' _ _ _) (.inr (hne _ (by omega)).symm)).kept (grownBy_setCell' _ _ _) (.inr (hne _ (by omega)).symm)).kept (grownBy_setCell' _ _ _) (.inr (hne _ (by omega)).symm)).kept (grownBy_setCell' _ _ _) (.inr (hne _ (by omega)).symm))
           · have hrl : rolledP a0 a1 a2 a3 = ([], 0, 4) := by unfold rolledP; rw [if_pos ⟨c0.1, c0.2, c1.1, c1.2, c2.1, c2.2, c3.1, c3.2⟩, if_neg cl, if_neg hL]
             have hS : ∀ W, Calls Try.prog 65 #[.agg #[.int .i64 a1, .int .i64 a2], .int .i64 a0, .int .i64 a3] W fun ee W' => ee = .panicked [{ v := stopV 4, recovered := false }] ∧ Below W.heap.size W W' := fun W =>
              (spans_calls a1 a2 a0 a3 hBd c0.2 W).mono (by rintro ee W' (⟨v, h1, h2, h3, h4, h5⟩ | ⟨h1, h2, h3⟩); exact absurd ⟨h2, h3⟩ hL; exact ⟨h1, h3⟩)
             go_wp2_with (first | (go_at_call 38; (with_reducible refine (transport_within.calls a0 0 1000000000 true _ hA0).mono ?_); rintro e w' ⟨rfl, ⟨nd, rfl⟩⟩) | (go_at_call 38; (with_reducible refine (transport_within.calls a1 0 1000000000 true _ hA1).mono ?_); rintro e w' ⟨rfl, ⟨nd, rfl⟩⟩) | (go_at_call 38; (with_reducible refine (transport_within.calls a2 0 1000000000 true _ hA2).mono ?_); rintro e w' ⟨rfl, ⟨nd, rfl⟩⟩) | (go_at_call 38; (with_reducible refine (transport_within.calls a3 0 20000 true _ hA3).mono ?_); rintro e w' ⟨rfl, ⟨nd, rfl⟩⟩) | (go_at_call 46; (with_reducible refine (must_ok_calls 7 _).mono ?_); rintro e w' ⟨rfl, rfl⟩) | (go_at_call 42; (with_reducible refine (transport_looped.calls 1 a1 a2 0 _ hlp).mono ?_); rintro e w' ⟨rfl, ⟨nd, rfl⟩⟩) | (go_at_call 65; (with_reducible refine (hS _).mono ?_); rintro e w' ⟨rfl, hbel⟩))
             refine err_leave a0 a1 a2 a3 4 0 0 (.slice none 0 0) w _ _ rfl rfl rfl ?_ ?_ ?_ ?_ hrl
             · exact (hbel.block _ (by have := sz; simp; omega)).trans b0
             · exact (hbel.block _ (by have := sz; simp; omega)).trans b1
             · exact (hbel.block _ (by have := sz; simp; omega)).trans b2
             · exact (pw_below_drewN HB _).trans (hbel.mono (by have := sz; simp; omega))
       · rw [decide_eq_false c3] at hA3
         go_wp2_with (first | (go_at_call 38; (with_reducible refine (transport_within.calls a0 0 1000000000 true _ hA0).mono ?_); rintro e w' ⟨rfl, ⟨nd, rfl⟩⟩) | (go_at_call 38; (with_reducible refine (transport_within.calls a1 0 1000000000 true _ hA1).mono ?_); rintro e w' ⟨rfl, ⟨nd, rfl⟩⟩) | (go_at_call 38; (with_reducible refine (transport_within.calls a2 0 1000000000 true _ hA2).mono ?_); rintro e w' ⟨rfl, ⟨nd, rfl⟩⟩) | (go_at_call 38; (with_reducible refine (transport_within.calls a3 0 20000 false _ hA3).mono ?_); rintro e w' ⟨rfl, ⟨nd, rfl⟩⟩) | (go_at_call 46; (with_reducible refine (must_no_calls 7 _).mono ?_); rintro e w' ⟨rfl, rfl⟩))
         refine err_leave a0 a1 a2 a3 7 0 0 (.slice none 0 0) w _ _ rfl rfl rfl ?_ ?_ ?_ ?_ (by unfold rolledP; rw [if_neg (by omega)])
         · repeat (first | exact b0 | apply bx_drewN)
         · repeat (first | exact b1 | apply bx_drewN)
         · repeat (first | exact b2 | apply bx_drewN)
         · repeat (first | exact HB | apply pw_below_drewN)
     · rw [decide_eq_false c2] at hA2
       go_wp2_with (first | (go_at_call 38; (with_reducible refine (transport_within.calls a0 0 1000000000 true _ hA0).mono ?_); rintro e w' ⟨rfl, ⟨nd, rfl⟩⟩) | (go_at_call 38; (with_reducible refine (transport_within.calls a1 0 1000000000 true _ hA1).mono ?_); rintro e w' ⟨rfl, ⟨nd, rfl⟩⟩) | (go_at_call 38; (with_reducible refine (transport_within.calls a2 0 1000000000 false _ hA2).mono ?_); rintro e w' ⟨rfl, ⟨nd, rfl⟩⟩) | (go_at_call 46; (with_reducible refine (must_no_calls 7 _).mono ?_); rintro e w' ⟨rfl, rfl⟩))
       refine err_leave a0 a1 a2 a3 7 0 0 (.slice none 0 0) w _ _ rfl rfl rfl ?_ ?_ ?_ ?_ (by unfold rolledP; rw [if_neg (by omega)])
       · repeat (first | exact b0 | apply bx_drewN)
       · repeat (first | exact b1 | apply bx_drewN)
       · repeat (first | exact b2 | apply bx_drewN)
       · repeat (first | exact HB | apply pw_below_drewN)
   · rw [decide_eq_false c1] at hA1
     go_wp2_with (first | (go_at_call 38; (with_reducible refine (transport_within.calls a0 0 1000000000 true _ hA0).mono ?_); rintro e w' ⟨rfl, ⟨nd, rfl⟩⟩) | (go_at_call 38; (with_reducible refine (transport_within.calls a1 0 1000000000 false _ hA1).mono ?_); rintro e w' ⟨rfl, ⟨nd, rfl⟩⟩) | (go_at_call 46; (with_reducible refine (must_no_calls 7 _).mono ?_); rintro e w' ⟨rfl, rfl⟩))
     refine err_leave a0 a1 a2 a3 7 0 0 (.slice none 0 0) w _ _ rfl rfl rfl ?_ ?_ ?_ ?_ (by unfold rolledP; rw [if_neg (by omega)])
     · repeat (first | exact b0 | apply bx_drewN)
     · repeat (first | exact b1 | apply bx_drewN)
     · repeat (first | exact b2 | apply bx_drewN)
     · repeat (first | exact HB | apply pw_below_drewN)
 · rw [decide_eq_false c0] at hA0
   go_wp2_with (first | (go_at_call 38; (with_reducible refine (transport_within.calls a0 0 1000000000 false _ hA0).mono ?_); rintro e w' ⟨rfl, ⟨nd, rfl⟩⟩) | (go_at_call 46; (with_reducible refine (must_no_calls 7 _).mono ?_); rintro e w' ⟨rfl, rfl⟩))
   refine err_leave a0 a1 a2 a3 7 0 0 (.slice none 0 0) w _ _ rfl rfl rfl ?_ ?_ ?_ ?_ (by unfold rolledP; rw [if_neg (by omega)])
   · repeat (first | exact b0 | apply bx_drewN)
   · repeat (first | exact b1 | apply bx_drewN)
   · repeat (first | exact b2 | apply bx_drewN)
   · repeat (first | exact HB | apply pw_below_drewN)
def transport_both.f (a0 a1 a2 a3 : Int) : Option (List S39 × Int × Int) := some (rolledP a0 a1 a2 a3)
theorem transport_both.calls (a0 : Int) (a1 : Int) (a2 : Int) (a3 : Int) (r1 : List (S39)) (r2 : Int) (r3 : Int) (w : World) (h : transport_both.f a0 a1 a2 a3 = some (r1, r2, r3)) :
 Calls Try.prog 36 #[.int .i64 a0, .int .i64 a1, .int .i64 a2, .int .i64 a3] w fun e w' => ∃ v0_ : Value, e = .returned (.tuple #[v0_, .int .i64 r2, .int .i64 r3]) ∧ Kd.R k39 39 w' w.heap.size (fun _ => True) v0_ r1 ∧ Below w.heap.size w w' := by
 have := both_calls a0 a1 a2 a3 w
 rw [Option.some.inj h] at this
 exact this
end Go.Proofs.Ytlffhagjpfcecaa.PA

namespace Go.Proofs.Ytlffhagjpfcecaa.PA
open Go.RowKit Go.Maps Go.Proofs.YtlffhagjpfcecaaW.PrintWords Go.Proofs.YtlffhagjpfcecaaW.PrintLast Go.Proofs.YtlffhagjpfcecaaW.PrintMore
set_option linter.unusedVariables false
set_option linter.unusedSimpArgs false
abbrev SL := List (Int × Bool)
def ent (p : Int × Bool) : Lit × DataW Unit := (.int .i64 p.1, .lit (.bool p.2))
def mapD (sl : SL) : DataW Unit := .map (sl.map ent)
def insF (k : Int) (x : Bool) : SL → SL
 | [] => [(k, x)]
 | p :: r => if k < p.1 then (k, x) :: p :: r else p :: insF k x r
def delS (k : Int) (sl : SL) : SL := sl.filter fun p => !(p.1 == k)
def putS (k : Int) (x : Bool) (sl : SL) : SL := insF k x (delS k sl)
def hasS (k : Int) (sl : SL) : Bool := sl.any fun p => p.1 == k
def getS (k : Int) (sl : SL) : Bool := match sl.find? fun p => p.1 == k with
 | some p => p.2
 | none => false
theorem same_ent (p : Int × Bool) (k : Int) : (ent p).1.sameKey (.int .i64 k) = (p.1 == k) := by
 simp only [ent, Lit.sameKey]
 by_cases h : p.1 = k
 · simp [h]
 · simp [h]
theorem ins_ent (k : Int) (x : Bool) : ∀ sl : SL, DataW.insert (ent (k, x)) (sl.map ent) = (insF k x sl).map ent
 | [] => rfl
 | p :: r => by
  have ih := ins_ent k x r
  rw [List.map_cons]
  unfold DataW.insert insF
  have hb : (ent (k, x)).1.before (ent p).1 = decide (k < p.1) := rfl
  rw [hb]
  by_cases h : k < p.1
  · rw [if_pos (decide_eq_true h), if_pos h]; rfl
  · rw [if_neg (by simpa using h), if_neg h, List.map_cons, ih]
theorem del_ent (k : Int) (sl : SL) : (mapD sl).del (.int .i64 k) = mapD (delS k sl) := by
 unfold mapD
 rw [DataW.del_eq]
 unfold ChangeMaps.delKey delS
 rw [List.filter_map]
 congr 2
 apply List.filter_congr
 intro p _
 simp only [Function.comp, ChangeMaps.notKey, same_ent]
theorem put_ent (k : Int) (x : Bool) (sl : SL) : (mapD sl).put (.int .i64 k) (.lit (.bool x)) = mapD (putS k x sl) := by
 have h := del_ent k sl
 unfold mapD at *
 rw [DataW.del_eq] at h
 rw [DataW.put_eq]
 unfold ChangeMaps.putKey ChangeMaps.delKey at *
 injection h with h
 rw [h]
 unfold putS
 rw [← ins_ent]
 rfl
theorem has_ent (k : Int) (sl : SL) : has (mapD sl) (.int .i64 k) = hasS k sl := by
 unfold mapD hasS
 rw [has_eq, List.any_map]
 congr 1
 funext p
 exact same_ent p k
theorem at_ent (k : Int) (sl : SL) : (mapD sl).atKey (.int .i64 k) (.lit (.bool false)) = .lit (.bool (getS k sl)) := by
 unfold mapD DataW.atKey getS
 simp only
 rw [List.find?_map]
 have : ((fun p : Lit × DataW Unit => p.1.sameKey (.int .i64 k)) ∘ ent) = fun p : Int × Bool => p.1 == k := by
  funext p
  exact same_ent p k
 rw [this]
 cases sl.find? fun p => p.1 == k <;> rfl
theorem size_ent (sl : SL) : size (mapD sl) = sl.length := by unfold mapD; rw [size_eq, List.length_map]
def MapAt (W : World) (m : Nat) (sl : SL) : Prop := W.ownsMap Try.prog 3 (plainElem Try.prog 4) m sl.length (mapD sl)
theorem K3 : Keyed Try.prog 3 := int_keyed (q := .i64) Try.underlying3
theorem zero4 (w : World) : (zeroValue 4).run Try.prog w = .ok (.bool false) w := by kernel_rfl
theorem tight {W : World} {m n : Nat} {sl : SL} (h : W.ownsMap Try.prog 3 (plainElem Try.prog 4) m n (mapD sl)) : MapAt W m sl := by
 obtain ⟨es, clock, hb, F, hs, hD⟩ := h
 refine ⟨es, clock, hb, F, ?_, hD⟩
 have := congrArg size hD
 rw [size_ent] at this
 simp [size, length_sorted] at this
 omega
theorem wf64 {k : Int} (h0 : -9223372036854775808 ≤ k) (h1 : k ≤ 9223372036854775807) : (Lit.int .i64 k).wf = true := by
 have e0 : IntKind.i64.min = -9223372036854775808 := by decide
 have e1 : IntKind.i64.max = 9223372036854775807 := by decide
 simp only [Lit.wf, Bool.and_eq_true, decide_eq_true_eq, e0, e1]
 exact ⟨h0, h1⟩
section
variable {W : World} {m : Nat} {sl : SL}
theorem MapAt.lt (h : MapAt W m sl) : m < W.heap.size := World.ownsMap.lt h
theorem MapAt.same {W' : World} (h : MapAt W m sl) (e : W'.heap[m]? = W.heap[m]?) : MapAt W' m sl := by
 obtain ⟨es, clock, hb, r⟩ := h
 exact ⟨es, clock, e.trans hb, r⟩
theorem key3 {k : Int} (h0 : -9223372036854775808 ≤ k) (h1 : k ≤ 9223372036854775807) : keyOf Try.prog 3 (.int .i64 k) = some (.int .i64 k) :=
 keyOf_int_mk Try.underlying3 (wf64 h0 h1)
theorem bool4_inv {v : Value} {z : DataW Unit × List MemPlace} (h : plainElem Try.prog 4 v = some z) : ∃ b, v = .bool b ∧ z = (.lit (.bool b), []) := by
 have hu : Try.prog.underlying 4 = some .bool := Try.underlying4
 unfold plainElem at h
 rw [hu] at h
 split at h
 · rename_i x _ _
   cases h
   exact ⟨_, rfl, rfl⟩
 · rename_i e
   cases e
 · rename_i e
   cases e
 · cases h
theorem MapAt.look (h : MapAt W m sl) {k : Int} (h0 : -9223372036854775808 ≤ k) (h1 : k ≤ 9223372036854775807) : (Instr.lookup 68 (.map (some m)) (.int .i64 k) false).run Try.prog W = .ok (.bool (getS k sl)) W := by
 obtain ⟨v, ps, hrun, hv⟩ := World.ownsMap.lookup (t := 68) (e := 4) h K3 Try.underlying68 (zero4 W) (zd := .lit (.bool false)) (zp := []) (plainElem_bool Try.underlying4 false) (key3 h0 h1)
 rw [at_ent] at hv
 obtain ⟨b, rfl, e⟩ := bool4_inv hv
 have : b = getS k sl := by
  have := congrArg Prod.fst e
  simp at this
  exact this.symm
 rw [hrun, this]
theorem MapAt.len_run (h : MapAt W m sl) (ty : TypeId) : (Builtin.len_ #[68] ty #[.map (some m)]).run Try.prog W = .ok (.int .i64 sl.length) W := by
 have := World.ownsMap.len (t := 68) (e := 4) h Try.underlying68 ty
 rw [size_ent] at this
 exact this
theorem MapAt.drop (h : MapAt W m sl) {k : Int} (h0 : -9223372036854775808 ≤ k) (h1 : k ≤ 9223372036854775807) (ty : TypeId) :
 ∃ W', (Builtin.delete_ #[68, 3] ty #[.map (some m), .int .i64 k]).run Try.prog W = .ok (.tuple #[]) W' ∧ MapAt W' m (delS k sl) ∧ W.grownBy W' (some m) ∧ W'.heap.size = W.heap.size := by
 obtain ⟨W', hrun, ho, ht⟩ := World.ownsMap.drop (t := 68) (e := 4) h K3 Try.underlying68 (key3 h0 h1) ty
 rw [del_ent] at ho
 refine ⟨W', hrun, tight ho, ht.grown, ?_⟩
 obtain ⟨es, clock, es', clock', _, rfl⟩ := ht
 simp [ChangeMaps.setBlock]
end
end Go.Proofs.Ytlffhagjpfcecaa.PA

namespace Go.Proofs.Ytlffhagjpfcecaa.PA
open Go.Shelf Go.Proofs
def keysL_ren : Go.Shelf.Ren := ⟨fun | 7 => 73 | 10 => 79 | n => n, fun | 23 => 68 | 26 => 3 | 3 => 4 | 28 => 103 | 0 => 0 | 27 => 102 | 33 => 87 | 4 => 4 | n => n, fun | n => n⟩
theorem keysL : Go.Proofs.SlLaysZI.n7 Try.prog keysL_ren := {
 mixed := by kernel_rfl
 f7 := ⟨Try.f73.name, by decide, Try.func73.trans (congrArg some (by kernel_rfl))⟩
 f10 := ⟨Try.f79.name, by decide, Try.func79.trans (congrArg some (by kernel_rfl))⟩
 t0 := Try.underlying0
 a0 := Try.isAgg0
 z0 := Try.sizeOf0
 v0 := Try.zeroValue0
 t4 := Try.underlying4
 a4 := Try.isAgg4
 z4 := Try.sizeOf4
 v4 := Try.zeroValue4
 t23 := Try.underlying68
 a23 := Try.isAgg68
 z23 := Try.sizeOf68
 v23 := Try.zeroValue68
 t26 := Try.underlying3
 a26 := Try.isAgg3
 z26 := Try.sizeOf3
 v26 := Try.zeroValue3
 t27 := Try.underlying102
 a27 := Try.isAgg102
 z27 := Try.sizeOf102
 v27 := Try.zeroValue102
 t28 := Try.underlying103
 a28 := Try.isAgg103
 z28 := Try.sizeOf103
 v28 := Try.zeroValue103
 t33 := Try.underlying87
 a33 := Try.isAgg87
 z33 := Try.sizeOf87
 v33 := Try.zeroValue87 }
def sortedL_ren : Go.Shelf.Ren := ⟨fun | 6 => 72 | 8 => 77 | 9 => 78 | 11 => 80 | 13 => 82 | 12 => 81 | 23 => 92 | 24 => 93 | 14 => 83 | 15 => 84 | 16 => 85 | 17 => 86 | 18 => 87 | 19 => 88 | 20 => 89 | 21 => 90 | 22 => 91 | 25 => 94 | 26 => 95 | 27 => 96 | 28 => 97 | 29 => 98 | 30 => 99 | 31 => 100 | n => n, fun | 26 => 3 | 28 => 103 | 24 => 31 | 0 => 0 | 3 => 3 | 37 => 110 | 48 => 121 | 50 => 123 | 4 => 4 | 40 => 113 | 39 => 112 | 45 => 118 | 5 => 5 | 9 => 9 | 51 => 124 | 55 => 128 | 57 => 130 | 58 => 131 | 33 => 87 | n => n, fun | n => n⟩
theorem sortedL : Go.Proofs.SlLaysZI.n6 Try.prog sortedL_ren := {
 mixed := by kernel_rfl
 f6 := ⟨Try.f72.name, by decide, Try.func72.trans (congrArg some (by kernel_rfl))⟩
 f8 := ⟨Try.f77.name, by decide, Try.func77.trans (congrArg some (by kernel_rfl))⟩
 f11 := ⟨Try.f80.name, by decide, Try.func80.trans (congrArg some (by kernel_rfl))⟩
 t0 := Try.underlying0
 a0 := Try.isAgg0
 z0 := Try.sizeOf0
 v0 := Try.zeroValue0
 t24 := Try.underlying31
 a24 := Try.isAgg31
 z24 := Try.sizeOf31
 v24 := Try.zeroValue31
 t26 := Try.underlying3
 a26 := Try.isAgg3
 z26 := Try.sizeOf3
 v26 := Try.zeroValue3
 t28 := Try.underlying103
 a28 := Try.isAgg103
 z28 := Try.sizeOf103
 v28 := Try.zeroValue103
 i26 := by kernel_rfl }
def sortL_ren : Go.Shelf.Ren := ⟨fun | 5 => 78 | 8 => 82 | 7 => 81 | 19 => 92 | 20 => 93 | 10 => 83 | 11 => 84 | 12 => 85 | 13 => 86 | 14 => 87 | 15 => 88 | 16 => 89 | 17 => 90 | 18 => 91 | 30 => 94 | 31 => 95 | 32 => 96 | 33 => 97 | 34 => 98 | 35 => 99 | 40 => 100 | n => n, fun | 23 => 31 | 25 => 3 | 3 => 3 | 32 => 110 | 22 => 31 | 0 => 0 | 44 => 121 | 46 => 123 | 4 => 4 | 36 => 113 | 35 => 112 | 41 => 118 | 5 => 5 | 9 => 9 | 53 => 124 | 57 => 128 | 63 => 130 | 64 => 131 | n => n, fun | n => n⟩
theorem sortL : Go.Proofs.SlLaysM.n5 Try.prog sortL_ren := {
 mixed := by kernel_rfl
 f5 := ⟨Try.f78.name, by decide, Try.func78.trans (congrArg some (by kernel_rfl))⟩
 f7 := ⟨Try.f81.name, by decide, Try.func81.trans (congrArg some (by kernel_rfl))⟩
 f8 := Try.func82.trans (congrArg some (by kernel_rfl))
 f10 := ⟨Try.f83.name, by decide, Try.func83.trans (congrArg some (by kernel_rfl))⟩
 f11 := ⟨Try.f84.name, by decide, Try.func84.trans (congrArg some (by kernel_rfl))⟩
 f12 := ⟨Try.f85.name, by decide, Try.func85.trans (congrArg some (by kernel_rfl))⟩
 f13 := ⟨Try.f86.name, by decide, Try.func86.trans (congrArg some (by kernel_rfl))⟩
 f14 := ⟨Try.f87.name, by decide, Try.func87.trans (congrArg some (by kernel_rfl))⟩
 f15 := ⟨Try.f88.name, by decide, Try.func88.trans (congrArg some (by kernel_rfl))⟩
 f16 := ⟨Try.f89.name, by decide, Try.func89.trans (congrArg some (by kernel_rfl))⟩
 f17 := ⟨Try.f90.name, by decide, Try.func90.trans (congrArg some (by kernel_rfl))⟩
 f18 := ⟨Try.f91.name, by decide, Try.func91.trans (congrArg some (by kernel_rfl))⟩
 f19 := Try.func92.trans (congrArg some (by kernel_rfl))
 f20 := Try.func93.trans (congrArg some (by kernel_rfl))
 f30 := ⟨Try.f94.name, by decide, Try.func94.trans (congrArg some (by kernel_rfl))⟩
 f31 := Try.func95.trans (congrArg some (by kernel_rfl))
 f32 := Try.func96.trans (congrArg some (by kernel_rfl))
 f33 := ⟨Try.f97.name, by decide, Try.func97.trans (congrArg some (by kernel_rfl))⟩
 f34 := ⟨Try.f98.name, by decide, Try.func98.trans (congrArg some (by kernel_rfl))⟩
 f35 := ⟨Try.f99.name, by decide, Try.func99.trans (congrArg some (by kernel_rfl))⟩
 f40 := ⟨Try.f100.name, by decide, Try.func100.trans (congrArg some (by kernel_rfl))⟩
 t0 := Try.underlying0
 a0 := Try.isAgg0
 z0 := Try.sizeOf0
 v0 := Try.zeroValue0
 t3 := Try.underlying3
 a3 := Try.isAgg3
 z3 := Try.sizeOf3
 v3 := Try.zeroValue3
 t4 := Try.underlying4
 a4 := Try.isAgg4
 z4 := Try.sizeOf4
 v4 := Try.zeroValue4
 t5 := Try.underlying5
 a5 := Try.isAgg5
 z5 := Try.sizeOf5
 v5 := Try.zeroValue5
 t9 := Try.underlying9
 a9 := Try.isAgg9
 z9 := Try.sizeOf9
 v9 := Try.zeroValue9
 t22 := Try.underlying31
 a22 := Try.isAgg31
 z22 := Try.sizeOf31
 v22 := Try.zeroValue31
 t23 := Try.underlying31
 a23 := Try.isAgg31
 z23 := Try.sizeOf31
 v23 := Try.zeroValue31
 t25 := Try.underlying3
 a25 := Try.isAgg3
 z25 := Try.sizeOf3
 v25 := Try.zeroValue3
 t32 := Try.underlying110
 a32 := Try.isAgg110
 z32 := Try.sizeOf110
 v32 := Try.zeroValue110
 t35 := Try.underlying112
 a35 := Try.isAgg112
 z35 := Try.sizeOf112
 v35 := Try.zeroValue112
 t36 := Try.underlying113
 a36 := Try.isAgg113
 z36 := Try.sizeOf113
 v36 := Try.zeroValue113
 t41 := Try.underlying118
 a41 := Try.isAgg118
 z41 := Try.sizeOf118
 v41 := Try.zeroValue118
 t44 := Try.underlying121
 a44 := Try.isAgg121
 z44 := Try.sizeOf121
 v44 := Try.zeroValue121
 t46 := Try.underlying123
 a46 := Try.isAgg123
 z46 := Try.sizeOf123
 v46 := Try.zeroValue123
 t53 := Try.underlying124
 a53 := Try.isAgg124
 z53 := Try.sizeOf124
 v53 := Try.zeroValue124
 t57 := Try.underlying128
 a57 := Try.isAgg128
 z57 := Try.sizeOf128
 v57 := Try.zeroValue128
 t63 := Try.underlying130
 a63 := Try.isAgg130
 z63 := Try.sizeOf130
 v63 := Try.zeroValue130
 t64 := Try.underlying131
 a64 := Try.isAgg131
 z64 := Try.sizeOf131
 v64 := Try.zeroValue131 }
def cloneML_ren : Go.Shelf.Ren := ⟨fun | 5 => 50 | 7 => 69 | n => n, fun | 23 => 68 | 25 => 3 | 3 => 4 | 4 => 4 | 20 => 20 | n => n, fun | n => n⟩
theorem cloneML : Go.Proofs.SlLaysW.n5 Try.prog cloneML_ren := {
 mixed := by kernel_rfl
 f5 := ⟨Try.f50.name, by decide, Try.func50.trans (congrArg some (by kernel_rfl))⟩
 f7 := Try.func69.trans (congrArg some (by kernel_rfl))
 t4 := Try.underlying4
 a4 := Try.isAgg4
 z4 := Try.sizeOf4
 v4 := Try.zeroValue4
 t20 := Try.underlying20
 a20 := Try.isAgg20
 z20 := Try.sizeOf20
 v20 := Try.zeroValue20
 t23 := Try.underlying68
 a23 := Try.isAgg68
 z23 := Try.sizeOf68
 v23 := Try.zeroValue68 }
def cloneIL_ren : Go.Shelf.Ren := ⟨fun | 41 => 51 | n => n, fun | 22 => 31 | 23 => 3 | 4 => 4 | n => n, fun | n => n⟩
theorem cloneIL : Go.Proofs.SlLaysE0.n41 Try.prog cloneIL_ren := {
 mixed := by kernel_rfl
 f41 := ⟨Try.f51.name, by decide, Try.func51.trans (congrArg some (by kernel_rfl))⟩
 t4 := Try.underlying4
 a4 := Try.isAgg4
 z4 := Try.sizeOf4
 v4 := Try.zeroValue4
 t22 := Try.underlying31
 a22 := Try.isAgg31
 z22 := Try.sizeOf31
 v22 := Try.zeroValue31 }
def cloneFL_ren : Go.Shelf.Ren := ⟨fun | 41 => 52 | n => n, fun | 22 => 71 | 23 => 75 | 4 => 4 | n => n, fun | n => n⟩
theorem cloneFL : Go.Proofs.SlLaysE0.n41 Try.prog cloneFL_ren := {
 mixed := by kernel_rfl
 f41 := ⟨Try.f52.name, by decide, Try.func52.trans (congrArg some (by kernel_rfl))⟩
 t4 := Try.underlying4
 a4 := Try.isAgg4
 z4 := Try.sizeOf4
 v4 := Try.zeroValue4
 t22 := Try.underlying71
 a22 := Try.isAgg71
 z22 := Try.sizeOf71
 v22 := Try.zeroValue71 }
end Go.Proofs.Ytlffhagjpfcecaa.PA

namespace Go.Proofs.Ytlffhagjpfcecaa.PA
open Go.RowKit Go.Maps Go.Shelf Go.Sort Go.Proofs.YtlffhagjpfcecaaW.PrintWords Go.Proofs.YtlffhagjpfcecaaW.PrintLast Go.Proofs.YtlffhagjpfcecaaW.PrintMore
set_option linter.unusedVariables false
set_option linter.unusedSimpArgs false
def AscS (sl : SL) : Prop := sl.Pairwise fun p q => p.1 < q.1
abbrev ints (zs : List Int) : List Value := zs.map (Value.int .i64)
theorem intKeys_ent (sl : SL) : intKeys (mapD sl) = sl.map (·.1) := by
 show (sl.map ent).map (fun p => Go.intOf p.1) = sl.map (·.1)
 rw [List.map_map]
 rfl
theorem merge_asc {xs ys : List Int} (hp : xs.Perm ys) (hs : ys.Pairwise (· < ·)) : (xs.mergeSort fun x y => decide (x ≤ y)) = ys := by
 refine List.Perm.eq_of_pairwise (le := (· ≤ ·)) ?_ ?_ ?_ ?_
 · intro a b _ _ h1 h2
   exact Int.le_antisymm h1 h2
 · have := List.pairwise_mergeSort (le := fun x y : Int => decide (x ≤ y)) (fun a b c h1 h2 => by simp at *; omega) (fun a b => by simp; omega) xs
   exact this.imp (fun h => by simpa using h)
 · exact hs.imp (fun h => Int.le_of_lt h)
 · exact (List.mergeSort_perm _ _).trans hp
theorem sortsA (m : Nat) : AnyZI.SortsIn Try.prog sortedL_ren Fence.wide m :=
 ⟨fun blk off cap ss W hH hblk hsz => callsIn_wide.2 (AnyM.slices_Sort_int sortL blk off cap ss W hH hblk hsz),
  fun p cap W => callsIn_wide.2 (AnyM.slices_Sort_int_none sortL p cap W)⟩
theorem keys_calls (mb : Option Nat) (W : World) : Calls Try.prog 73 #[.map mb] W fun e w' => e = .returned (.func (.func 79) #[] #[.pointer (some ⟨W.heap.size, 0, none⟩)]) ∧ w' = W.alloc (.cells #[.map mb] 68) :=
 (callsIn_wide (n := 5)).1 (AnyZI.keys_in keysL Fence.wide 5 trivial rfl mb W)
set_option maxHeartbeats 1000000 in
theorem sorted_calls (W : World) (m : Nat) (sl : SL) (hM : MapAt W m sl) (hasc : AscS sl) (hlen : sl.length ≤ 1000) :
 Calls Try.prog 72 #[.func (.func 79) #[] #[.pointer (some ⟨W.heap.size, 0, none⟩)]] (W.alloc (.cells #[.map (some m)] 68)) fun e w' =>
  ∃ v : Value, e = .returned v ∧ w'.ownsRow (W.heap.size + 1) 3 1 v (sl.map (·.1)).length (ints (sl.map (·.1))) ∧ Below (W.heap.size + 1) (W.alloc (.cells #[.map (some m)] 68)) w' := by
 refine (callsIn_wide (n := 5)).1 ?_
 have hbl := hM.lt
 have hseq : SeqGives Fence.wide 2 Try.prog 79 #[.pointer (some ⟨W.heap.size, 0, none⟩)] encZ (fun ss => ss.Perm (intKeys (mapD sl))) (size (mapD sl)) (W.alloc (.cells #[.map (some m)] 68)) :=
  AnyZI.keys_gives (ρ := keysL_ren) { keysL with } Fence.wide _ trivial rfl (by omega) W.heap.size m sl.length (mapD sl) (R := plainElem Try.prog 4) _ (by simp) (by simp) (World.ownsMap.alloc hM _)
 have cS := AnyZI.sorted_in sortedL Fence.wide 5 trivial trivial trivial trivial rfl (by omega) (sortsA _) (enters_of Try.func78 (by kernel_rfl) rfl) 79 #[.pointer (some ⟨W.heap.size, 0, none⟩)] trivial (enters_of Try.func79 (by kernel_rfl) rfl) _ _ (by rw [size_ent]; unfold maxLen; omega) (by rw [size_ent]; omega) _ hseq
 change CallsIn _ _ Try.prog 72 _ _ _ at cS
 refine cS.mono ?_
 rintro e w' ⟨v, ss, rfl, hS, hrow, hnil, hb⟩
 rw [intKeys_ent] at hS
 have hp : (sl.map (·.1)).Pairwise (· < ·) := List.pairwise_map.2 hasc
 rw [merge_asc hS hp] at hrow
 have hl : ss.length = (sl.map (·.1)).length := hS.length_eq
 rw [hl] at hrow
 refine ⟨v, rfl, ?_, ?_⟩
 · have h2 : (W.alloc (.cells #[.map (some m)] 68)).heap.size = W.heap.size + 1 := by simp
   rw [h2] at hrow
   exact hrow
 · have h2 : (W.alloc (.cells #[.map (some m)] 68)).heap.size = W.heap.size + 1 := by simp
   rw [h2] at hb
   exact hb
theorem mapClone_calls (W : World) (m : Nat) (sl : SL) (hM : MapAt W m sl) :
 Calls Try.prog 50 #[.map (some m)] W fun e w' => e = .returned (.map (some W.heap.size)) ∧ MapAt w' W.heap.size sl ∧ Below W.heap.size W w' :=
 (AnyW.maps_Clone_owns cloneML 3 (plainElem Try.prog 4) m sl.length (mapD sl) W hM).mono fun e w' ⟨he, h1, h2, h3⟩ => ⟨he, h1, h3⟩
theorem info75 : (Try.prog.info? 75).map (fun i => (i.zero, i.size, i.bytes)) = some (some .nilFunc, 1, 8) := by kernel_rfl
theorem size3 (w : World) : (Go.sizeOf 3).run Try.prog w = .ok 1 w := by kernel_rfl
theorem size75 (w : World) : (Go.sizeOf 75).run Try.prog w = .ok 1 w := by kernel_rfl
theorem own_cells {W : World} {base g cap n : Nat} {e : TypeId} {xs : List Value} (h : W.ownsRow base e 1 (.slice (some ⟨g, 0, none⟩) n cap) n xs) : ∀ (j : Nat) (u : Value), xs[j]? = some u → W.cell? ⟨g, 0 + j, none⟩ = some u := by
 rcases h.2 with ⟨e, _⟩ | ⟨g', cap', cur, e, _, hgb, hn, _, hcs, ht⟩
 · cases e
 cases e
 intro j u hu
 rw [Nat.mul_one] at ht hcs
 have hj : j < xs.length := (List.getElem?_eq_some_iff.1 hu).1
 have hl := h.1
 rw [Nat.mul_one] at hl
 have hc : cur[j]? = some u := by
  have h1 : (cur.toList.take n)[j]? = some u := by rw [ht]; exact hu
  rw [List.getElem?_take, if_pos (by omega)] at h1
  simpa using h1
 simp [World.cell?, hgb, hc]
theorem intClone_calls (W : World) (base : Nat) (v : Value) (zs : List Int) (hO : W.ownsRow base 3 1 v zs.length (ints zs)) (hlen : zs.length ≤ 100000) :
 Calls Try.prog 51 #[v] W fun e w' => ∃ v', e = .returned v' ∧ w'.ownsRow W.heap.size 3 1 v' zs.length (ints zs) ∧ Below W.heap.size W w' := by
 rcases hO.2 with ⟨rfl, h0⟩ | ⟨g, cap, cur, rfl, _, hgb, hn, hm, hcs, ht⟩
 · refine (AnyE.slices_Clone_nil cloneIL 0 0 W).mono ?_
   rintro e w' ⟨rfl, rfl⟩
   exact ⟨_, rfl, ⟨hO.1, .inl ⟨rfl, h0⟩⟩, Below.refl _ _⟩
 · obtain ⟨i0, hi, hz0, hz1, hz2⟩ := info_parts info3
   refine (AnyE.slices_Clone cloneIL i0 (.int .i64 0) 1 8 hi hz0 hz1 hz2 rfl (by decide) size3 g 0 zs.length cap (ints zs) W (by simp) (by unfold maxLen; omega) (by omega) (own_cells hO) (by intro u hu; obtain ⟨z, _, rfl⟩ := List.mem_map.1 hu; rfl)).mono ?_
   rintro e w' ⟨v', rfl, h1, _, h2⟩
   exact ⟨v', rfl, h1, h2⟩
theorem fnClone_calls (W : World) (base : Nat) (v : Value) (fs : List Value) (hO : W.ownsRow base 75 1 v fs.length fs) (hlen : fs.length ≤ 100000) (h1 : ∀ u ∈ fs, u.oneCell' = true) :
 Calls Try.prog 52 #[v] W fun e w' => ∃ v', e = .returned v' ∧ w'.ownsRow W.heap.size 75 1 v' fs.length fs ∧ Below W.heap.size W w' := by
 rcases hO.2 with ⟨rfl, h0⟩ | ⟨g, cap, cur, rfl, _, hgb, hn, hm, hcs, ht⟩
 · refine (AnyE.slices_Clone_nil cloneFL 0 0 W).mono ?_
   rintro e w' ⟨rfl, rfl⟩
   exact ⟨_, rfl, ⟨hO.1, .inl ⟨rfl, h0⟩⟩, Below.refl _ _⟩
 · obtain ⟨i0, hi, hz0, hz1, hz2⟩ := info_parts info75
   refine (AnyE.slices_Clone cloneFL i0 .nilFunc 1 8 hi hz0 hz1 hz2 rfl (by decide) size75 g 0 fs.length cap fs W (by simp) (by unfold maxLen; omega) (by omega) (own_cells hO) h1).mono ?_
   rintro e w' ⟨v', rfl, h1, _, h2⟩
   exact ⟨v', rfl, h1, h2⟩
end Go.Proofs.Ytlffhagjpfcecaa.PA

set_option linter.unusedVariables false
namespace Go.Proofs.Ytlffhagjpfcecaa
open Go.RowKit
def Blk (W : World) (b : Nat) (cs : Array Value) (t : TypeId) : Prop := W.heap[b]? = some (.cells cs t (0, 0))
section
variable {W W' : World} {b : Nat} {cs : Array Value} {t : TypeId}
theorem Blk.lt (h : Blk W b cs t) : b < W.heap.size := (Array.getElem?_eq_some_iff.1 h).1
theorem Blk.cell (h : Blk W b cs t) (j : Nat) {v : Value} (hv : cs[j]? = some v) : W.cell? ⟨b, j, none⟩ = some v := by
 unfold Blk at h
 simp [World.cell?, h, hv]
theorem Blk.frozen (h : Blk W b cs t) (j : Nat) : W.frozen? ⟨b, j, none⟩ = false := by
 unfold Blk at h
 simp [World.frozen?, h]
theorem Blk.same (h : Blk W b cs t) (e : W'.heap[b]? = W.heap[b]?) : Blk W' b cs t := by unfold Blk at *; rw [e]; exact h
theorem Blk.below (h : Blk W b cs t) {B : Nat} (hb : Below B W W') (hlt : b < B) : Blk W' b cs t := h.same (hb.block b hlt)
theorem Blk.below_ (h : Blk W b cs t) (hb : Below W.heap.size W W') : Blk W' b cs t := h.same (hb.block b h.lt)
theorem Blk.alloc (h : Blk W b cs t) (o : Obj) : Blk (W.alloc o) b cs t := h.same (Below.heap_alloc W o b h.lt)
theorem Blk.drew (h : Blk W b cs t) : Blk W.drew b cs t := h
theorem Blk.drewN (h : Blk W b cs t) (n : Nat) : Blk (W.drewN n) b cs t := h
theorem Blk.new (W : World) (cs : Array Value) (t : TypeId) : Blk (W.alloc (.cells cs t)) W.heap.size cs t := World.alloc_heap_new W _
theorem Blk.other (h : Blk W b cs t) {a : Addr} (u : Value) (hne : b ≠ a.block) : Blk (W.setCell a u) b cs t := h.same (Below.heap_setCell W a u b hne)
theorem Blk.set (h : Blk W b cs t) (j : Nat) (u : Value) : Blk (W.setCell ⟨b, j, none⟩ u) b (cs.setIfInBounds j u) t := by
 unfold Blk at *
 simp [World.setCell, Array.getElem?_modify, h]
theorem Blk.kept (h : Blk W b cs t) {row : Option Nat} (hg : W.grownBy W' row) (hr : ∀ r, row = some r → ∃ o : Obj, W.heap[r]? = some o ∧ o.isCells = false) : Blk W' b cs t := by
 refine h.same (hg.block b h.lt ?_)
 intro e
 obtain ⟨o, ho, hc⟩ := hr b e.symm
 unfold Blk at h
 rw [h] at ho
 cases ho
 simp [Obj.isCells] at hc
theorem Blk.put (h : Blk W b cs t) {l : Nat} {o o' : Obj} (hl : W.heap[l]? = some o) (ho : o.isCells = false) : Blk (W.putObj l o') b cs t :=
 h.kept (grownBy_putObj' W l o') (fun r e => by cases e; exact ⟨o, hl, ho⟩)
end
end Go.Proofs.Ytlffhagjpfcecaa

namespace Go.Proofs.Ytlffhagjpfcecaa.PA
open Go.RowKit Go.Maps Go.Shelf Go.Sort Go.Proofs.YtlffhagjpfcecaaW.PrintWords Go.Proofs.YtlffhagjpfcecaaW.PrintLast Go.Proofs.YtlffhagjpfcecaaW.PrintMore
set_option linter.unusedVariables false
set_option linter.unusedSimpArgs false
inductive Ask where
 | start : Ask
 | stop : Ask
 | seek : Int → Ask
 | loop : Int → Int → Ask
 | wheel : Bool → Ask
structure TS where
 bg : Int
 en : Int
 st : Int
 ps : Int
 wt : Int
 wd : Int
 fr : Bool
 sl : SL
 ms : List Int
 cy : Int
 aq : List Ask
def askOk : Ask → Prop
 | .seek p => 0 ≤ p ∧ p ≤ 1000000000
 | .loop b e => 0 ≤ b ∧ b ≤ 1000000000 ∧ 0 ≤ e ∧ e ≤ 1000000000 ∧ (e = 0 ∨ b < e)
 | _ => True
structure TOk (s : TS) : Prop where
 p0 : 0 ≤ s.ps
 p1 : s.ps ≤ 1000000000
 b0 : 0 ≤ s.bg
 b1 : s.bg ≤ 1000000000
 e0 : 0 ≤ s.en
 e1 : s.en ≤ 1000000000
 be : s.en = 0 ∨ s.bg < s.en
 s0 : 0 ≤ s.st
 s1 : s.st ≤ 2
 wt0 : 1 ≤ s.wt
 wt1 : s.wt ≤ 1000
 asc : AscS s.sl
 key : ∀ q ∈ s.sl, 1 ≤ q.1 ∧ q.1 ≤ 1000
 ll : s.sl.length ≤ 1000
 ml : s.ms.length ≤ 1000
 al : s.aq.length ≤ 10000
 aok : ∀ a ∈ s.aq, askOk a
def AskV (W : World) (C : Nat → Prop) : Ask → Value → Prop
 | .start, f => f = .func (.func 44) #[] #[]
 | .stop, f => f = .func (.func 48) #[] #[]
 | .seek p, f => ∃ b, f = .func (.func 40) #[] #[.pointer (some ⟨b, 0, none⟩)] ∧ Boxed W b 3 (.int .i64 p) ∧ C b
 | .loop x y, f => ∃ b1 b2, f = .func (.func 43) #[] #[.pointer (some ⟨b1, 0, none⟩), .pointer (some ⟨b2, 0, none⟩)] ∧ Boxed W b1 3 (.int .i64 x) ∧ Boxed W b2 3 (.int .i64 y) ∧ C b1 ∧ C b2
 | .wheel on, f => ∃ b, f = .func (.func 49) #[] #[.pointer (some ⟨b, 0, none⟩)] ∧ Boxed W b 4 (.bool on) ∧ C b
theorem AskV.one {W : World} {C : Nat → Prop} {a : Ask} {f : Value} (h : AskV W C a f) : f.oneCell' = true := by
 cases a <;> simp only [AskV] at h
 · subst h; rfl
 · subst h; rfl
 · obtain ⟨b, rfl, _⟩ := h; rfl
 · obtain ⟨b, b2, rfl, _⟩ := h; rfl
 · obtain ⟨b, rfl, _⟩ := h; rfl
theorem boxed_kept {W W' : World} {S : Nat → Prop} {b : Nat} {t : TypeId} {v : Value} (h : Boxed W b t v) (hk : Kept W W' S) (hn : ¬ S b) : Boxed W' b t v := (hk.2 b h.lt hn).trans h
theorem AskV.kept {W W' : World} {C S : Nat → Prop} {a : Ask} {f : Value} (h : AskV W C a f) (hk : Kept W W' S) (hn : ∀ k, C k → ¬ S k) : AskV W' C a f := by
 cases a <;> simp only [AskV] at h ⊢
 · exact h
 · exact h
 · obtain ⟨b, e, h1, h2⟩ := h; exact ⟨b, e, boxed_kept h1 hk (hn b h2), h2⟩
 · obtain ⟨b, b2, e, h1, h2, h3, h4⟩ := h; exact ⟨b, b2, e, boxed_kept h1 hk (hn b h3), boxed_kept h2 hk (hn b2 h4), h3, h4⟩
 · obtain ⟨b, e, h1, h2⟩ := h; exact ⟨b, e, boxed_kept h1 hk (hn b h2), h2⟩
theorem AskV.mono {W : World} {C C' : Nat → Prop} {a : Ask} {f : Value} (h : AskV W C a f) (hc : ∀ k, C k → C' k) : AskV W C' a f := by
 cases a <;> simp only [AskV] at h ⊢
 · exact h
 · exact h
 · obtain ⟨b, e, h1, h2⟩ := h; exact ⟨b, e, h1, hc b h2⟩
 · obtain ⟨b, b2, e, h1, h2, h3, h4⟩ := h; exact ⟨b, b2, e, h1, h2, hc b h3, hc b2 h4⟩
 · obtain ⟨b, e, h1, h2⟩ := h; exact ⟨b, e, h1, hc b h2⟩
def tcells (s : TS) (m : Nat) (vm va : Value) : Array Value := #[.int .i64 s.bg, .int .i64 s.en, .int .i64 s.st, .int .i64 s.ps, .int .i64 s.wt, .int .i64 s.wd, .bool s.fr, .map (some m), vm, .int .i64 s.cy, va]
structure TAtW (W : World) (S C : Nat → Prop) (p : Nat) (s : TS) (m : Nat) (vm va : Value) (fs : List Value) : Prop where
 B : Blk W p (tcells s m vm va) 73
 M : MapAt W m s.sl
 V : W.ownsRow 0 3 1 vm s.ms.length (ints s.ms)
 A : W.ownsRow 0 75 1 va fs.length fs
 Fl : fs.length = s.aq.length
 F : ∀ (i : Nat) (a : Ask) (f : Value), s.aq[i]? = some a → fs[i]? = some f → AskV W C a f
 sp : S p
 sm : S m
 sv : ∀ k, vm.ownBlock = some k → S k
 sa : ∀ k, va.ownBlock = some k → S k
 dj : ∀ k, C k → ¬ S k
 cl : ∀ k, C k → k < W.heap.size
 ok : TOk s
def TAt (W : World) (S C : Nat → Prop) (p : Nat) (s : TS) : Prop := ∃ m vm va fs, TAtW W S C p s m vm va fs
theorem row_same {W W' : World} {base : Nat} {e : TypeId} {size : Nat} {v : Value} {n : Nat} {xs : List Value} (h : W.ownsRow base e size v n xs) (hs : ∀ k, v.ownBlock = some k → W'.heap[k]? = W.heap[k]?) : W'.ownsRow base e size v n xs := by
 refine ⟨h.1, ?_⟩
 rcases h.2 with h2 | ⟨g, cap, cur, rfl, hb, hgb, r⟩
 · exact .inl h2
 · exact .inr ⟨g, cap, cur, rfl, hb, (hs g rfl).trans hgb, r⟩
theorem row_bl {W : World} {base : Nat} {e : TypeId} {size : Nat} {v : Value} {n : Nat} {xs : List Value} (h : W.ownsRow base e size v n xs) {k : Nat} (hk : v.ownBlock = some k) : k < W.heap.size := (h.lt k hk).2
theorem row_base {W : World} {b1 b2 : Nat} {e : TypeId} {size : Nat} {v : Value} {n : Nat} {xs : List Value} (h : W.ownsRow b2 e size v n xs) (hb : b1 ≤ b2) : W.ownsRow b1 e size v n xs := by
 refine ⟨h.1, ?_⟩
 rcases h.2 with h2 | ⟨g, cap, cur, e, hg, r⟩
 · exact .inl h2
 · exact .inr ⟨g, cap, cur, e, Nat.le_trans hb hg, r⟩
structure Step (W W' : World) (S : Nat → Prop) : Prop where
 os : W'.os = W.os
 tape : W'.tape = W.tape
 output : W'.output = W.output
 kept : Kept W W' S
section
variable {W W1 W2 : World} {S S' C : Nat → Prop} {p : Nat} {s : TS}
theorem Step.refl (W : World) (S : Nat → Prop) : Step W W S := ⟨rfl, rfl, rfl, Kept.refl W S⟩
theorem Step.of_below (h : Below W.heap.size W W1) (S : Nat → Prop) : Step W W1 S := ⟨h.os, h.tape, h.output, Kept.of_below h S⟩
theorem Step.of_grown {row : Option Nat} (h : W.grownBy W1 row) (hr : ∀ k, row = some k → S k) : Step W W1 S :=
 ⟨h.os, h.tape, h.output, h.size, fun i hi hn => h.block i hi (fun e => hn (hr i e.symm))⟩
theorem Step.trans (h : Step W W1 S) (h2 : Step W1 W2 S') (hs : ∀ k, S' k → S k ∨ W.heap.size ≤ k) : Step W W2 S :=
 ⟨h2.os.trans h.os, h2.tape.trans h.tape, h2.output.trans h.output, h.kept.then_ h2.kept hs⟩
theorem Step.set (W : World) (a : Addr) (u : Value) (ha : S a.block) : Step W (W.setCell a u) S :=
 ⟨rfl, rfl, rfl, (Kept.refl W S).setCell (.inl ha) u⟩
theorem Step.below (h : Step W W1 S) {B : Nat} {w : World} (hb : Below B w W) (hB : B ≤ W.heap.size) (hS : ∀ k, S k → B ≤ k) : Below B w W1 :=
 ⟨h.os.trans hb.os, h.tape.trans hb.tape, h.output.trans hb.output, Nat.le_trans hb.size h.kept.1, fun k hk => (h.kept.2 k (Nat.lt_of_lt_of_le hk hB) (fun hs => by have := hS k hs; omega)).trans (hb.block k hk)⟩
theorem TAtW.kept {m : Nat} {vm va : Value} {fs : List Value} (h : TAtW W S C p s m vm va fs) (hk : Kept W W1 S') (h1 : ∀ k, S k → ¬ S' k) (h2 : ∀ k, C k → ¬ S' k) : TAtW W1 S C p s m vm va fs where
 B := h.B.same (hk.2 p h.B.lt (h1 p h.sp))
 M := h.M.same (hk.2 m h.M.lt (h1 m h.sm))
 V := row_same h.V (fun k e => hk.2 k (row_bl h.V e) (h1 k (h.sv k e)))
 A := row_same h.A (fun k e => hk.2 k (row_bl h.A e) (h1 k (h.sa k e)))
 Fl := h.Fl
 F := fun i a f e1 e2 => (h.F i a f e1 e2).kept hk h2
 sp := h.sp
 sm := h.sm
 sv := h.sv
 sa := h.sa
 dj := h.dj
 cl := fun k hc => Nat.lt_of_lt_of_le (h.cl k hc) hk.1
 ok := h.ok
theorem TAt.kept (h : TAt W S C p s) (hk : Kept W W1 S') (h1 : ∀ k, S k → ¬ S' k) (h2 : ∀ k, C k → ¬ S' k) : TAt W1 S C p s := by
 obtain ⟨m, vm, va, fs, h⟩ := h
 exact ⟨m, vm, va, fs, h.kept hk h1 h2⟩
theorem TAtW.below {m : Nat} {vm va : Value} {fs : List Value} (h : TAtW W S C p s m vm va fs) (hb : Below W.heap.size W W1) : TAtW W1 S C p s m vm va fs :=
 h.kept (Kept.of_below hb (fun _ => False)) (fun _ _ => id) (fun _ _ => id)
theorem TAt.below (h : TAt W S C p s) (hb : Below W.heap.size W W1) : TAt W1 S C p s := by
 obtain ⟨m, vm, va, fs, h⟩ := h
 exact ⟨m, vm, va, fs, h.below hb⟩
theorem TAtW.pm {m : Nat} {vm va : Value} {fs : List Value} (h : TAtW W S C p s m vm va fs) : m ≠ p := by
 have hB0 := h.B
 unfold Blk at hB0
 rintro rfl
 obtain ⟨es, cl, hb, _⟩ := h.M
 rw [hB0] at hb
 cases hb
theorem row_ne {e t : TypeId} {v : Value} {n b : Nat} {xs : List Value} {cs : Array Value} (hr : W.ownsRow 0 e 1 v n xs) (hb : Blk W b cs t) (he : e ≠ t) : ∀ k, v.ownBlock = some k → k ≠ b := by
 intro k hk
 unfold Blk at hb
 rintro rfl
 rcases hr.2 with ⟨rfl, _⟩ | ⟨g, cap, cur, rfl, _, hgb, _⟩
 · simp [Value.ownBlock] at hk
 · simp [Value.ownBlock] at hk
   subst hk
   rw [hb] at hgb
   cases hgb
   exact he rfl
theorem row_nm {e : TypeId} {v : Value} {n m : Nat} {xs : List Value} {sl : SL} (hr : W.ownsRow 0 e 1 v n xs) (hm : MapAt W m sl) : ∀ k, v.ownBlock = some k → k ≠ m := by
 intro k hk
 obtain ⟨es, cl, hb, _⟩ := hm
 rintro rfl
 rcases hr.2 with ⟨rfl, _⟩ | ⟨g, cap, cur, rfl, _, hgb, _⟩
 · simp [Value.ownBlock] at hk
 · simp [Value.ownBlock] at hk
   subst hk
   rw [hb] at hgb
   cases hgb
def Sx (W : World) (S : Nat → Prop) : Nat → Prop := fun k => S k ∨ W.heap.size ≤ k
theorem asks_same {fs : List Value} {m : Nat} {vm va : Value} (h : TAtW W S C p s m vm va fs) {q : Nat} (hq : S q) (hk : ∀ k, k < W.heap.size → k ≠ q → W1.heap[k]? = W.heap[k]?) :
 ∀ (i : Nat) (a : Ask) (f : Value), s.aq[i]? = some a → fs[i]? = some f → AskV W1 C a f := by
 intro i a f ea ef
 have := h.F i a f ea ef
 have key : ∀ {b : Nat} {t : TypeId} {v : Value}, Boxed W b t v → C b → Boxed W1 b t v := fun {b _ _} q1 q2 => (hk b q1.lt (fun e => h.dj b q2 (e ▸ hq))).trans q1
 cases a <;> simp only [AskV] at this ⊢
 · exact this
 · exact this
 · obtain ⟨b, e, q1, q2⟩ := this
   exact ⟨b, e, key q1 q2, q2⟩
 · obtain ⟨b, b2, e, q1, q2, q3, q4⟩ := this
   exact ⟨b, b2, e, key q1 q3, key q2 q4, q3, q4⟩
 · obtain ⟨b, e, q1, q2⟩ := this
   exact ⟨b, e, key q1 q2, q2⟩
theorem TAtW.cells {m : Nat} {vm va vm' : Value} {fs : List Value} (h : TAtW W S C p s m vm va fs) {s' : TS} (hB : Blk W1 p (tcells s' m vm' va) 73) (hk : ∀ k, k < W.heap.size → k ≠ p → W1.heap[k]? = W.heap[k]?) (hz : W.heap.size ≤ W1.heap.size)
 (e1 : s'.sl = s.sl) (hV : W1.ownsRow 0 3 1 vm' s'.ms.length (ints s'.ms)) (hv : ∀ k, vm'.ownBlock = some k → Sx W S k) (e3 : s'.aq = s.aq) (hok : TOk s') : TAtW W1 (Sx W S) C p s' m vm' va fs where
 B := hB
 M := by rw [e1]; exact h.M.same (hk m h.M.lt h.pm)
 V := hV
 A := row_same h.A (fun k e => hk k (row_bl h.A e) (row_ne h.A h.B (by decide) k e))
 Fl := by rw [e3]; exact h.Fl
 F := by rw [e3]; exact asks_same h h.sp hk
 sp := .inl h.sp
 sm := .inl h.sm
 sv := hv
 sa := fun k e => .inl (h.sa k e)
 dj := fun k hc hs => hs.elim (h.dj k hc) (fun hh => by have := h.cl k hc; omega)
 cl := fun k hc => Nat.lt_of_lt_of_le (h.cl k hc) hz
 ok := hok
theorem TAtW.cells0 {m : Nat} {vm va : Value} {fs : List Value} (h : TAtW W S C p s m vm va fs) {s' : TS} (hB : Blk W1 p (tcells s' m vm va) 73) (hk : ∀ k, k < W.heap.size → k ≠ p → W1.heap[k]? = W.heap[k]?) (hz : W.heap.size ≤ W1.heap.size)
 (e1 : s'.sl = s.sl) (e2 : s'.ms = s.ms) (e3 : s'.aq = s.aq) (hok : TOk s') : TAtW W1 S C p s' m vm va fs where
 B := hB
 M := by rw [e1]; exact h.M.same (hk m h.M.lt h.pm)
 V := by rw [e2]; exact row_same h.V (fun k e => hk k (row_bl h.V e) (row_ne h.V h.B (by decide) k e))
 A := row_same h.A (fun k e => hk k (row_bl h.A e) (row_ne h.A h.B (by decide) k e))
 Fl := by rw [e3]; exact h.Fl
 F := by rw [e3]; exact asks_same h h.sp hk
 sp := h.sp
 sm := h.sm
 sv := h.sv
 sa := h.sa
 dj := h.dj
 cl := fun k hc => Nat.lt_of_lt_of_le (h.cl k hc) hz
 ok := hok
theorem TAtW.map {m : Nat} {vm va : Value} {fs : List Value} (h : TAtW W S C p s m vm va fs) {sl' : SL} (hM : MapAt W1 m sl') (hk : ∀ k, k < W.heap.size → k ≠ m → W1.heap[k]? = W.heap[k]?) (hz : W.heap.size ≤ W1.heap.size) (hok : TOk { s with sl := sl' }) :
 TAtW W1 S C p { s with sl := sl' } m vm va fs where
 B := h.B.same (hk p h.B.lt (fun e => h.pm e.symm))
 M := hM
 V := row_same h.V (fun k e => hk k (row_bl h.V e) (row_nm h.V h.M k e))
 A := row_same h.A (fun k e => hk k (row_bl h.A e) (row_nm h.A h.M k e))
 Fl := h.Fl
 F := fun i a f ea ef => asks_same (s := s) h h.sm hk i a f ea ef
 sp := h.sp
 sm := h.sm
 sv := h.sv
 sa := h.sa
 dj := h.dj
 cl := fun k hc => Nat.lt_of_lt_of_le (h.cl k hc) hz
 ok := hok
theorem TAtW.more {m : Nat} {vm va : Value} {fs : List Value} (h : TAtW W S C p s m vm va fs) (hs : ∀ k, S k → S' k) (hc : ∀ k, C k → ¬ S' k) : TAtW W S' C p s m vm va fs :=
 ⟨h.B, h.M, h.V, h.A, h.Fl, h.F, hs p h.sp, hs m h.sm, fun k e => hs k (h.sv k e), fun k e => hs k (h.sa k e), hc, h.cl, h.ok⟩
end
end Go.Proofs.Ytlffhagjpfcecaa.PA

namespace Go.Proofs.Ytlffhagjpfcecaa.PA
open Go.RowKit Go.Maps Go.Shelf Go.Sort Go.Proofs.YtlffhagjpfcecaaW.PrintWords Go.Proofs.YtlffhagjpfcecaaW.PrintLast Go.Proofs.YtlffhagjpfcecaaW.PrintMore
set_option linter.unusedVariables false
set_option linter.unusedSimpArgs false
def unr (sl : SL) : List Int := (sl.filter fun p => !p.2).map (·.1)
theorem unr_take (sl : SL) (i : Nat) (h : i < sl.length) : unr (sl.take (i + 1)) = unr (sl.take i) ++ if sl[i].2 = true then [] else [sl[i].1] := by
 unfold unr
 rw [List.take_succ_eq_append_getElem h, List.filter_append, List.map_append]
 congr 1
 cases hb : sl[i].2 <;> simp [hb]
theorem unr_len (sl : SL) : (unr sl).length ≤ sl.length := by
 unfold unr
 rw [List.length_map]
 exact List.length_filter_le _ _
theorem getS_at {sl : SL} (h : AscS sl) (i : Nat) (hi : i < sl.length) : getS sl[i].1 sl = sl[i].2 := by
 unfold getS
 have hf : sl.find? (fun p => p.1 == sl[i].1) = some sl[i] := by
  rw [List.find?_eq_some_iff_append]
  refine ⟨by simp, sl.take i, sl.drop (i + 1), ?_, ?_⟩
  · rw [← List.drop_eq_getElem_cons hi, List.take_append_drop]
  · intro a ha
    obtain ⟨j, hj, rfl⟩ := List.mem_iff_getElem.1 ha
    rw [List.getElem_take]
    have hj2 : j < i := by simp at hj; omega
    have := List.pairwise_iff_getElem.1 h j i (by omega) hi hj2
    simp
    omega
 rw [hf]
theorem own_sl {W : World} {base : Nat} {e : TypeId} {size : Nat} {v : Value} {n : Nat} {xs : List Value} (h : W.ownsRow base e size v n xs) : ∃ A c, v = .slice A n c := by
 rcases h.2 with ⟨rfl, rfl⟩ | ⟨g, cap, cur, rfl, _⟩
 · exact ⟨_, _, rfl⟩
 · exact ⟨_, _, rfl⟩
theorem own_some {W : World} {base : Nat} {e : TypeId} {size : Nat} {A : Option Addr} {n c : Nat} {xs : List Value} (h : W.ownsRow base e size (.slice A n c) n xs) (hn : 0 < n) : ∃ g, A = some ⟨g, 0, none⟩ := by
 rcases h.2 with ⟨e, rfl⟩ | ⟨g, cap, cur, e, _⟩
 · omega
 · cases e; exact ⟨g, rfl⟩
theorem one_cell (W : World) (v : Value) (t : TypeId) (n : Nat) (hn : n = W.heap.size) : ∀ (j : Nat) (u : Value), [v][j]? = some u → (W.alloc (.cells #[v] t)).cell? ((⟨n, 0, none⟩ : Addr).add j) = some u := by
 intro j u h
 subst hn
 match j, h with
 | 0, h => cases h; exact (Blk.new W #[v] t).cell 0 rfl
theorem grown_below {w W W' : World} {B : Nat} {row : Option Nat} (h : Below B w W) (hB : B ≤ W.heap.size) (hg : W.grownBy W' row) (hr : ∀ k, row = some k → B ≤ k) : Below B w W' :=
 ⟨hg.os.trans h.os, hg.tape.trans h.tape, hg.output.trans h.output, Nat.le_trans h.size hg.size, fun k hk => (hg.block k (Nat.lt_of_lt_of_le hk hB) (fun e => absurd (hr k e.symm) (by omega))).trans (h.block k hk)⟩
theorem own_ge {W : World} {base : Nat} {e : TypeId} {size : Nat} {v : Value} {n : Nat} {xs : List Value} (h : W.ownsRow base e size v n xs) : ∀ k, v.ownBlock = some k → base ≤ k := fun k hk => (h.lt k hk).1
def UnR (W : World) (keys : List Int) (sl : SL) (vk : Value) (B2 : Nat) (v3 v13 : Value) (wr : World) : Prop :=
 ∃ i : Nat, v13 = .int .i64 i ∧ i ≤ keys.length ∧ Below W.heap.size W wr ∧ wr.ownsRow (W.heap.size + 1) 3 1 vk keys.length (ints keys) ∧ (∀ k, vk.ownBlock = some k → k < B2) ∧ B2 ≤ wr.heap.size ∧ W.heap.size ≤ B2 ∧
  wr.ownsRow B2 3 1 v3 (unr (sl.take i)).length (ints (unr (sl.take i)))
set_option maxRecDepth 100000 in
set_option maxHeartbeats 2000000 in
theorem unready_calls {W : World} {S C : Nat → Prop} {p : Nat} {s : TS} {m : Nat} {vm va : Value} {fs : List Value} (h : TAtW W S C p s m vm va fs) :
 Calls Try.prog 67 #[.pointer (some ⟨p, 0, none⟩)] W fun e w' => ∃ v, e = .returned v ∧ w'.ownsRow W.heap.size 3 1 v (unr s.sl).length (ints (unr s.sl)) ∧ Below W.heap.size W w' := by
 have H := Aside0.mk h
 have hasc := h.ok.asc
 have hll := h.ok.ll
 have hk := Aside0.mk h.ok.key
 have hc7 := h.B.cell 7 (v := .map (some m)) rfl
 clear h
 obtain ⟨i0, hi, hz0, hz1, hz2⟩ := info_parts info3
 have HS := Aside0.mk (sorted_calls W m s.sl H.out.M hasc hll)
 have HA := Aside0.mk hasc
 clear hasc
 obtain ⟨keys, hkeys⟩ : ∃ keys, s.sl.map (·.1) = keys := ⟨_, rfl⟩
 rw [hkeys] at HS
 have hkl : keys.length = s.sl.length := by rw [← hkeys]; simp
 have HK := Aside0.mk hkeys
 clear hkeys
 go_enter Try.func67, Try.ntmps67
 go_wp2_with (fail)
 refine (keys_calls _ _).mono ?_
 rintro e w1 ⟨rfl, rfl⟩
 go_wp2_with (fail)
 refine HS.out.mono ?_
 rintro e w2 ⟨vk, rfl, hrow, hb2⟩
 obtain ⟨A, c, rfl⟩ := own_sl hrow
 have hst : UnR W keys s.sl (.slice A keys.length c) w2.heap.size (.slice none 0 0) (.int .i64 0) w2 := by
  have hsz : W.heap.size + 1 ≤ w2.heap.size := by have := hb2.size; simpa using this
  refine ⟨0, rfl, Nat.zero_le _, ((Below.refl _ W).alloc (Nat.le_refl _) _).trans (hb2.mono (by omega)), hrow, fun k hk => (hrow.lt k hk).2, Nat.le_refl _, by omega, ?_⟩
  exact ⟨rfl, .inl ⟨rfl, rfl⟩⟩
 clear hrow hb2 hc7
 generalize w2.heap.size = B2 at *
 go_wp2_with (fail)
 go_loopw [3, 13] (UnR W keys s.sl (.slice A keys.length c) B2) (fun _ v13 _ => keys.length - (intOf v13).toNat)
 case atStart => exact hst
 case round =>
  clear hst
  obtain ⟨i, rfl, hin, hB, hK, hk2, hBz, hWB, hO⟩ := hrel
  have hc7 : wr.cell? ⟨p, 7, none⟩ = some (.map (some m)) := (H.out.below hB).B.cell 7 rfl
  have HB := Aside0.mk hB
  have HKr := Aside0.mk hK
  have HO := Aside0.mk hO
  have HK2 := Aside0.mk hk2
  clear hB hK hO hk2
  by_cases hlt : i < keys.length
  · have hltz : (i : Int) < (keys.length : Int) := by omega
    have hlt2 : i < s.sl.length := by omega
    obtain ⟨g, rfl⟩ := own_some HKr.out (by omega)
    have hki : keys[i] = s.sl[i].1 := by simp only [← HK.out, List.getElem_map]
    have hck : wr.cell? ⟨g, i, none⟩ = some (.int .i64 keys[i]) := by
     have := own_cells HKr.out i (.int .i64 keys[i]) (by simp [hlt])
     rwa [Nat.zero_add] at this
    have hkr := hk.out s.sl[i] (List.getElem_mem _)
    have hlook := ((H.out.below HB.out).M.look (k := s.sl[i].1) (by omega) (by omega))
    rw [getS_at HA.out i hlt2] at hlook
    rw [hki] at hck
    have htk := unr_take s.sl i hlt2
    generalize s.sl[i].1 = key at *
    have hul : (unr (s.sl.take i)).length ≤ i := by
     have h1 := unr_len (s.sl.take i)
     have h2 : (s.sl.take i).length ≤ i := List.length_take_le _ _
     omega
    cases hr : s.sl[i].2 with
    | true =>
     rw [hr, if_pos rfl, List.append_nil] at htk
     rw [hr] at hlook
     have HT := Aside0.mk htk
     clear htk hr hki
     go_wp2_with (fail)
     go_roundw
     case rel => exact ⟨i + 1, by go_num, by omega, HB.out, HKr.out, HK2.out, hBz, hWB, by rw [HT.out]; exact HO.out⟩
     case measure => simp [intOf]; omega
    | false =>
     rw [hr, if_neg (by decide)] at htk
     rw [hr] at hlook
     have HT := Aside0.mk htk
     clear htk hr hki
     obtain ⟨us, hus⟩ : ∃ us, unr (s.sl.take i) = us := ⟨_, rfl⟩
     rw [hus] at HT HO hul
     clear hus
     go_wp2_with (at_builtin; refine wpList_append_own _ rfl (.tmp 24) (.tmp 26) 31 rfl B2 3 i0 (.int .i64 0) 1 8 Try.underlying31 hi hz0 hz1 hz2 rfl (by decide) u3 us.length (ints us) rfl (HO.out.alloc _) ⟨wr.heap.size, 0, none⟩ 1 1 [.int .i64 key] rfl rfl ?c1 ?c2 ?c3 ?c4 ?c5 ?_; (case c1 => refine one_cell _ _ _ _ ?_; rfl); (case c2 => intro u hu; simp only [List.mem_singleton] at hu; subst hu; rfl); (case c3 => unfold maxLen; omega); (case c4 => omega); (case c5 => simp; omega); intro v' w5 hown hg _; have HO5 := Aside0.mk hown; have HG := Aside0.mk hg; clear hown hg)
     go_roundw
     case rel =>
      have hge := own_ge HO.out
      have hG := HG.out
      refine ⟨i + 1, by go_num, by omega, grown_below (HB.out.alloc HB.out.size _) (by have := HB.out.size; simp; omega) hG (fun k hk => by have := hge k hk; omega), ?_, HK2.out, Nat.le_trans hBz (Nat.le_trans (by simp) hG.size), hWB, ?_⟩
      · refine (HKr.out.alloc _).kept hG (.inr ?_)
        intro hh
        have h1 := HK2.out g rfl
        have h2 := hge g hh.symm
        omega
      · rw [HT.out]
        have : ints (us ++ [key]) = ints us ++ [.int .i64 key] := by simp
        rw [this, List.length_append]
        exact HO5.out
     case measure => simp [intOf]; omega
  · obtain rfl : i = keys.length := by omega
    have hO2 : wr.ownsRow B2 3 1 u3 (unr s.sl).length (ints (unr s.sl)) := by
     have h := HO.out
     rw [List.take_of_length_le (by omega)] at h
     exact h
    have HO2 := Aside0.mk hO2
    clear hO2
    go_wp2_with (fail)
    go_ret
    exact ⟨_, rfl, row_base HO2.out hWB, HB.out⟩
end Go.Proofs.Ytlffhagjpfcecaa.PA

namespace Go
open Go.ChangeMaps Go.MapKept Go.WideShapes Go.Maps
open Go.WideElems (Fit rd rg pl rd_val elemAt)
set_option linter.unusedVariables false
section
variable {H : Type} {P : Program} {k : TypeId} {R : Value → Option (DataW H × List MemPlace)} {w : World} {b r n : Nat} {D : DataW H} {left : Lit → Bool} {cnt : Nat}
theorem ranges_put {t e : TypeId} (h : w.ranges P k R b r n D left cnt) (K : Keyed P k) (ht : P.underlying t = some (.map k e)) (hn : n < maxLen) {key val : Value} {kl : Lit} {d : DataW H} {ps : List MemPlace}
 (hkey : keyOf P k key = some kl) (hv : R val = some (d, ps)) (hhas : Maps.has D kl = true) :
 ∃ w', (Instr.mapUpdate t (.map (some b)) key val).run P w = .ok () w' ∧ w'.ranges P k R b r n (D.put kl d) left cnt ∧ w.grownBy w' (some b) ∧ w'.heap.size = w.heap.size := by
 have hne := h.ne
 obtain ⟨es, clock, since, seen, c0, hb, F, hs, rfl, hr, hold, hc, hl1, hl2, hsc, hsk⟩ := h
 rcases K.find w hkey es.toList F.keys with ⟨h1, h2⟩ | ⟨j, e0, h1, h2, h3⟩
 · exfalso
   obtain ⟨q, hq, hqk⟩ := List.any_eq_true.1 hhas
   obtain ⟨x, hx, rfl⟩ := List.mem_map.1 (mem_sorted.1 hq)
   obtain ⟨y, hy⟩ := F.reads x hx
   have e1 : (rg P k R x).1 = kl := WideAt.sameKey_eq hqk
   rw [WideElems.rg_of hy] at e1
   exact h2 x hx (K.inj (e1 ▸ WideElems.rd_key hy) hkey)
 · obtain ⟨es', clock', hrun, F', hput, _, _, _⟩ := Maps.fit_store (R' := R) K ht hb F (Nat.lt_of_le_of_lt hs hn) (fun _ _ _ _ hz => hz) hkey hv
   have hj : es[j]? = some e0 := by simpa using h2
   have hrun2 : (Instr.mapUpdate t (.map (some b)) key val).run P w = .ok () (setBlock w b (.map (es.modify j (fun e' => { e' with key := key, val := val })) clock)) := by
    simp [Instr.mapUpdate, run_underlying ht, MapKept.run_getObj_map hb, K.check w false hkey, h1, hj, h3, K.stays w hkey, MapKept.run_setObj_map _ hb, Result.andThen, setBlock]
   have hw : setBlock w b (.map es' clock') = setBlock w b (.map (es.modify j (fun e' => { e' with key := key, val := val })) clock) := by
    rw [hrun] at hrun2
    injection hrun2
   have ho : (Obj.map es' clock') = .map (es.modify j (fun e' => { e' with key := key, val := val })) clock := by
    have x1 := heap_setBlock_same hb (.map es' clock')
    rw [hw, heap_setBlock_same hb] at x1
    exact (Option.some.inj x1).symm
   injection ho with ho1 ho2
   subst ho2
   have hlist : es'.toList = es.toList.set j { e0 with key := key, val := val } := by rw [ho1, Array.toList_modify, ChangeMaps.modify_eq_set _ _ _ _ h2]
   have hborn : es'.toList.map (·.born) = es.toList.map (·.born) := by
    rw [hlist, List.map_set]
    apply List.ext_getElem?
    intro i
    rw [List.getElem?_set]
    split
    · rename_i e; subst e
      rw [List.getElem?_map, h2]
      have := (List.getElem?_eq_some_iff.1 h2).1
      rw [if_pos (by simpa using this)]
      rfl
    · rfl
   have who : ∀ x ∈ es'.toList, ∃ x0 ∈ es.toList, x0.born = x.born ∧ x0.key = x.key := by
    intro x hx
    rw [hlist] at hx
    obtain ⟨i, hi, ex⟩ := List.getElem_of_mem hx
    rw [List.getElem_set] at ex
    split at ex
    · exact ⟨e0, List.mem_of_getElem? h2, by rw [← ex], by rw [← ex]; exact h3⟩
    · have hi' : i < es.toList.length := by simpa using hi
      exact ⟨es.toList[i], List.getElem_mem _, by rw [ex], by rw [ex]⟩
   have back : ∀ x0 ∈ es.toList, ∃ x ∈ es'.toList, x0.born = x.born ∧ x0.key = x.key := by
    intro x0 hx0
    obtain ⟨i, hi, ex⟩ := List.getElem_of_mem hx0
    rw [hlist]
    by_cases e : j = i
    · subst e
      have : es.toList[j] = e0 := (List.getElem?_eq_some_iff.1 h2).2
      refine ⟨{ e0 with key := key, val := val }, List.mem_iff_getElem.2 ⟨j, by simpa using hi, by simp⟩, ?_, ?_⟩
      · rw [← ex, this]
      · rw [← ex, this]; exact h3
    · exact ⟨x0, List.mem_iff_getElem.2 ⟨i, by simpa using hi, by rw [List.getElem_set, if_neg e]; exact ex⟩, rfl, rfl⟩
   have keyEq : ∀ x0 ∈ es.toList, ∀ x ∈ es'.toList, x0.key = x.key → (rg P k R x0).1 = (rg P k R x).1 := by
    intro x0 hx0 x hx e
    obtain ⟨y0, hy0⟩ := F.reads x0 hx0
    obtain ⟨y, hy⟩ := F'.reads x hx
    rw [WideElems.rg_of hy0, WideElems.rg_of hy]
    have m0 := WideElems.rd_key hy0
    have m1 := WideElems.rd_key hy
    rw [e, m1] at m0
    exact (Option.some.inj m0).symm
   refine ⟨_, hrun, ⟨es', clock', since, seen, c0, heap_setBlock_same hb _, F', ?_, by rw [DataW.put_eq, hput], (heap_setBlock_other hb _ hne).trans hr, ?_, ?_, ?_, ?_, hsc, hsk⟩, ⟨rfl, rfl, rfl, by simp [setBlock], fun i _ hi => heap_setBlock_other hb _ (fun e => hi (by rw [e]))⟩, by simp [setBlock]⟩
   · have : es'.size = es.size := by rw [ho1]; simp
     omega
   · intro x hx
     obtain ⟨x0, hx0, e1, _⟩ := who x hx
     rw [← e1]
     exact hold x0 hx0
   · have e1 : ∀ a : Array MapEntry, (leftOf a seen).size = ((a.toList.map (·.born)).filter fun q => !seen.contains q).length := fun a => by
      unfold leftOf
      rw [← Array.length_toList, Array.toList_filter, List.filter_map, List.length_map]
      rfl
     rw [e1, hborn, ← e1]
     exact hc
   · intro x hx
     obtain ⟨x0, hx0, e1, e2⟩ := who x hx
     rw [← keyEq x0 hx0 x hx e2, ← e1]
     exact hl1 x0 hx0
   · intro kl' hkl
     obtain ⟨x0, hx0, e⟩ := hl2 kl' hkl
     obtain ⟨x, hx, e1, e2⟩ := back x0 hx0
     exact ⟨x, hx, by rw [← keyEq x0 hx0 x hx e2]; exact e⟩
end
end Go

namespace Go.Proofs.Ytlffhagjpfcecaa.PA
open Go.RowKit Go.Maps Go.Shelf Go.Sort Go.Proofs.YtlffhagjpfcecaaW.PrintWords Go.Proofs.YtlffhagjpfcecaaW.PrintLast Go.Proofs.YtlffhagjpfcecaaW.PrintMore
set_option linter.unusedVariables false
set_option linter.unusedSimpArgs false
def rollM (s : TS) : TS := { s with st := 2, ms := unr s.sl }
theorem rollM_ok {s : TS} (h : TOk s) : TOk (rollM s) where
 p0 := h.p0
 p1 := h.p1
 b0 := h.b0
 b1 := h.b1
 e0 := h.e0
 e1 := h.e1
 be := h.be
 s0 := show (0 : Int) ≤ 2 by decide
 s1 := show (2 : Int) ≤ 2 by decide
 wt0 := h.wt0
 wt1 := h.wt1
 asc := h.asc
 key := h.key
 ll := h.ll
 ml := Nat.le_trans (unr_len _) h.ll
 al := h.al
 aok := h.aok
theorem other_set {W : World} {p j : Nat} {u : Value} {k : Nat} (h : k ≠ p) : (W.setCell ⟨p, j, none⟩ u).heap[k]? = W.heap[k]? := Below.heap_setCell W ⟨p, j, none⟩ u k h
set_option maxRecDepth 100000 in
theorem roll_calls {W : World} {S C : Nat → Prop} {p : Nat} {s : TS} {m : Nat} {vm va : Value} {fs : List Value} (h : TAtW W S C p s m vm va fs) :
 Calls Try.prog 66 #[.pointer (some ⟨p, 0, none⟩)] W fun e w' => e = .returned (.tuple #[]) ∧ ∃ vm', TAtW w' (Sx W S) C p (rollM s) m vm' va fs ∧ Step W w' S := by
 have H := Aside0.mk h
 clear h
 go_enter Try.func66, Try.ntmps66
 go_wp2_with (fail)
 refine (unready_calls H.out).mono ?_
 rintro e w1 ⟨v, rfl, hrow, hb⟩
 obtain ⟨A, c, rfl⟩ := own_sl hrow
 have hB := H.out.B.below_ hb
 have hc2 : w1.cell? ⟨p, 2, none⟩ = some (.int .i64 s.st) := hB.cell 2 rfl
 have hc8 : w1.cell? ⟨p, 8, none⟩ = some vm := hB.cell 8 rfl
 have hf2 := hB.frozen 2
 have hf8 := hB.frozen 8
 have HB := Aside0.mk hB
 have HR := Aside0.mk hrow
 have HBe := Aside0.mk hb
 clear hB hrow hb
 go_wp2
 go_end0
 obtain ⟨v, hv⟩ : ∃ v, Value.slice A (unr s.sl).length c = v := ⟨_, rfl⟩
 rw [hv] at HR ⊢
 have hB2 : Blk ((w1.setCell ⟨p, 2, none⟩ (.int .i64 2)).setCell ⟨p, 8, none⟩ v) p (tcells (rollM s) m v va) 73 := (HB.out.set 2 _).set 8 _
 have hk : ∀ k, k ≠ p → ((w1.setCell ⟨p, 2, none⟩ (.int .i64 2)).setCell ⟨p, 8, none⟩ v).heap[k]? = w1.heap[k]? := fun k hk => (other_set hk).trans (other_set hk)
 have hnp : ∀ k, v.ownBlock = some k → k ≠ p := fun k hk => by
  have h1 := (HR.out.lt k hk).1
  have h2 := H.out.B.lt
  omega
 refine ⟨rfl, v, H.out.cells hB2 (fun k hk1 hk2 => (hk k hk2).trans (HBe.out.block k hk1)) (Nat.le_trans HBe.out.size (by simp)) rfl (row_same (row_base HR.out (Nat.zero_le _)) (fun k e => hk k (hnp k e))) (fun k e => .inr (HR.out.lt k e).1) rfl (rollM_ok H.out.ok), ?_⟩
 exact ((Step.of_below HBe.out S).trans (Step.set _ _ _ (show S p from H.out.sp)) (fun _ => .inl)).trans (Step.set _ _ _ (show S p from H.out.sp)) (fun _ => .inl)
def falses (sl : SL) : SL := sl.map fun q => (q.1, false)
def leftS (left : Lit → Bool) (sl : SL) : SL := sl.map fun q => (q.1, left (.int .i64 q.1) && q.2)
theorem insF_lt {k : Int} {x : Bool} {sl : SL} (h : ∀ q ∈ sl, k < q.1) : insF k x sl = (k, x) :: sl := by
 cases sl with
 | nil => rfl
 | cons q r => unfold insF; rw [if_pos (h q (by simp))]
theorem putS_at {sl : SL} (h : AscS sl) {k : Int} {x : Bool} (hk : hasS k sl = true) : putS k x sl = sl.map fun q => if q.1 = k then (k, x) else q := by
 unfold putS delS
 induction sl with
 | nil => simp [hasS] at hk
 | cons q r ih =>
  have h2 := List.pairwise_cons.1 h
  by_cases hq : q.1 = k
  · have hr : ∀ y ∈ r, k < y.1 := fun y hy => by have := h2.1 y hy; omega
    rw [List.filter_cons, if_neg (by simp [hq]), List.filter_eq_self.2 (fun y hy => by have := hr y hy; simp; omega), insF_lt hr, List.map_cons, if_pos hq]
    congr 1
    rw [List.map_congr_left (g := id)]
    · simp
    · intro y hy
      have := hr y hy
      rw [if_neg (by omega)]
      rfl
  · have hk2 : hasS k r = true := by
     unfold hasS at hk ⊢
     rw [List.any_cons] at hk
     simpa [hq] using hk
    have hlt : q.1 < k := by
     unfold hasS at hk2
     obtain ⟨y, hy, e⟩ := List.any_eq_true.1 hk2
     have := h2.1 y hy
     simp at e
     omega
    rw [List.filter_cons, if_pos (by simp [hq])]
    unfold insF
    rw [if_neg (by omega), ih h2.2 hk2, List.map_cons, if_neg hq]
theorem hasS_left (k : Int) (left : Lit → Bool) (sl : SL) : hasS k (leftS left sl) = hasS k sl := by
 unfold hasS leftS
 rw [List.any_map]
 rfl
theorem asc_left {sl : SL} (h : AscS sl) (left : Lit → Bool) : AscS (leftS left sl) := by
 unfold AscS leftS at *
 rw [List.pairwise_map]
 exact h
theorem put_left {sl : SL} (h : AscS sl) {k : Int} (hk : hasS k sl = true) (left : Lit → Bool) : putS k false (leftS left sl) = leftS (fun z => left z && !z.sameKey (.int .i64 k)) sl := by
 rw [putS_at (asc_left h left) (by rw [hasS_left]; exact hk)]
 unfold leftS
 rw [List.map_map]
 apply List.map_congr_left
 intro q _
 simp only [Function.comp, Lit.sameKey]
 by_cases e : q.1 = k
 · simp [e]
 · simp [e]
theorem left_all {sl : SL} : leftS (has (mapD sl)) sl = sl := by
 unfold leftS
 rw [List.map_congr_left (g := id)]
 · simp
 · intro q hq
   rw [has_ent]
   have : hasS q.1 sl = true := List.any_eq_true.2 ⟨q, hq, by simp⟩
   rw [this]
   rfl
theorem left_none {sl : SL} {left : Lit → Bool} (h : ∀ kl, left kl = false) : leftS left sl = falses sl := by
 unfold leftS falses
 apply List.map_congr_left
 intro q _
 rw [h]
 rfl
theorem falses_asc {sl : SL} (h : AscS sl) : AscS (falses sl) := by
 unfold AscS falses at *
 rw [List.pairwise_map]
 exact h
def beginM (s : TS) : TS := if s.sl = [] then rollM { s with sl := falses s.sl, wd := 0 } else { s with sl := falses s.sl, wd := 0, st := 1 }
theorem false_ok {s : TS} (h : TOk s) : TOk { s with sl := falses s.sl } where
 p0 := h.p0
 p1 := h.p1
 b0 := h.b0
 b1 := h.b1
 e0 := h.e0
 e1 := h.e1
 be := h.be
 s0 := h.s0
 s1 := h.s1
 wt0 := h.wt0
 wt1 := h.wt1
 asc := falses_asc h.asc
 key := fun q hq => by
  obtain ⟨x, hx, rfl⟩ := List.mem_map.1 hq
  exact h.key x hx
 ll := by simp [falses]; exact h.ll
 ml := h.ml
 al := h.al
 aok := h.aok
theorem wd_ok {s : TS} (h : TOk s) (x : Int) : TOk { s with wd := x } := ⟨h.p0, h.p1, h.b0, h.b1, h.e0, h.e1, h.be, h.s0, h.s1, h.wt0, h.wt1, h.asc, h.key, h.ll, h.ml, h.al, h.aok⟩
theorem st_ok {s : TS} (h : TOk s) {x : Int} (h0 : 0 ≤ x) (h1 : x ≤ 2) : TOk { s with st := x } := ⟨h.p0, h.p1, h.b0, h.b1, h.e0, h.e1, h.be, h0, h1, h.wt0, h.wt1, h.asc, h.key, h.ll, h.ml, h.al, h.aok⟩
def BgR (W : World) (m r : Nat) (sl : SL) (wr : World) : Prop :=
 ∃ left cnt, wr.ranges Try.prog 3 (plainElem Try.prog 4) m r sl.length (mapD (leftS left sl)) left cnt ∧ (∀ k, k < W.heap.size → k ≠ m → wr.heap[k]? = W.heap[k]?) ∧ W.heap.size < wr.heap.size ∧ wr.os = W.os ∧ wr.tape = W.tape ∧ wr.output = W.output
theorem inv4 : ∀ (v : Value) (y : DataW Unit × List MemPlace), plainElem Try.prog 4 v = some y → ∃ c : Bool, v = .bool c := fun v y h => by
 obtain ⟨b, e, _⟩ := bool4_inv h
 exact ⟨b, e⟩
set_option maxRecDepth 100000 in
set_option maxHeartbeats 2000000 in
theorem begin_loop {W : World} {S C : Nat → Prop} {p : Nat} {s : TS} {m : Nat} {vm va : Value} {fs : List Value} (h : TAtW W S C p s m vm va fs) :
 Calls Try.prog 41 #[.pointer (some ⟨p, 0, none⟩)] W fun e w' => e = .returned (.tuple #[]) ∧ ∃ vm', TAtW w' (Sx W S) C p (beginM s) m vm' va fs ∧ Step W w' S := by
 have H := Aside0.mk h
 have hc7 := h.B.cell 7 (v := .map (some m)) rfl
 have hM := Aside0.mk h.M
 clear h
 go_enter Try.func41, Try.ntmps41
 go_wp2_with (at_range; refine wpList_range_own _ rfl (.tmp 6) 68 rfl 3 4 K3 Try.underlying68 (plainElem Try.prog 4) m s.sl.length (mapD s.sl) rfl hM.out ?_; intro w1 hr1 hg1 hz1)
 have hst : BgR W m W.heap.size s.sl w1 := by
  refine ⟨has (mapD s.sl), size (mapD s.sl), ?_, fun k hk1 _ => hg1.block k hk1 (by simp), by omega, hg1.os, hg1.tape, hg1.output⟩
  rw [left_all]
  exact hr1
 clear hr1 hg1 hz1
 go_frame
 go_loopw [] (BgR W m W.heap.size s.sl) (fun wr => wr.rangeLeft m W.heap.size)
 case atStart => exact hst
 case round =>
  clear hst
  obtain ⟨left, cnt, hr, hk, hz, ho1, ho2, ho3⟩ := hrel
  have hleq := hr.left_eq
  have HK := Aside0.mk (⟨hk, hz, ho1, ho2, ho3⟩ : (∀ k, k < W.heap.size → k ≠ m → wr.heap[k]? = W.heap[k]?) ∧ W.heap.size < wr.heap.size ∧ wr.os = W.os ∧ wr.tape = W.tape ∧ wr.output = W.output)
  have HL := Aside0.mk hleq
  clear hk hz ho1 ho2 ho3 hleq hc7
  rcases hr.next K3 0 with ⟨h0, hl, hrun⟩ | ⟨key, v, kl, y, w2, cnt2, hkey, hlk, hv, hat, hrun, hrg, hlt, hgr, hsz, hen⟩
  ·
   have hmap : MapAt wr m (falses s.sl) := by
    have := hr.owns
    rw [left_none hl] at this
    exact tight this
   have HT := Aside0.mk (H.out.map hmap HK.out.1 (Nat.le_of_lt HK.out.2.1) (false_ok H.out.ok))
   have HST := Aside0.mk (show Step W wr S from ⟨HK.out.2.2.1, HK.out.2.2.2.1, HK.out.2.2.2.2, Nat.le_of_lt HK.out.2.1, fun k hk1 hk2 => HK.out.1 k hk1 (fun e => hk2 (e ▸ H.out.sm))⟩)
   have hc5 : wr.cell? ⟨p, 5, none⟩ = some (.int .i64 s.wd) := HT.out.B.cell 5 rfl
   have hf5 := HT.out.B.frozen 5
   have hB5 : Blk (wr.setCell ⟨p, 5, none⟩ (.int .i64 0)) p (tcells { s with sl := falses s.sl, wd := 0 } m vm va) 73 := HT.out.B.set 5 _
   have HT5 := Aside0.mk (HT.out.cells0 (s' := { s with sl := falses s.sl, wd := 0 }) hB5 (fun k _ hk => other_set hk) (by simp) rfl rfl rfl (wd_ok (false_ok H.out.ok) 0))
   have hc7 : (wr.setCell ⟨p, 5, none⟩ (.int .i64 0)).cell? ⟨p, 7, none⟩ = some (.map (some m)) := hB5.cell 7 rfl
   have hlen := HT5.out.M.len_run 3
   have hfl : (falses s.sl).length = s.sl.length := by simp [falses]
   rw [show ({ s with sl := falses s.sl, wd := 0 } : TS).sl = falses s.sl from rfl, hfl] at hlen
   have HS5 := Aside0.mk (HST.out.trans (Step.set wr ⟨p, 5, none⟩ (.int .i64 0) (show S p from H.out.sp)) (fun _ => .inl))
   clear hr hl h0 hmap HL hfl hB5
   by_cases hnil : s.sl = []
   · have hz0 : ((s.sl.length : Int) == 0) = true := by rw [hnil]; rfl
     have HN := Aside0.mk hnil
     clear hnil
     go_wp2_with (fail)
     refine (roll_calls HT5.out).mono ?_
     rintro e w6 ⟨rfl, vm', hT6, hS6⟩
     have HT6 := Aside0.mk hT6
     have HS6 := Aside0.mk hS6
     clear hT6 hS6
     go_wp2
     refine bodyPost_ret (v := .tuple #[]) (by simp [results, Try.results41]) rfl ?_
     refine ⟨rfl, vm', ?_, HS5.out.trans HS6.out (fun _ => .inl)⟩
     have e : beginM s = rollM { s with sl := falses s.sl, wd := 0 } := by unfold beginM; rw [if_pos HN.out]
     rw [e]
     refine HT6.out.more (fun k hk => hk.elim .inl (fun hh => .inr ?_)) (fun k hc hs => hs.elim (H.out.dj k hc) (fun hh => by have := H.out.cl k hc; omega))
     have := HS5.out.kept.1
     omega
   · have hz0 : ((s.sl.length : Int) == 0) = false := by
      rw [beq_eq_false_iff_ne]
      have := List.length_pos_iff.2 hnil
      omega
     have HN := Aside0.mk hnil
     clear hnil
     have hc2 : wr.cell? ⟨p, 2, none⟩ = some (.int .i64 s.st) := HT.out.B.cell 2 rfl
     have hf2 : wr.frozen? ⟨p, 2, none⟩ = false := HT.out.B.frozen 2
     go_wp2
     go_end0
     have hB6 : Blk ((wr.setCell ⟨p, 5, none⟩ (.int .i64 0)).setCell ⟨p, 2, none⟩ (.int .i64 1)) p (tcells { s with sl := falses s.sl, wd := 0, st := 1 } m vm va) 73 := HT5.out.B.set 2 _
     have hT6 := HT5.out.cells0 (s' := { s with sl := falses s.sl, wd := 0, st := 1 }) hB6 (fun k _ hk => other_set hk) (by simp) rfl rfl rfl (st_ok (wd_ok (false_ok H.out.ok) 0) (by decide) (by decide))
     have e : beginM s = { s with sl := falses s.sl, wd := 0, st := 1 } := by unfold beginM; rw [if_neg HN.out]
     rw [e]
     refine ⟨rfl, vm, hT6.more (fun k hk => .inl hk) (fun k hc hs => hs.elim (H.out.dj k hc) (fun hh => by have := H.out.cl k hc; omega)), HS5.out.trans (Step.set _ _ _ (show S p from H.out.sp)) (fun _ => .inl)⟩
  ·
   obtain ⟨x, rfl, rfl, hwf⟩ := Maps.keyOf_int_inv (q := .i64) Try.underlying3 hkey
   obtain ⟨cb, rfl⟩ := inv4 v y hv
   have hhas : has (mapD (leftS left s.sl)) (.int .i64 x) = true := Maps.has_true_of_atKey hat
   have hhs : hasS x s.sl = true := by rw [has_ent, hasS_left] at hhas; exact hhas
   obtain ⟨w3, hrun3, hrg3, hgr3, hsz3⟩ := ranges_put (e := 4) (val := .bool false) (d := .lit (.bool false)) (ps := []) hrg K3 Try.underlying68 (by have := H.out.ok.ll; unfold maxLen; omega) hkey (plainElem_bool Try.underlying4 false) hhas
   rw [put_ent, put_left H.out.ok.asc hhs] at hrg3
   have hmr : m ≠ W.heap.size := by have := H.out.M.lt; omega
   have hstep : BgR W m W.heap.size s.sl w3 := by
    obtain ⟨k1, k2, k3, k4, k5⟩ := HK.out
    refine ⟨_, _, hrg3, fun k hk1 hk2 => ?_, ?_, ?_, ?_, ?_⟩
    · have e1 := hgr3.block k (by rw [hsz]; omega) (by intro e; cases e; exact hk2 rfl)
      have e2 := hgr.block k (by omega) (by intro e; cases e; omega)
      exact e1.trans (e2.trans (k1 k hk1 hk2))
    · rw [hsz3, hsz]; exact k2
    · exact hgr3.os.trans (hgr.os.trans k3)
    · exact hgr3.tape.trans (hgr.tape.trans k4)
    · exact hgr3.output.trans (hgr.output.trans k5)
   have hdec : w3.rangeLeft m W.heap.size < wr.rangeLeft m W.heap.size := by rw [hrg3.left_eq, HL.out]; exact hlt
   have hc7 : w2.cell? ⟨p, 7, none⟩ = some (.map (some m)) := by
    have hpl := H.out.B.lt
    have e2 := hgr.block p (by have := HK.out.2.1; omega) (by intro e; cases e; omega)
    exact (H.out.B.same (e2.trans (HK.out.1 p hpl (fun e => H.out.pm e.symm)))).cell 7 rfl
   have HS := Aside0.mk hstep
   have HD := Aside0.mk hdec
   clear hr hkey hlk hv hat hrg hlt hgr hsz hwf hhas hhs hrg3 hgr3 hsz3 hstep hdec hmr
   go_wp2
   exact ⟨HS.out, HD.out⟩
end Go.Proofs.Ytlffhagjpfcecaa.PA

namespace Go.Proofs.Ytlffhagjpfcecaa.PA
open Go.RowKit Go.Maps Go.Shelf Go.Sort Go.Proofs.YtlffhagjpfcecaaW.PrintWords Go.Proofs.YtlffhagjpfcecaaW.PrintLast Go.Proofs.YtlffhagjpfcecaaW.PrintMore
set_option linter.unusedVariables false
set_option linter.unusedSimpArgs false
def doAsk (a : Ask) (s : TS) : TS :=
 match a with
 | .start => if s.st = 0 then beginM s else s
 | .stop => { s with st := 0 }
 | .seek p => if s.st ≠ 0 ∧ s.sl ≠ [] then beginM { s with ps := p } else { s with ps := p }
 | .loop b e => { s with bg := b, en := e }
 | .wheel on => { s with fr := on }
theorem ps_ok {s : TS} (h : TOk s) {x : Int} (h0 : 0 ≤ x) (h1 : x ≤ 1000000000) : TOk { s with ps := x } := ⟨h0, h1, h.b0, h.b1, h.e0, h.e1, h.be, h.s0, h.s1, h.wt0, h.wt1, h.asc, h.key, h.ll, h.ml, h.al, h.aok⟩
theorem fr_ok {s : TS} (h : TOk s) (x : Bool) : TOk { s with fr := x } := ⟨h.p0, h.p1, h.b0, h.b1, h.e0, h.e1, h.be, h.s0, h.s1, h.wt0, h.wt1, h.asc, h.key, h.ll, h.ml, h.al, h.aok⟩
theorem cy_ok {s : TS} (h : TOk s) (x : Int) : TOk { s with cy := x } := ⟨h.p0, h.p1, h.b0, h.b1, h.e0, h.e1, h.be, h.s0, h.s1, h.wt0, h.wt1, h.asc, h.key, h.ll, h.ml, h.al, h.aok⟩
theorem loop_ok {s : TS} (h : TOk s) {b e : Int} (hb : askOk (.loop b e)) : TOk { s with bg := b, en := e } := ⟨h.p0, h.p1, hb.1, hb.2.1, hb.2.2.1, hb.2.2.2.1, hb.2.2.2.2, h.s0, h.s1, h.wt0, h.wt1, h.asc, h.key, h.ll, h.ml, h.al, h.aok⟩
def Own1 (W : World) (S C : Nat → Prop) (p : Nat) (s : TS) (m : Nat) (va : Value) (fs : List Value) (e : Ending) (w' : World) : Prop :=
 e = .returned (.tuple #[]) ∧ ∃ vm', TAtW w' (Sx W S) C p s m vm' va fs ∧ Step W w' S
section
variable {W W1 : World} {S C : Nat → Prop} {p : Nat} {s s' : TS} {m : Nat} {vm va : Value} {fs : List Value}
theorem TAtW.sx (h : TAtW W S C p s m vm va fs) : TAtW W (Sx W S) C p s m vm va fs := h.more (fun k => .inl) (fun k hc hs => hs.elim (h.dj k hc) (fun hh => by have := h.cl k hc; omega))
theorem TAtW.sub {wr : World} (h : TAtW W1 (Sx wr (Sx W S)) C p s m vm va fs) (hz : W.heap.size ≤ wr.heap.size) (hdj : ∀ k, C k → ¬ Sx W S k) : TAtW W1 (Sx W S) C p s m vm va fs := by
 refine h.more (fun k hk => ?_) hdj
 rcases hk with hk | hk
 · exact hk
 · exact .inr (Nat.le_trans hz hk)
theorem TAtW.cdj (h : TAtW W S C p s m vm va fs) : ∀ k, C k → ¬ Sx W S k := fun k hc hs => hs.elim (h.dj k hc) (fun hh => by have := h.cl k hc; omega)
theorem TAtW.set (h : TAtW W S C p s m vm va fs) (j : Nat) (u : Value) (hc : (tcells s m vm va).setIfInBounds j u = tcells s' m vm va) (e1 : s'.sl = s.sl) (e2 : s'.ms = s.ms) (e3 : s'.aq = s.aq) (hok : TOk s') :
 TAtW (W.setCell ⟨p, j, none⟩ u) S C p s' m vm va fs :=
 h.cells0 (by rw [← hc]; exact h.B.set j u) (fun k _ hk => other_set hk) (by simp) e1 e2 e3 hok
theorem TAtW.stp (h : TAtW W S C p s m vm va fs) (j : Nat) (u : Value) : Step W (W.setCell ⟨p, j, none⟩ u) S := Step.set W ⟨p, j, none⟩ u (show S p from h.sp)
end
set_option maxRecDepth 100000 in
theorem start1_calls {W : World} {S C : Nat → Prop} {p : Nat} {s : TS} {m : Nat} {vm va : Value} {fs : List Value} (h : TAtW W S C p s m vm va fs) :
 Calls Try.prog 44 #[.pointer (some ⟨p, 0, none⟩)] W fun e w' => Own1 W S C p (doAsk .start s) m va fs e w' := by
 have H := Aside0.mk h
 have hc2 : W.cell? ⟨p, 2, none⟩ = some (.int .i64 s.st) := h.B.cell 2 rfl
 clear h
 by_cases hs : s.st = 0
 · have ht : (s.st == 0) = true := by rw [beq_iff_eq]; exact hs
   have e : doAsk .start s = beginM s := by unfold doAsk; simp [hs]
   rw [e]
   clear e hs
   go_enter Try.func44, Try.ntmps44
   go_wp2_with (fail)
   refine (begin_loop H.out).mono ?_
   rintro e w1 ⟨rfl, vm', hT, hS⟩
   have HT := Aside0.mk hT
   have HS := Aside0.mk hS
   clear hT hS hc2
   go_wp2
   go_end0
   exact ⟨rfl, vm', HT.out, HS.out⟩
 · have ht : (s.st == 0) = false := by rw [beq_eq_false_iff_ne]; exact hs
   have e : doAsk .start s = s := by unfold doAsk; simp [hs]
   rw [e]
   clear e hs
   go_enter Try.func44, Try.ntmps44
   go_wp2
   go_end0
   exact ⟨rfl, vm, H.out.sx, Step.refl _ _⟩
set_option maxRecDepth 100000 in
theorem stop1_calls {W : World} {S C : Nat → Prop} {p : Nat} {s : TS} {m : Nat} {vm va : Value} {fs : List Value} (h : TAtW W S C p s m vm va fs) :
 Calls Try.prog 48 #[.pointer (some ⟨p, 0, none⟩)] W fun e w' => Own1 W S C p (doAsk .stop s) m va fs e w' := by
 have H := Aside0.mk h
 have hc2 : W.cell? ⟨p, 2, none⟩ = some (.int .i64 s.st) := h.B.cell 2 rfl
 have hf2 := h.B.frozen 2
 clear h
 go_enter Try.func48, Try.ntmps48
 go_wp2
 go_end0
 have hT := H.out.set (s' := { s with st := 0 }) 2 (.int .i64 0) rfl rfl rfl rfl (st_ok H.out.ok (by decide) (by decide))
 exact ⟨rfl, vm, hT.more (fun k => .inl) H.out.cdj, H.out.stp 2 _⟩
set_option maxRecDepth 100000 in
theorem wheel1_calls {W : World} {S C : Nat → Prop} {p : Nat} {s : TS} {m : Nat} {vm va : Value} {fs : List Value} (h : TAtW W S C p s m vm va fs) (b : Nat) (on : Bool) (hb : Boxed W b 4 (.bool on)) :
 Calls Try.prog 49 #[.pointer (some ⟨p, 0, none⟩), .pointer (some ⟨b, 0, none⟩)] W fun e w' => Own1 W S C p (doAsk (.wheel on) s) m va fs e w' := by
 have H := Aside0.mk h
 have hc6 : W.cell? ⟨p, 6, none⟩ = some (.bool s.fr) := h.B.cell 6 rfl
 have hf6 := h.B.frozen 6
 have hcb := hb.cell
 clear h hb
 go_enter Try.func49, Try.ntmps49
 go_wp2
 go_end0
 have hT := H.out.set (s' := { s with fr := on }) 6 (.bool on) rfl rfl rfl rfl (fr_ok H.out.ok on)
 exact ⟨rfl, vm, hT.more (fun k => .inl) H.out.cdj, H.out.stp 6 _⟩
set_option maxRecDepth 100000 in
theorem loop1_calls {W : World} {S C : Nat → Prop} {p : Nat} {s : TS} {m : Nat} {vm va : Value} {fs : List Value} (h : TAtW W S C p s m vm va fs) (b1 b2 : Nat) (x y : Int) (hb1 : Boxed W b1 3 (.int .i64 x)) (hb2 : Boxed W b2 3 (.int .i64 y)) (hok : askOk (.loop x y)) :
 Calls Try.prog 43 #[.pointer (some ⟨p, 0, none⟩), .pointer (some ⟨b1, 0, none⟩), .pointer (some ⟨b2, 0, none⟩)] W fun e w' => Own1 W S C p (doAsk (.loop x y) s) m va fs e w' := by
 have H := Aside0.mk h
 have hc0 : W.cell? ⟨p, 0, none⟩ = some (.int .i64 s.bg) := h.B.cell 0 rfl
 have hc1 : W.cell? ⟨p, 1, none⟩ = some (.int .i64 s.en) := h.B.cell 1 rfl
 have hf0 := h.B.frozen 0
 have hf1 := h.B.frozen 1
 have hcb1 := hb1.cell
 have hcb2 := hb2.cell
 clear h hb1 hb2
 go_enter Try.func43, Try.ntmps43
 go_wp2
 go_end0
 have hB : Blk ((W.setCell ⟨p, 0, none⟩ (.int .i64 x)).setCell ⟨p, 1, none⟩ (.int .i64 y)) p (tcells { s with bg := x, en := y } m vm va) 73 := (H.out.B.set 0 _).set 1 _
 have hT := H.out.cells0 (s' := { s with bg := x, en := y }) hB (fun k _ hk => (other_set hk).trans (other_set hk)) (by simp) rfl rfl rfl (loop_ok H.out.ok hok)
 exact ⟨rfl, vm, hT.more (fun k => .inl) H.out.cdj, (H.out.stp 0 _).trans (Step.set _ ⟨p, 1, none⟩ _ (show S p from H.out.sp)) (fun _ => .inl)⟩
set_option maxRecDepth 100000 in
theorem seek1_calls {W : World} {S C : Nat → Prop} {p : Nat} {s : TS} {m : Nat} {vm va : Value} {fs : List Value} (h : TAtW W S C p s m vm va fs) (b : Nat) (x : Int) (hb : Boxed W b 3 (.int .i64 x)) (hok : askOk (.seek x)) :
 Calls Try.prog 40 #[.pointer (some ⟨p, 0, none⟩), .pointer (some ⟨b, 0, none⟩)] W fun e w' => Own1 W S C p (doAsk (.seek x) s) m va fs e w' := by
 have H := Aside0.mk h
 have hc3 : W.cell? ⟨p, 3, none⟩ = some (.int .i64 s.ps) := h.B.cell 3 rfl
 have hf3 := h.B.frozen 3
 have hc2 : W.cell? ⟨p, 2, none⟩ = some (.int .i64 s.st) := h.B.cell 2 rfl
 have hc7 : W.cell? ⟨p, 7, none⟩ = some (.map (some m)) := h.B.cell 7 rfl
 have hcb := hb.cell
 have HT := Aside0.mk (h.set (s' := { s with ps := x }) 3 (.int .i64 x) rfl rfl rfl rfl (ps_ok h.ok hok.1 hok.2))
 have hlen := HT.out.M.len_run 3
 have HS := Aside0.mk (h.stp 3 (.int .i64 x))
 clear h hb
 by_cases hs : s.st = 0
 · have ht : (s.st != 0) = false := by rw [bne_eq_false_iff_eq]; exact hs
   have e : doAsk (.seek x) s = { s with ps := x } := by unfold doAsk; simp [hs]
   rw [e]
   clear e hs
   go_enter Try.func40, Try.ntmps40
   go_wp2
   go_end0
   exact ⟨rfl, vm, HT.out.more (fun k => .inl) H.out.cdj, HS.out⟩
 · have ht : (s.st != 0) = true := by rw [bne_iff_ne]; exact hs
   by_cases hn : s.sl = []
   · have hl0 : decide (0 < (s.sl.length : Int)) = false := by rw [hn]; rfl
     have hl1 : decide (0 < s.sl.length) = false := by rw [hn]; rfl
     have e : doAsk (.seek x) s = { s with ps := x } := by unfold doAsk; simp [hn]
     rw [e]
     clear e hs hn
     go_enter Try.func40, Try.ntmps40
     go_wp2
     go_end0
     exact ⟨rfl, vm, HT.out.more (fun k => .inl) H.out.cdj, HS.out⟩
   · have hp : 0 < s.sl.length := List.length_pos_iff.2 hn
     have hl0 : decide (0 < (s.sl.length : Int)) = true := decide_eq_true (by omega)
     have hl1 : decide (0 < s.sl.length) = true := decide_eq_true hp
     have e : doAsk (.seek x) s = beginM { s with ps := x } := by unfold doAsk; simp [hs, hn]
     rw [e]
     clear e hs hn
     go_enter Try.func40, Try.ntmps40
     go_wp2_with (fail)
     refine (begin_loop HT.out).mono ?_
     rintro e w1 ⟨rfl, vm', hT, hS⟩
     have HT2 := Aside0.mk hT
     have HS2 := Aside0.mk hS
     clear hT hS hc2 hlen hc7 hc3
     go_wp2
     go_end0
     have hsz : (W.setCell ⟨p, 3, none⟩ (.int .i64 x)).heap.size = W.heap.size := by simp
     refine ⟨rfl, vm', HT2.out.more (fun k hk => ?_) H.out.cdj, HS.out.trans HS2.out (fun _ => .inl)⟩
     rcases hk with hk | hk
     · exact .inl hk
     · exact .inr (by omega)
end Go.Proofs.Ytlffhagjpfcecaa.PA

namespace Go.Proofs.Ytlffhagjpfcecaa.PA
open Go.RowKit Go.Maps Go.Shelf Go.Sort Go.Proofs.YtlffhagjpfcecaaW.PrintWords Go.Proofs.YtlffhagjpfcecaaW.PrintLast Go.Proofs.YtlffhagjpfcecaaW.PrintMore
set_option linter.unusedVariables false
set_option linter.unusedSimpArgs false
def fl39 (l : List S39) : List Value := l.flatMap fun x => [.int .i64 x.f0, .int .i64 x.f1, .bool x.f2]
def stillL (s : TS) (fr : Int) : List S39 := if fr = 0 then [] else [⟨s.ps, fr, false⟩]
def rollL (s : TS) (fr : Int) : List S39 := (partsL s.bg s.en fr.toNat s.ps fr).map mkS
def rollE (s : TS) (fr : Int) : Int := endP s.bg s.en fr.toNat s.ps fr
def rollOk (s : TS) (fr : Int) : Prop := (partsL s.bg s.en fr.toNat s.ps fr).length ≤ 100 ∧ rollE s fr ≤ 1000000000
instance (s : TS) (fr : Int) : Decidable (rollOk s fr) := by unfold rollOk; exact inferInstance
theorem fl39_map (l : List (Int × Int)) : fl39 (l.map mkS) = flatS l := by
 unfold fl39 flatS
 rw [List.flatMap_map]
 rfl
theorem endP_nonneg (b e : Int) (hb : 0 ≤ b) : ∀ (k : Nat) (p fr : Int), 0 ≤ p → 0 ≤ endP b e k p fr
 | 0, p, fr, hp => hp
 | k + 1, p, fr, hp => by
  unfold endP
  split
  · rename_i hf
    have := cntN_pos (e := e) (p := p) hf
    refine endP_nonneg b e hb k _ _ ?_
    unfold nxtP
    split <;> omega
  · exact hp
abbrev f74 : Value := .func (.func 74) #[] #[]
abbrev f75 : Value := .func (.func 75) #[] #[]
set_option maxRecDepth 100000 in
theorem states_calls (W : World) : Calls Try.prog 68 #[] W fun e w' => e = .returned (.slice (some ⟨W.heap.size, 0, none⟩) 3 3) ∧ w' = W.alloc (.cells #[f74, f74, f75] 93) := by
 go_enter Try.func68, Try.ntmps68
 go_wp2
 go_ret
 exact ⟨rfl, rfl⟩
def Gives (W : World) (l : List S39) (at_ : Int) (e : Ending) (w' : World) : Prop :=
 ∃ v : Value, e = .returned (.tuple #[v, .int .i64 at_]) ∧ w'.ownsRow W.heap.size 39 3 v l.length (fl39 l) ∧ Below W.heap.size W w'
set_option maxRecDepth 100000 in
theorem still_calls {W : World} {S C : Nat → Prop} {p : Nat} {s : TS} {m : Nat} {vm va : Value} {fs : List Value} (h : TAtW W S C p s m vm va fs) (fr : Int) :
 Calls Try.prog 74 #[.pointer (some ⟨p, 0, none⟩), .int .i64 fr] W fun e w' => Gives W (stillL s fr) s.ps e w' := by
 have hc3 : W.cell? ⟨p, 3, none⟩ = some (.int .i64 s.ps) := h.B.cell 3 rfl
 have hpl := h.B.lt
 clear h
 by_cases hf : fr = 0
 · have ht : (fr == 0) = true := by rw [beq_iff_eq]; exact hf
   have e : stillL s fr = [] := by unfold stillL; rw [if_pos hf]
   rw [e]
   clear e hf
   go_enter Try.func74, Try.ntmps74
   go_wp2_with (fail)
   go_quiet (fail)
   go_wp2
   go_ret2
   exact ⟨_, rfl, ⟨rfl, .inl ⟨rfl, rfl⟩⟩, pw_below_drewN (Below.refl _ _) _⟩
 · have ht : (fr == 0) = false := by rw [beq_eq_false_iff_ne]; exact hf
   have e : stillL s fr = [⟨s.ps, fr, false⟩] := by unfold stillL; rw [if_neg hf]
   rw [e]
   clear e hf
   go_enter Try.func74, Try.ntmps74
   go_wp2_with (fail)
   go_region
   all_goals
    go_wp2
    go_ret2
    refine ⟨_, rfl, ?_, below_drew1 ((Below.refl _ W).alloc (Nat.le_refl _) _)⟩
    exact ⟨rfl, .inr ⟨W.heap.size, 1, _, rfl, Nat.le_refl _, World.alloc_heap_new W _, Nat.le_refl _, by decide, rfl, rfl⟩⟩
theorem bd_of {s : TS} (h : TOk s) {fr : Int} (hf0 : 0 ≤ fr) (hf1 : fr ≤ 4096) : Bd s.bg s.en s.ps fr := ⟨h.b0, h.b1, h.e0, h.e1, h.p0, by have := h.p1; omega, hf0, by omega⟩
theorem spans_ok {s : TS} (h : TOk s) {fr : Int} (hf0 : 0 ≤ fr) (hf1 : fr ≤ 4096) (hr : rollOk s fr) (W : World) :
 Calls Try.prog 65 #[.agg #[.int .i64 s.bg, .int .i64 s.en], .int .i64 s.ps, .int .i64 fr] W fun e w' => Gives W (rollL s fr) (rollE s fr) e w' := by
 refine (spans_calls s.bg s.en s.ps fr (bd_of h hf0 hf1) h.p1 W).mono ?_
 rintro e w' (⟨v, rfl, h1, h2, h3, h4⟩ | ⟨rfl, h1, h2⟩)
 · refine ⟨v, rfl, ?_, h4⟩
   unfold rollL
   rw [fl39_map, List.length_map]
   exact h3
 · exfalso
   have a1 := hr.1
   have a2 := hr.2
   unfold rollE at a2
   omega
theorem spans_no {s : TS} (h : TOk s) {fr : Int} (hf0 : 0 ≤ fr) (hf1 : fr ≤ 4096) (hr : ¬ rollOk s fr) (W : World) :
 Calls Try.prog 65 #[.agg #[.int .i64 s.bg, .int .i64 s.en], .int .i64 s.ps, .int .i64 fr] W fun e w' => e = .panicked [{ v := stopV 4, recovered := false }] ∧ Below W.heap.size W w' := by
 refine (spans_calls s.bg s.en s.ps fr (bd_of h hf0 hf1) h.p1 W).mono ?_
 rintro e w' (⟨v, rfl, h1, h2, h3, h4⟩ | ⟨rfl, h1, h2⟩)
 · exact absurd ⟨h1, h2⟩ hr
 · exact ⟨rfl, h2⟩
theorem Gives.drewN {W : World} {l : List S39} {a : Int} {e : Ending} {w' : World} {n : Nat} (h : Gives (W.drewN n) l a e w') : Gives W l a e w' := by
 obtain ⟨v, e1, h1, h2⟩ := h
 exact ⟨v, e1, h1, (pw_below_drewN (Below.refl _ W) n).trans h2⟩
set_option maxRecDepth 100000 in
theorem roll2_ok {W : World} {S C : Nat → Prop} {p : Nat} {s : TS} {m : Nat} {vm va : Value} {fs : List Value} (h : TAtW W S C p s m vm va fs) (fr : Int) (hf0 : 0 ≤ fr) (hf1 : fr ≤ 4096) (hr : rollOk s fr) :
 Calls Try.prog 75 #[.pointer (some ⟨p, 0, none⟩), .int .i64 fr] W fun e w' => Gives W (rollL s fr) (rollE s fr) e w' := by
 have hc0 : W.cell? ⟨p, 0, none⟩ = some (.int .i64 s.bg) := h.B.cell 0 rfl
 have hc1 : W.cell? ⟨p, 1, none⟩ = some (.int .i64 s.en) := h.B.cell 1 rfl
 have hc3 : W.cell? ⟨p, 3, none⟩ = some (.int .i64 s.ps) := h.B.cell 3 rfl
 have HC := fun w => Lib.hid (spans_ok h.ok hf0 hf1 hr w)
 have HR := Aside0.mk hr
 clear h hr
 go_enter Try.func75, Try.ntmps75
 go_wp2_with (fail)
 go_region_held3 (fun w' => w'.cell? ⟨p, 0, none⟩ = some (.int .i64 s.bg) ∧ w'.cell? ⟨p, 1, none⟩ = some (.int .i64 s.en) ∧ w'.cell? ⟨p, 3, none⟩ = some (.int .i64 s.ps)) (simp [go_sem, *])
  (first | (go_at_call 65; refine (HC _).out.mono ?_; rintro e w' ⟨v, rfl, hrow, hb⟩; have HRow := Aside0.mk hrow; have HBe := Aside0.mk hb; have hc0' := (hb.cell (World.block_lt_of_cell? _ _ hc0)).trans hc0; have hc1' := (hb.cell (World.block_lt_of_cell? _ _ hc1)).trans hc1; have hc3' := (hb.cell (World.block_lt_of_cell? _ _ hc3)).trans hc3; clear hrow hb hc0 hc1 hc3))
 go_wp2
 go_ret2
 first
  | exact ⟨v, rfl, HRow.out, HBe.out⟩
  | exact Gives.drewN ⟨v, rfl, HRow.out, HBe.out⟩
set_option maxRecDepth 100000 in
theorem roll2_no {W : World} {S C : Nat → Prop} {p : Nat} {s : TS} {m : Nat} {vm va : Value} {fs : List Value} (h : TAtW W S C p s m vm va fs) (fr : Int) (hf0 : 0 ≤ fr) (hf1 : fr ≤ 4096) (hr : ¬ rollOk s fr) :
 Calls Try.prog 75 #[.pointer (some ⟨p, 0, none⟩), .int .i64 fr] W fun e w' => e = .panicked [{ v := stopV 4, recovered := false }] ∧ Below W.heap.size W w' := by
 have hc0 : W.cell? ⟨p, 0, none⟩ = some (.int .i64 s.bg) := h.B.cell 0 rfl
 have hc1 : W.cell? ⟨p, 1, none⟩ = some (.int .i64 s.en) := h.B.cell 1 rfl
 have hc3 : W.cell? ⟨p, 3, none⟩ = some (.int .i64 s.ps) := h.B.cell 3 rfl
 have HC := fun w => Lib.hid (spans_no h.ok hf0 hf1 hr w)
 clear h hr
 go_enter Try.func75, Try.ntmps75
 go_wp2_with (fail)
 refine wp_region_any (by kernel_rfl) ?_
 try (change wpAny _ _ _ _ _ _ _ (World.drew _))
 refine wpAny_take (i := 0) (v := ?_) rfl (by kernel_rfl) (by kernel_rfl) (by kernel_rfl) (fun _ _ _ h => h) (Or.inl ⟨by rfl, ?_⟩) ?_
 rotate_left
 · intro w
   first | (go_simp; done) | (go_simp; with_reducible rfl)
 refine wpAny_take (i := 1) (v := ?_) rfl (by kernel_rfl) (by kernel_rfl) (by kernel_rfl) (fun _ _ _ h => h) (Or.inl ⟨by rfl, ?_⟩) ?_
 rotate_left
 · intro w
   first | (go_simp; done) | (go_simp; with_reducible rfl)
 refine wpAny_take (i := 2) (v := ?_) rfl (by kernel_rfl) (by kernel_rfl) (by kernel_rfl) (fun _ _ _ h => h) (Or.inl ⟨by rfl, ?_⟩) ?_
 rotate_left
 · intro w
   first | (go_simp; done) | (go_simp; with_reducible rfl)
 refine wpAny_take (i := 4) (v := ?_) rfl (by kernel_rfl) (by kernel_rfl) (by kernel_rfl) (fun _ _ _ h => h) (Or.inl ⟨by rfl, ?_⟩) ?_
 rotate_left
 · intro w
   first | (go_simp; done) | (go_simp; with_reducible rfl)
 refine wpAny_take (i := 5) (v := ?_) rfl (by kernel_rfl) (by kernel_rfl) (by kernel_rfl) (fun _ _ _ h => h) (Or.inl ⟨by rfl, ?_⟩) ?_
 rotate_left
 · intro w
   first | (go_simp; done) | (go_simp; with_reducible rfl)
 refine wpAny_take (i := 6) (v := ?_) rfl (by kernel_rfl) (by kernel_rfl) (by kernel_rfl) (fun _ _ _ h => h) (Or.inl ⟨by rfl, ?_⟩) ?_
 rotate_left
 · intro w
   first | (go_simp; done) | (go_simp; with_reducible rfl)
 refine wpAny_take (i := 8) (v := ?_) rfl (by kernel_rfl) (by kernel_rfl) (by kernel_rfl) (fun _ _ _ h => h) (Or.inl ⟨by rfl, ?_⟩) ?_
 rotate_left
 · intro w
   first | (go_simp; done) | (go_simp; with_reducible rfl)
 refine wpAny_ready (rs := [3, 7]) (by kernel_rfl) (by simp) ?_
 refine AllReady.cons rfl (fun K hK => ?_) (AllReady.cons rfl (fun K hK => ?_) AllReady.nil)
 · go_simp
   refine hK _ _ ?_
   clear hK K
   refine wpAny_ready (rs := [7]) (by kernel_rfl) (by simp) ?_
   refine AllReady.cons rfl (fun K hK => ?_) AllReady.nil
   go_simp
   refine hK _ _ ?_
   clear hK K
   refine wpAny_ready (rs := [9]) (by kernel_rfl) (by simp) ?_
   refine AllReady.cons rfl (fun K hK => ?_) AllReady.nil
   go_simp
   go_wp2_with (fail)
   refine (HC _).out.mono ?_
   rintro e w' ⟨rfl, hb⟩
   exact ⟨rfl, rfl, (below_drew1 (Below.refl _ W)).trans hb⟩
 · go_simp
   refine hK _ _ ?_
   clear hK K
   refine wpAny_ready (rs := [3]) (by kernel_rfl) (by simp) ?_
   refine AllReady.cons rfl (fun K hK => ?_) AllReady.nil
   go_simp
   refine hK _ _ ?_
   clear hK K
   refine wpAny_ready (rs := [9]) (by kernel_rfl) (by simp) ?_
   refine AllReady.cons rfl (fun K hK => ?_) AllReady.nil
   go_simp
   go_wp2_with (fail)
   refine (HC _).out.mono ?_
   rintro e w' ⟨rfl, hb⟩
   exact ⟨rfl, rfl, (below_drew1 (Below.refl _ W)).trans hb⟩
end Go.Proofs.Ytlffhagjpfcecaa.PA
