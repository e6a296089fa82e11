/- The iterator over the parts of a map hands out the parts of the map, in order. -/
import Derived.Test.YtomlfbmfdoallaaTa
import Derived.RangeFuncNested
import Derived.RangeFuncBound
import Derived.RangeFuncCalls
import Derived.RangeFuncLeaves
import Derived.Shelf.Abstract
import Derived.Shelf.RegionOpen
import Derived.WalkKit
import Derived.OwnWalkIn
import Derived.TacticsInMore
import Derived.LoopNIn
import Derived.LoopIn
import Derived.RegionIn
import Derived.BigRegionIn
import Derived.Lib.Hide
import Derived.Outline
namespace Go.Proofs.Ytomlfbmfdoallaa.PA
open Go.RowKit Go.Shelf Go.Proofs.YtomlfbmfdoallaaW.PrintWords Go.Proofs.YtomlfbmfdoallaaW.PrintLast Go.Proofs.YtomlfbmfdoallaaW.PrintMore
set_option linter.unusedVariables false
set_option linter.unusedSimpArgs false
attribute [local go_sem] Oper.semAt_some

theorem AbidesFrom.alloc_ {β : Type} {B : Nat} {J : β → World → Prop} (h : AbidesFrom B J) {s : β} {W : World} (hs : J s W) (o : Obj) : J s (W.alloc o) :=
  h s W _ none hs (World.grownBy_alloc W o none) (fun r e => by cases e)
theorem rd_of_drop {l r : List S27} {k : Nat} {t : S27} (h : l.drop k = t :: r) : rd_T27 l (k : Int) = t := by
  have : l[k]? = some t := by rw [← List.head?_drop, h]; rfl
  simp [rd_T27, this]
theorem prts_last {l r : List S27} {k : Nat} {t : S27} {start at_ : Int} {pre : List Prt} (hp : pre.length = k ∧ prts start l = pre ++ prts at_ (l.drop k)) (hd : l.drop k = t :: r) (hlast : ¬ k + 1 < l.length) :
    (pre ++ [(⟨.even t.f1, t.f0, at_, -1⟩ : Prt)]).length = k + 1 ∧ prts start l = (pre ++ [(⟨.even t.f1, t.f0, at_, -1⟩ : Prt)]) ++ prts at_ (l.drop (k + 1)) := by
  have hr : r = [] := by
    have := congrArg List.length hd
    simp at this
    exact List.eq_nil_of_length_eq_zero (by omega)
  subst hr
  have hd2 : l.drop (k + 1) = [] := List.drop_eq_nil_of_le (by omega)
  refine ⟨by simp [hp.1], ?_⟩
  rw [hp.2, hd, hd2]
  simp [prts, crvOf]
theorem prts_next {l r : List S27} {k : Nat} {t t2 : S27} {start at_ : Int} {pre : List Prt} (hp : pre.length = k ∧ prts start l = pre ++ prts at_ (l.drop k)) (hd : l.drop k = t :: t2 :: r) :
    (pre ++ [(⟨crvOf t (some t2), t.f0, at_, t2.f0⟩ : Prt)]).length = k + 1 ∧ prts start l = (pre ++ [(⟨crvOf t (some t2), t.f0, at_, t2.f0⟩ : Prt)]) ++ prts (at_ + (crvOf t (some t2)).frames (t2.f0 - t.f0)) (l.drop (k + 1)) := by
  have hd2 : l.drop (k + 1) = t2 :: r := by rw [← List.drop_drop, hd]; rfl
  refine ⟨by simp [hp.1], ?_⟩
  rw [hp.2, hd, hd2]
  simp [prts]
theorem prts_pre {l : List S27} {start at_ : Int} {pre : List Prt} {k : Nat} (h : pre.length = k ∧ prts start l = pre ++ prts at_ (l.drop k)) : pre <+: prts start l := ⟨_, h.2.symm⟩
theorem MapFrom.tail {t : S27} {r : List S27} (h : MapFrom (t :: r)) : MapFrom r := by
  cases r with
  | nil => trivial
  | cons t2 r => exact h.2.2.2.2.2.2.2.2
theorem MapFrom.drop {l : List S27} (h : MapFrom l) (k : Nat) : MapFrom (l.drop k) := by
  induction k generalizing l with
  | zero => exact h
  | succ k ih =>
    cases l with
    | nil => exact h
    | cons t r => exact ih h.tail
theorem cell_alloc2 {W : World} {a : Addr} {v : Value} (h : W.cell? a = some v) (o o' : Obj) : ((W.alloc o).alloc o').cell? a = some v := by
  have h1 := World.block_lt_of_cell? _ _ h
  rw [World.cell?_alloc_lt _ _ _ (by simp; omega), World.cell?_alloc_lt _ _ _ h1]; exact h
theorem rnd_bound (a b A : Int) (hb : 0 < b) (ha : 0 ≤ a) (hA : a ≤ A * b) : 0 ≤ rnd a b ∧ rnd a b ≤ A + 1 := by
  unfold rnd
  rw [if_neg (by omega)]
  refine ⟨Int.ediv_nonneg (by omega) (by omega), Int.lt_add_one_iff.1 (Int.ediv_lt_of_lt_mul (by omega) ?_)⟩
  grind
theorem even_bound (p n : Int) (h0 : 0 ≤ n) (h1 : n ≤ 1000000000) (h2 : 1 ≤ p) (h3 : p ≤ 67108864) : 0 ≤ rnd (n * p) 65536 ∧ rnd (n * p) 65536 ≤ 1024000000001 := by
  have := mulb h0 h1 (by omega : 0 ≤ p) h3
  exact rnd_bound _ _ 1024000000000 (by omega) this.1 (by omega)
/-- a rounded down, on the whole: frames of a changing part. -/
theorem changing_num (p q l n : Int) (h0 : 0 ≤ n) (h1 : n ≤ l) (hl0 : 1 ≤ l) (h2 : 1 ≤ p) (h4 : 1 ≤ q) (M : Int) (hp : p ≤ M) (hq : q ≤ M) :
    0 ≤ 2 * l * n * p + (q - p) * n * (n - 1) ∧ 2 * l * n * p + (q - p) * n * (n - 1) ≤ (l * n * M) * 4 := by
  by_cases hn : n = 0
  · subst hn; simp
  · have e : 2 * l * n * p + (q - p) * n * (n - 1) = n * ((2 * l - (n - 1)) * p + q * (n - 1)) := by grind
    have a1 : 0 ≤ (2 * l - (n - 1)) * p := Int.mul_nonneg (by omega) (by omega)
    have a2 : 0 ≤ q * (n - 1) := Int.mul_nonneg (by omega) (by omega)
    have a3 : (2 * l - (n - 1)) * p ≤ (2 * l) * M := Int.mul_le_mul (by omega) hp (by omega) (by omega)
    have a4 : q * (n - 1) ≤ M * l := Int.mul_le_mul hq (by omega) (by omega) (by omega)
    rw [e]
    refine ⟨Int.mul_nonneg h0 (by omega), ?_⟩
    have a5 : n * ((2 * l - (n - 1)) * p + q * (n - 1)) ≤ n * (2 * l * M + M * l) := Int.mul_le_mul_of_nonneg_left (by omega) h0
    have a6 : 0 ≤ l * n * M := Int.mul_nonneg (Int.mul_nonneg (by omega) h0) (by omega)
    have e2 : n * (2 * l * M + M * l) = 3 * (l * n * M) := by grind
    omega
theorem changing_bound (p q l n : Int) (h0 : 0 ≤ n) (h1 : n ≤ l) (hl0 : 1 ≤ l) (hl1 : l ≤ 10000) (h2 : 1 ≤ p) (h3 : p ≤ 67108864) (h4 : 1 ≤ q) (h5 : q ≤ 67108864) :
    0 ≤ rnd (2 * l * n * p + (q - p) * n * (n - 1)) (2 * l * 65536) ∧ rnd (2 * l * n * p + (q - p) * n * (n - 1)) (2 * l * 65536) ≤ 1024000000001 := by
  obtain ⟨a, b⟩ := changing_num p q l n h0 h1 hl0 h2 h4 67108864 h3 h5
  obtain ⟨c, d⟩ := rnd_bound (2 * l * n * p + (q - p) * n * (n - 1)) (2 * l * 65536) (n * 2048) (by omega) a (by
    have e : n * 2048 * (2 * l * 65536) = (l * n * 67108864) * 4 := by grind
    omega)
  exact ⟨c, by omega⟩
theorem method_even : ∀ p w, (method 244 104 (.agg #[.int .i64 p]) "continuo/tempo.frames").run Try.prog w = .ok (116, .agg #[.int .i64 p]) w := fun _ _ => by kernel_rfl
theorem method_changing : ∀ p q l w, (method 244 106 (.agg #[.int .i64 p, .int .i64 q, .int .i64 l]) "continuo/tempo.frames").run Try.prog w = .ok (118, .agg #[.int .i64 p, .int .i64 q, .int .i64 l]) w := fun _ _ _ _ => by kernel_rfl
theorem MapFrom.head {t : S27} {r : List S27} (h : MapFrom (t :: r)) : 0 ≤ t.f0 ∧ t.f0 ≤ 1000000000 ∧ 1 ≤ t.f1 ∧ t.f1 ≤ 67108864 := by
  cases r with
  | nil => exact ⟨h.1, h.2.1, h.2.2.1, h.2.2.2.1⟩
  | cons t2 r => exact ⟨h.1, h.2.1, h.2.2.1, h.2.2.2.1⟩
theorem AbidesFrom.below_ {β : Type} {B : Nat} {J : β → World → Prop} (h : AbidesFrom B J) {s : β} {W W' : World} (hs : J s W) (hb : Below W.heap.size W W') : J s W' :=
  h s W W' none hs ⟨hb.os, hb.tape, hb.output, hb.size, fun i hi _ => hb.block i hi⟩ (fun r e => by cases e)
theorem bcell {W w1 : World} (hb : Below W.heap.size W w1) : (∀ b o, b < W.heap.size → w1.cell? ⟨b, o, none⟩ = W.cell? ⟨b, o, none⟩) ∧ (∀ b o, b < W.heap.size → w1.frozen? ⟨b, o, none⟩ = W.frozen? ⟨b, o, none⟩) :=
  ⟨fun b o h => hb.cell (p := ⟨b, o, none⟩) h, fun b o h => hb.frozen (p := ⟨b, o, none⟩) h⟩
theorem cells_two (w : World) (a b : Array Value) (s t : TypeId) (j : Nat) (v : Value) (h : b[j]? = some v) : ((w.alloc (.cells a s)).alloc (.cells b t)).cell? ⟨w.heap.size + 1, j, none⟩ = some v := by
  have := World.cell?_alloc_new (w := w.alloc (.cells a s)) b t j
  simp only [World.size_alloc] at this
  rw [this, h]
/-- What an iterator with two boxes asks of a round: below m nothing turns, nor do the boxes. -/
structure KQ (m b1 b2 : Nat) (W W' : World) : Prop where
  below : Below m W W'
  one : W'.heap[b1]? = W.heap[b1]?
  two : W'.heap[b2]? = W.heap[b2]?
theorem KQ.refl (m b1 b2 : Nat) (W : World) : KQ m b1 b2 W W := ⟨Below.refl _ _, rfl, rfl⟩
theorem KQ.trans {m b1 b2 : Nat} {A B C : World} (h : KQ m b1 b2 A B) (k : KQ m b1 b2 B C) : KQ m b1 b2 A C := ⟨h.below.trans k.below, k.one.trans h.one, k.two.trans h.two⟩
theorem KQ.then {m b1 b2 : Nat} {A B C : World} (h : KQ m b1 b2 A B) (hm : m ≤ B.heap.size ∧ b1 < B.heap.size ∧ b2 < B.heap.size) (k : Below B.heap.size B C) : KQ m b1 b2 A C :=
  ⟨h.below.trans (k.mono hm.1), (k.block _ hm.2.1).trans h.one, (k.block _ hm.2.2).trans h.two⟩
theorem KQ.putObj {m b1 b2 : Nat} {W : World} {l : Nat} (o' : Obj) (hm : m ≤ l) (h1 : b1 ≠ l) (h2 : b2 ≠ l) (hl : l < W.heap.size) : KQ m b1 b2 W (W.putObj l o') :=
  ⟨(Below.refl m W).grown (grownBy_putObj' W l o') (by omega) (fun k e => by cases e; omega), World.putObj_heap_other h1, World.putObj_heap_other h2⟩
theorem enters79 : ∀ args w, (callFunc 79 args).run Try.prog w = .ok (.enter 79 args) w := Go.Proofs.enters_of Try.func79 (by kernel_rfl) rfl

set_option maxRecDepth 100000 in
set_option maxHeartbeats 2000000 in
theorem parts1_in (n : Nat) (hn : 3 ≤ n) (lp Bs Bl n₀ c : Nat) (A : Option Addr) (l : List S27) (start : Int) (hok : MapOk l) (hs0 : 0 ≤ start) (hs1 : start ≤ 1000000000) (J Jx : List Prt → World → Prop)
    (hY : ∀ pre x W, J pre W → pre.length < l.length → YieldAt Fence.wide (n - 1) Try.prog lp #[x.val] W fun e W' =>
      (e = .returned (.bool true) ∧ J (pre ++ [x]) W' ∧ KQ n₀ Bs Bl W W') ∨ (e = .returned (.bool false) ∧ Jx (pre ++ [x]) W'))
    (W : World) (hJ : AbidesFrom W.heap.size J) (hn0 : n₀ ≤ W.heap.size) (hBs : W.cell? ⟨Bs, 0, none⟩ = some (.int .i64 start)) (hBl : W.cell? ⟨Bl, 0, none⟩ = some (.slice A l.length c))
    (hC : ∀ W', Below n₀ W W' → Kd.C k27 W' A l.length l) (h0 : J [] W) :
    CallsIn Fence.wide n Try.prog 79 #[.func (.yield lp) #[] #[], .pointer (some ⟨Bs, 0, none⟩), .pointer (some ⟨Bl, 0, none⟩)] W fun e W' => (∃ v, e = .returned v) ∧
      ((∃ ys, ys = prts start l ∧ J ys W') ∨ (∃ pre, pre <+: prts start l ∧ Jx pre W')) := by
  refine callsIn_of_wp Try.func79 rfl trivial ?_ rfl
  simp only [Try.ntmps79, List.size_toArray, List.length_cons, List.length_nil, Nat.reduceAdd, Nat.reduceSub, Array.replicate_succ, Array.replicate_zero, List.push_toArray, List.append_toArray, List.nil_append, List.cons_append]
  have hmax : l.length ≤ 50 := hok.2.1
  have h1 : 1 ≤ n := by omega
  gi_wp2
  gi_loopw [4, 11] (fun v4 v11 wr => ∃ (k : Nat) (at_ : Int) (pre : List Prt), k ≤ l.length ∧ v4 = .int .i64 at_ ∧ v11 = .int .i64 k ∧ Aside0 (pre.length = k ∧ prts start l = pre ++ prts at_ (l.drop k)) ∧ Aside0 (J pre wr) ∧ Aside0 (KQ n₀ Bs Bl W wr) ∧ 0 ≤ at_ ∧ at_ ≤ 1000000000 + k * 2000000000000) (fun _ v11 _ => l.length - (intOf v11).toNat)
  case atStart => exact ⟨0, start, [], Nat.zero_le _, rfl, rfl, ⟨rfl, rfl⟩, ⟨h0⟩, ⟨KQ.refl _ _ _ _⟩, hs0, by omega⟩
  case round =>
    obtain ⟨k, at_, pre, hk, rfl, rfl, HP, HJ, HB, ha0, ha1⟩ := hrel
    by_cases hlt : k < l.length
    · have hltz : (k : Int) < (l.length : Int) := by omega
      obtain ⟨ad, eA, hx0, hx1, hx2⟩ := at_T27 (hC _ HB.out.below) (k : Int) (by omega) (by omega)
      cases eA
      simp only [Int.toNat_natCast] at hx0 hx1 hx2
      have hBs' := (World.cell?_of_block (a := ⟨Bs, 0, none⟩) (w := W) HB.out.one).trans hBs
      have hBl' := (World.cell?_of_block (a := ⟨Bl, 0, none⟩) (w := W) HB.out.two).trans hBl
      have hlt3 := World.block_lt_of_cell? _ _ hBs'
      have hlt1 := World.block_lt_of_cell? _ _ hBl'
      have hlt2 := World.block_lt_of_cell? _ _ hx0
      have hw0 : n₀ ≤ wr.heap.size := Nat.le_trans hn0 HB.out.below.size
      obtain ⟨t, r, hd⟩ : ∃ t r, l.drop k = t :: r := ⟨_, _, List.drop_eq_getElem_cons hlt⟩
      have ht : rd_T27 l (k : Int) = t := rd_of_drop hd
      rw [ht] at hx0 hx1 hx2
      clear ht
      by_cases hlast : k + 1 < l.length
      · have hlastz : (k : Int) + 1 < (l.length : Int) := by omega
        obtain ⟨t2, r2, hr2⟩ : ∃ t2 r2, l.drop (k + 1) = t2 :: r2 := ⟨_, _, List.drop_eq_getElem_cons hlast⟩
        obtain rfl : r = t2 :: r2 := by rw [← hr2, ← List.drop_drop, hd]; rfl
        obtain ⟨ad2, eA, hy0, hy1, hy2⟩ := at_T27 (hC _ HB.out.below) ((k : Int) + 1) (by omega) (by omega)
        obtain rfl : ad = ad2 := by injection eA
        clear eA
        have ht2 : rd_T27 l ((k : Int) + 1) = t2 := rd_of_drop (k := k + 1) hr2
        rw [ht2] at hy0 hy1 hy2
        clear ht2
        rw [show ((k : Int) + 1).toNat = k + 1 from by omega] at hy0 hy1 hy2
        replace hy0 := cell_alloc2 hy0
        replace hy1 := cell_alloc2 hy1
        have hm := hok.2.2.2.drop k
        rw [hd] at hm
        have HD := Aside0.mk hd
        clear hd
        obtain ⟨m0, m1, m2, m3, m4, m5, m6, m7, m8⟩ := hm
        obtain ⟨n0, n1, n2, n3⟩ := m8.head
        by_cases hcv : t.f2 = 1
        · have hcr : crvOf t (some t2) = .changing t.f1 t2.f1 (t2.f0 - t.f0) := by simp [crvOf, hcv]
          have m7' := m7 hcv
          clear m7
          have hfr := changing_frames_eq t.f1 t2.f1 (t2.f0 - t.f0) (t2.f0 - t.f0) (by omega) m7' (by omega) m7' m2 m3 n2 n3
          obtain ⟨b0, b1⟩ := changing_bound t.f1 t2.f1 (t2.f0 - t.f0) (t2.f0 - t.f0) (by omega) (by omega) (by omega) m7' m2 m3 n2 n3
          have hst := prts_next HP.out HD.out
          rw [hcr] at hst
          simp only [Crv.frames] at hst
          generalize hfv : rnd (2 * (t2.f0 - t.f0) * (t2.f0 - t.f0) * t.f1 + (t2.f1 - t.f1) * (t2.f0 - t.f0) * ((t2.f0 - t.f0) - 1)) (2 * (t2.f0 - t.f0) * 65536) = fv at hfr b0 b1 hst
          clear hfv hcr
          have HST := Aside0.mk hst
          clear hst
          have HC := fun w => Lib.hid (tempo_changing_frames.calls t.f1 t2.f1 (t2.f0 - t.f0) (t2.f0 - t.f0) fv w hfr)
          clear hfr
          have hme := method_changing
          gi_wp2_with (fail)
          gi_region
          gi_wp2_with (fail)
          refine ⟨trivial, (callsIn_wide.2 (HC _).out).mono ?_⟩
          rintro e w1 ⟨rfl, hb1⟩
          have HJ1 := Aside0.mk (AbidesFrom.below_ hJ (AbidesFrom.below_ hJ (AbidesFrom.alloc_ hJ (AbidesFrom.alloc_ hJ HJ.out _) _) (below_drew (Below.refl _ _))) hb1)
          obtain ⟨hc, hz⟩ := bcell hb1
          have hw1 : wr.heap.size + 1 + 1 ≤ w1.heap.size := by have := hb1.size; simp at this; omega
          have hB1 : KQ n₀ Bs Bl W w1 := HB.out.then ⟨hw0, hlt3, hlt1⟩ ((((Below.refl _ _).alloc (Nat.le_refl _) _).alloc (by simp) _).drew.trans (hb1.mono (by simp; omega)))
          have HB1 := Aside0.mk hB1
          clear hB1 hb1
          obtain ⟨fn, tmps, assign, body, hy, hR⟩ := hY pre ⟨.changing t.f1 t2.f1 (t2.f0 - t.f0), t.f0, at_, t2.f0⟩ w1 HJ1.out (by rw [HP.out.1]; exact hlt)
          dsimp only [Prt.val, Crv.val] at hy
          have HR := Aside0.mk hR
          clear hR
          gi_wp2_with (fail)
          refine HR.out.mono ?_
          rintro e W3 (⟨rfl, hJ3, hk3⟩ | ⟨rfl, hJx3⟩)
          · gi_wp2
            go_roundw
            case rel => exact ⟨k + 1, _, _, by omega, rfl, by go_num, HST, ⟨hJ3⟩, ⟨HB1.out.trans hk3⟩, by omega, by omega⟩
            case measure => simp [intOf]; omega
          · gi_wp2
            refine bodyPost_ret (results_none rfl _ _ _) rfl ?_
            exact ⟨⟨_, rfl⟩, .inr ⟨_, prts_pre HST.out, hJx3⟩⟩
        · have hcr : crvOf t (some t2) = .even t.f1 := by simp [crvOf, hcv]
          have hfr := even_frames_eq t.f1 (t2.f0 - t.f0) (by omega) (by omega) m2 m3
          obtain ⟨b0, b1⟩ := even_bound t.f1 (t2.f0 - t.f0) (by omega) (by omega) m2 m3
          have hst := prts_next HP.out HD.out
          rw [hcr] at hst
          simp only [Crv.frames] at hst
          generalize hfv : rnd ((t2.f0 - t.f0) * t.f1) 65536 = fv at hfr b0 b1 hst
          clear hfv hcr
          have HST := Aside0.mk hst
          clear hst
          have HC := fun w => Lib.hid (tempo_even_frames.calls t.f1 (t2.f0 - t.f0) fv w hfr)
          clear hfr
          have hme := method_even
          gi_wp2_with (fail)
          refine ⟨trivial, (callsIn_wide.2 (HC _).out).mono ?_⟩
          rintro e w1 ⟨rfl, hb1⟩
          have HJ1 := Aside0.mk (AbidesFrom.below_ hJ (AbidesFrom.alloc_ hJ (AbidesFrom.alloc_ hJ HJ.out _) _) hb1)
          obtain ⟨hc, hz⟩ := bcell hb1
          have hw1 : wr.heap.size + 1 + 1 ≤ w1.heap.size := by have := hb1.size; simp at this; omega
          have hB1 : KQ n₀ Bs Bl W w1 := HB.out.then ⟨hw0, hlt3, hlt1⟩ ((((Below.refl _ _).alloc (Nat.le_refl _) _).alloc (by simp) _).trans (hb1.mono (by simp; omega)))
          have HB1 := Aside0.mk hB1
          clear hB1 hb1
          obtain ⟨fn, tmps, assign, body, hy, hR⟩ := hY pre ⟨.even t.f1, t.f0, at_, t2.f0⟩ w1 HJ1.out (by rw [HP.out.1]; exact hlt)
          dsimp only [Prt.val, Crv.val] at hy
          have HR := Aside0.mk hR
          clear hR
          gi_wp2_with (fail)
          refine HR.out.mono ?_
          rintro e W3 (⟨rfl, hJ3, hk3⟩ | ⟨rfl, hJx3⟩)
          · gi_wp2
            go_roundw
            case rel => exact ⟨k + 1, _, _, by omega, rfl, by go_num, HST, ⟨hJ3⟩, ⟨HB1.out.trans hk3⟩, by omega, by omega⟩
            case measure => simp [intOf]; omega
          · gi_wp2
            refine bodyPost_ret (results_none rfl _ _ _) rfl ?_
            exact ⟨⟨_, rfl⟩, .inr ⟨_, prts_pre HST.out, hJx3⟩⟩
      · have hlastz : ¬ ((k : Int) + 1 < (l.length : Int)) := by omega
        obtain ⟨W1, hW1⟩ : ∃ W1, W1 = (wr.alloc (.cells #[.int .i64 t.f0, .int .i64 t.f1, .int .i64 t.f2] 27)).alloc (.cells #[.iface 104 (.agg #[.int .i64 t.f1]), .int .i64 t.f0, .int .i64 at_, .int .i64 (-1)] 66) := ⟨_, rfl⟩
        have hJ1 : J pre W1 := by
          rw [hW1]
          exact (AbidesFrom.alloc_ hJ (AbidesFrom.alloc_ hJ HJ.out _) _)
        have hB1 : KQ n₀ Bs Bl W W1 := by rw [hW1]; exact HB.out.then ⟨hw0, hlt3, hlt1⟩ (((Below.refl _ _).alloc (Nat.le_refl _) _).alloc (by simp) _)
        obtain ⟨fn, tmps, assign, body, hy, hR⟩ := hY pre ⟨.even t.f1, t.f0, at_, -1⟩ W1 hJ1 (by rw [HP.out.1]; exact hlt)
        dsimp only [Prt.val, Crv.val] at hy
        rw [hW1] at hy hR
        have HR := Aside0.mk hR
        clear hR
        gi_wp2
        refine HR.out.mono ?_
        have HW1 := Aside0.mk hW1
        clear hW1
        rintro e W3 (⟨rfl, hJ3, hk3⟩ | ⟨rfl, hJx3⟩)
        · gi_wp2
          go_roundw
          case rel => exact ⟨k + 1, at_, _, by omega, rfl, by go_num, ⟨prts_last HP.out hd hlast⟩, ⟨hJ3⟩, ⟨by rw [HW1.out] at hB1; exact hB1.trans hk3⟩, ha0, by omega⟩
          case measure => simp [intOf]; omega
        · gi_wp2
          refine bodyPost_ret (results_none rfl _ _ _) rfl ?_
          exact ⟨⟨_, rfl⟩, .inr ⟨_, prts_pre (prts_last HP.out hd hlast), hJx3⟩⟩
    · gi_wp2
      go_end0
      refine ⟨⟨_, rfl⟩, .inl ⟨pre, ?_, HJ.out⟩⟩
      rw [HP.out.2, List.drop_eq_nil_of_le (by omega)]
      simp [prts]
end Go.Proofs.Ytomlfbmfdoallaa.PA
