/- Which meters there are, the place of a tick, the tick of a place and the first tick of a bar: the program's and the reference's answers are alike, there and back, for all meters and numbers. -/
import Derived.Test.YtomlfbmfdoallaaCTempoPlaces6
import Derived.Deep.Slices
import Derived.Deep.Fields
import Derived.ChangeSame
import Derived.Lib.SmallJoins
import Derived.Test.YtomlfbmfdoallaaRows
import Derived.WalkKit
import Derived.ProofKit
import Derived.OpenShut
import Derived.ShutString
import Derived.ChangeOld
import Derived.Below
import Derived.SizedLaws
namespace Go.Proofs.Ytomlfbmfdoallaa.Pure
open Go.RowKit Go.Proofs.Ytomlfbmfdoallaa.PA Go.Proofs.YtomlfbmfdoallaaW.PrintWords Go.Proofs.YtomlfbmfdoallaaW.PrintLast
set_option linter.unusedVariables false
set_option linter.unusedSimpArgs false
theorem refbar_loop (l : List S61) (hl : l.length ≤ 100) (n : Int) (hn : n ≤ 1000000000) : ∀ (d k i : Nat) (tick : Int) (hi : i < l.length), l.length - i = d + 1 → d < k → Good ⟨l[i], tick⟩ → vmL (some l[i]) (l.drop (i + 1)) = true → l[i].f0 ≤ n →
 continuoref30_bar.l0 k l n tick (i : Int) = some (bt ⟨l[i], tick⟩ (l.drop (i + 1)) n, (sB ⟨l[i], tick⟩ (l.drop (i + 1)) n).f0.f0, (sB ⟨l[i], tick⟩ (l.drop (i + 1)) n).f0.f1, (sB ⟨l[i], tick⟩ (l.drop (i + 1)) n).f0.f2) := by
 intro d
 induction d with
 | zero =>
  intro k i tick hi hd hk hg hv hb
  obtain ⟨k, rfl⟩ : ∃ m, k = m + 1 := ⟨k - 1, by omega⟩
  have hw : wrap64 ((i : Int) + 1) = ((i + 1 : Nat) : Int) := by rw [w64 (by omega) (by omega)]; omega
  have c1 : ¬ ((i + 1 : Nat) : Int) < (l.length : Int) := by omega
  have c2 : (0 : Int) ≤ (i : Int) := by omega
  have c3 : (i : Int) < (l.length : Int) := by omega
  have hdr : l.drop (i + 1) = [] := List.drop_eq_nil_of_le (by omega)
  have hlg := hg.long
  have hc := hg.c0; have hc' := hg.c1; have hb0 := hg.b0; have ht0 := hg.t0; have ht1 := hg.t1; have hb1 := hg.b1
  dsimp only at hlg hc hc' hb0 ht0 ht1 hb1
  simp only [continuoref30_bar.l0]
  rw [hw, if_neg c1, if_pos c2, if_pos c3, rd61 l i hi, hdr]
  have m1 := mulb (n := n - l[i].f0) (N := 1000000000) (by omega) (by omega) (by omega : 0 ≤ l[i].f1) hc'
  have m2 := mulb (n := n - l[i].f0) (N := 1000000000) (by omega) (by omega) (by omega : 0 ≤ long l[i]) hlg.2
  have e : (n - l[i].f0) * l[i].f1 * l[i].f2 = (n - l[i].f0) * long l[i] := Int.mul_assoc _ _ _
  rw [w64 (x := n - l[i].f0) (by omega) (by omega), w64 (x := (n - l[i].f0) * l[i].f1) (by omega) (by omega), e]
  generalize hmu : (n - l[i].f0) * long l[i] = mu at m2
  rw [w64 (x := mu) (by omega) (by omega), w64 (x := tick + mu) (by omega) (by omega)]
  simp only [sB, bt]
  rw [hmu]
 | succ d ih =>
  intro k i tick hi hd hk hg hv hb
  obtain ⟨k, rfl⟩ : ∃ m, k = m + 1 := ⟨k - 1, by omega⟩
  have hw : wrap64 ((i : Int) + 1) = ((i + 1 : Nat) : Int) := by rw [w64 (by omega) (by omega)]; omega
  have hlt : i + 1 < l.length := by omega
  have c1 : ((i + 1 : Nat) : Int) < (l.length : Int) := by omega
  have c0 : (0 : Int) ≤ ((i + 1 : Nat) : Int) := by omega
  have c2 : (0 : Int) ≤ (i : Int) := by omega
  have c3 : (i : Int) < (l.length : Int) := by omega
  rw [List.drop_eq_getElem_cons hlt] at hv ⊢
  obtain ⟨h1, h2, h3⟩ := vm_cons hv
  have hg2 := (hg.next h1 h2).1
  have hlg := hg.long
  have hc := hg.c0; have hc' := hg.c1; have hb0 := hg.b0; have ht0 := hg.t0; have ht1 := hg.t1; have hb1 := hg.b1
  have hm := (okN_iff _).1 h1
  dsimp only at hlg hc hc' hb0 ht0 ht1 hb1
  simp only [continuoref30_bar.l0]
  rw [hw, if_pos c1, if_pos c0, rd61 l (i + 1) hlt, rd61 l i hi]
  by_cases hcmp : l[i + 1].f0 ≤ n
  · rw [if_pos hcmp, if_pos c2, if_pos c3]
    have m1 := mulb (n := l[i + 1].f0 - l[i].f0) (N := 1000000000) (by omega) (by omega) (by omega : 0 ≤ l[i].f1) hc'
    have m2 := mulb (n := l[i + 1].f0 - l[i].f0) (N := 1000000000) (by omega) (by omega) (by omega : 0 ≤ long l[i]) hlg.2
    have e : (l[i + 1].f0 - l[i].f0) * l[i].f1 * l[i].f2 = (l[i + 1].f0 - l[i].f0) * long l[i] := Int.mul_assoc _ _ _
    rw [w64 (x := l[i + 1].f0 - l[i].f0) (by omega) (by omega), w64 (x := (l[i + 1].f0 - l[i].f0) * l[i].f1) (by omega) (by omega), e]
    have e2 : nxt ⟨l[i], tick⟩ l[i + 1] = ⟨l[i + 1], tick + (l[i + 1].f0 - l[i].f0) * long l[i]⟩ := rfl
    have hih := ih k (i + 1) (tick + (l[i + 1].f0 - l[i].f0) * long l[i]) hlt (by omega) (by omega) (by rw [← e2]; exact hg2) h3 hcmp
    simp only [sB, bt, if_pos hcmp, e2]
    simp only [bt] at hih
    rw [← hih]
    generalize (l[i + 1].f0 - l[i].f0) * long l[i] = mu at m2
    rw [w64 (x := mu) (by omega) (by omega), w64 (x := tick + mu) (by omega) (by omega)]
  · rw [if_neg hcmp, if_pos c2, if_pos c3]
    have m1 := mulb (n := n - l[i].f0) (N := 1000000000) (by omega) (by omega) (by omega : 0 ≤ l[i].f1) hc'
    have m2 := mulb (n := n - l[i].f0) (N := 1000000000) (by omega) (by omega) (by omega : 0 ≤ long l[i]) hlg.2
    have e : (n - l[i].f0) * l[i].f1 * l[i].f2 = (n - l[i].f0) * long l[i] := Int.mul_assoc _ _ _
    rw [w64 (x := n - l[i].f0) (by omega) (by omega), w64 (x := (n - l[i].f0) * l[i].f1) (by omega) (by omega), e]
    simp only [sB, bt, if_neg hcmp]
    generalize (n - l[i].f0) * long l[i] = mu at m2
    rw [w64 (x := mu) (by omega) (by omega), w64 (x := tick + mu) (by omega) (by omega)]
structure Met (m : S61) (r : List S61) : Prop where
 len : (m :: r).length ≤ 100
 good : Good ⟨m, 0⟩
 vm : vmL (some m) r = true
 bar : m.f0 = 0
theorem refbar_eq {m : S61} {r : List S61} (h : Met m r) (k : Nat) (hk : 100 < k) (n : Int) (h0 : 0 ≤ n) (hn : n ≤ 1000000000) :
 continuoref30_bar.f k (m :: r) n = some (bt ⟨m, 0⟩ r n, (sB ⟨m, 0⟩ r n).f0.f0, (sB ⟨m, 0⟩ r n).f0.f1, (sB ⟨m, 0⟩ r n).f0.f2) := by
 have hl := h.len
 exact refbar_loop (m :: r) hl n hn r.length k 0 0 (by simp) (by simp) (by simp at hl; omega) h.good h.vm (by show m.f0 ≤ n; rw [h.bar]; exact h0)
theorem place_loop {m : S61} {r : List S61} (h : Met m r) (t : Int) (ht0 : 0 ≤ t) (ht1 : t ≤ 1000000000) (B : Int) (hB : B = barOf (sT ⟨m, 0⟩ r t) t) : ∀ (d k : Nat) (lo hi : Int), 0 ≤ lo → lo ≤ B → B ≤ hi → hi ≤ 1000000000 → (hi - lo).toNat < 2 ^ d → d + 100 < k →
 continuoref30_Place.l0 (k + 1) (m :: r) t lo hi = some (B, (t - bt ⟨m, 0⟩ r B) / (sB ⟨m, 0⟩ r B).f0.f2, (t - bt ⟨m, 0⟩ r B) % (sB ⟨m, 0⟩ r B).f0.f2, 0) := by
 have hiff := fun n (hn : 0 ≤ n) => bt_iff r ⟨m, 0⟩ t n h.good h.vm ht0 (by show m.f0 ≤ n; rw [h.bar]; exact hn)
 rw [← hB] at hiff
 intro d
 induction d with
 | zero =>
  intro k lo hi h0 h1 h2 h3 h4 hk
  have e1 : lo = B := by simp at h4; omega
  have e2 : hi = B := by simp at h4; omega
  subst e1
  simp only [continuoref30_Place.l0]
  rw [if_neg (by omega), refbar_eq h k (by omega) lo h0 (by omega)]
  have hs := (good_sB r ⟨m, 0⟩ lo h.good h.vm (by show m.f0 ≤ lo; rw [h.bar]; exact h0)).1
  have hle := (hiff lo h0).2 (Int.le_refl _)
  have hlow := bt_le h.good h.vm (a := 0) (b := lo) (by show m.f0 ≤ 0; rw [h.bar]; exact Int.le_refl _) h0
  have hz : bt ⟨m, 0⟩ r 0 = 0 := by
   have e : sB ⟨m, 0⟩ r 0 = ⟨m, 0⟩ := by
    cases r with
    | nil => rfl
    | cons m2 r2 =>
     have := (vm_cons h.vm).2.1
     unfold sB
     rw [if_neg (by have := h.bar; omega)]
   unfold bt
   rw [e]
   show 0 + (0 - m.f0) * long m = 0
   rw [h.bar]; simp
  have hd0 := hs.d0
  have hd1 := hs.d1
  simp only [Option.bind_some]
  rw [if_neg (by omega), w64 (x := t - bt ⟨m, 0⟩ r lo) (by omega) (by omega), Int.tdiv_eq_ediv_of_nonneg (by omega), Int.tmod_eq_emod_of_nonneg (by omega)]
  have q1 : 0 ≤ (t - bt ⟨m, 0⟩ r lo) / (sB ⟨m, 0⟩ r lo).f0.f2 := Int.ediv_nonneg (by omega) (by omega)
  have q2 : (t - bt ⟨m, 0⟩ r lo) / (sB ⟨m, 0⟩ r lo).f0.f2 ≤ t - bt ⟨m, 0⟩ r lo := Int.ediv_le_self _ (by omega)
  rw [w64 (by omega) (by omega)]
 | succ d ih =>
  intro k lo hi h0 h1 h2 h3 h4 hk
  obtain ⟨k, rfl⟩ : ∃ m, k = m + 1 := ⟨k - 1, by omega⟩
  by_cases hlt : lo < hi
  · have hmid : wrap64 (Int.tdiv (wrap64 ((wrap64 (lo + hi)) + 1)) 2) = (lo + hi + 1) / 2 := by
     rw [w64 (x := lo + hi) (by omega) (by omega), w64 (x := lo + hi + 1) (by omega) (by omega), Int.tdiv_eq_ediv_of_nonneg (by omega), w64 (by omega) (by omega)]
    have hp : 2 ^ (d + 1) = 2 * 2 ^ d := by rw [Nat.pow_succ]; omega
    rw [hp] at h4
    rw [continuoref30_Place.l0.eq_2]
    rw [if_pos hlt, hmid, refbar_eq h (k + 1) (by omega) _ (by omega) (by omega)]
    simp only [Option.bind_some]
    by_cases hc : bt ⟨m, 0⟩ r ((lo + hi + 1) / 2) ≤ t
    · rw [if_pos hc]
      exact ih k _ hi (by omega) ((hiff _ (by omega)).1 hc) h2 h3 (by omega) (by omega)
    · rw [if_neg hc, w64 (x := (lo + hi + 1) / 2 - 1) (by omega) (by omega)]
      have : ¬ (lo + hi + 1) / 2 ≤ B := fun hh => hc ((hiff _ (by omega)).2 hh)
      exact ih k lo _ h0 h1 (by omega) (by omega) (by omega) (by omega)
  · have := ih (k + 1) lo hi h0 h1 h2 h3 (by have : 0 < 2 ^ d := Nat.pow_pos (by omega); omega) (by omega)
    exact this
theorem bt_zero {m : S61} {r : List S61} (h : Met m r) : bt ⟨m, 0⟩ r 0 = 0 := by
 have e : sB ⟨m, 0⟩ r 0 = ⟨m, 0⟩ := by
  cases r with
  | nil => rfl
  | cons m2 r2 =>
   have := (vm_cons h.vm).2.1
   unfold sB
   rw [if_neg (by have := h.bar; omega)]
 unfold bt
 rw [e]
 show 0 + (0 - m.f0) * long m = 0
 rw [h.bar]; simp
theorem time_eq (n : Int) : continuoref30_time.f n = some (inB n 0 1000000000) := by
 unfold continuoref30_time.f inB
 by_cases h : n ≥ 0
 · rw [if_pos h]; simp [show 0 ≤ n from h]
 · rw [if_neg h]; simp [show ¬ 0 ≤ n from h]
theorem inB_iff (n a b : Int) : inB n a b = true ↔ a ≤ n ∧ n ≤ b := by simp [inB]
theorem bar_bounds {m : S61} {r : List S61} (h : Met m r) {t : Int} (h0 : 0 ≤ t) (h1 : t ≤ 1000000000) : 0 ≤ barOf (sT ⟨m, 0⟩ r t) t ∧ barOf (sT ⟨m, 0⟩ r t) t ≤ t ∧ (sT ⟨m, 0⟩ r t).f1 ≤ t ∧ Good (sT ⟨m, 0⟩ r t) := by
 obtain ⟨g, g1, g2⟩ := good_sT r ⟨m, 0⟩ t h.good h.vm h0
 have hb : 0 ≤ barOf (sT ⟨m, 0⟩ r t) t := by
  have : 0 ≤ (t - (sT ⟨m, 0⟩ r t).f1) / long (sT ⟨m, 0⟩ r t).f0 := Int.ediv_nonneg (by omega) (by have := g.long; omega)
  have := g.b0
  unfold barOf; omega
 refine ⟨hb, ?_, g1, g⟩
 have := (bt_iff r ⟨m, 0⟩ t _ h.good h.vm h0 (by show m.f0 ≤ _; rw [h.bar]; exact hb)).2 (Int.le_refl _)
 have h2 := bt_le h.good h.vm (a := 0) (b := barOf (sT ⟨m, 0⟩ r t) t) (by show m.f0 ≤ 0; rw [h.bar]; exact Int.le_refl _) hb
 rw [bt_zero h] at h2
 omega
theorem place_ref {m : S61} {r : List S61} (h : Met m r) (hv : vmB (m :: r) = true) (t : Int) :
 continuoref30_Place.f 200 (m :: r) t = if inB t 0 1000000000 = true then some (barOf (sT ⟨m, 0⟩ r t) t, (t - (sT ⟨m, 0⟩ r t).f1) % long (sT ⟨m, 0⟩ r t).f0 / (sT ⟨m, 0⟩ r t).f0.f2, (t - (sT ⟨m, 0⟩ r t).f1) % (sT ⟨m, 0⟩ r t).f0.f2, 0) else some (0, 0, 0, 7) := by
 unfold continuoref30_Place.f
 rw [refvm_eq _ h.len, hv]
 simp only [Option.bind_some, if_true, time_eq]
 by_cases hin : inB t 0 1000000000 = true
 · rw [if_pos hin, if_pos hin]
   obtain ⟨h0, h1⟩ := (inB_iff _ _ _).1 hin
   obtain ⟨b0, b1, b2, g⟩ := bar_bounds h h0 h1
   rw [place_loop h t h0 h1 _ rfl 30 199 0 1000000000 (by omega) b0 (by omega) (by omega) (by decide) (by omega)]
   have hs := sB_barOf r ⟨m, 0⟩ t h.good h.vm h0
   obtain ⟨e1, _⟩ := bt_barOf r ⟨m, 0⟩ t h.good h.vm h0 (by show m.f0 ≤ _; rw [h.bar]; exact b0)
   rw [hs, e1]
   have e2 : t - (t - (t - (sT ⟨m, 0⟩ r t).f1) % long (sT ⟨m, 0⟩ r t).f0) = (t - (sT ⟨m, 0⟩ r t).f1) % long (sT ⟨m, 0⟩ r t).f0 := by omega
   rw [e2]
   have e3 : (t - (sT ⟨m, 0⟩ r t).f1) % long (sT ⟨m, 0⟩ r t).f0 % (sT ⟨m, 0⟩ r t).f0.f2 = (t - (sT ⟨m, 0⟩ r t).f1) % (sT ⟨m, 0⟩ r t).f0.f2 := Int.emod_emod_of_dvd _ ⟨_, Int.mul_comm _ _⟩
   rw [e3]
 · rw [if_neg hin, if_neg hin]
theorem place_prog {m : S61} {r : List S61} (h : Met m r) (hv : vmB (m :: r) = true) (t : Int) :
 tempo_Place.f 200 (m :: r) t = if inB t 0 1000000000 = true then some (barOf (sT ⟨m, 0⟩ r t) t, (t - (sT ⟨m, 0⟩ r t).f1) % long (sT ⟨m, 0⟩ r t).f0 / (sT ⟨m, 0⟩ r t).f0.f2, (t - (sT ⟨m, 0⟩ r t).f1) % (sT ⟨m, 0⟩ r t).f0.f2, 0) else some (0, 0, 0, 7) := by
 unfold tempo_Place.f
 rw [vm_eq _ h.len, hv]
 simp only [Option.bind_some, if_true]
 by_cases hin : inB t 0 1000000000 = true
 · obtain ⟨h0, h1⟩ := (inB_iff _ _ _).1 hin
   rw [if_pos ⟨h0, h1⟩, if_pos hin, (meters_eq m r h.len hv).1]
   simp only [Option.bind_some]
   rw [if_neg (by simp)]
   obtain ⟨b0, b1, b2, g⟩ := bar_bounds h h0 h1
   have e0 : rd_T72 (⟨m, 0⟩ :: mtsFrom ⟨m, 0⟩ r) 0 = ⟨m, 0⟩ := rfl
   have e1 : lastOr (fun x => decide (x.f1 ≤ t)) ⟨m, 0⟩ (⟨m, 0⟩ :: mtsFrom ⟨m, 0⟩ r) = sT ⟨m, 0⟩ r t := by
    rw [← lastOr_sT t r ⟨m, 0⟩ h.good h.vm]
    unfold lastOr
    rw [if_pos (by simpa using h0)]
    cases mtsFrom ⟨m, 0⟩ r <;> rfl
   rw [e0, e1, if_pos ⟨by simp [okM, g.b0, g.b1, g.c0, g.c1, g.d0, g.d1, h0, h1]; have := g.t0; have := g.b0; omega, b2⟩]
   rfl
 · rw [if_neg hin, if_neg (fun hh => hin ((inB_iff _ _ _).2 hh))]
def atOf (m : S61) (r : List S61) (a b c : Int) : Int × Int :=
 if inB a 0 1000000000 = true ∧ inB b 0 ((sB ⟨m, 0⟩ r a).f0.f1 - 1) = true ∧ inB c 0 ((sB ⟨m, 0⟩ r a).f0.f2 - 1) = true ∧ bt ⟨m, 0⟩ r a + b * (sB ⟨m, 0⟩ r a).f0.f2 + c ≤ 1000000000 then (bt ⟨m, 0⟩ r a + b * (sB ⟨m, 0⟩ r a).f0.f2 + c, 0) else (0, 7)
theorem bt_bounds {m : S61} {r : List S61} (h : Met m r) {a : Int} (h0 : 0 ≤ a) (h1 : a ≤ 1000000000) : 0 ≤ bt ⟨m, 0⟩ r a ∧ bt ⟨m, 0⟩ r a ≤ 640000000000000 ∧ Good (sB ⟨m, 0⟩ r a) := by
 have h2 := bt_le h.good h.vm (a := 0) (b := a) (by show m.f0 ≤ 0; rw [h.bar]; exact Int.le_refl _) h0
 rw [bt_zero h] at h2
 obtain ⟨g, g1⟩ := good_sB r ⟨m, 0⟩ a h.good h.vm (by show m.f0 ≤ a; rw [h.bar]; exact h0)
 refine ⟨by omega, ?_, g⟩
 have hl := g.long
 have ht := g.t1
 have hb := g.b0
 have hb1 := g.b1
 have := mulb (n := a - (sB ⟨m, 0⟩ r a).f0.f0) (N := 1000000000) (by omega) (by omega) (by omega : 0 ≤ long (sB ⟨m, 0⟩ r a).f0) hl.2
 unfold bt
 omega
theorem bar_prog {m : S61} {r : List S61} (h : Met m r) (hv : vmB (m :: r) = true) {a : Int} (h0 : 0 ≤ a) (h1 : a ≤ 1000000000) :
 tempo_bar.f 200 (m :: r) a = some ((sB ⟨m, 0⟩ r a).f0.f0, (sB ⟨m, 0⟩ r a).f0.f1, (sB ⟨m, 0⟩ r a).f0.f2, (sB ⟨m, 0⟩ r a).f1, bt ⟨m, 0⟩ r a) := by
 obtain ⟨q0, q1, g⟩ := bt_bounds h h0 h1
 unfold tempo_bar.f
 rw [(meters_eq m r h.len hv).1]
 simp only [Option.bind_some]
 rw [if_neg (by simp)]
 have e0 : rd_T72 (⟨m, 0⟩ :: mtsFrom ⟨m, 0⟩ r) 0 = ⟨m, 0⟩ := rfl
 have e1 : lastOr (fun x => decide (x.f0.f0 ≤ a)) ⟨m, 0⟩ (⟨m, 0⟩ :: mtsFrom ⟨m, 0⟩ r) = sB ⟨m, 0⟩ r a := by
  rw [← lastOr_sB a r ⟨m, 0⟩ h.good h.vm]
  unfold lastOr
  have : m.f0 ≤ a := by rw [h.bar]; exact h0
  rw [if_pos (by simpa using this)]
  cases mtsFrom ⟨m, 0⟩ r <;> rfl
 rw [e0, e1, if_pos (by simp [okM, g.b0, g.b1, g.c0, g.c1, g.d0, g.d1, h0, h1]; have := g.t0; have := g.b0; have := g.t1; have := g.b1; omega)]
 rfl
theorem at_prog {m : S61} {r : List S61} (h : Met m r) (hv : vmB (m :: r) = true) (a b c : Int) : tempo_At.f 200 (m :: r) a b c = some (atOf m r a b c) := by
 unfold tempo_At.f atOf
 rw [vm_eq _ h.len, hv]
 simp only [Option.bind_some, if_true]
 by_cases ha : inB a 0 1000000000 = true
 · obtain ⟨h0, h1⟩ := (inB_iff _ _ _).1 ha
   obtain ⟨q0, q1, g⟩ := bt_bounds h h0 h1
   rw [if_pos ha, bar_prog h hv h0 h1]
   simp only [Option.bind_some]
   rw [if_pos ⟨(inB_iff _ _ _).2 ⟨g.c0, g.c1⟩, (inB_iff _ _ _).2 ⟨g.d0, g.d1⟩, (inB_iff _ _ _).2 ⟨by omega, by omega⟩⟩]
   by_cases hb : inB b 0 ((sB ⟨m, 0⟩ r a).f0.f1 - 1) = true
   · by_cases hc : inB c 0 ((sB ⟨m, 0⟩ r a).f0.f2 - 1) = true
     · by_cases hs : bt ⟨m, 0⟩ r a + b * (sB ⟨m, 0⟩ r a).f0.f2 + c ≤ 1000000000
       · rw [if_pos hb, if_pos hc, if_neg (by omega), if_pos ⟨ha, hb, hc, hs⟩]
       · rw [if_pos hb, if_pos hc, if_pos (by omega), if_neg (fun hh => hs hh.2.2.2)]
     · rw [if_pos hb, if_neg hc, if_neg (fun hh => hc hh.2.2.1)]
   · rw [if_neg hb, if_neg (fun hh => hb hh.2.1)]
 · rw [if_neg ha, if_neg (fun hh => ha hh.1)]
theorem at_ref {m : S61} {r : List S61} (h : Met m r) (hv : vmB (m :: r) = true) (a b c : Int) : continuoref30_At.f 200 (m :: r) a b c = some (atOf m r a b c) := by
 have ej : ∀ a b c, continuoref30_At.j0 200 (m :: r) true a b c = some (0, 7) := fun a b c => rfl
 unfold continuoref30_At.f atOf
 rw [refvm_eq _ h.len, hv]
 simp only [Option.bind_some, if_true, time_eq]
 by_cases ha : inB a 0 1000000000 = true
 · obtain ⟨h0, h1⟩ := (inB_iff _ _ _).1 ha
   obtain ⟨q0, q1, g⟩ := bt_bounds h h0 h1
   rw [if_pos ha]
   by_cases hb0 : b < 0
   · rw [if_pos hb0, ej, if_neg (fun hh => by have := ((inB_iff _ _ _).1 hh.2.1).1; omega)]
   · rw [if_neg hb0]
     by_cases hc0 : c < 0
     · rw [decide_eq_true hc0, ej, if_neg (fun hh => by have := ((inB_iff _ _ _).1 hh.2.2.1).1; omega)]
     · rw [decide_eq_false hc0, continuoref30_At.j0.eq_2, if_neg (by simp), refbar_eq h 199 (by omega) a h0 h1]
       simp only [Option.bind_some]
       have g0 := g.c0; have g1 := g.c1; have g2 := g.d0; have g3 := g.d1
       by_cases hb : b ≥ (sB ⟨m, 0⟩ r a).f0.f1
       · rw [if_pos hb, if_neg (fun hh => by have := ((inB_iff _ _ _).1 hh.2.1).2; omega)]
       · rw [if_neg hb]
         by_cases hc : c ≥ (sB ⟨m, 0⟩ r a).f0.f2
         · rw [if_pos hc, if_neg (fun hh => by have := ((inB_iff _ _ _).1 hh.2.2.1).2; omega)]
         · rw [if_neg hc]
           have m1 := mulb (n := b) (N := 32) (by omega) (by omega) (by omega : 0 ≤ (sB ⟨m, 0⟩ r a).f0.f2) g3
           rw [w64 (x := b * (sB ⟨m, 0⟩ r a).f0.f2) (by omega) (by omega), w64 (x := bt ⟨m, 0⟩ r a + b * (sB ⟨m, 0⟩ r a).f0.f2) (by omega) (by omega), w64 (x := bt ⟨m, 0⟩ r a + b * (sB ⟨m, 0⟩ r a).f0.f2 + c) (by omega) (by omega)]
           by_cases hs : bt ⟨m, 0⟩ r a + b * (sB ⟨m, 0⟩ r a).f0.f2 + c ≤ 1000000000
           · rw [if_neg (by omega), if_pos ⟨ha, (inB_iff _ _ _).2 ⟨by omega, by omega⟩, (inB_iff _ _ _).2 ⟨by omega, by omega⟩, hs⟩]
           · rw [if_pos (by omega), if_neg (fun hh => hs hh.2.2.2)]
 · rw [if_neg ha, ej, if_neg (fun hh => ha hh.1)]
theorem up {α : Type} {g : Nat → Option α} (hm : ∀ k, LeO (g k) (g (k + 1))) {r : α} (h : g 200 = some r) : ∀ k, 200 ≤ k → g k = some r := by
 intro k hk
 obtain ⟨d, rfl⟩ : ∃ d, k = 200 + d := ⟨k - 200, by omega⟩
 clear hk
 induction d with
 | zero => exact h
 | succ d ih => exact hm _ _ ih
theorem there {m : S61} {r : List S61} (h : Met m r) {t : Int} (h0 : 0 ≤ t) (h1 : t ≤ 1000000000) :
 atOf m r (barOf (sT ⟨m, 0⟩ r t) t) ((t - (sT ⟨m, 0⟩ r t).f1) % long (sT ⟨m, 0⟩ r t).f0 / (sT ⟨m, 0⟩ r t).f0.f2) ((t - (sT ⟨m, 0⟩ r t).f1) % (sT ⟨m, 0⟩ r t).f0.f2) = (t, 0) := by
 obtain ⟨b0, b1, b2, g⟩ := bar_bounds h h0 h1
 have hs := sB_barOf r ⟨m, 0⟩ t h.good h.vm h0
 obtain ⟨e1, _⟩ := bt_barOf r ⟨m, 0⟩ t h.good h.vm h0 (by show m.f0 ≤ _; rw [h.bar]; exact b0)
 unfold atOf
 rw [hs, e1]
 generalize sT ⟨m, 0⟩ r t = s at g b0 b1 b2
 generalize barOf s t = B at b0 b1
 have hl := g.long
 have hd := g.d0
 have hq0 := Int.emod_nonneg (t - s.f1) (show long s.f0 ≠ 0 by omega)
 have hq1 := Int.emod_lt_of_pos (t - s.f1) (show 0 < long s.f0 by omega)
 have e3 : (t - s.f1) % long s.f0 % s.f0.f2 = (t - s.f1) % s.f0.f2 := Int.emod_emod_of_dvd _ ⟨_, Int.mul_comm _ _⟩
 rw [← e3]
 generalize (t - s.f1) % long s.f0 = q at *
 have x1 : 0 ≤ q / s.f0.f2 := Int.ediv_nonneg hq0 (by omega)
 have x2 : q / s.f0.f2 < s.f0.f1 := Int.ediv_lt_of_lt_mul (by omega) hq1
 have x3 := Int.emod_nonneg q (show s.f0.f2 ≠ 0 by omega)
 have x4 := Int.emod_lt_of_pos q (show 0 < s.f0.f2 by omega)
 have x5 := Int.mul_ediv_add_emod q s.f0.f2
 have x6 : q / s.f0.f2 * s.f0.f2 = s.f0.f2 * (q / s.f0.f2) := Int.mul_comm _ _
 rw [if_pos ⟨(inB_iff _ _ _).2 ⟨by omega, by omega⟩, (inB_iff _ _ _).2 ⟨by omega, by omega⟩, (inB_iff _ _ _).2 ⟨by omega, by omega⟩, by omega⟩]
 congr 1
 omega
theorem back {m : S61} {r : List S61} (h : Met m r) {a b c n : Int} (hn : atOf m r a b c = (n, 0)) :
 inB n 0 1000000000 = true ∧ barOf (sT ⟨m, 0⟩ r n) n = a ∧ (n - (sT ⟨m, 0⟩ r n).f1) % long (sT ⟨m, 0⟩ r n).f0 / (sT ⟨m, 0⟩ r n).f0.f2 = b ∧ (n - (sT ⟨m, 0⟩ r n).f1) % (sT ⟨m, 0⟩ r n).f0.f2 = c := by
 unfold atOf at hn
 have hc : inB a 0 1000000000 = true ∧ inB b 0 ((sB ⟨m, 0⟩ r a).f0.f1 - 1) = true ∧ inB c 0 ((sB ⟨m, 0⟩ r a).f0.f2 - 1) = true ∧ bt ⟨m, 0⟩ r a + b * (sB ⟨m, 0⟩ r a).f0.f2 + c ≤ 1000000000 := by
  apply Classical.byContradiction
  intro hh
  rw [if_neg hh] at hn
  simp at hn
 rw [if_pos hc] at hn
 obtain ⟨ha, hb, hcc, hs⟩ := hc
 obtain ⟨a0, a1⟩ := (inB_iff _ _ _).1 ha
 obtain ⟨b0, b1⟩ := (inB_iff _ _ _).1 hb
 obtain ⟨c0, c1⟩ := (inB_iff _ _ _).1 hcc
 simp only [Prod.mk.injEq, and_true] at hn
 obtain ⟨q0, q1, g⟩ := bt_bounds h a0 a1
 have g0 := g.c0; have g1 := g.c1; have g2 := g.d0; have g3 := g.d1
 have hbar : m.f0 ≤ a := by rw [h.bar]; exact a0
 have hsucc := bt_succ r ⟨m, 0⟩ a h.good h.vm hbar
 have m1 := mulb b0 (by omega : b ≤ 32) (by omega : 0 ≤ (sB ⟨m, 0⟩ r a).f0.f2) g3
 have m2 : b * (sB ⟨m, 0⟩ r a).f0.f2 + (sB ⟨m, 0⟩ r a).f0.f2 ≤ long (sB ⟨m, 0⟩ r a).f0 := by
  have e : (b + 1) * (sB ⟨m, 0⟩ r a).f0.f2 ≤ (sB ⟨m, 0⟩ r a).f0.f1 * (sB ⟨m, 0⟩ r a).f0.f2 := Int.mul_le_mul_of_nonneg_right (by omega) (by omega)
  rw [Int.add_mul, Int.one_mul] at e
  exact e
 have n0 : 0 ≤ n := by omega
 have n1 : n ≤ 1000000000 := by omega
 have i1 := (bt_iff r ⟨m, 0⟩ n a h.good h.vm n0 hbar).1 (by omega)
 have i2 : ¬ a + 1 ≤ barOf (sT ⟨m, 0⟩ r n) n := by
  intro hh
  have := (bt_iff r ⟨m, 0⟩ n (a + 1) h.good h.vm n0 (by show m.f0 ≤ a + 1; omega)).2 hh
  omega
 have hB : barOf (sT ⟨m, 0⟩ r n) n = a := by omega
 have hst := sB_barOf r ⟨m, 0⟩ n h.good h.vm n0
 rw [hB] at hst
 obtain ⟨z1, _⟩ := bt_barOf r ⟨m, 0⟩ n h.good h.vm n0 (by rw [hB]; exact hbar)
 rw [hB] at z1
 refine ⟨(inB_iff _ _ _).2 ⟨n0, n1⟩, hB, ?_⟩
 rw [← hst] at z1 ⊢
 have e3 : (n - (sB ⟨m, 0⟩ r a).f1) % long (sB ⟨m, 0⟩ r a).f0 % (sB ⟨m, 0⟩ r a).f0.f2 = (n - (sB ⟨m, 0⟩ r a).f1) % (sB ⟨m, 0⟩ r a).f0.f2 := Int.emod_emod_of_dvd _ ⟨_, Int.mul_comm _ _⟩
 rw [← e3]
 have e4 : (n - (sB ⟨m, 0⟩ r a).f1) % long (sB ⟨m, 0⟩ r a).f0 = c + b * (sB ⟨m, 0⟩ r a).f0.f2 := by omega
 rw [e4, Int.add_mul_ediv_right _ _ (by omega), Int.add_mul_emod_self_right, Int.ediv_eq_zero_of_lt c0 (by omega), Int.emod_eq_of_lt c0 (by omega)]
 exact ⟨by omega, rfl⟩
theorem awake_places : continuolaw30_awake.f 200 = some true := by decide +kernel
theorem TempoPlaces : ∀ (l : List S61) (t n a b c : Int), ∃ k, continuolaw30_TempoPlaces.f k l t n a b c = some true := by
 intro l t n a b c
 refine ⟨210, ?_⟩
 unfold continuolaw30_TempoPlaces.f
 rw [up (g := fun k => continuolaw30_awake.f k) (fun k => continuolaw30_awake.mono k) awake_places 210 (by omega)]
 simp only [Option.bind_some, if_true]
 have hlong : continuolaw30_long.f ([] : List S27) l ([] : List S56) = some (decide (60 < l.length)) := by
  unfold continuolaw30_long.f
  rw [if_neg (by simp)]
  by_cases h : 60 < l.length
  · rw [if_pos (by omega)]; simp [h]
  · rw [if_neg (by omega)]; simp [h]
 rw [hlong]
 simp only [Option.bind_some, decide_eq_true_eq]
 by_cases hl : 60 < l.length
 · rw [if_pos hl]
 · rw [if_neg hl]
   have hl2 : l.length ≤ 100 := by omega
   have hV1 := up (g := fun k => tempo_ValidMeter.f k l) (fun k => tempo_ValidMeter.mono l k) (vm_eq l hl2)
   have hV2 := up (g := fun k => continuoref30_ValidMeter.f k l) (fun k => continuoref30_ValidMeter.mono l k) (refvm_eq l hl2)
   cases hv : vmB l with
   | false =>
    rw [hv] at hV1 hV2
    have p1 : ∀ k, 200 ≤ k → ∀ t, tempo_Place.f k l t = some (0, 0, 0, 1) := fun k hk t => by unfold tempo_Place.f; rw [hV1 k hk]; rfl
    have p2 : ∀ k, 200 ≤ k → ∀ t, continuoref30_Place.f k l t = some (0, 0, 0, 1) := fun k hk t => by unfold continuoref30_Place.f; rw [hV2 k hk]; rfl
    have p3 : ∀ k, 200 ≤ k → ∀ a b c, tempo_At.f k l a b c = some (0, 1) := fun k hk a b c => by unfold tempo_At.f; rw [hV1 k hk]; rfl
    have p4 : ∀ k, 200 ≤ k → ∀ a b c, continuoref30_At.f k l a b c = some (0, 1) := fun k hk a b c => by unfold continuoref30_At.f; rw [hV2 k hk]; rfl
    have hj2 : continuolaw30_TempoPlaces.j2 208 l n 1 0 false a b c = some true := by
     rw [continuolaw30_TempoPlaces.j2.eq_2, if_neg (by simp), if_neg (by decide)]
     unfold tempo_Bar.f continuoref30_Bar.f
     simp [p3 207 (by omega), p4 207 (by omega)]
    have hj1 : continuolaw30_TempoPlaces.j1 209 l n a b c = some true := by
     rw [continuolaw30_TempoPlaces.j1.eq_2, p3 208 (by omega), p4 208 (by omega)]
     simp only [Option.bind_some, if_true]
     exact hj2
    rw [p1 210 (by omega), p2 210 (by omega), hV1 210 (by omega), hV2 210 (by omega)]
    simp only [Option.bind_some]
    rw [if_neg (by simp), if_pos trivial, continuolaw30_TempoPlaces.j0.eq_2, if_neg (by simp), if_neg (by decide)]
    exact hj1
   | true =>
    cases l with
    | nil => simp [vmB] at hv
    | cons m r =>
     obtain ⟨_, hg, hvm, hbar⟩ := meters_eq m r hl2 hv
     have h : Met m r := ⟨hl2, hg, hvm, hbar⟩
     rw [hv] at hV1 hV2
     have p1 : ∀ k, 200 ≤ k → ∀ t, tempo_Place.f k (m :: r) t = _ := fun k hk t => up (g := fun k => tempo_Place.f k (m :: r) t) (fun k => tempo_Place.mono _ _ k) (by
      have := place_prog h hv t
      have e : ∀ (c : Prop) [Decidable c] (x y : Int × Int × Int × Int), (if c then some x else some y) = some (if c then x else y) := fun c _ x y => by split <;> rfl
      rw [e] at this
      exact this) k hk
     have p2 : ∀ k, 200 ≤ k → ∀ t, continuoref30_Place.f k (m :: r) t = _ := fun k hk t => up (g := fun k => continuoref30_Place.f k (m :: r) t) (fun k => continuoref30_Place.mono _ _ k) (by
      have := place_ref h hv t
      have e : ∀ (c : Prop) [Decidable c] (x y : Int × Int × Int × Int), (if c then some x else some y) = some (if c then x else y) := fun c _ x y => by split <;> rfl
      rw [e] at this
      exact this) k hk
     have p3 : ∀ k, 200 ≤ k → ∀ a b c, tempo_At.f k (m :: r) a b c = some (atOf m r a b c) := fun k hk a b c => up (g := fun k => tempo_At.f k (m :: r) a b c) (fun k => tempo_At.mono _ _ _ _ k) (at_prog h hv a b c) k hk
     have p4 : ∀ k, 200 ≤ k → ∀ a b c, continuoref30_At.f k (m :: r) a b c = some (atOf m r a b c) := fun k hk a b c => up (g := fun k => continuoref30_At.f k (m :: r) a b c) (fun k => continuoref30_At.mono _ _ _ _ k) (at_ref h hv a b c) k hk
     have hj3 : ∀ k, 201 ≤ k → continuolaw30_TempoPlaces.j3 k (m :: r) n false = some true := by
      intro k hk
      obtain ⟨k, rfl⟩ : ∃ q, k = q + 1 := ⟨k - 1, by omega⟩
      rw [continuolaw30_TempoPlaces.j3.eq_2]
      unfold tempo_Bar.f continuoref30_Bar.f
      simp [p3 k (by omega), p4 k (by omega)]
     have hj2 : ∀ x y, atOf m r a b c = (y, x) → continuolaw30_TempoPlaces.j2 208 (m :: r) n x y false a b c = some true := by
      intro x y hxy
      rw [continuolaw30_TempoPlaces.j2.eq_2, if_neg (by simp)]
      by_cases hx : x = 0
      · subst hx
        obtain ⟨w1, w2, w3, w4⟩ := back h hxy
        rw [if_pos rfl, p1 207 (by omega), w1]
        simp only [if_true, Option.bind_some]
        rw [w2, w3, w4, if_neg (by simp)]
        exact hj3 207 (by omega)
      · rw [if_neg hx]
        unfold tempo_Bar.f continuoref30_Bar.f
        simp [p3 207 (by omega), p4 207 (by omega)]
     have hj1 : continuolaw30_TempoPlaces.j1 209 (m :: r) n a b c = some true := by
      rw [continuolaw30_TempoPlaces.j1.eq_2, p3 208 (by omega), p4 208 (by omega)]
      simp only [Option.bind_some, if_true]
      rw [show ((atOf m r a b c).2 != (atOf m r a b c).2) = false by simp]
      exact hj2 _ _ rfl
     rw [p1 210 (by omega), p2 210 (by omega), hV1 210 (by omega), hV2 210 (by omega)]
     simp only [Option.bind_some]
     rw [if_neg (by simp), if_pos trivial]
     rw [continuolaw30_TempoPlaces.j0.eq_2, if_neg (by simp)]
     by_cases hin : inB t 0 1000000000 = true
     · obtain ⟨h0, h1⟩ := (inB_iff _ _ _).1 hin
       rw [hin]
       simp only [if_true]
       rw [p3 209 (by omega), there h h0 h1]
       simp only [Option.bind_some, if_true]
       exact hj1
     · rw [Bool.eq_false_iff.2 hin]
       simp only [Bool.false_eq_true, if_false]
       rw [if_neg (by decide)]
       exact hj1
end Go.Proofs.Ytomlfbmfdoallaa.Pure

namespace Go.Proofs.Ytomlfbmfdoallaa
open Go.ChangeShapes Go.WideShapes Go.Deep
set_option linter.unusedVariables false
section
variable {H : Type} {enc : TypeId × Value → H} {P : Program} {w : World} {base : Nat} {spare : Nat → Bool} {held : Bool}
theorem open_slice_fields {t e : TypeId} {fs : Array Field} {fuel : Nat} {cs : List Value} {x : DataW H × List MemPlace} (ht : P.underlying t = some (.slice e)) (he : P.underlying e = some (.struct fs))
 (hone : oneCellFields P fs = true) (hC : P.cellsOf e = fs.size) (h : DataW.trod enc P w base spare held fuel t cs = some x) :
 (cs = [.slice none 0 0] ∧ x = (.nil, [])) ∨
 ∃ (a : Addr) (len cap m : Nat) (D : Nat → DataW H) (Pl : Nat → List MemPlace), cs = [.slice (some a) len cap] ∧ base ≤ a.block ∧ len ≤ cap ∧ cap ≤ maxLen ∧ m = (if spare a.block then cap else len) ∧
  x = (.slice ((List.range len).map D) ((List.range (m - len)).map fun j => D (len + j)), MemPlace.row a (m * fs.size) ++ (List.range m).flatMap Pl) ∧
  ∀ i, i < m → ∃ (ys : List (DataW H × List MemPlace)) (n : Nat), D i = .agg (ys.map (·.1)) ∧ Pl i = ys.flatMap (·.2) ∧ ys.length = fs.size ∧
   ∀ (j : Nat) (f : Field), fs[j]? = some f → ∃ (v : Value) (y : DataW H × List MemPlace), w.cell? (a.add (i * fs.size + j)) = some v ∧ ys[j]? = some y ∧ DataW.trod enc P w base spare held n f.type [v] = some y := by
 rcases open_slice ht h with h0 | ⟨a, len, cap, m, n, D, Pl, hcs, hb, hl, hm, hmm, hx, hi⟩
 · exact .inl h0
 · refine .inr ⟨a, len, cap, m, D, Pl, hcs, hb, hl, hm, hmm, by rw [hC] at hx; exact hx, fun i him => ?_⟩
   obtain ⟨cs', hc, ht'⟩ := hi i him
   rw [hC] at hc
   obtain ⟨ys, n', hn', hy, hlen, hyl, hf⟩ := DataW.trod_struct he ht'
   obtain ⟨_, hcl, hat⟩ := World.cells?_some hc
   simp only [Prod.mk.injEq] at hy
   refine ⟨ys, n', hy.1, hy.2, hyl, fun j f hj => ?_⟩
   obtain ⟨ho, hk⟩ := hone_of hone j f hj
   have hjl : j < fs.size := (Array.getElem?_eq_some_iff.1 hj).1
   have hcell := hat j hjl
   have hv : cs'[j]? = some (cs'[j]'(by omega)) := List.getElem?_eq_getElem (by omega)
   have h1 := hf j f hj
   rw [ho, hk] at h1
   have hone' : (cs'.drop j).take 1 = [cs'[j]'(by omega)] := by
    rw [List.drop_eq_getElem_cons (by omega)]
    rfl
   rw [hone'] at h1
   have hys : ys[j]? = some (ys[j]'(by omega)) := List.getElem?_eq_getElem (by omega)
   refine ⟨_, _, ?_, hys, h1.trans hys⟩
   rw [← Go.Deep.add_add, hcell, hv]
end
section
variable {H : Type} {enc : TypeId × Value → H} {P : Program} {w : World} {base : Nat} {spare : Nat → Bool} {held : Bool}
def Triples (w : World) (a : Option Addr) (len cap : Nat) (zs : List (Int × Int × Int)) : Prop :=
 zs.length = len ∧ len ≤ cap ∧ len ≤ 9223372036854775807 ∧ (∀ p ∈ zs, (Lit.int .i64 p.1).wf = true ∧ (Lit.int .i64 p.2.1).wf = true ∧ (Lit.int .i64 p.2.2).wf = true) ∧
  (0 < len → ∃ ad, a = some ad ∧ ∀ j p, zs[j]? = some p → ∀ i u, [Value.int .i64 p.1, .int .i64 p.2.1, .int .i64 p.2.2][i]? = some u → w.cell? (ad.add (j * 3 + i)) = some u)
theorem open_slice3 {t e : TypeId} {f0 f1 f2 : Field} {fuel : Nat} {a : Option Addr} {len cap : Nat} {x : DataW H × List MemPlace} (ht : P.underlying t = some (.slice e)) (he : P.underlying e = some (.struct #[f0, f1, f2]))
 (hone : oneCellFields P #[f0, f1, f2] = true) (hC : P.cellsOf e = 3) (h0 : P.underlying f0.type = some (.int .i64)) (h1 : P.underlying f1.type = some (.int .i64)) (h2 : P.underlying f2.type = some (.int .i64))
 (h : DataW.trod enc P w base spare held fuel t [.slice a len cap] = some x) : ∃ zs, Triples w a len cap zs := by
 rcases open_slice_fields ht he hone hC h with ⟨hcs, _⟩ | ⟨ad, l, c, m, D, Pl, hcs, _, hl, hm, hmm, _, hi⟩
 · simp at hcs
   obtain ⟨rfl, rfl, rfl⟩ := hcs
   exact ⟨[], rfl, by omega, by omega, by simp, fun h => absurd h (Nat.lt_irrefl 0)⟩
 · simp at hcs
   obtain ⟨rfl, rfl, rfl⟩ := hcs
   have hlm : len ≤ m := by rw [hmm]; split <;> omega
   have key : ∀ i, i < len → ∃ p : Int × Int × Int, ((Lit.int .i64 p.1).wf = true ∧ (Lit.int .i64 p.2.1).wf = true ∧ (Lit.int .i64 p.2.2).wf = true) ∧ ∀ k u, [Value.int .i64 p.1, .int .i64 p.2.1, .int .i64 p.2.2][k]? = some u → w.cell? (ad.add (i * 3 + k)) = some u := by
    intro i hil
    obtain ⟨ys, n, _, _, hy, hf⟩ := hi i (by omega)
    obtain ⟨v0, y0, c0, _, t0⟩ := hf 0 f0 rfl
    obtain ⟨v1, y1, c1, _, t1⟩ := hf 1 f1 rfl
    obtain ⟨v2, y2, c2, _, t2⟩ := hf 2 f2 rfl
    obtain ⟨p0, e0, _, w0⟩ := DataW.trod_int h0 t0
    obtain ⟨p1, e1, _, w1⟩ := DataW.trod_int h1 t1
    obtain ⟨p2, e2, _, w2⟩ := DataW.trod_int h2 t2
    simp only [List.cons.injEq, and_true] at e0 e1 e2
    subst e0 e1 e2
    refine ⟨(p0, p1, p2), ⟨w0, w1, w2⟩, fun k u hk => ?_⟩
    match k with
    | 0 => simp at hk; subst hk; exact c0
    | 1 => simp at hk; subst hk; exact c1
    | 2 => simp at hk; subst hk; exact c2
    | k + 3 => simp at hk
   have key2 : ∀ n, n ≤ len → ∃ zs : List (Int × Int × Int), zs.length = n ∧ (∀ p ∈ zs, (Lit.int .i64 p.1).wf = true ∧ (Lit.int .i64 p.2.1).wf = true ∧ (Lit.int .i64 p.2.2).wf = true) ∧ ∀ j p, zs[j]? = some p → ∀ k u, [Value.int .i64 p.1, .int .i64 p.2.1, .int .i64 p.2.2][k]? = some u → w.cell? (ad.add (j * 3 + k)) = some u := by
    intro n
    induction n with
    | zero => intro _; exact ⟨[], rfl, by simp, by simp⟩
    | succ n ih =>
     intro hn
     obtain ⟨zs, hz, hw, hc⟩ := ih (by omega)
     obtain ⟨p, hwp, hp⟩ := key n (by omega)
     refine ⟨zs ++ [p], by simp [hz], ?_, ?_⟩
     · intro q hq
       rcases List.mem_append.1 hq with hq | hq
       · exact hw q hq
       · rw [List.mem_singleton.1 hq]; exact hwp
     · intro j q hj
       by_cases hjn : j < n
       · rw [List.getElem?_append_left (by omega)] at hj
         exact hc j q hj
       · have hj2 := (List.getElem?_eq_some_iff.1 hj).1
         simp [hz] at hj2
         obtain rfl : j = n := by omega
         rw [List.getElem?_append_right (by omega)] at hj
         simp [hz] at hj
         subst hj
         exact hp
   obtain ⟨zs, hz, hw, hc⟩ := key2 len (Nat.le_refl _)
   exact ⟨zs, hz, hl, by unfold maxLen at hm; omega, hw, fun _ => ⟨ad, rfl, hc⟩⟩
end
end Go.Proofs.Ytomlfbmfdoallaa

namespace Go.Proofs.Ytomlfbmfdoallaa.tempoPlaces
open Go.ChangeShapes Go.WideShapes Go.ChangeAt Go.RowKit Go.Joins
set_option linter.unusedVariables false
theorem own : ownKnob Try.prog.godebug = none := by kernel_rfl
theorem laidOut : laidOutB Try.prog = true := by kernel_rfl
def tr61 (zs : List (Int × Int × Int)) : List PA.S61 := zs.map fun p => ⟨p.1, p.2.1, p.2.2⟩
theorem kd61 {W : World} {a : Option Addr} {len cap : Nat} {zs : List (Int × Int × Int)} (h : Triples W a len cap zs) : Go.Proofs.YtomlfbmfdoallaaW.PrintWords.Kd.C PA.k61 W a (tr61 zs).length (tr61 zs) ∧ (tr61 zs).length = len := by
 obtain ⟨h1, h2, h3, _, h4⟩ := h
 have hl : (tr61 zs).length = len := by simp [tr61, h1]
 refine ⟨⟨rfl, by omega, fun hp => ?_⟩, hl⟩
 obtain ⟨ad, e, hc⟩ := h4 (by omega)
 refine ⟨ad, e, fun j p hj => ?_⟩
 simp only [tr61, List.getElem?_map, Option.map_eq_some_iff] at hj
 obtain ⟨q, hq, rfl⟩ := hj
 exact ⟨_, rfl, PA.k61_mk W _, hc j q hq⟩
set_option maxRecDepth 100000 in
theorem lifted (os : Os) (started : os.Started) (H : Type) (enc : TypeId × Value → H) :
 ReturnsInHanded {} Try.checked os 5 .any (Rows.tempoPlacesSpec.pre6 enc Try.prog Try.f5 Rows.tempoPlacesRow.domain false) (Rows.tempoPlacesSpec.post enc Try.prog Try.f5 false true false false) := by
 refine returnsInHanded_of_change_sized (C := Try.checked) own started (by kernel_rfl) Try.func5
  (ChangeSpec.witness6 (enc := enc) (C := Try.checked) false ⟨#[], #[.slice none 0 0, .int .i64 0, .int .i64 0, .agg #[.int .i64 0, .int .i64 0, .int .i64 0]], []⟩ 8 (by kernel_rfl) (by kernel_rfl) (by kernel_rfl) (by kernel_rfl)) ?_
 intro W base args ds gs before hval0 hW hcnd hsz0 _
 have hval : ∀ (j : Nat) t v, Try.f5.params[j]? = some t → args[j]? = some v → Value.okWide Try.prog W .any base t v := hval0
 have hW' := hW
 obtain ⟨p, q, hA0, hV, rfl, hfz, hnd⟩ := hW
 have hA : DataW.TrodAll enc Try.prog W 0 (fun _ => true) true Try.f5.params.toList args.toList ds p := hA0
 rw [Try.params5] at hA hval
 obtain ⟨v0, vs0, d0, ds0, p0, q0, hargs, rfl, rfl, h0, r0⟩ := trodAll_cons hA
 obtain ⟨v1, vs1, d1, ds1, p1, q1, rfl, rfl, rfl, h1, r1⟩ := trodAll_cons r0
 obtain ⟨v2, vs2, d2, ds2, p2, q2, rfl, rfl, rfl, h2, r2⟩ := trodAll_cons r1
 obtain ⟨v3, vs3, d3, ds3, p3, q3, rfl, rfl, rfl, h3, r3⟩ := trodAll_cons r2
 obtain ⟨rfl, rfl, rfl⟩ := trodAll_nil r3
 obtain rfl : args = #[v0, v1, v2, v3] := by cases args; simp_all
 obtain ⟨rfl, rfl⟩ := trodVars_none hV
 obtain ⟨a0, len0, cap0, rfl⟩ := okWide_slice Try.underlying35 (hval 0 35 v0 rfl rfl)
 have k0 := h0
 have lt0 : ∀ x ∈ p0, x.block < W.heap.size := by obtain ⟨m, hm⟩ := k0; exact DataW.trod_lt m _ _ _ hm
 obtain ⟨zs0, tz0⟩ : ∃ zs, Triples W a0 len0 cap0 zs := by
  obtain ⟨fuel, hf⟩ := h0
  exact open_slice3 Try.underlying35 Try.underlying61 (by kernel_rfl) (by kernel_rfl) Try.underlying3 Try.underlying3 Try.underlying3 (by simpa [Value.cells] using hf)
 obtain ⟨kd0, kl0⟩ := kd61 tz0
 obtain ⟨a1, rfl, rfl, rfl, w1⟩ := open_int Try.underlying3 (hval 1 3 v1 rfl rfl) h1
 obtain ⟨a2, rfl, rfl, rfl, w2⟩ := open_int Try.underlying3 (hval 2 3 v2 rfl rfl) h2
 have k3 := h3
 have lt3 : ∀ x ∈ p3, x.block < W.heap.size := by obtain ⟨m, hm⟩ := k3; exact DataW.trod_lt m _ _ _ hm
 obtain ⟨c3_0, c3_1, c3_2, y3_0, y3_1, y3_2, m3, rfl, _, _, u3_0, u3_1, u3_2⟩ := open_agg3 Try.underlying37 (by kernel_rfl) (by kernel_rfl : Try.prog.cellsOf 37 = 3) (hval 3 37 v3 rfl rfl) h3
 obtain ⟨a3_0, e3_0, _, w3_0⟩ := DataW.trod_int Try.underlying3 u3_0
 simp only [List.cons.injEq, and_true] at e3_0
 subst e3_0
 obtain ⟨a3_1, e3_1, _, w3_1⟩ := DataW.trod_int Try.underlying3 u3_1
 simp only [List.cons.injEq, and_true] at e3_1
 subst e3_1
 obtain ⟨a3_2, e3_2, _, w3_2⟩ := DataW.trod_int Try.underlying3 u3_2
 simp only [List.cons.injEq, and_true] at e3_2
 subst e3_2
 clear hA0 hval0 hsz0
 obtain ⟨k, hk⟩ := Pure.TempoPlaces (tr61 zs0) a1 a2 a3_0 a3_1 a3_2
 have HC := PA.continuolaw30_TempoPlaces.calls k a0 cap0 (tr61 zs0) a1 a2 a3_0 a3_1 a3_2 true W kd0 (by rw [kl0]; exact tz0.2.1) hk
 rw [kl0] at HC
 refine HC.mono fun e W' ⟨he, bel⟩ => ?_
 subst he
 exact ⟨_, rfl, _, _, _, [], _, [], hW', trodAll_mk1 (shut_bool Try.underlying4 _), (trodAll_cons_mk (Below.trod laidOut (by kernel_rfl) (of_decide_eq_true (by kernel_rfl)) k0 bel lt0) (trodAll_cons_mk (shut_int Try.underlying3 w1) (trodAll_cons_mk (shut_int Try.underlying3 w2) (trodAll_cons_mk (Below.trod laidOut (by kernel_rfl) (of_decide_eq_true (by kernel_rfl)) k3 bel lt3) trodAll_mk0)))), rfl, bel.frame _, fun h => by cases h⟩
theorem over : Rows.tempoPlacesRow.holds Try.pinned (OpenSpec.ofChange Rows.tempoPlacesSpec) :=
 OpenClaim.holds_of_wide 5 Try.f5 rfl rfl rfl rfl rfl rfl rfl ⟨rfl, rfl, rfl, rfl, rfl⟩ rfl rfl rfl rfl rfl (by kernel_rfl) Try.func5 (by kernel_rfl)
  (of_decide_eq_true (by kernel_rfl)) (by unfold Func.isWrapper; first | (rw [if_pos (by decide +kernel)]; kernel_rfl) | (rw [if_neg (by decide +kernel)]; exact ⟨rfl, rfl⟩))
  (fun os started H enc _ => lifted os started H enc)
theorem proved : Rows.TempoPlacesSaid := over
#print axioms proved
end Go.Proofs.Ytomlfbmfdoallaa.tempoPlaces
namespace Go.Proofs.Ytomlfbmfdoallaa
theorem tempoPlaces_holds : Rows.TempoPlacesSaid := tempoPlaces.proved
end Go.Proofs.Ytomlfbmfdoallaa
