/- The frame and the period of a tick, told by recursion over the points, and which lists are maps, decided. -/
import Derived.Test.YtomlfbmfdoallaaTc
namespace Go.Proofs.Ytomlfbmfdoallaa.PA
open Go.RowKit Go.Shelf Go.Proofs.YtomlfbmfdoallaaW.PrintWords Go.Proofs.YtomlfbmfdoallaaW.PrintLast Go.Proofs.YtomlfbmfdoallaaW.PrintMore
set_option linter.unusedVariables false
set_option linter.unusedSimpArgs false

/-- The frame of a tick, of a map that begins at frame s. -/
def fr : List S27 → Int → Int → Int
  | [], s, _ => s
  | [t], s, k => s + (Crv.even t.f1).frames (k - t.f0)
  | t :: t2 :: r, s, k => if t2.f0 ≤ k then fr (t2 :: r) (s + (crvOf t (some t2)).frames (t2.f0 - t.f0)) k else s + (crvOf t (some t2)).frames (k - t.f0)
/-- The period of a tick. -/
def per : List S27 → Int → Int
  | [], _ => 0
  | [t], _ => t.f1
  | t :: t2 :: r, k => if t2.f0 ≤ k then per (t2 :: r) k else (crvOf t (some t2)).period (k - t.f0)

/-- A curve's numbers, and how many ticks may be asked. -/
def Crv.Ok : Crv → Int → Prop
  | .even p, n => 1 ≤ p ∧ p ≤ 67108864 ∧ 0 ≤ n ∧ n ≤ 1000000000
  | .changing p q l, n => 1 ≤ p ∧ p ≤ 67108864 ∧ 1 ≤ q ∧ q ≤ 67108864 ∧ 1 ≤ l ∧ l ≤ 10000 ∧ 0 ≤ n ∧ n ≤ l
theorem Crv.Ok.bound {c : Crv} {n : Int} (h : c.Ok n) : 0 ≤ c.frames n ∧ c.frames n ≤ 1024000000001 := by
  cases c with
  | even p => obtain ⟨h1, h2, h3, h4⟩ := h; exact even_bound p n h3 h4 h1 h2
  | changing p q l => obtain ⟨h1, h2, h3, h4, h5, h6, h7, h8⟩ := h; exact changing_bound p q l n h7 h8 h5 h6 h1 h2 h3 h4
theorem crv_ok {t t2 : S27} {r : List S27} (h : MapFrom (t :: t2 :: r)) {n : Int} (h0 : 0 ≤ n) (h1 : n ≤ t2.f0 - t.f0) : (crvOf t (some t2)).Ok n := by
  obtain ⟨m0, m1, m2, m3, m4, m5, m6, m7, m8⟩ := h
  obtain ⟨n0, n1, n2, n3⟩ := m8.head
  by_cases hc : t.f2 = 1
  · have := m7 hc
    simp only [crvOf, hc, if_true]
    exact ⟨m2, m3, n2, n3, by omega, this, h0, h1⟩
  · simp only [crvOf, hc, if_false]
    exact ⟨m2, m3, h0, by omega⟩

theorem pick_cons_pos {tick : Int} {x : Prt} {l : List Prt} (h : x.tick ≤ tick) : pick tick (x :: l) = some ((pick tick l).getD x) := by
  unfold pick
  rw [List.takeWhile_cons_of_pos (by simpa using h)]
  rw [List.getLast?_cons]
theorem pick_spec (tick : Int) (htick : tick ≤ 1000000000) : ∀ (l : List S27) (s : Int), MapFrom l → l ≠ [] → (∀ t, l.head? = some t → t.f0 ≤ tick) →
    ∃ x, pick tick (prts s l) = some x ∧ x.frame + x.c.frames (tick - x.tick) = fr l s tick ∧ x.c.period (tick - x.tick) = per l tick ∧ x.c.Ok (tick - x.tick) ∧ 0 ≤ x.tick ∧ x.tick ≤ tick ∧ s ≤ x.frame ∧ x.frame ≤ s + (l.length : Int) * 1024000000001
  | [], _, _, h, _ => absurd rfl h
  | [t], s, hm, _, hh => by
    have ht := hh t rfl
    obtain ⟨m0, m1, m2, m3, m4⟩ := hm
    refine ⟨⟨.even t.f1, t.f0, s, -1⟩, ?_, rfl, rfl, ⟨m2, m3, by show 0 ≤ tick - t.f0; omega, by show tick - t.f0 ≤ _; omega⟩, m0, ht, Int.le_refl _, by show s ≤ _; simp; omega⟩
    simp [prts, crvOf, pick, List.takeWhile_cons, ht]
  | t :: t2 :: r, s, hm, _, hh => by
    have ht := hh t rfl
    have hm0 := hm
    obtain ⟨m0, m1, m2, m3, m4, m5, m6, m7, m8⟩ := hm
    have hb := (crv_ok hm0 (n := t2.f0 - t.f0) (by omega) (by omega)).bound
    have e : prts s (t :: t2 :: r) = ⟨crvOf t (some t2), t.f0, s, t2.f0⟩ :: prts (s + (crvOf t (some t2)).frames (t2.f0 - t.f0)) (t2 :: r) := rfl
    rw [e, pick_cons_pos (by exact ht)]
    by_cases hk : t2.f0 ≤ tick
    · obtain ⟨x, h1, h2, h3, h4, h5, h6, h7, h8⟩ := pick_spec tick htick (t2 :: r) (s + (crvOf t (some t2)).frames (t2.f0 - t.f0)) m8 (by simp) (fun t' e => by cases e; exact hk)
      refine ⟨x, by rw [h1]; rfl, by rw [h2]; simp [fr, hk], by rw [h3]; simp [per, hk], h4, h5, h6, by omega, ?_⟩
      simp only [List.length_cons] at h8 ⊢
      omega
    · have hn : pick tick (prts (s + (crvOf t (some t2)).frames (t2.f0 - t.f0)) (t2 :: r)) = none := by
        cases r <;> simp [prts, pick, List.takeWhile_cons, hk]
      refine ⟨_, by rw [hn], by simp [fr, hk], by simp [per, hk], crv_ok hm0 (by show 0 ≤ tick - t.f0; omega) (by show tick - t.f0 ≤ _; omega), m0, ht, Int.le_refl _, by show s ≤ _; simp only [List.length_cons]; omega⟩

/-- Which lists are maps, told. -/
def mapFromB : List S27 → Bool
  | [] => true
  | [t] => decide (0 ≤ t.f0) && decide (t.f0 ≤ 1000000000) && decide (1 ≤ t.f1) && decide (t.f1 ≤ 67108864) && decide (t.f2 = 0)
  | t :: t2 :: r => decide (0 ≤ t.f0) && decide (t.f0 ≤ 1000000000) && decide (1 ≤ t.f1) && decide (t.f1 ≤ 67108864) && decide (0 ≤ t.f2) && decide (t.f2 ≤ 1) && decide (t.f0 < t2.f0) && (decide (t.f2 ≠ 1) || decide (t2.f0 - t.f0 ≤ 10000)) && mapFromB (t2 :: r)
def mapOkB (l : List S27) : Bool := decide (1 ≤ l.length) && decide (l.length ≤ 50) && (match l.head? with | none => true | some t => decide (t.f0 = 0)) && mapFromB l
theorem mapFromB_iff : ∀ l, mapFromB l = true ↔ MapFrom l
  | [] => by simp [mapFromB, MapFrom]
  | [t] => by simp [mapFromB, MapFrom, and_assoc]
  | t :: t2 :: r => by
    simp only [mapFromB, MapFrom, Bool.and_eq_true, decide_eq_true_eq, Bool.or_eq_true, mapFromB_iff (t2 :: r), and_assoc]
    constructor
    · rintro ⟨a, b, c, d, e, f, g, h, i⟩; exact ⟨a, b, c, d, e, f, g, fun k => h.resolve_left (fun n => n k), i⟩
    · rintro ⟨a, b, c, d, e, f, g, h, i⟩; exact ⟨a, b, c, d, e, f, g, (Classical.em (t.f2 = 1)).elim (fun k => .inr (h k)) .inl, i⟩
theorem mapOkB_iff (l : List S27) : mapOkB l = true ↔ MapOk l := by
  unfold mapOkB MapOk
  simp only [Bool.and_eq_true, decide_eq_true_eq, mapFromB_iff, and_assoc]
  cases l with
  | nil => simp
  | cons t r => simp
end Go.Proofs.Ytomlfbmfdoallaa.PA
