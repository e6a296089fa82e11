/- The period for some beats in a minute: the program's FromBeats and the reference's answer alike, for all numbers. -/
import Derived.Test.YtomlfbmfdoallaaPAxf4
namespace Go.Proofs.Ytomlfbmfdoallaa.Pure
open Go.RowKit Go.Proofs.Ytomlfbmfdoallaa.PA Go.Proofs.YtomlfbmfdoallaaW.PrintWords Go.Proofs.YtomlfbmfdoallaaW.PrintLast

theorem awake_true : continuolaw30_awake.f 100 = some true := by decide +kernel

theorem rounded_eq (a b : Int) (hb : 0 < b) (hb2 : b ≤ 2305843009213693952) (ha : -2305843009213693952 ≤ a) (ha2 : a ≤ 2305843009213693952) : continuoref30_Rounded.f a b = some (rnd a b) := by
  unfold continuoref30_Rounded.f rnd
  by_cases h : a < 0
  · rw [if_pos h, if_pos h, w64 (x := 2 * b) (by omega) (by omega), if_neg (by omega), w64 (x := -a) (by omega) (by omega), w64 (x := -a * 2) (by omega) (by omega), w64 (x := -a * 2 + b) (by omega) (by omega), Int.tdiv_eq_ediv_of_nonneg (by omega),
      show -a * 2 + b = -2 * a + b by omega]
    have h3 : 0 ≤ (-2 * a + b) / (2 * b) := Int.ediv_nonneg (by omega) (by omega)
    have h4 : (-2 * a + b) / (2 * b) ≤ -2 * a + b := Int.ediv_le_self _ (by omega)
    rw [w64 (x := (-2 * a + b) / (2 * b)) (by omega) (by omega), w64 (by omega) (by omega)]
  · rw [if_neg h, if_neg h, w64 (x := 2 * b) (by omega) (by omega), if_neg (by omega), w64 (x := a * 2) (by omega) (by omega), w64 (x := a * 2 + b) (by omega) (by omega), Int.tdiv_eq_ediv_of_nonneg (by omega), show a * 2 + b = 2 * a + b by omega]
    have h3 : 0 ≤ (2 * a + b) / (2 * b) := Int.ediv_nonneg (by omega) (by omega)
    have h4 : (2 * a + b) / (2 * b) ≤ 2 * a + b := Int.ediv_le_self _ (by omega)
    rw [w64 (x := (2 * a + b) / (2 * b)) (by omega) (by omega)]

theorem beats_out (a b c : Int) (h : ¬ (1 ≤ a ∧ a ≤ 192000 ∧ 1 ≤ b ∧ b ≤ 1000 ∧ 1 ≤ c ∧ c ≤ 10000)) : tempo_FromBeats.f 100 a b c = some (0, 7) ∧ continuoref30_FromBeats.f 100 a b c = some (0, 7) := by
  constructor
  · unfold tempo_FromBeats.f
    simp only [tempo_within.eq, Option.bind_some, tempo_FromBeats.j0, Bool.and_eq_true, decide_eq_true_eq]
    split
    · split
      · rw [if_pos (by simp; omega)]
      · simp
    · simp
  · unfold continuoref30_FromBeats.f
    simp only [continuoref30_FromBeats.j0]
    repeat' split
    all_goals first | rfl | (exfalso; simp_all; omega) | (simp_all; done)
theorem TempoBeats : continuolaw30_TempoBeats.Pure := by
  intro a b c _ _ _
  refine ⟨100, ?_⟩
  unfold continuolaw30_TempoBeats.f
  rw [awake_true]
  simp only [Option.bind_some, if_true]
  by_cases h : 1 ≤ a ∧ a ≤ 192000 ∧ 1 ≤ b ∧ b ≤ 1000 ∧ 1 ≤ c ∧ c ≤ 10000
  · obtain ⟨h1, h2, h3, h4, h5, h6⟩ := h
    have m := mulb (by omega : 0 ≤ b) h4 (by omega : 0 ≤ c) h6
    have m1 : 1 ≤ b * c := by have := Int.mul_le_mul h3 h5 (by omega) (by omega); omega
    have e1 : tempo_FromBeats.f 100 a b c = if 1 ≤ rnd (a * 60 * 65536) (b * c) ∧ rnd (a * 60 * 65536) (b * c) ≤ 67108864 then some (rnd (a * 60 * 65536) (b * c), 0) else some (0, 7) := by
      unfold tempo_FromBeats.f
      simp only [tempo_within.eq, Option.bind_some, tempo_FromBeats.j0, h1, h2, h3, h4, h5, h6, decide_true, Bool.and_true, if_true, Bool.not_true, Bool.false_eq_true, if_false]
      rw [w64 (x := a * 60) (by omega) (by omega), w64 (x := a * 60 * 65536) (by omega) (by omega), w64 (x := b * c) (by omega) (by omega), tempo_rounded.eq _ _ (by omega) (by omega) (by omega) (by omega)]
      simp only [Option.bind_some, Bool.and_eq_true, decide_eq_true_eq]
    have e2 : continuoref30_FromBeats.f 100 a b c = if 1 ≤ rnd (a * 60 * 65536) (b * c) ∧ rnd (a * 60 * 65536) (b * c) ≤ 67108864 then some (rnd (a * 60 * 65536) (b * c), 0) else some (0, 7) := by
      unfold continuoref30_FromBeats.f
      rw [if_neg (by omega), if_neg (by omega), if_neg (by omega), if_neg (by omega), if_neg (by omega)]
      simp only [continuoref30_FromBeats.j0]
      rw [if_neg (by simp; omega), w64 (x := a * 60) (by omega) (by omega), w64 (x := a * 60 * 65536) (by omega) (by omega), w64 (x := b * c) (by omega) (by omega), rounded_eq _ _ (by omega) (by omega) (by omega) (by omega)]
      simp only [Option.bind_some]
      repeat' split
      all_goals first | rfl | (exfalso; omega)
    rw [e1, e2]
    split <;> simp
  · obtain ⟨e1, e2⟩ := beats_out a b c h
    rw [e1, e2]
    simp
end Go.Proofs.Ytomlfbmfdoallaa.Pure
