/- Rounded numbers, the frames and periods of a curve, and which lists of points are maps. -/
import Derived.Test.YtomlfbmfdoallaaPAxf116
import Derived.Test.YtomlfbmfdoallaaPAxf117
import Derived.Test.YtomlfbmfdoallaaPAxf118
import Derived.Test.YtomlfbmfdoallaaPAxf119
namespace Go.Proofs.Ytomlfbmfdoallaa.PA
open Go.RowKit Go.Proofs.YtomlfbmfdoallaaW.PrintWords Go.Proofs.YtomlfbmfdoallaaW.PrintLast Go.Proofs.YtomlfbmfdoallaaW.PrintMore
set_option linter.unusedVariables false
set_option linter.unusedSimpArgs false

/-- a over b, rounded, halves away from 0. -/
def rnd (a b : Int) : Int := if a < 0 then -((-2 * a + b) / (2 * b)) else (2 * a + b) / (2 * b)

theorem w64 {x : Int} (h0 : -9223372036854775808 ≤ x) (h1 : x ≤ 9223372036854775807) : wrap64 x = x := by unfold wrap64; omega

theorem div_round (a b : Int) (ha : 0 ≤ a) (hb : 0 < b) : (2 * a + b) / (2 * b) = if a % b ≥ b - a % b then a / b + 1 else a / b := by
  have h := Int.mul_ediv_add_emod a b
  have hr0 := Int.emod_nonneg a (by omega : b ≠ 0)
  have hr1 := Int.emod_lt_of_pos a hb
  generalize a / b = q at *
  generalize a % b = r at *
  subst h
  have e1 : (q + 1) * (2 * b) = 2 * (b * q) + 2 * b := by grind
  have e2 : (q + 1 + 1) * (2 * b) = 2 * (b * q) + 4 * b := by grind
  have e3 : q * (2 * b) = 2 * (b * q) := by grind
  split
  · rw [Int.ediv_eq_iff_of_pos (by omega)]
    omega
  · rw [Int.ediv_eq_iff_of_pos (by omega)]
    omega

theorem tempo_rounded.eq (a b : Int) (hb : 0 < b) (hb2 : b ≤ 4611686018427387904) (ha : -4611686018427387904 ≤ a) (ha2 : a ≤ 4611686018427387904) : tempo_rounded.f a b = some (rnd a b) := by
  unfold tempo_rounded.f rnd
  by_cases h : a < 0
  · rw [if_pos h, if_neg (by omega), if_pos h]
    have e0 : wrap64 (-a) = -a := w64 (by omega) (by omega)
    have e1 : Int.tdiv b 2 = b / 2 := Int.tdiv_eq_ediv_of_nonneg (by omega)
    rw [e0, e1, w64 (x := b / 2) (by omega) (by omega), w64 (x := -a + b / 2) (by omega) (by omega), Int.tdiv_eq_ediv_of_nonneg (by omega)]
    have e2 : (-a + b / 2) / b = (-2 * a + b) / (2 * b) := by
      have h1 : (-2 * a + b) = 2 * (-a) + b := by omega
      rw [h1, div_round (-a) b (by omega) hb]
      have h2 := Int.mul_ediv_add_emod (-a) b
      have hr0 := Int.emod_nonneg (-a) (by omega : b ≠ 0)
      have hr1 := Int.emod_lt_of_pos (-a) hb
      generalize (-a) / b = q at *
      generalize (-a) % b = r at *
      have e1 : (q + 1) * b = b * q + b := by grind
      have e2 : (q + 1 + 1) * b = b * q + 2 * b := by grind
      have e3 : q * b = b * q := by grind
      split
      · rw [Int.ediv_eq_iff_of_pos (by omega)]; omega
      · rw [Int.ediv_eq_iff_of_pos (by omega)]; omega
    rw [e2]
    have h3 : 0 ≤ (-2 * a + b) / (2 * b) := Int.ediv_nonneg (by omega) (by omega)
    have h4 : (-2 * a + b) / (2 * b) ≤ -2 * a + b := Int.ediv_le_self _ (by omega)
    have h5 : (-2 * a + b) / (2 * b) ≤ 6917529027641081857 := by
      rw [← e2]
      have := Int.ediv_le_self (a := -a + b / 2) b (by omega)
      omega
    rw [w64 (x := (-2 * a + b) / (2 * b)) (by omega) (by omega), w64 (by omega) (by omega)]
  · rw [if_neg h, if_neg (by omega), if_neg h]
    rw [Int.tmod_eq_emod_of_nonneg (by omega), Int.tdiv_eq_ediv_of_nonneg (by omega), div_round a b (by omega) hb]
    have hr0 := Int.emod_nonneg a (by omega : b ≠ 0)
    have hr1 := Int.emod_lt_of_pos a hb
    have h3 : 0 ≤ a / b := Int.ediv_nonneg (by omega) (by omega)
    have h4 : a / b ≤ a := Int.ediv_le_self _ (by omega)
    rw [w64 (x := b - a % b) (by omega) (by omega), w64 (x := a / b) (by omega) (by omega), w64 (x := a / b + 1) (by omega) (by omega)]
    split <;> rfl

theorem mulb {n p N P : Int} (h0 : 0 ≤ n) (h1 : n ≤ N) (h2 : 0 ≤ p) (h3 : p ≤ P) : 0 ≤ n * p ∧ n * p ≤ N * P :=
  ⟨Int.mul_nonneg h0 h2, Int.mul_le_mul h1 h3 h2 (by omega)⟩

theorem even_frames_eq (p n : Int) (h0 : 0 ≤ n) (h1 : n ≤ 1000000000) (h2 : 1 ≤ p) (h3 : p ≤ 67108864) : tempo_even_frames.f p n = some (rnd (n * p) 65536) := by
  have := mulb h0 h1 (by omega : 0 ≤ p) h3
  unfold tempo_even_frames.f
  rw [w64 (by omega) (by omega), tempo_rounded.eq _ _ (by omega) (by omega) (by omega) (by omega)]
  rfl

theorem changing_frames_eq (p q l n : Int) (h0 : 0 ≤ n) (h1 : n ≤ 10000) (hl0 : 1 ≤ l) (hl1 : l ≤ 10000) (h2 : 1 ≤ p) (h3 : p ≤ 67108864) (h4 : 1 ≤ q) (h5 : q ≤ 67108864) :
    tempo_changing_frames.f p q l n = some (rnd (2 * l * n * p + (q - p) * n * (n - 1)) (2 * l * 65536)) := by
  have a1 := mulb (by omega : 0 ≤ 2 * l) (by omega : 2 * l ≤ 20000) h0 h1
  have a2 := mulb a1.1 a1.2 (by omega : 0 ≤ p) h3
  have a3 : -671088640000 ≤ (q - p) * n ∧ (q - p) * n ≤ 671088640000 := by
    have := mulb (by omega : 0 ≤ q) h5 h0 h1
    have := mulb (by omega : 0 ≤ p) h3 h0 h1
    rw [Int.sub_mul]; omega
  have a4 : -6710886400000000 ≤ (q - p) * n * (n - 1) ∧ (q - p) * n * (n - 1) ≤ 6710886400000000 := by
    by_cases hn : n = 0
    · subst hn; omega
    · have b0 := mulb (n := (q - p) * n + 671088640000) (N := 1342177280000) (by omega) (by omega) (by omega : 0 ≤ n - 1) (by omega : n - 1 ≤ 10000)
      have b1 := mulb (n := 671088640000 - (q - p) * n) (N := 1342177280000) (by omega) (by omega) (by omega : 0 ≤ n - 1) (by omega : n - 1 ≤ 10000)
      rw [Int.add_mul] at b0
      rw [Int.sub_mul] at b1
      omega
  unfold tempo_changing_frames.f
  rw [w64 (x := 2 * l) (by omega) (by omega), w64 (x := 2 * l * n) (by omega) (by omega), w64 (x := 2 * l * n * p) (by omega) (by omega), w64 (x := q - p) (by omega) (by omega), w64 (x := (q - p) * n) (by omega) (by omega),
    w64 (x := n - 1) (by omega) (by omega), w64 (x := (q - p) * n * (n - 1)) (by omega) (by omega), w64 (x := _ + _) (by omega) (by omega), w64 (x := 2 * l * 65536) (by omega) (by omega), tempo_rounded.eq _ _ (by omega) (by omega) (by omega) (by omega)]
  rfl

theorem changing_period_eq (p q l k : Int) (h0 : 0 ≤ k) (h1 : k ≤ l) (hl0 : 1 ≤ l) (hl1 : l ≤ 10000) (h2 : 1 ≤ p) (h3 : p ≤ 67108864) (h4 : 1 ≤ q) (h5 : q ≤ 67108864) :
    tempo_changing_period.f p q l k = some (rnd (p * (l - k) + q * k) l) := by
  have a1 := mulb (by omega : 0 ≤ p) h3 (by omega : 0 ≤ l - k) (by omega : l - k ≤ 10000)
  have a2 := mulb (by omega : 0 ≤ q) h5 h0 (by omega : k ≤ 10000)
  unfold tempo_changing_period.f
  rw [w64 (x := l - k) (by omega) (by omega), w64 (x := p * (l - k)) (by omega) (by omega), w64 (x := q * k) (by omega) (by omega), w64 (x := _ + _) (by omega) (by omega), tempo_rounded.eq _ _ (by omega) (by omega) (by omega) (by omega)]
  rfl

/-- How long ticks are behind a point. -/
inductive Crv where
  | even (p : Int)
  | changing (p q l : Int)
def Crv.val : Crv → Value
  | .even p => .iface 104 (.agg #[.int .i64 p])
  | .changing p q l => .iface 106 (.agg #[.int .i64 p, .int .i64 q, .int .i64 l])
def Crv.frames : Crv → Int → Int
  | .even p, n => rnd (n * p) 65536
  | .changing p q l, n => rnd (2 * l * n * p + (q - p) * n * (n - 1)) (2 * l * 65536)
def Crv.period : Crv → Int → Int
  | .even p, _ => p
  | .changing p q l, k => rnd (p * (l - k) + q * k) l
/-- A part of a map. -/
structure Prt where
  c : Crv
  tick : Int
  frame : Int
  fin : Int
def Prt.val (x : Prt) : Value := .agg #[x.c.val, .int .i64 x.tick, .int .i64 x.frame, .int .i64 x.fin]

/-- The curve from a point on (the next point is t2, if there is one). -/
def crvOf (t : S27) : Option S27 → Crv
  | none => .even t.f1
  | some t2 => if t.f2 = 1 then .changing t.f1 t2.f1 (t2.f0 - t.f0) else .even t.f1
/-- The parts of a map that begins at a frame. -/
def prts : Int → List S27 → List Prt
  | _, [] => []
  | s, t :: r => ⟨crvOf t r.head?, t.f0, s, match r.head? with | none => -1 | some t2 => t2.f0⟩ :: prts (match r.head? with | none => s | some t2 => s + (crvOf t (some t2)).frames (t2.f0 - t.f0)) r

/-- Which lists are maps: from a point on. -/
def MapFrom : List S27 → Prop
  | [] => True
  | [t] => 0 ≤ t.f0 ∧ t.f0 ≤ 1000000000 ∧ 1 ≤ t.f1 ∧ t.f1 ≤ 67108864 ∧ t.f2 = 0
  | t :: t2 :: r => 0 ≤ t.f0 ∧ t.f0 ≤ 1000000000 ∧ 1 ≤ t.f1 ∧ t.f1 ≤ 67108864 ∧ 0 ≤ t.f2 ∧ t.f2 ≤ 1 ∧ t.f0 < t2.f0 ∧ (t.f2 = 1 → t2.f0 - t.f0 ≤ 10000) ∧ MapFrom (t2 :: r)
def MapOk (l : List S27) : Prop := 1 ≤ l.length ∧ l.length ≤ 50 ∧ (∀ t, l.head? = some t → t.f0 = 0) ∧ MapFrom l

end Go.Proofs.Ytomlfbmfdoallaa.PA
