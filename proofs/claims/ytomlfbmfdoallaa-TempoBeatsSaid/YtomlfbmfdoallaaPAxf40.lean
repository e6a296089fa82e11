-- printed by this session's turned copy of the print (patch_print.py)
import Derived.Test.YtomlfbmfdoallaaPAx0
import Derived.Test.YtomlfbmfdoallaaPAxf43
import Derived.Test.YtomlfbmfdoallaaPAxf25
import Derived.Test.YtomlfbmfdoallaaPAxf66
namespace Go.Proofs.Ytomlfbmfdoallaa.PA
open Go.RowKit Go.Proofs.YtomlfbmfdoallaaW.PrintWords Go.Proofs.YtomlfbmfdoallaaW.PrintLast Go.Proofs.YtomlfbmfdoallaaW.PrintMore
attribute [local go_sem] max2_int min2_int max_two min_two max_three min_three max_four min_four   -- for this text's walks alone
set_option linter.unusedVariables false
set_option linter.unusedSimpArgs false

/-! ### tempo_asked: function 40 -/
theorem enters67 : ∀ args w, (callFunc 67 args).run Try.prog w = .ok (.enter 67 args) w := Go.Proofs.enters_of Try.func67 (by kernel_rfl) rfl
def inTime (n : Int) : Bool := decide (0 ≤ n) && decide (n ≤ 1000000000)
theorem tempo_within.eq (n a b : Int) : tempo_within.f n a b = some (decide (a ≤ n) && decide (n ≤ b)) := by
  unfold tempo_within.f
  by_cases h : a ≤ n <;> simp [h]
theorem asked1_calls (x : Int) (w : World) : Calls Try.prog 67 #[.int .i64 x] w fun e w' => e = .returned (.bool (!inTime x)) ∧ Below w.heap.size w w' := by
  have HC := Lib.hid (tempo_within.calls x 0 1000000000 (inTime x) w (tempo_within.eq _ _ _))
  go_enter Try.func67, Try.ntmps67
  go_wp2_with (go_at_call 43; refine HC.out.mono ?_; rintro e w' ⟨rfl, ⟨nd, rfl⟩⟩)
  go_ret
  exact ⟨rfl, by repeat (first | exact Below.refl _ _ | apply pw_below_drewN)⟩
def tempo_asked.f (k : Nat) (l0 : List S27) (l1 : List Int) : Option Int :=
  (tempo_Valid.f k l0).bind fun v => if v = true then (if l1.any (fun n => !inTime n) = true then some 7 else some 0) else some 1
theorem tempo_asked.mono : ∀ a0 a1 k, LeO (tempo_asked.f k a0 a1) (tempo_asked.f (k + 1) a0 a1) := by
  intro a0 a1 k
  unfold tempo_asked.f
  exact LeO.bind (tempo_Valid.mono _ _) (fun _ => LeO.refl _)
set_option maxHeartbeats 2000000 in
theorem tempo_asked.calls (k : Nat) (A0 : Option Addr) (c0 : Nat) (l0 : List (S27)) (A1 : Option Addr) (c1 : Nat) (l1 : List Int) (r : Int) (w : World) (hr0 : Kd.C k27 w A0 l0.length l0) (hc0 : l0.length ≤ c0) (hr1 : Kd.C (Kd.int .i64) w A1 l1.length l1) (hc1 : l1.length ≤ c1) (h : tempo_asked.f k l0 l1 = some r) :
    Calls Try.prog 40 #[.slice A0 l0.length c0, .slice A1 l1.length c1] w fun e w' => e = .returned (.int .i64 r) ∧ Below w.heap.size w w' := by
  unfold tempo_asked.f at h
  obtain ⟨v, hv, h⟩ := Option.bind_eq_some_iff.mp h
  have HR1 := Aside0.mk hr1
  have HV := Lib.hid (tempo_Valid.calls k A0 c0 l0 v w hr0 hc0 hv)
  clear hr0 hr1 hv
  cases v with
  | false =>
    obtain rfl := Option.some.inj h
    go_enter Try.func40, Try.ntmps40
    go_wp2_with (go_at_call 25; refine HV.out.mono ?_; rintro e w1 ⟨rfl, hb1⟩)
    go_ret
    exact ⟨rfl, hb1⟩
  | true =>
    go_enter Try.func40, Try.ntmps40
    go_wp2_with (go_at_call 25; refine HV.out.mono ?_; rintro e w1 ⟨rfl, hb1⟩)
    refine (ContainsFunc_int (fun n => !inTime n) 67 #[] enters67 A1 c1 l1 w1 (fun W x _ => asked1_calls x W) (Kd.C_below HR1.out hb1)).mono ?_
    cases hq : l1.any (fun n => !inTime n)
    all_goals
      rw [hq] at h
      obtain rfl := Option.some.inj h
      clear h hq
      rintro e w2 ⟨rfl, hb2⟩
      go_wp2
      go_ret
      exact ⟨rfl, hb1.trans (hb2.mono hb1.size)⟩

end Go.Proofs.Ytomlfbmfdoallaa.PA
