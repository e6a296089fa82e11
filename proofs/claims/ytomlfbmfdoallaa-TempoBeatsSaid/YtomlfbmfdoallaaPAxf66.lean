-- printed by this session's turned copy of the print (patch_print.py)
import Derived.Test.YtomlfbmfdoallaaPAx0
import Derived.Test.YtomlfbmfdoallaaPAxf78
namespace Go.Proofs.Ytomlfbmfdoallaa.PA
open Go.RowKit Go.Proofs.YtomlfbmfdoallaaW.PrintWords Go.Proofs.YtomlfbmfdoallaaW.PrintLast Go.Proofs.YtomlfbmfdoallaaW.PrintMore
attribute [local go_sem] max2_int min2_int max_two min_two max_three min_three max_four min_four   -- for this text's walks alone
set_option linter.unusedVariables false
set_option linter.unusedSimpArgs false

/-! ### slices_ContainsFunc_int_int: function 66 -/
theorem idxFrom_any {α : Type} (p : α → Bool) (l : List α) : ∀ i : Int, 0 ≤ i → decide (idxFrom p i l ≥ 0) = l.any p := by
  induction l with
  | nil => intro i _; simp [idxFrom]
  | cons x xs ih =>
    intro i hi
    cases h : p x with
    | true => simp [idxFrom, h, hi]
    | false => simp only [idxFrom, h, List.any_cons, Bool.false_or]; exact ih (i + 1) (by omega)

theorem enters66 : ∀ args w, (callFunc 66 args).run Try.prog w = .ok (.enter 66 args) w := Go.Proofs.enters_of Try.func66 (by kernel_rfl) rfl

theorem ContainsFunc_int (p : Int → Bool) (g : Nat) (lb : Array Value) (eg : ∀ args w, (callFunc g args).run Try.prog w = .ok (.enter g args) w) (A : Option Addr) (c : Nat) (l : List Int) (w : World)
    (hp : PredB g lb (fun x => .int .i64 x) p w) (hr : Kd.C (Kd.int .i64) w A l.length l) :
    Calls Try.prog 66 #[.slice A l.length c, .func (.func g) #[] lb] w fun e w' => e = .returned (.bool (l.any p)) ∧ Below w.heap.size w w' := by
  have hx := idxFrom_any p l 0 (by omega)
  change decide (idxOf p l ≥ 0) = _ at hx
  rw [← hx]
  have HC := Lib.hid (IndexFunc_int p g lb eg A c l w hp hr)
  clear hx hp hr
  go_enter Try.func66, Try.ntmps66
  go_wp2_with (go_at_call 78; refine HC.out.mono ?_; rintro e w' ⟨rfl, hb⟩)
  go_ret
  exact ⟨rfl, hb⟩


end Go.Proofs.Ytomlfbmfdoallaa.PA
