/-
  No cell of these rows narrows 'for every input' (looked for: loops, veiled, ifaces, maps, wideKeys, modest, calm, conditions, laid).
  DERIVED. THE GIVEN ROWS OF THIS SEAT. 4 by the template 'for every input the law returns true; each argument reads behind the call as it read before'; 0 by the template 'total and deterministic' (their statements: YtlffhagjpfcecaaTotals.lean).
  GIVEN WITH THE SEED: the statements are not yours to turn. If you find one false, say at which input.
  Laid BY PROGRAM, IN A SANDBOX (cutbox-rows.mjs): the forced cells as the released guide's own fill.sh prints them over the translation 2506cc1a1900fe2b… (all of the seat's roots in one cut). By AI agents, Wed Nov 11 2026. No macro, syntax, notation, axiom, sorry.
-/
import Derived.Test.YtlffhagjpfcecaaChecked
import GoSem.Claim
import GoSem.ClaimJoined
import GoSem.ClaimMapViews
import Derived.JoinedTies
import Derived.KernelRfl
namespace Go.Proofs.Ytlffhagjpfcecaa
/- THE CELL 'sum', in the pinned program and in every row, IS THE sha256 OF THE DUMP (.gsa) THAT YtlffhagjpfcecaaProg.lean LOADS. Nothing in Lean hashes anything: it is a label: what it is worth is what the hold of that sum in a sandbox is worth. -/
noncomputable def Try.pinned : Pinned := { name := "ytlffhagjpfcecaa", sum := "2506cc1a1900fe2b6ff72839f81a7d69943e7a8384d094fd1aecaf5eabfa4528", checked := Try.checked }
namespace Rows
def none {H : Type} : Left H := { results := [], args := [] }

/-- 'continuolaw15.TransportSpans': WHATEVER THE INPUT: true; the input reads as it did. -/
def transportSpansSpec : ChangeSpec := { name := "transportSpans", fn := fun _ => fun
  | [d1, d2, d3, d4] => { results := [.lit (.bool true)], args := [d1, d2, d3, d4] }
  | _ => none }
def transportSpansRow : OpenClaim := { program := "ytlffhagjpfcecaa", sum := "2506cc1a1900fe2b6ff72839f81a7d69943e7a8384d094fd1aecaf5eabfa4528", func := "continuo/continuolaw15.TransportSpans", spec := "transportSpans", unfollowed := true, recurses := true, apart := false }
def TransportSpansSaid : Prop := transportSpansRow.holds Try.pinned (OpenSpec.ofChange transportSpansSpec)

/-- ITS FALSE NEIGHBOUR: 'it returns false'. Refute it at one input. -/
def transportSpansWrong : ChangeSpec := { name := "transportSpans", fn := fun _ => fun
  | [d1, d2, d3, d4] => { results := [.lit (.bool false)], args := [d1, d2, d3, d4] }
  | _ => none }
def TransportSpansWrongFalsely : Prop := transportSpansRow.holds Try.pinned (OpenSpec.ofChange transportSpansWrong)

/-- 'continuolaw15.TransportCut': WHATEVER THE INPUT: true; the input reads as it did. -/
def transportCutSpec : ChangeSpec := { name := "transportCut", fn := fun _ => fun
  | [d1, d2, d3, d4] => { results := [.lit (.bool true)], args := [d1, d2, d3, d4] }
  | _ => none }
def transportCutRow : OpenClaim := { program := "ytlffhagjpfcecaa", sum := "2506cc1a1900fe2b6ff72839f81a7d69943e7a8384d094fd1aecaf5eabfa4528", func := "continuo/continuolaw15.TransportCut", spec := "transportCut", inPlace := ["maps.clone"], unfollowed := true, recurses := true, apart := false }
def TransportCutSaid : Prop := transportCutRow.holds Try.pinned (OpenSpec.ofChange transportCutSpec)

/-- ITS FALSE NEIGHBOUR: 'it returns false'. Refute it at one input. -/
def transportCutWrong : ChangeSpec := { name := "transportCut", fn := fun _ => fun
  | [d1, d2, d3, d4] => { results := [.lit (.bool false)], args := [d1, d2, d3, d4] }
  | _ => none }
def TransportCutWrongFalsely : Prop := transportCutRow.holds Try.pinned (OpenSpec.ofChange transportCutWrong)

/-- 'continuolaw15.TransportWaits': WHATEVER THE INPUT: true; the input reads as it did. -/
def transportWaitsSpec : ChangeSpec := { name := "transportWaits", fn := fun _ => fun
  | [d1, d2, d3] => { results := [.lit (.bool true)], args := [d1, d2, d3] }
  | _ => none }
def transportWaitsRow : OpenClaim := { program := "ytlffhagjpfcecaa", sum := "2506cc1a1900fe2b6ff72839f81a7d69943e7a8384d094fd1aecaf5eabfa4528", func := "continuo/continuolaw15.TransportWaits", spec := "transportWaits", inPlace := ["maps.clone"], unfollowed := true, recurses := true, apart := false }
def TransportWaitsSaid : Prop := transportWaitsRow.holds Try.pinned (OpenSpec.ofChange transportWaitsSpec)

/-- ITS FALSE NEIGHBOUR: 'it returns false'. Refute it at one input. -/
def transportWaitsWrong : ChangeSpec := { name := "transportWaits", fn := fun _ => fun
  | [d1, d2, d3] => { results := [.lit (.bool false)], args := [d1, d2, d3] }
  | _ => none }
def TransportWaitsWrongFalsely : Prop := transportWaitsRow.holds Try.pinned (OpenSpec.ofChange transportWaitsWrong)

/-- 'continuolaw15.TransportPlays': WHATEVER THE INPUT: true; the input reads as it did. -/
def transportPlaysSpec : ChangeSpec := { name := "transportPlays", fn := fun _ => fun
  | [d1, d2] => { results := [.lit (.bool true)], args := [d1, d2] }
  | _ => none }
def transportPlaysRow : OpenClaim := { program := "ytlffhagjpfcecaa", sum := "2506cc1a1900fe2b6ff72839f81a7d69943e7a8384d094fd1aecaf5eabfa4528", func := "continuo/continuolaw15.TransportPlays", spec := "transportPlays", inPlace := ["maps.clone"], unfollowed := true, recurses := true, apart := false }
def TransportPlaysSaid : Prop := transportPlaysRow.holds Try.pinned (OpenSpec.ofChange transportPlaysSpec)

/-- ITS FALSE NEIGHBOUR: 'it returns false'. Refute it at one input. -/
def transportPlaysWrong : ChangeSpec := { name := "transportPlays", fn := fun _ => fun
  | [d1, d2] => { results := [.lit (.bool false)], args := [d1, d2] }
  | _ => none }
def TransportPlaysWrongFalsely : Prop := transportPlaysRow.holds Try.pinned (OpenSpec.ofChange transportPlaysWrong)

/- THE SECOND FORM. 'bulk': how many values and letters a reading holds, each counted each time it is reached (what is shared counts as often as it is met; a slice's spare places count too). A statement '..UptoSaid' is the law's where the arguments, and the package variables that the reading takes, are together of bulk at most 1048576: NARROWER than '..Said'. Prove '..Said' where nothing that the law and all that it calls make is longer than what came in: it says more and counts as full. Else prove '..UptoSaid'. A law counts once. -/
mutual
def uptoBulk {H : Type} : DataW H → Nat
  | .lit (.string bytes) => bytes.length + 1
  | .lit _ => 1
  | .nil => 1
  | .ptr d => uptoBulk d + 1
  | .slice elems spare => uptoBulkAll elems + uptoBulkAll spare + 1
  | .agg parts => uptoBulkAll parts + 1
  | .iface _ d => uptoBulk d + 1
  | .map entries => uptoBulkEntries entries + 1
  | .held _ => 1
def uptoBulkAll {H : Type} : List (DataW H) → Nat
  | [] => 0
  | d :: r => uptoBulk d + uptoBulkAll r
def uptoBulkEntries {H : Type} : List (Lit × DataW H) → Nat
  | [] => 0
  | x :: r => uptoBulkEntry x + uptoBulkEntries r
def uptoBulkEntry {H : Type} : Lit × DataW H → Nat
  | (.string bytes, d) => bytes.length + uptoBulk d + 1
  | (_, d) => uptoBulk d + 1
 end
def uptoSmall : (H : Type) → List (DataW H) → Bool := fun _ ds => decide (uptoBulkAll ds ≤ 1048576)
def OpenSpec.upto (s : _root_.Go.ChangeSpec) : _root_.Go.OpenSpec := { _root_.Go.OpenSpec.ofChange s with cond := some uptoSmall }

/-- 'continuolaw15.TransportSpans', WHERE WHAT IT READS IS OF BULK AT MOST 1048576: true; the input reads as it did. -/
def transportSpansUptoRow : OpenClaim := { program := "ytlffhagjpfcecaa", sum := "2506cc1a1900fe2b6ff72839f81a7d69943e7a8384d094fd1aecaf5eabfa4528", func := "continuo/continuolaw15.TransportSpans", spec := "transportSpans", unfollowed := true, recurses := true, apart := false, narrowed := true }
def TransportSpansUptoSaid : Prop := transportSpansUptoRow.holds Try.pinned (OpenSpec.upto transportSpansSpec)

/-- 'continuolaw15.TransportCut', WHERE WHAT IT READS IS OF BULK AT MOST 1048576: true; the input reads as it did. -/
def transportCutUptoRow : OpenClaim := { program := "ytlffhagjpfcecaa", sum := "2506cc1a1900fe2b6ff72839f81a7d69943e7a8384d094fd1aecaf5eabfa4528", func := "continuo/continuolaw15.TransportCut", spec := "transportCut", inPlace := ["maps.clone"], unfollowed := true, recurses := true, apart := false, narrowed := true }
def TransportCutUptoSaid : Prop := transportCutUptoRow.holds Try.pinned (OpenSpec.upto transportCutSpec)

/-- 'continuolaw15.TransportWaits', WHERE WHAT IT READS IS OF BULK AT MOST 1048576: true; the input reads as it did. -/
def transportWaitsUptoRow : OpenClaim := { program := "ytlffhagjpfcecaa", sum := "2506cc1a1900fe2b6ff72839f81a7d69943e7a8384d094fd1aecaf5eabfa4528", func := "continuo/continuolaw15.TransportWaits", spec := "transportWaits", inPlace := ["maps.clone"], unfollowed := true, recurses := true, apart := false, narrowed := true }
def TransportWaitsUptoSaid : Prop := transportWaitsUptoRow.holds Try.pinned (OpenSpec.upto transportWaitsSpec)

/-- 'continuolaw15.TransportPlays', WHERE WHAT IT READS IS OF BULK AT MOST 1048576: true; the input reads as it did. -/
def transportPlaysUptoRow : OpenClaim := { program := "ytlffhagjpfcecaa", sum := "2506cc1a1900fe2b6ff72839f81a7d69943e7a8384d094fd1aecaf5eabfa4528", func := "continuo/continuolaw15.TransportPlays", spec := "transportPlays", inPlace := ["maps.clone"], unfollowed := true, recurses := true, apart := false, narrowed := true }
def TransportPlaysUptoSaid : Prop := transportPlaysUptoRow.holds Try.pinned (OpenSpec.upto transportPlaysSpec)

end Rows
end Go.Proofs.Ytlffhagjpfcecaa
