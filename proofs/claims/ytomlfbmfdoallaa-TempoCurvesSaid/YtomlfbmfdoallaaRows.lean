/-
  No cell of these rows narrows 'for every input' (looked for: loops, veiled, ifaces, maps, wideKeys, modest, calm, conditions, laid).
  DERIVED. THE GIVEN ROWS OF THIS SEAT. 6 by the template 'for every input the law returns true; each argument reads behind the call as it read before'; 0 by the template 'total and deterministic' (their statements: YtomlfbmfdoallaaTotals.lean).
  GIVEN WITH THE SEED: the statements are not yours to turn. If you find one false, say at which input.
  Laid BY PROGRAM, IN A SANDBOX (cutbox-rows.mjs): the forced cells as the released guide's own fill.sh prints them over the translation b6b37a984b09845e… (all of the seat's roots in one cut). By AI agents, Wed Nov 11 2026. No macro, syntax, notation, axiom, sorry.
-/
import Derived.Test.YtomlfbmfdoallaaChecked
import GoSem.Claim
import GoSem.ClaimJoined
import GoSem.ClaimMapViews
import Derived.JoinedTies
import Derived.KernelRfl
namespace Go.Proofs.Ytomlfbmfdoallaa
/- THE CELL 'sum', in the pinned program and in every row, IS THE sha256 OF THE DUMP (.gsa) THAT YtomlfbmfdoallaaProg.lean LOADS. Nothing in Lean hashes anything: it is a label: what it is worth is what the hold of that sum in a sandbox is worth. -/
noncomputable def Try.pinned : Pinned := { name := "ytomlfbmfdoallaa", sum := "b6b37a984b09845e8c910c5dba8b39b8b9cc3de9da6ab766e720279b69bd5e8f", checked := Try.checked }
namespace Rows
def none {H : Type} : Left H := { results := [], args := [] }

/-- 'continuolaw30.TempoSums': WHATEVER THE INPUT: true; the input reads as it did. -/
def tempoSumsSpec : ChangeSpec := { name := "tempoSums", fn := fun _ => fun
  | [d1, d2] => { results := [.lit (.bool true)], args := [d1, d2] }
  | _ => none }
def tempoSumsRow : OpenClaim := { program := "ytomlfbmfdoallaa", sum := "b6b37a984b09845e8c910c5dba8b39b8b9cc3de9da6ab766e720279b69bd5e8f", func := "continuo/continuolaw30.TempoSums", spec := "tempoSums", unfollowed := true, recurses := true, apart := false }
def TempoSumsSaid : Prop := tempoSumsRow.holds Try.pinned (OpenSpec.ofChange tempoSumsSpec)

/-- ITS FALSE NEIGHBOUR: 'it returns false'. Refute it at one input. -/
def tempoSumsWrong : ChangeSpec := { name := "tempoSums", fn := fun _ => fun
  | [d1, d2] => { results := [.lit (.bool false)], args := [d1, d2] }
  | _ => none }
def TempoSumsWrongFalsely : Prop := tempoSumsRow.holds Try.pinned (OpenSpec.ofChange tempoSumsWrong)

/-- 'continuolaw30.TempoBeats': WHATEVER THE INPUT: true; the input reads as it did. -/
def tempoBeatsSpec : ChangeSpec := { name := "tempoBeats", fn := fun _ => fun
  | [d1, d2, d3] => { results := [.lit (.bool true)], args := [d1, d2, d3] }
  | _ => none }
def tempoBeatsRow : OpenClaim := { program := "ytomlfbmfdoallaa", sum := "b6b37a984b09845e8c910c5dba8b39b8b9cc3de9da6ab766e720279b69bd5e8f", func := "continuo/continuolaw30.TempoBeats", spec := "tempoBeats", unfollowed := true, recurses := true, apart := false }
def TempoBeatsSaid : Prop := tempoBeatsRow.holds Try.pinned (OpenSpec.ofChange tempoBeatsSpec)

/-- ITS FALSE NEIGHBOUR: 'it returns false'. Refute it at one input. -/
def tempoBeatsWrong : ChangeSpec := { name := "tempoBeats", fn := fun _ => fun
  | [d1, d2, d3] => { results := [.lit (.bool false)], args := [d1, d2, d3] }
  | _ => none }
def TempoBeatsWrongFalsely : Prop := tempoBeatsRow.holds Try.pinned (OpenSpec.ofChange tempoBeatsWrong)

/-- 'continuolaw30.TempoPlaces': WHATEVER THE INPUT: true; the input reads as it did. -/
def tempoPlacesSpec : ChangeSpec := { name := "tempoPlaces", fn := fun _ => fun
  | [d1, d2, d3, d4] => { results := [.lit (.bool true)], args := [d1, d2, d3, d4] }
  | _ => none }
def tempoPlacesRow : OpenClaim := { program := "ytomlfbmfdoallaa", sum := "b6b37a984b09845e8c910c5dba8b39b8b9cc3de9da6ab766e720279b69bd5e8f", func := "continuo/continuolaw30.TempoPlaces", spec := "tempoPlaces", unfollowed := true, recurses := true, apart := false }
def TempoPlacesSaid : Prop := tempoPlacesRow.holds Try.pinned (OpenSpec.ofChange tempoPlacesSpec)

/-- ITS FALSE NEIGHBOUR: 'it returns false'. Refute it at one input. -/
def tempoPlacesWrong : ChangeSpec := { name := "tempoPlaces", fn := fun _ => fun
  | [d1, d2, d3, d4] => { results := [.lit (.bool false)], args := [d1, d2, d3, d4] }
  | _ => none }
def TempoPlacesWrongFalsely : Prop := tempoPlacesRow.holds Try.pinned (OpenSpec.ofChange tempoPlacesWrong)

/-- 'continuolaw30.TempoFrames': WHATEVER THE INPUT: true; the input reads as it did. -/
def tempoFramesSpec : ChangeSpec := { name := "tempoFrames", fn := fun _ => fun
  | [d1, d2, d3, d4] => { results := [.lit (.bool true)], args := [d1, d2, d3, d4] }
  | _ => none }
def tempoFramesRow : OpenClaim := { program := "ytomlfbmfdoallaa", sum := "b6b37a984b09845e8c910c5dba8b39b8b9cc3de9da6ab766e720279b69bd5e8f", func := "continuo/continuolaw30.TempoFrames", spec := "tempoFrames", unfollowed := true, recurses := true, apart := false }
def TempoFramesSaid : Prop := tempoFramesRow.holds Try.pinned (OpenSpec.ofChange tempoFramesSpec)

/-- ITS FALSE NEIGHBOUR: 'it returns false'. Refute it at one input. -/
def tempoFramesWrong : ChangeSpec := { name := "tempoFrames", fn := fun _ => fun
  | [d1, d2, d3, d4] => { results := [.lit (.bool false)], args := [d1, d2, d3, d4] }
  | _ => none }
def TempoFramesWrongFalsely : Prop := tempoFramesRow.holds Try.pinned (OpenSpec.ofChange tempoFramesWrong)

/-- 'continuolaw30.TempoBlocks': WHATEVER THE INPUT: true; the input reads as it did. -/
def tempoBlocksSpec : ChangeSpec := { name := "tempoBlocks", fn := fun _ => fun
  | [d1, d2, d3, d4, d5, d6] => { results := [.lit (.bool true)], args := [d1, d2, d3, d4, d5, d6] }
  | _ => none }
def tempoBlocksRow : OpenClaim := { program := "ytomlfbmfdoallaa", sum := "b6b37a984b09845e8c910c5dba8b39b8b9cc3de9da6ab766e720279b69bd5e8f", func := "continuo/continuolaw30.TempoBlocks", spec := "tempoBlocks", unfollowed := true, recurses := true, apart := false }
def TempoBlocksSaid : Prop := tempoBlocksRow.holds Try.pinned (OpenSpec.ofChange tempoBlocksSpec)

/-- ITS FALSE NEIGHBOUR: 'it returns false'. Refute it at one input. -/
def tempoBlocksWrong : ChangeSpec := { name := "tempoBlocks", fn := fun _ => fun
  | [d1, d2, d3, d4, d5, d6] => { results := [.lit (.bool false)], args := [d1, d2, d3, d4, d5, d6] }
  | _ => none }
def TempoBlocksWrongFalsely : Prop := tempoBlocksRow.holds Try.pinned (OpenSpec.ofChange tempoBlocksWrong)

/-- 'continuolaw30.TempoCurves': WHATEVER THE INPUT: true; the input reads as it did. -/
def tempoCurvesSpec : ChangeSpec := { name := "tempoCurves", fn := fun _ => fun
  | [d1, d2, d3, d4] => { results := [.lit (.bool true)], args := [d1, d2, d3, d4] }
  | _ => none }
def tempoCurvesRow : OpenClaim := { program := "ytomlfbmfdoallaa", sum := "b6b37a984b09845e8c910c5dba8b39b8b9cc3de9da6ab766e720279b69bd5e8f", func := "continuo/continuolaw30.TempoCurves", spec := "tempoCurves", unfollowed := true, recurses := true, apart := false }
def TempoCurvesSaid : Prop := tempoCurvesRow.holds Try.pinned (OpenSpec.ofChange tempoCurvesSpec)

/-- ITS FALSE NEIGHBOUR: 'it returns false'. Refute it at one input. -/
def tempoCurvesWrong : ChangeSpec := { name := "tempoCurves", fn := fun _ => fun
  | [d1, d2, d3, d4] => { results := [.lit (.bool false)], args := [d1, d2, d3, d4] }
  | _ => none }
def TempoCurvesWrongFalsely : Prop := tempoCurvesRow.holds Try.pinned (OpenSpec.ofChange tempoCurvesWrong)

/- THE SECOND FORM. 'bulk': how many values and letters a reading holds, each counted each time it is reached (what is shared counts as often as it is met; a slice's spare places count too). A statement '..UptoSaid' is the law's where the arguments, and the package variables that the reading takes, are together of bulk at most 1048576: NARROWER than '..Said'. Prove '..Said' where nothing that the law and all that it calls make is longer than what came in: it says more and counts as full. Else prove '..UptoSaid'. A law counts once. -/
mutual
def uptoBulk {H : Type} : DataW H → Nat
  | .lit (.string bytes) => bytes.length + 1
  | .lit _ => 1
  | .nil => 1
  | .ptr d => uptoBulk d + 1
  | .slice elems spare => uptoBulkAll elems + uptoBulkAll spare + 1
  | .agg parts => uptoBulkAll parts + 1
  | .iface _ d => uptoBulk d + 1
  | .map entries => uptoBulkEntries entries + 1
  | .held _ => 1
def uptoBulkAll {H : Type} : List (DataW H) → Nat
  | [] => 0
  | d :: r => uptoBulk d + uptoBulkAll r
def uptoBulkEntries {H : Type} : List (Lit × DataW H) → Nat
  | [] => 0
  | x :: r => uptoBulkEntry x + uptoBulkEntries r
def uptoBulkEntry {H : Type} : Lit × DataW H → Nat
  | (.string bytes, d) => bytes.length + uptoBulk d + 1
  | (_, d) => uptoBulk d + 1
 end
def uptoSmall : (H : Type) → List (DataW H) → Bool := fun _ ds => decide (uptoBulkAll ds ≤ 1048576)
def OpenSpec.upto (s : _root_.Go.ChangeSpec) : _root_.Go.OpenSpec := { _root_.Go.OpenSpec.ofChange s with cond := some uptoSmall }

/-- 'continuolaw30.TempoSums', WHERE WHAT IT READS IS OF BULK AT MOST 1048576: true; the input reads as it did. -/
def tempoSumsUptoRow : OpenClaim := { program := "ytomlfbmfdoallaa", sum := "b6b37a984b09845e8c910c5dba8b39b8b9cc3de9da6ab766e720279b69bd5e8f", func := "continuo/continuolaw30.TempoSums", spec := "tempoSums", unfollowed := true, recurses := true, apart := false, narrowed := true }
def TempoSumsUptoSaid : Prop := tempoSumsUptoRow.holds Try.pinned (OpenSpec.upto tempoSumsSpec)

/-- 'continuolaw30.TempoBeats', WHERE WHAT IT READS IS OF BULK AT MOST 1048576: true; the input reads as it did. -/
def tempoBeatsUptoRow : OpenClaim := { program := "ytomlfbmfdoallaa", sum := "b6b37a984b09845e8c910c5dba8b39b8b9cc3de9da6ab766e720279b69bd5e8f", func := "continuo/continuolaw30.TempoBeats", spec := "tempoBeats", unfollowed := true, recurses := true, apart := false, narrowed := true }
def TempoBeatsUptoSaid : Prop := tempoBeatsUptoRow.holds Try.pinned (OpenSpec.upto tempoBeatsSpec)

/-- 'continuolaw30.TempoPlaces', WHERE WHAT IT READS IS OF BULK AT MOST 1048576: true; the input reads as it did. -/
def tempoPlacesUptoRow : OpenClaim := { program := "ytomlfbmfdoallaa", sum := "b6b37a984b09845e8c910c5dba8b39b8b9cc3de9da6ab766e720279b69bd5e8f", func := "continuo/continuolaw30.TempoPlaces", spec := "tempoPlaces", unfollowed := true, recurses := true, apart := false, narrowed := true }
def TempoPlacesUptoSaid : Prop := tempoPlacesUptoRow.holds Try.pinned (OpenSpec.upto tempoPlacesSpec)

/-- 'continuolaw30.TempoFrames', WHERE WHAT IT READS IS OF BULK AT MOST 1048576: true; the input reads as it did. -/
def tempoFramesUptoRow : OpenClaim := { program := "ytomlfbmfdoallaa", sum := "b6b37a984b09845e8c910c5dba8b39b8b9cc3de9da6ab766e720279b69bd5e8f", func := "continuo/continuolaw30.TempoFrames", spec := "tempoFrames", unfollowed := true, recurses := true, apart := false, narrowed := true }
def TempoFramesUptoSaid : Prop := tempoFramesUptoRow.holds Try.pinned (OpenSpec.upto tempoFramesSpec)

/-- 'continuolaw30.TempoBlocks', WHERE WHAT IT READS IS OF BULK AT MOST 1048576: true; the input reads as it did. -/
def tempoBlocksUptoRow : OpenClaim := { program := "ytomlfbmfdoallaa", sum := "b6b37a984b09845e8c910c5dba8b39b8b9cc3de9da6ab766e720279b69bd5e8f", func := "continuo/continuolaw30.TempoBlocks", spec := "tempoBlocks", unfollowed := true, recurses := true, apart := false, narrowed := true }
def TempoBlocksUptoSaid : Prop := tempoBlocksUptoRow.holds Try.pinned (OpenSpec.upto tempoBlocksSpec)

/-- 'continuolaw30.TempoCurves', WHERE WHAT IT READS IS OF BULK AT MOST 1048576: true; the input reads as it did. -/
def tempoCurvesUptoRow : OpenClaim := { program := "ytomlfbmfdoallaa", sum := "b6b37a984b09845e8c910c5dba8b39b8b9cc3de9da6ab766e720279b69bd5e8f", func := "continuo/continuolaw30.TempoCurves", spec := "tempoCurves", unfollowed := true, recurses := true, apart := false, narrowed := true }
def TempoCurvesUptoSaid : Prop := tempoCurvesUptoRow.holds Try.pinned (OpenSpec.upto tempoCurvesSpec)

end Rows
end Go.Proofs.Ytomlfbmfdoallaa
