/-
  No cell of these rows narrows 'for every input' (looked for: loops, veiled, ifaces, maps, wideKeys, modest, calm, conditions, laid).
  DERIVED. THE GIVEN ROWS OF THIS SEAT. 7 by the template 'for every input the law returns true; each argument reads behind the call as it read before'; 0 by the template 'total and deterministic' (their statements: YthbajahklnpkcaaTotals.lean).
  GIVEN WITH THE SEED: the statements are not yours to turn. If you find one false, say at which input.
  Laid BY PROGRAM, IN A SANDBOX (cutbox-rows.mjs): the forced cells as the released guide's own fill.sh prints them over the translation 4a215d57f68fa1d4… (all of the seat's roots in one cut). By AI agents, Wed Nov 11 2026. No macro, syntax, notation, axiom, sorry.
-/
import Derived.Test.YthbajahklnpkcaaChecked
import GoSem.Claim
import GoSem.ClaimJoined
import GoSem.ClaimMapViews
import Derived.JoinedTies
import Derived.KernelRfl
namespace Go.Proofs.Ythbajahklnpkcaa
/- THE CELL 'sum', in the pinned program and in every row, IS THE sha256 OF THE DUMP (.gsa) THAT YthbajahklnpkcaaProg.lean LOADS. Nothing in Lean hashes anything: it is a label: what it is worth is what the hold of that sum in a sandbox is worth. -/
noncomputable def Try.pinned : Pinned := { name := "ythbajahklnpkcaa", sum := "4a215d57f68fa1d4bcba5ad3577922ccccca4ff25b1d9883aa0cae1144943b59", checked := Try.checked }
namespace Rows
def none {H : Type} : Left H := { results := [], args := [] }

/-- 'continuolaw25.VideoJoins': WHATEVER THE INPUT: true; the input reads as it did. -/
def videoJoinsSpec : ChangeSpec := { name := "videoJoins", fn := fun _ => fun
  | [d1, d2] => { results := [.lit (.bool true)], args := [d1, d2] }
  | _ => none }
def videoJoinsRow : OpenClaim := { program := "ythbajahklnpkcaa", sum := "4a215d57f68fa1d4bcba5ad3577922ccccca4ff25b1d9883aa0cae1144943b59", func := "continuo/continuolaw25.VideoJoins", spec := "videoJoins", unfollowed := true, recurses := true, apart := false }
def VideoJoinsSaid : Prop := videoJoinsRow.holds Try.pinned (OpenSpec.ofChange videoJoinsSpec)

/-- ITS FALSE NEIGHBOUR: 'it returns false'. Refute it at one input. -/
def videoJoinsWrong : ChangeSpec := { name := "videoJoins", fn := fun _ => fun
  | [d1, d2] => { results := [.lit (.bool false)], args := [d1, d2] }
  | _ => none }
def VideoJoinsWrongFalsely : Prop := videoJoinsRow.holds Try.pinned (OpenSpec.ofChange videoJoinsWrong)

/-- 'continuolaw25.VideoAgrees': WHATEVER THE INPUT: true; the input reads as it did. -/
def videoAgreesSpec : ChangeSpec := { name := "videoAgrees", fn := fun _ => fun
  | [d1, d2] => { results := [.lit (.bool true)], args := [d1, d2] }
  | _ => none }
def videoAgreesRow : OpenClaim := { program := "ythbajahklnpkcaa", sum := "4a215d57f68fa1d4bcba5ad3577922ccccca4ff25b1d9883aa0cae1144943b59", func := "continuo/continuolaw25.VideoAgrees", spec := "videoAgrees", unfollowed := true, recurses := true, apart := false }
def VideoAgreesSaid : Prop := videoAgreesRow.holds Try.pinned (OpenSpec.ofChange videoAgreesSpec)

/-- ITS FALSE NEIGHBOUR: 'it returns false'. Refute it at one input. -/
def videoAgreesWrong : ChangeSpec := { name := "videoAgrees", fn := fun _ => fun
  | [d1, d2] => { results := [.lit (.bool false)], args := [d1, d2] }
  | _ => none }
def VideoAgreesWrongFalsely : Prop := videoAgreesRow.holds Try.pinned (OpenSpec.ofChange videoAgreesWrong)

/-- 'continuolaw25.VideoRegions': WHATEVER THE INPUT: true; the input reads as it did. -/
def videoRegionsSpec : ChangeSpec := { name := "videoRegions", fn := fun _ => fun
  | [d1, d2, d3] => { results := [.lit (.bool true)], args := [d1, d2, d3] }
  | _ => none }
def videoRegionsRow : OpenClaim := { program := "ythbajahklnpkcaa", sum := "4a215d57f68fa1d4bcba5ad3577922ccccca4ff25b1d9883aa0cae1144943b59", func := "continuo/continuolaw25.VideoRegions", spec := "videoRegions", unfollowed := true, recurses := true, apart := false }
def VideoRegionsSaid : Prop := videoRegionsRow.holds Try.pinned (OpenSpec.ofChange videoRegionsSpec)

/-- ITS FALSE NEIGHBOUR: 'it returns false'. Refute it at one input. -/
def videoRegionsWrong : ChangeSpec := { name := "videoRegions", fn := fun _ => fun
  | [d1, d2, d3] => { results := [.lit (.bool false)], args := [d1, d2, d3] }
  | _ => none }
def VideoRegionsWrongFalsely : Prop := videoRegionsRow.holds Try.pinned (OpenSpec.ofChange videoRegionsWrong)

/-- 'continuolaw25.VideoPictures': WHATEVER THE INPUT: true; the input reads as it did. -/
def videoPicturesSpec : ChangeSpec := { name := "videoPictures", fn := fun _ => fun
  | [d1, d2, d3, d4, d5] => { results := [.lit (.bool true)], args := [d1, d2, d3, d4, d5] }
  | _ => none }
def videoPicturesRow : OpenClaim := { program := "ythbajahklnpkcaa", sum := "4a215d57f68fa1d4bcba5ad3577922ccccca4ff25b1d9883aa0cae1144943b59", func := "continuo/continuolaw25.VideoPictures", spec := "videoPictures", unfollowed := true, recurses := true, apart := false }
def VideoPicturesSaid : Prop := videoPicturesRow.holds Try.pinned (OpenSpec.ofChange videoPicturesSpec)

/-- ITS FALSE NEIGHBOUR: 'it returns false'. Refute it at one input. -/
def videoPicturesWrong : ChangeSpec := { name := "videoPictures", fn := fun _ => fun
  | [d1, d2, d3, d4, d5] => { results := [.lit (.bool false)], args := [d1, d2, d3, d4, d5] }
  | _ => none }
def VideoPicturesWrongFalsely : Prop := videoPicturesRow.holds Try.pinned (OpenSpec.ofChange videoPicturesWrong)

/-- 'continuolaw25.VideoPatches': WHATEVER THE INPUT: true; the input reads as it did. -/
def videoPatchesSpec : ChangeSpec := { name := "videoPatches", fn := fun _ => fun
  | [d1, d2, d3] => { results := [.lit (.bool true)], args := [d1, d2, d3] }
  | _ => none }
def videoPatchesRow : OpenClaim := { program := "ythbajahklnpkcaa", sum := "4a215d57f68fa1d4bcba5ad3577922ccccca4ff25b1d9883aa0cae1144943b59", func := "continuo/continuolaw25.VideoPatches", spec := "videoPatches", unfollowed := true, recurses := true, apart := false }
def VideoPatchesSaid : Prop := videoPatchesRow.holds Try.pinned (OpenSpec.ofChange videoPatchesSpec)

/-- ITS FALSE NEIGHBOUR: 'it returns false'. Refute it at one input. -/
def videoPatchesWrong : ChangeSpec := { name := "videoPatches", fn := fun _ => fun
  | [d1, d2, d3] => { results := [.lit (.bool false)], args := [d1, d2, d3] }
  | _ => none }
def VideoPatchesWrongFalsely : Prop := videoPatchesRow.holds Try.pinned (OpenSpec.ofChange videoPatchesWrong)

/-- 'continuolaw25.VideoCompares': WHATEVER THE INPUT: true; the input reads as it did. -/
def videoComparesSpec : ChangeSpec := { name := "videoCompares", fn := fun _ => fun
  | [d1, d2] => { results := [.lit (.bool true)], args := [d1, d2] }
  | _ => none }
def videoComparesRow : OpenClaim := { program := "ythbajahklnpkcaa", sum := "4a215d57f68fa1d4bcba5ad3577922ccccca4ff25b1d9883aa0cae1144943b59", func := "continuo/continuolaw25.VideoCompares", spec := "videoCompares", unfollowed := true, recurses := true, apart := false }
def VideoComparesSaid : Prop := videoComparesRow.holds Try.pinned (OpenSpec.ofChange videoComparesSpec)

/-- ITS FALSE NEIGHBOUR: 'it returns false'. Refute it at one input. -/
def videoComparesWrong : ChangeSpec := { name := "videoCompares", fn := fun _ => fun
  | [d1, d2] => { results := [.lit (.bool false)], args := [d1, d2] }
  | _ => none }
def VideoComparesWrongFalsely : Prop := videoComparesRow.holds Try.pinned (OpenSpec.ofChange videoComparesWrong)

/-- 'continuolaw25.VideoNothing': WHATEVER THE INPUT: true; the input reads as it did. -/
def videoNothingSpec : ChangeSpec := { name := "videoNothing", fn := fun _ => fun
  | [d1, d2, d3] => { results := [.lit (.bool true)], args := [d1, d2, d3] }
  | _ => none }
def videoNothingRow : OpenClaim := { program := "ythbajahklnpkcaa", sum := "4a215d57f68fa1d4bcba5ad3577922ccccca4ff25b1d9883aa0cae1144943b59", func := "continuo/continuolaw25.VideoNothing", spec := "videoNothing", unfollowed := true, recurses := true, apart := false }
def VideoNothingSaid : Prop := videoNothingRow.holds Try.pinned (OpenSpec.ofChange videoNothingSpec)

/-- ITS FALSE NEIGHBOUR: 'it returns false'. Refute it at one input. -/
def videoNothingWrong : ChangeSpec := { name := "videoNothing", fn := fun _ => fun
  | [d1, d2, d3] => { results := [.lit (.bool false)], args := [d1, d2, d3] }
  | _ => none }
def VideoNothingWrongFalsely : Prop := videoNothingRow.holds Try.pinned (OpenSpec.ofChange videoNothingWrong)

/- THE SECOND FORM. 'bulk': how many values and letters a reading holds, each counted each time it is reached (what is shared counts as often as it is met; a slice's spare places count too). A statement '..UptoSaid' is the law's where the arguments, and the package variables that the reading takes, are together of bulk at most 1048576: NARROWER than '..Said'. Prove '..Said' where nothing that the law and all that it calls make is longer than what came in: it says more and counts as full. Else prove '..UptoSaid'. A law counts once. -/
mutual
def uptoBulk {H : Type} : DataW H → Nat
  | .lit (.string bytes) => bytes.length + 1
  | .lit _ => 1
  | .nil => 1
  | .ptr d => uptoBulk d + 1
  | .slice elems spare => uptoBulkAll elems + uptoBulkAll spare + 1
  | .agg parts => uptoBulkAll parts + 1
  | .iface _ d => uptoBulk d + 1
  | .map entries => uptoBulkEntries entries + 1
  | .held _ => 1
def uptoBulkAll {H : Type} : List (DataW H) → Nat
  | [] => 0
  | d :: r => uptoBulk d + uptoBulkAll r
def uptoBulkEntries {H : Type} : List (Lit × DataW H) → Nat
  | [] => 0
  | x :: r => uptoBulkEntry x + uptoBulkEntries r
def uptoBulkEntry {H : Type} : Lit × DataW H → Nat
  | (.string bytes, d) => bytes.length + uptoBulk d + 1
  | (_, d) => uptoBulk d + 1
 end
def uptoSmall : (H : Type) → List (DataW H) → Bool := fun _ ds => decide (uptoBulkAll ds ≤ 1048576)
def OpenSpec.upto (s : _root_.Go.ChangeSpec) : _root_.Go.OpenSpec := { _root_.Go.OpenSpec.ofChange s with cond := some uptoSmall }

/-- 'continuolaw25.VideoJoins', WHERE WHAT IT READS IS OF BULK AT MOST 1048576: true; the input reads as it did. -/
def videoJoinsUptoRow : OpenClaim := { program := "ythbajahklnpkcaa", sum := "4a215d57f68fa1d4bcba5ad3577922ccccca4ff25b1d9883aa0cae1144943b59", func := "continuo/continuolaw25.VideoJoins", spec := "videoJoins", unfollowed := true, recurses := true, apart := false, narrowed := true }
def VideoJoinsUptoSaid : Prop := videoJoinsUptoRow.holds Try.pinned (OpenSpec.upto videoJoinsSpec)

/-- 'continuolaw25.VideoAgrees', WHERE WHAT IT READS IS OF BULK AT MOST 1048576: true; the input reads as it did. -/
def videoAgreesUptoRow : OpenClaim := { program := "ythbajahklnpkcaa", sum := "4a215d57f68fa1d4bcba5ad3577922ccccca4ff25b1d9883aa0cae1144943b59", func := "continuo/continuolaw25.VideoAgrees", spec := "videoAgrees", unfollowed := true, recurses := true, apart := false, narrowed := true }
def VideoAgreesUptoSaid : Prop := videoAgreesUptoRow.holds Try.pinned (OpenSpec.upto videoAgreesSpec)

/-- 'continuolaw25.VideoRegions', WHERE WHAT IT READS IS OF BULK AT MOST 1048576: true; the input reads as it did. -/
def videoRegionsUptoRow : OpenClaim := { program := "ythbajahklnpkcaa", sum := "4a215d57f68fa1d4bcba5ad3577922ccccca4ff25b1d9883aa0cae1144943b59", func := "continuo/continuolaw25.VideoRegions", spec := "videoRegions", unfollowed := true, recurses := true, apart := false, narrowed := true }
def VideoRegionsUptoSaid : Prop := videoRegionsUptoRow.holds Try.pinned (OpenSpec.upto videoRegionsSpec)

/-- 'continuolaw25.VideoPictures', WHERE WHAT IT READS IS OF BULK AT MOST 1048576: true; the input reads as it did. -/
def videoPicturesUptoRow : OpenClaim := { program := "ythbajahklnpkcaa", sum := "4a215d57f68fa1d4bcba5ad3577922ccccca4ff25b1d9883aa0cae1144943b59", func := "continuo/continuolaw25.VideoPictures", spec := "videoPictures", unfollowed := true, recurses := true, apart := false, narrowed := true }
def VideoPicturesUptoSaid : Prop := videoPicturesUptoRow.holds Try.pinned (OpenSpec.upto videoPicturesSpec)

/-- 'continuolaw25.VideoPatches', WHERE WHAT IT READS IS OF BULK AT MOST 1048576: true; the input reads as it did. -/
def videoPatchesUptoRow : OpenClaim := { program := "ythbajahklnpkcaa", sum := "4a215d57f68fa1d4bcba5ad3577922ccccca4ff25b1d9883aa0cae1144943b59", func := "continuo/continuolaw25.VideoPatches", spec := "videoPatches", unfollowed := true, recurses := true, apart := false, narrowed := true }
def VideoPatchesUptoSaid : Prop := videoPatchesUptoRow.holds Try.pinned (OpenSpec.upto videoPatchesSpec)

/-- 'continuolaw25.VideoCompares', WHERE WHAT IT READS IS OF BULK AT MOST 1048576: true; the input reads as it did. -/
def videoComparesUptoRow : OpenClaim := { program := "ythbajahklnpkcaa", sum := "4a215d57f68fa1d4bcba5ad3577922ccccca4ff25b1d9883aa0cae1144943b59", func := "continuo/continuolaw25.VideoCompares", spec := "videoCompares", unfollowed := true, recurses := true, apart := false, narrowed := true }
def VideoComparesUptoSaid : Prop := videoComparesUptoRow.holds Try.pinned (OpenSpec.upto videoComparesSpec)

/-- 'continuolaw25.VideoNothing', WHERE WHAT IT READS IS OF BULK AT MOST 1048576: true; the input reads as it did. -/
def videoNothingUptoRow : OpenClaim := { program := "ythbajahklnpkcaa", sum := "4a215d57f68fa1d4bcba5ad3577922ccccca4ff25b1d9883aa0cae1144943b59", func := "continuo/continuolaw25.VideoNothing", spec := "videoNothing", unfollowed := true, recurses := true, apart := false, narrowed := true }
def VideoNothingUptoSaid : Prop := videoNothingUptoRow.holds Try.pinned (OpenSpec.upto videoNothingSpec)

end Rows
end Go.Proofs.Ythbajahklnpkcaa
