/-
  No cell of these rows narrows 'for every input' (looked for: loops, veiled, ifaces, maps, wideKeys, modest, calm, conditions, laid).
  DERIVED. THE GIVEN ROWS OF THIS SEAT. 6 by the template 'for every input the law returns true; each argument reads behind the call as it read before'; 0 by the template 'total and deterministic' (their statements: YtciheadencbmjaaTotals.lean).
  GIVEN WITH THE SEED: the statements are not yours to turn. If you find one false, say at which input.
  Laid BY PROGRAM, IN A SANDBOX (cutbox-rows.mjs): the forced cells as the released guide's own fill.sh prints them over the translation 60b414b0be93f201… (all of the seat's roots in one cut). By AI agents, Wed Nov 11 2026. No macro, syntax, notation, axiom, sorry.
-/
import Derived.Test.YtciheadencbmjaaChecked
import GoSem.Claim
import GoSem.ClaimJoined
import GoSem.ClaimMapViews
import Derived.JoinedTies
import Derived.KernelRfl
namespace Go.Proofs.Ytciheadencbmjaa
/- THE CELL 'sum', in the pinned program and in every row, IS THE sha256 OF THE DUMP (.gsa) THAT YtciheadencbmjaaProg.lean LOADS. Nothing in Lean hashes anything: it is a label: what it is worth is what the hold of that sum in a sandbox is worth. -/
noncomputable def Try.pinned : Pinned := { name := "ytciheadencbmjaa", sum := "60b414b0be93f201c5daf54af338531841e52de784fceab3974010cbc90009a5", checked := Try.checked }
namespace Rows
def none {H : Type} : Left H := { results := [], args := [] }

/-- 'formelaw24.GridMatchesReference': WHATEVER THE INPUT: true; the input reads as it did. -/
def gridMatchesReferenceSpec : ChangeSpec := { name := "gridMatchesReference", fn := fun _ => fun
  | [d1, d2, d3, d4, d5] => { results := [.lit (.bool true)], args := [d1, d2, d3, d4, d5] }
  | _ => none }
def gridMatchesReferenceRow : OpenClaim := { program := "ytciheadencbmjaa", sum := "60b414b0be93f201c5daf54af338531841e52de784fceab3974010cbc90009a5", func := "forme/formelaw24.GridMatchesReference", spec := "gridMatchesReference", unfollowed := true, recurses := true, apart := false }
def GridMatchesReferenceSaid : Prop := gridMatchesReferenceRow.holds Try.pinned (OpenSpec.ofChange gridMatchesReferenceSpec)

/-- ITS FALSE NEIGHBOUR: 'it returns false'. Refute it at one input. -/
def gridMatchesReferenceWrong : ChangeSpec := { name := "gridMatchesReference", fn := fun _ => fun
  | [d1, d2, d3, d4, d5] => { results := [.lit (.bool false)], args := [d1, d2, d3, d4, d5] }
  | _ => none }
def GridMatchesReferenceWrongFalsely : Prop := gridMatchesReferenceRow.holds Try.pinned (OpenSpec.ofChange gridMatchesReferenceWrong)

/-- 'formelaw24.GridCells': WHATEVER THE INPUT: true; the input reads as it did. -/
def gridCellsSpec : ChangeSpec := { name := "gridCells", fn := fun _ => fun
  | [d1, d2] => { results := [.lit (.bool true)], args := [d1, d2] }
  | _ => none }
def gridCellsRow : OpenClaim := { program := "ytciheadencbmjaa", sum := "60b414b0be93f201c5daf54af338531841e52de784fceab3974010cbc90009a5", func := "forme/formelaw24.GridCells", spec := "gridCells", unfollowed := true, recurses := true, apart := false }
def GridCellsSaid : Prop := gridCellsRow.holds Try.pinned (OpenSpec.ofChange gridCellsSpec)

/-- ITS FALSE NEIGHBOUR: 'it returns false'. Refute it at one input. -/
def gridCellsWrong : ChangeSpec := { name := "gridCells", fn := fun _ => fun
  | [d1, d2] => { results := [.lit (.bool false)], args := [d1, d2] }
  | _ => none }
def GridCellsWrongFalsely : Prop := gridCellsRow.holds Try.pinned (OpenSpec.ofChange gridCellsWrong)

/-- 'formelaw24.GridFirst': WHATEVER THE INPUT: true; the input reads as it did. -/
def gridFirstSpec : ChangeSpec := { name := "gridFirst", fn := fun _ => fun
  | [d1, d2, d3, d4, d5, d6] => { results := [.lit (.bool true)], args := [d1, d2, d3, d4, d5, d6] }
  | _ => none }
def gridFirstRow : OpenClaim := { program := "ytciheadencbmjaa", sum := "60b414b0be93f201c5daf54af338531841e52de784fceab3974010cbc90009a5", func := "forme/formelaw24.GridFirst", spec := "gridFirst", unfollowed := true, recurses := true, apart := false }
def GridFirstSaid : Prop := gridFirstRow.holds Try.pinned (OpenSpec.ofChange gridFirstSpec)

/-- ITS FALSE NEIGHBOUR: 'it returns false'. Refute it at one input. -/
def gridFirstWrong : ChangeSpec := { name := "gridFirst", fn := fun _ => fun
  | [d1, d2, d3, d4, d5, d6] => { results := [.lit (.bool false)], args := [d1, d2, d3, d4, d5, d6] }
  | _ => none }
def GridFirstWrongFalsely : Prop := gridFirstRow.holds Try.pinned (OpenSpec.ofChange gridFirstWrong)

/-- 'formelaw24.GridSpace': WHATEVER THE INPUT: true; the input reads as it did. -/
def gridSpaceSpec : ChangeSpec := { name := "gridSpace", fn := fun _ => fun
  | [d1, d2, d3, d4] => { results := [.lit (.bool true)], args := [d1, d2, d3, d4] }
  | _ => none }
def gridSpaceRow : OpenClaim := { program := "ytciheadencbmjaa", sum := "60b414b0be93f201c5daf54af338531841e52de784fceab3974010cbc90009a5", func := "forme/formelaw24.GridSpace", spec := "gridSpace", unfollowed := true, recurses := true, apart := false }
def GridSpaceSaid : Prop := gridSpaceRow.holds Try.pinned (OpenSpec.ofChange gridSpaceSpec)

/-- ITS FALSE NEIGHBOUR: 'it returns false'. Refute it at one input. -/
def gridSpaceWrong : ChangeSpec := { name := "gridSpace", fn := fun _ => fun
  | [d1, d2, d3, d4] => { results := [.lit (.bool false)], args := [d1, d2, d3, d4] }
  | _ => none }
def GridSpaceWrongFalsely : Prop := gridSpaceRow.holds Try.pinned (OpenSpec.ofChange gridSpaceWrong)

/-- 'formelaw24.GridRows': WHATEVER THE INPUT: true; the input reads as it did. -/
def gridRowsSpec : ChangeSpec := { name := "gridRows", fn := fun _ => fun
  | [d1, d2, d3, d4, d5] => { results := [.lit (.bool true)], args := [d1, d2, d3, d4, d5] }
  | _ => none }
def gridRowsRow : OpenClaim := { program := "ytciheadencbmjaa", sum := "60b414b0be93f201c5daf54af338531841e52de784fceab3974010cbc90009a5", func := "forme/formelaw24.GridRows", spec := "gridRows", unfollowed := true, recurses := true, apart := false }
def GridRowsSaid : Prop := gridRowsRow.holds Try.pinned (OpenSpec.ofChange gridRowsSpec)

/-- ITS FALSE NEIGHBOUR: 'it returns false'. Refute it at one input. -/
def gridRowsWrong : ChangeSpec := { name := "gridRows", fn := fun _ => fun
  | [d1, d2, d3, d4, d5] => { results := [.lit (.bool false)], args := [d1, d2, d3, d4, d5] }
  | _ => none }
def GridRowsWrongFalsely : Prop := gridRowsRow.holds Try.pinned (OpenSpec.ofChange gridRowsWrong)

/-- 'formelaw24.GridOne': WHATEVER THE INPUT: true; the input reads as it did. -/
def gridOneSpec : ChangeSpec := { name := "gridOne", fn := fun _ => fun
  | [d1, d2, d3, d4, d5] => { results := [.lit (.bool true)], args := [d1, d2, d3, d4, d5] }
  | _ => none }
def gridOneRow : OpenClaim := { program := "ytciheadencbmjaa", sum := "60b414b0be93f201c5daf54af338531841e52de784fceab3974010cbc90009a5", func := "forme/formelaw24.GridOne", spec := "gridOne", unfollowed := true, recurses := true, apart := false }
def GridOneSaid : Prop := gridOneRow.holds Try.pinned (OpenSpec.ofChange gridOneSpec)

/-- ITS FALSE NEIGHBOUR: 'it returns false'. Refute it at one input. -/
def gridOneWrong : ChangeSpec := { name := "gridOne", fn := fun _ => fun
  | [d1, d2, d3, d4, d5] => { results := [.lit (.bool false)], args := [d1, d2, d3, d4, d5] }
  | _ => none }
def GridOneWrongFalsely : Prop := gridOneRow.holds Try.pinned (OpenSpec.ofChange gridOneWrong)

/- THE SECOND FORM. 'bulk': how many values and letters a reading holds, each counted each time it is reached (what is shared counts as often as it is met; a slice's spare places count too). A statement '..UptoSaid' is the law's where the arguments, and the package variables that the reading takes, are together of bulk at most 1048576: NARROWER than '..Said'. Prove '..Said' where nothing that the law and all that it calls make is longer than what came in: it says more and counts as full. Else prove '..UptoSaid'. A law counts once. -/
mutual
def uptoBulk {H : Type} : DataW H → Nat
  | .lit (.string bytes) => bytes.length + 1
  | .lit _ => 1
  | .nil => 1
  | .ptr d => uptoBulk d + 1
  | .slice elems spare => uptoBulkAll elems + uptoBulkAll spare + 1
  | .agg parts => uptoBulkAll parts + 1
  | .iface _ d => uptoBulk d + 1
  | .map entries => uptoBulkEntries entries + 1
  | .held _ => 1
def uptoBulkAll {H : Type} : List (DataW H) → Nat
  | [] => 0
  | d :: r => uptoBulk d + uptoBulkAll r
def uptoBulkEntries {H : Type} : List (Lit × DataW H) → Nat
  | [] => 0
  | x :: r => uptoBulkEntry x + uptoBulkEntries r
def uptoBulkEntry {H : Type} : Lit × DataW H → Nat
  | (.string bytes, d) => bytes.length + uptoBulk d + 1
  | (_, d) => uptoBulk d + 1
 end
def uptoSmall : (H : Type) → List (DataW H) → Bool := fun _ ds => decide (uptoBulkAll ds ≤ 1048576)
def OpenSpec.upto (s : _root_.Go.ChangeSpec) : _root_.Go.OpenSpec := { _root_.Go.OpenSpec.ofChange s with cond := some uptoSmall }

/-- 'formelaw24.GridMatchesReference', WHERE WHAT IT READS IS OF BULK AT MOST 1048576: true; the input reads as it did. -/
def gridMatchesReferenceUptoRow : OpenClaim := { program := "ytciheadencbmjaa", sum := "60b414b0be93f201c5daf54af338531841e52de784fceab3974010cbc90009a5", func := "forme/formelaw24.GridMatchesReference", spec := "gridMatchesReference", unfollowed := true, recurses := true, apart := false, narrowed := true }
def GridMatchesReferenceUptoSaid : Prop := gridMatchesReferenceUptoRow.holds Try.pinned (OpenSpec.upto gridMatchesReferenceSpec)

/-- 'formelaw24.GridCells', WHERE WHAT IT READS IS OF BULK AT MOST 1048576: true; the input reads as it did. -/
def gridCellsUptoRow : OpenClaim := { program := "ytciheadencbmjaa", sum := "60b414b0be93f201c5daf54af338531841e52de784fceab3974010cbc90009a5", func := "forme/formelaw24.GridCells", spec := "gridCells", unfollowed := true, recurses := true, apart := false, narrowed := true }
def GridCellsUptoSaid : Prop := gridCellsUptoRow.holds Try.pinned (OpenSpec.upto gridCellsSpec)

/-- 'formelaw24.GridFirst', WHERE WHAT IT READS IS OF BULK AT MOST 1048576: true; the input reads as it did. -/
def gridFirstUptoRow : OpenClaim := { program := "ytciheadencbmjaa", sum := "60b414b0be93f201c5daf54af338531841e52de784fceab3974010cbc90009a5", func := "forme/formelaw24.GridFirst", spec := "gridFirst", unfollowed := true, recurses := true, apart := false, narrowed := true }
def GridFirstUptoSaid : Prop := gridFirstUptoRow.holds Try.pinned (OpenSpec.upto gridFirstSpec)

/-- 'formelaw24.GridSpace', WHERE WHAT IT READS IS OF BULK AT MOST 1048576: true; the input reads as it did. -/
def gridSpaceUptoRow : OpenClaim := { program := "ytciheadencbmjaa", sum := "60b414b0be93f201c5daf54af338531841e52de784fceab3974010cbc90009a5", func := "forme/formelaw24.GridSpace", spec := "gridSpace", unfollowed := true, recurses := true, apart := false, narrowed := true }
def GridSpaceUptoSaid : Prop := gridSpaceUptoRow.holds Try.pinned (OpenSpec.upto gridSpaceSpec)

/-- 'formelaw24.GridRows', WHERE WHAT IT READS IS OF BULK AT MOST 1048576: true; the input reads as it did. -/
def gridRowsUptoRow : OpenClaim := { program := "ytciheadencbmjaa", sum := "60b414b0be93f201c5daf54af338531841e52de784fceab3974010cbc90009a5", func := "forme/formelaw24.GridRows", spec := "gridRows", unfollowed := true, recurses := true, apart := false, narrowed := true }
def GridRowsUptoSaid : Prop := gridRowsUptoRow.holds Try.pinned (OpenSpec.upto gridRowsSpec)

/-- 'formelaw24.GridOne', WHERE WHAT IT READS IS OF BULK AT MOST 1048576: true; the input reads as it did. -/
def gridOneUptoRow : OpenClaim := { program := "ytciheadencbmjaa", sum := "60b414b0be93f201c5daf54af338531841e52de784fceab3974010cbc90009a5", func := "forme/formelaw24.GridOne", spec := "gridOne", unfollowed := true, recurses := true, apart := false, narrowed := true }
def GridOneUptoSaid : Prop := gridOneUptoRow.holds Try.pinned (OpenSpec.upto gridOneSpec)

end Rows
end Go.Proofs.Ytciheadencbmjaa
