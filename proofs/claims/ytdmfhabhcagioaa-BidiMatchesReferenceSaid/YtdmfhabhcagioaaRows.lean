/-
  No cell of these rows narrows 'for every input' (looked for: loops, veiled, ifaces, maps, wideKeys, modest, calm, conditions, laid).
  DERIVED. THE GIVEN ROWS OF THIS SEAT. 7 by the template 'for every input the law returns true; each argument reads behind the call as it read before'; 0 by the template 'total and deterministic' (their statements: YtdmfhabhcagioaaTotals.lean).
  GIVEN WITH THE SEED: the statements are not yours to turn. If you find one false, say at which input.
  Laid BY PROGRAM, IN A SANDBOX (cutbox-rows.mjs): the forced cells as the released guide's own fill.sh prints them over the translation 87a5ae486cd91f24… (all of the seat's roots in one cut). By AI agents, Wed Nov 11 2026. No macro, syntax, notation, axiom, sorry.
-/
import Derived.Test.YtdmfhabhcagioaaChecked
import GoSem.Claim
import GoSem.ClaimJoined
import GoSem.ClaimMapViews
import Derived.JoinedTies
import Derived.KernelRfl
namespace Go.Proofs.Ytdmfhabhcagioaa
/- THE CELL 'sum', in the pinned program and in every row, IS THE sha256 OF THE DUMP (.gsa) THAT YtdmfhabhcagioaaProg.lean LOADS. Nothing in Lean hashes anything: it is a label: what it is worth is what the hold of that sum in a sandbox is worth. -/
noncomputable def Try.pinned : Pinned := { name := "ytdmfhabhcagioaa", sum := "87a5ae486cd91f24e40c7a919e3c97128c04931d7bcb533dab4d2ed83bffa91b", checked := Try.checked }
namespace Rows
def none {H : Type} : Left H := { results := [], args := [] }

/-- 'formelaw09.BidiMatchesReference': WHATEVER THE INPUT: true; the input reads as it did. -/
def bidiMatchesReferenceSpec : ChangeSpec := { name := "bidiMatchesReference", fn := fun _ => fun
  | [d1, d2] => { results := [.lit (.bool true)], args := [d1, d2] }
  | _ => none }
def bidiMatchesReferenceRow : OpenClaim := { program := "ytdmfhabhcagioaa", sum := "87a5ae486cd91f24e40c7a919e3c97128c04931d7bcb533dab4d2ed83bffa91b", func := "forme/formelaw09.BidiMatchesReference", spec := "bidiMatchesReference", unfollowed := true, recurses := true, apart := false }
def BidiMatchesReferenceSaid : Prop := bidiMatchesReferenceRow.holds Try.pinned (OpenSpec.ofChange bidiMatchesReferenceSpec)

/-- ITS FALSE NEIGHBOUR: 'it returns false'. Refute it at one input. -/
def bidiMatchesReferenceWrong : ChangeSpec := { name := "bidiMatchesReference", fn := fun _ => fun
  | [d1, d2] => { results := [.lit (.bool false)], args := [d1, d2] }
  | _ => none }
def BidiMatchesReferenceWrongFalsely : Prop := bidiMatchesReferenceRow.holds Try.pinned (OpenSpec.ofChange bidiMatchesReferenceWrong)

/-- 'formelaw09.BidiPermutes': WHATEVER THE INPUT: true; the input reads as it did. -/
def bidiPermutesSpec : ChangeSpec := { name := "bidiPermutes", fn := fun _ => fun
  | [d1, d2] => { results := [.lit (.bool true)], args := [d1, d2] }
  | _ => none }
def bidiPermutesRow : OpenClaim := { program := "ytdmfhabhcagioaa", sum := "87a5ae486cd91f24e40c7a919e3c97128c04931d7bcb533dab4d2ed83bffa91b", func := "forme/formelaw09.BidiPermutes", spec := "bidiPermutes", unfollowed := true, recurses := true, apart := false }
def BidiPermutesSaid : Prop := bidiPermutesRow.holds Try.pinned (OpenSpec.ofChange bidiPermutesSpec)

/-- ITS FALSE NEIGHBOUR: 'it returns false'. Refute it at one input. -/
def bidiPermutesWrong : ChangeSpec := { name := "bidiPermutes", fn := fun _ => fun
  | [d1, d2] => { results := [.lit (.bool false)], args := [d1, d2] }
  | _ => none }
def BidiPermutesWrongFalsely : Prop := bidiPermutesRow.holds Try.pinned (OpenSpec.ofChange bidiPermutesWrong)

/-- 'formelaw09.BidiPlain': WHATEVER THE INPUT: true; the input reads as it did. -/
def bidiPlainSpec : ChangeSpec := { name := "bidiPlain", fn := fun _ => fun
  | [d] => { results := [.lit (.bool true)], args := [d] }
  | _ => none }
def bidiPlainRow : OpenClaim := { program := "ytdmfhabhcagioaa", sum := "87a5ae486cd91f24e40c7a919e3c97128c04931d7bcb533dab4d2ed83bffa91b", func := "forme/formelaw09.BidiPlain", spec := "bidiPlain", unfollowed := true, recurses := true, apart := false }
def BidiPlainSaid : Prop := bidiPlainRow.holds Try.pinned (OpenSpec.ofChange bidiPlainSpec)

/-- ITS FALSE NEIGHBOUR: 'it returns false'. Refute it at one input. -/
def bidiPlainWrong : ChangeSpec := { name := "bidiPlain", fn := fun _ => fun
  | [d] => { results := [.lit (.bool false)], args := [d] }
  | _ => none }
def BidiPlainWrongFalsely : Prop := bidiPlainRow.holds Try.pinned (OpenSpec.ofChange bidiPlainWrong)

/-- 'formelaw09.BidiNeighbours': WHATEVER THE INPUT: true; the input reads as it did. -/
def bidiNeighboursSpec : ChangeSpec := { name := "bidiNeighbours", fn := fun _ => fun
  | [d1, d2] => { results := [.lit (.bool true)], args := [d1, d2] }
  | _ => none }
def bidiNeighboursRow : OpenClaim := { program := "ytdmfhabhcagioaa", sum := "87a5ae486cd91f24e40c7a919e3c97128c04931d7bcb533dab4d2ed83bffa91b", func := "forme/formelaw09.BidiNeighbours", spec := "bidiNeighbours", unfollowed := true, recurses := true, apart := false }
def BidiNeighboursSaid : Prop := bidiNeighboursRow.holds Try.pinned (OpenSpec.ofChange bidiNeighboursSpec)

/-- ITS FALSE NEIGHBOUR: 'it returns false'. Refute it at one input. -/
def bidiNeighboursWrong : ChangeSpec := { name := "bidiNeighbours", fn := fun _ => fun
  | [d1, d2] => { results := [.lit (.bool false)], args := [d1, d2] }
  | _ => none }
def BidiNeighboursWrongFalsely : Prop := bidiNeighboursRow.holds Try.pinned (OpenSpec.ofChange bidiNeighboursWrong)

/-- 'formelaw09.BidiMirror': WHATEVER THE INPUT: true; the input reads as it did. -/
def bidiMirrorSpec : ChangeSpec := { name := "bidiMirror", fn := fun _ => fun
  | [d1, d2] => { results := [.lit (.bool true)], args := [d1, d2] }
  | _ => none }
def bidiMirrorRow : OpenClaim := { program := "ytdmfhabhcagioaa", sum := "87a5ae486cd91f24e40c7a919e3c97128c04931d7bcb533dab4d2ed83bffa91b", func := "forme/formelaw09.BidiMirror", spec := "bidiMirror", unfollowed := true, recurses := true, apart := false }
def BidiMirrorSaid : Prop := bidiMirrorRow.holds Try.pinned (OpenSpec.ofChange bidiMirrorSpec)

/-- ITS FALSE NEIGHBOUR: 'it returns false'. Refute it at one input. -/
def bidiMirrorWrong : ChangeSpec := { name := "bidiMirror", fn := fun _ => fun
  | [d1, d2] => { results := [.lit (.bool false)], args := [d1, d2] }
  | _ => none }
def BidiMirrorWrongFalsely : Prop := bidiMirrorRow.holds Try.pinned (OpenSpec.ofChange bidiMirrorWrong)

/-- 'formelaw09.BidiParts': WHATEVER THE INPUT: true; the input reads as it did. -/
def bidiPartsSpec : ChangeSpec := { name := "bidiParts", fn := fun _ => fun
  | [d1, d2, d3] => { results := [.lit (.bool true)], args := [d1, d2, d3] }
  | _ => none }
def bidiPartsRow : OpenClaim := { program := "ytdmfhabhcagioaa", sum := "87a5ae486cd91f24e40c7a919e3c97128c04931d7bcb533dab4d2ed83bffa91b", func := "forme/formelaw09.BidiParts", spec := "bidiParts", unfollowed := true, recurses := true, apart := false }
def BidiPartsSaid : Prop := bidiPartsRow.holds Try.pinned (OpenSpec.ofChange bidiPartsSpec)

/-- ITS FALSE NEIGHBOUR: 'it returns false'. Refute it at one input. -/
def bidiPartsWrong : ChangeSpec := { name := "bidiParts", fn := fun _ => fun
  | [d1, d2, d3] => { results := [.lit (.bool false)], args := [d1, d2, d3] }
  | _ => none }
def BidiPartsWrongFalsely : Prop := bidiPartsRow.holds Try.pinned (OpenSpec.ofChange bidiPartsWrong)

/-- 'formelaw09.BidiLevels': WHATEVER THE INPUT: true; the input reads as it did. -/
def bidiLevelsSpec : ChangeSpec := { name := "bidiLevels", fn := fun _ => fun
  | [d1, d2] => { results := [.lit (.bool true)], args := [d1, d2] }
  | _ => none }
def bidiLevelsRow : OpenClaim := { program := "ytdmfhabhcagioaa", sum := "87a5ae486cd91f24e40c7a919e3c97128c04931d7bcb533dab4d2ed83bffa91b", func := "forme/formelaw09.BidiLevels", spec := "bidiLevels", unfollowed := true, recurses := true, apart := false }
def BidiLevelsSaid : Prop := bidiLevelsRow.holds Try.pinned (OpenSpec.ofChange bidiLevelsSpec)

/-- ITS FALSE NEIGHBOUR: 'it returns false'. Refute it at one input. -/
def bidiLevelsWrong : ChangeSpec := { name := "bidiLevels", fn := fun _ => fun
  | [d1, d2] => { results := [.lit (.bool false)], args := [d1, d2] }
  | _ => none }
def BidiLevelsWrongFalsely : Prop := bidiLevelsRow.holds Try.pinned (OpenSpec.ofChange bidiLevelsWrong)

/- THE SECOND FORM. 'bulk': how many values and letters a reading holds, each counted each time it is reached (what is shared counts as often as it is met; a slice's spare places count too). A statement '..UptoSaid' is the law's where the arguments, and the package variables that the reading takes, are together of bulk at most 1048576: NARROWER than '..Said'. Prove '..Said' where nothing that the law and all that it calls make is longer than what came in: it says more and counts as full. Else prove '..UptoSaid'. A law counts once. -/
mutual
def uptoBulk {H : Type} : DataW H → Nat
  | .lit (.string bytes) => bytes.length + 1
  | .lit _ => 1
  | .nil => 1
  | .ptr d => uptoBulk d + 1
  | .slice elems spare => uptoBulkAll elems + uptoBulkAll spare + 1
  | .agg parts => uptoBulkAll parts + 1
  | .iface _ d => uptoBulk d + 1
  | .map entries => uptoBulkEntries entries + 1
  | .held _ => 1
def uptoBulkAll {H : Type} : List (DataW H) → Nat
  | [] => 0
  | d :: r => uptoBulk d + uptoBulkAll r
def uptoBulkEntries {H : Type} : List (Lit × DataW H) → Nat
  | [] => 0
  | x :: r => uptoBulkEntry x + uptoBulkEntries r
def uptoBulkEntry {H : Type} : Lit × DataW H → Nat
  | (.string bytes, d) => bytes.length + uptoBulk d + 1
  | (_, d) => uptoBulk d + 1
 end
def uptoSmall : (H : Type) → List (DataW H) → Bool := fun _ ds => decide (uptoBulkAll ds ≤ 1048576)
def OpenSpec.upto (s : _root_.Go.ChangeSpec) : _root_.Go.OpenSpec := { _root_.Go.OpenSpec.ofChange s with cond := some uptoSmall }

/-- 'formelaw09.BidiMatchesReference', WHERE WHAT IT READS IS OF BULK AT MOST 1048576: true; the input reads as it did. -/
def bidiMatchesReferenceUptoRow : OpenClaim := { program := "ytdmfhabhcagioaa", sum := "87a5ae486cd91f24e40c7a919e3c97128c04931d7bcb533dab4d2ed83bffa91b", func := "forme/formelaw09.BidiMatchesReference", spec := "bidiMatchesReference", unfollowed := true, recurses := true, apart := false, narrowed := true }
def BidiMatchesReferenceUptoSaid : Prop := bidiMatchesReferenceUptoRow.holds Try.pinned (OpenSpec.upto bidiMatchesReferenceSpec)

/-- 'formelaw09.BidiPermutes', WHERE WHAT IT READS IS OF BULK AT MOST 1048576: true; the input reads as it did. -/
def bidiPermutesUptoRow : OpenClaim := { program := "ytdmfhabhcagioaa", sum := "87a5ae486cd91f24e40c7a919e3c97128c04931d7bcb533dab4d2ed83bffa91b", func := "forme/formelaw09.BidiPermutes", spec := "bidiPermutes", unfollowed := true, recurses := true, apart := false, narrowed := true }
def BidiPermutesUptoSaid : Prop := bidiPermutesUptoRow.holds Try.pinned (OpenSpec.upto bidiPermutesSpec)

/-- 'formelaw09.BidiPlain', WHERE WHAT IT READS IS OF BULK AT MOST 1048576: true; the input reads as it did. -/
def bidiPlainUptoRow : OpenClaim := { program := "ytdmfhabhcagioaa", sum := "87a5ae486cd91f24e40c7a919e3c97128c04931d7bcb533dab4d2ed83bffa91b", func := "forme/formelaw09.BidiPlain", spec := "bidiPlain", unfollowed := true, recurses := true, apart := false, narrowed := true }
def BidiPlainUptoSaid : Prop := bidiPlainUptoRow.holds Try.pinned (OpenSpec.upto bidiPlainSpec)

/-- 'formelaw09.BidiNeighbours', WHERE WHAT IT READS IS OF BULK AT MOST 1048576: true; the input reads as it did. -/
def bidiNeighboursUptoRow : OpenClaim := { program := "ytdmfhabhcagioaa", sum := "87a5ae486cd91f24e40c7a919e3c97128c04931d7bcb533dab4d2ed83bffa91b", func := "forme/formelaw09.BidiNeighbours", spec := "bidiNeighbours", unfollowed := true, recurses := true, apart := false, narrowed := true }
def BidiNeighboursUptoSaid : Prop := bidiNeighboursUptoRow.holds Try.pinned (OpenSpec.upto bidiNeighboursSpec)

/-- 'formelaw09.BidiMirror', WHERE WHAT IT READS IS OF BULK AT MOST 1048576: true; the input reads as it did. -/
def bidiMirrorUptoRow : OpenClaim := { program := "ytdmfhabhcagioaa", sum := "87a5ae486cd91f24e40c7a919e3c97128c04931d7bcb533dab4d2ed83bffa91b", func := "forme/formelaw09.BidiMirror", spec := "bidiMirror", unfollowed := true, recurses := true, apart := false, narrowed := true }
def BidiMirrorUptoSaid : Prop := bidiMirrorUptoRow.holds Try.pinned (OpenSpec.upto bidiMirrorSpec)

/-- 'formelaw09.BidiParts', WHERE WHAT IT READS IS OF BULK AT MOST 1048576: true; the input reads as it did. -/
def bidiPartsUptoRow : OpenClaim := { program := "ytdmfhabhcagioaa", sum := "87a5ae486cd91f24e40c7a919e3c97128c04931d7bcb533dab4d2ed83bffa91b", func := "forme/formelaw09.BidiParts", spec := "bidiParts", unfollowed := true, recurses := true, apart := false, narrowed := true }
def BidiPartsUptoSaid : Prop := bidiPartsUptoRow.holds Try.pinned (OpenSpec.upto bidiPartsSpec)

/-- 'formelaw09.BidiLevels', WHERE WHAT IT READS IS OF BULK AT MOST 1048576: true; the input reads as it did. -/
def bidiLevelsUptoRow : OpenClaim := { program := "ytdmfhabhcagioaa", sum := "87a5ae486cd91f24e40c7a919e3c97128c04931d7bcb533dab4d2ed83bffa91b", func := "forme/formelaw09.BidiLevels", spec := "bidiLevels", unfollowed := true, recurses := true, apart := false, narrowed := true }
def BidiLevelsUptoSaid : Prop := bidiLevelsUptoRow.holds Try.pinned (OpenSpec.upto bidiLevelsSpec)

end Rows
end Go.Proofs.Ytdmfhabhcagioaa
