/-
  No cell of these rows narrows 'for every input' (looked for: loops, veiled, ifaces, maps, wideKeys, modest, calm, conditions, laid).
  DERIVED. THE GIVEN ROWS OF THIS SEAT. 5 by the template 'for every input the law returns true; each argument reads behind the call as it read before'; 0 by the template 'total and deterministic' (their statements: YtdnhjkldhdolpaaTotals.lean).
  GIVEN WITH THE SEED: the statements are not yours to turn. If you find one false, say at which input.
  Laid BY PROGRAM, IN A SANDBOX (cutbox-rows.mjs): the forced cells as the released guide's own fill.sh prints them over the translation 4f145b64f6f50f42… (all of the seat's roots in one cut). By AI agents, Wed Nov 11 2026. No macro, syntax, notation, axiom, sorry.
-/
import Derived.Test.YtdnhjkldhdolpaaChecked
import GoSem.Claim
import GoSem.ClaimJoined
import GoSem.ClaimMapViews
import Derived.JoinedTies
import Derived.KernelRfl
namespace Go.Proofs.Ytdnhjkldhdolpaa
/- THE CELL 'sum', in the pinned program and in every row, IS THE sha256 OF THE DUMP (.gsa) THAT YtdnhjkldhdolpaaProg.lean LOADS. Nothing in Lean hashes anything: it is a label: what it is worth is what the hold of that sum in a sandbox is worth. -/
noncomputable def Try.pinned : Pinned := { name := "ytdnhjkldhdolpaa", sum := "4f145b64f6f50f421923d36d4e83b66d6d3f396d551123aa57781acd7cc62b58", checked := Try.checked }
namespace Rows
def none {H : Type} : Left H := { results := [], args := [] }

/-- 'formelaw25.RowMatchesReference': WHATEVER THE INPUT: true; the input reads as it did. -/
def rowMatchesReferenceSpec : ChangeSpec := { name := "rowMatchesReference", fn := fun _ => fun
  | [d1, d2, d3, d4, d5] => { results := [.lit (.bool true)], args := [d1, d2, d3, d4, d5] }
  | _ => none }
def rowMatchesReferenceRow : OpenClaim := { program := "ytdnhjkldhdolpaa", sum := "4f145b64f6f50f421923d36d4e83b66d6d3f396d551123aa57781acd7cc62b58", func := "forme/formelaw25.RowMatchesReference", spec := "rowMatchesReference", unfollowed := true, recurses := true, apart := false }
def RowMatchesReferenceSaid : Prop := rowMatchesReferenceRow.holds Try.pinned (OpenSpec.ofChange rowMatchesReferenceSpec)

/-- ITS FALSE NEIGHBOUR: 'it returns false'. Refute it at one input. -/
def rowMatchesReferenceWrong : ChangeSpec := { name := "rowMatchesReference", fn := fun _ => fun
  | [d1, d2, d3, d4, d5] => { results := [.lit (.bool false)], args := [d1, d2, d3, d4, d5] }
  | _ => none }
def RowMatchesReferenceWrongFalsely : Prop := rowMatchesReferenceRow.holds Try.pinned (OpenSpec.ofChange rowMatchesReferenceWrong)

/-- 'formelaw25.RowWidths': WHATEVER THE INPUT: true; the input reads as it did. -/
def rowWidthsSpec : ChangeSpec := { name := "rowWidths", fn := fun _ => fun
  | [d1, d2, d3, d4] => { results := [.lit (.bool true)], args := [d1, d2, d3, d4] }
  | _ => none }
def rowWidthsRow : OpenClaim := { program := "ytdnhjkldhdolpaa", sum := "4f145b64f6f50f421923d36d4e83b66d6d3f396d551123aa57781acd7cc62b58", func := "forme/formelaw25.RowWidths", spec := "rowWidths", unfollowed := true, recurses := true, apart := false }
def RowWidthsSaid : Prop := rowWidthsRow.holds Try.pinned (OpenSpec.ofChange rowWidthsSpec)

/-- ITS FALSE NEIGHBOUR: 'it returns false'. Refute it at one input. -/
def rowWidthsWrong : ChangeSpec := { name := "rowWidths", fn := fun _ => fun
  | [d1, d2, d3, d4] => { results := [.lit (.bool false)], args := [d1, d2, d3, d4] }
  | _ => none }
def RowWidthsWrongFalsely : Prop := rowWidthsRow.holds Try.pinned (OpenSpec.ofChange rowWidthsWrong)

/-- 'formelaw25.RowPlaces': WHATEVER THE INPUT: true; the input reads as it did. -/
def rowPlacesSpec : ChangeSpec := { name := "rowPlaces", fn := fun _ => fun
  | [d1, d2, d3, d4, d5] => { results := [.lit (.bool true)], args := [d1, d2, d3, d4, d5] }
  | _ => none }
def rowPlacesRow : OpenClaim := { program := "ytdnhjkldhdolpaa", sum := "4f145b64f6f50f421923d36d4e83b66d6d3f396d551123aa57781acd7cc62b58", func := "forme/formelaw25.RowPlaces", spec := "rowPlaces", unfollowed := true, recurses := true, apart := false }
def RowPlacesSaid : Prop := rowPlacesRow.holds Try.pinned (OpenSpec.ofChange rowPlacesSpec)

/-- ITS FALSE NEIGHBOUR: 'it returns false'. Refute it at one input. -/
def rowPlacesWrong : ChangeSpec := { name := "rowPlaces", fn := fun _ => fun
  | [d1, d2, d3, d4, d5] => { results := [.lit (.bool false)], args := [d1, d2, d3, d4, d5] }
  | _ => none }
def RowPlacesWrongFalsely : Prop := rowPlacesRow.holds Try.pinned (OpenSpec.ofChange rowPlacesWrong)

/-- 'formelaw25.RowAligns': WHATEVER THE INPUT: true; the input reads as it did. -/
def rowAlignsSpec : ChangeSpec := { name := "rowAligns", fn := fun _ => fun
  | [d1, d2, d3] => { results := [.lit (.bool true)], args := [d1, d2, d3] }
  | _ => none }
def rowAlignsRow : OpenClaim := { program := "ytdnhjkldhdolpaa", sum := "4f145b64f6f50f421923d36d4e83b66d6d3f396d551123aa57781acd7cc62b58", func := "forme/formelaw25.RowAligns", spec := "rowAligns", unfollowed := true, recurses := true, apart := false }
def RowAlignsSaid : Prop := rowAlignsRow.holds Try.pinned (OpenSpec.ofChange rowAlignsSpec)

/-- ITS FALSE NEIGHBOUR: 'it returns false'. Refute it at one input. -/
def rowAlignsWrong : ChangeSpec := { name := "rowAligns", fn := fun _ => fun
  | [d1, d2, d3] => { results := [.lit (.bool false)], args := [d1, d2, d3] }
  | _ => none }
def RowAlignsWrongFalsely : Prop := rowAlignsRow.holds Try.pinned (OpenSpec.ofChange rowAlignsWrong)

/-- 'formelaw25.RowEqual': WHATEVER THE INPUT: true; the input reads as it did. -/
def rowEqualSpec : ChangeSpec := { name := "rowEqual", fn := fun _ => fun
  | [d1, d2, d3, d4, d5] => { results := [.lit (.bool true)], args := [d1, d2, d3, d4, d5] }
  | _ => none }
def rowEqualRow : OpenClaim := { program := "ytdnhjkldhdolpaa", sum := "4f145b64f6f50f421923d36d4e83b66d6d3f396d551123aa57781acd7cc62b58", func := "forme/formelaw25.RowEqual", spec := "rowEqual", unfollowed := true, recurses := true, apart := false }
def RowEqualSaid : Prop := rowEqualRow.holds Try.pinned (OpenSpec.ofChange rowEqualSpec)

/-- ITS FALSE NEIGHBOUR: 'it returns false'. Refute it at one input. -/
def rowEqualWrong : ChangeSpec := { name := "rowEqual", fn := fun _ => fun
  | [d1, d2, d3, d4, d5] => { results := [.lit (.bool false)], args := [d1, d2, d3, d4, d5] }
  | _ => none }
def RowEqualWrongFalsely : Prop := rowEqualRow.holds Try.pinned (OpenSpec.ofChange rowEqualWrong)

/- THE SECOND FORM. 'bulk': how many values and letters a reading holds, each counted each time it is reached (what is shared counts as often as it is met; a slice's spare places count too). A statement '..UptoSaid' is the law's where the arguments, and the package variables that the reading takes, are together of bulk at most 1048576: NARROWER than '..Said'. Prove '..Said' where nothing that the law and all that it calls make is longer than what came in: it says more and counts as full. Else prove '..UptoSaid'. A law counts once. -/
mutual
def uptoBulk {H : Type} : DataW H → Nat
  | .lit (.string bytes) => bytes.length + 1
  | .lit _ => 1
  | .nil => 1
  | .ptr d => uptoBulk d + 1
  | .slice elems spare => uptoBulkAll elems + uptoBulkAll spare + 1
  | .agg parts => uptoBulkAll parts + 1
  | .iface _ d => uptoBulk d + 1
  | .map entries => uptoBulkEntries entries + 1
  | .held _ => 1
def uptoBulkAll {H : Type} : List (DataW H) → Nat
  | [] => 0
  | d :: r => uptoBulk d + uptoBulkAll r
def uptoBulkEntries {H : Type} : List (Lit × DataW H) → Nat
  | [] => 0
  | x :: r => uptoBulkEntry x + uptoBulkEntries r
def uptoBulkEntry {H : Type} : Lit × DataW H → Nat
  | (.string bytes, d) => bytes.length + uptoBulk d + 1
  | (_, d) => uptoBulk d + 1
 end
def uptoSmall : (H : Type) → List (DataW H) → Bool := fun _ ds => decide (uptoBulkAll ds ≤ 1048576)
def OpenSpec.upto (s : _root_.Go.ChangeSpec) : _root_.Go.OpenSpec := { _root_.Go.OpenSpec.ofChange s with cond := some uptoSmall }

/-- 'formelaw25.RowMatchesReference', WHERE WHAT IT READS IS OF BULK AT MOST 1048576: true; the input reads as it did. -/
def rowMatchesReferenceUptoRow : OpenClaim := { program := "ytdnhjkldhdolpaa", sum := "4f145b64f6f50f421923d36d4e83b66d6d3f396d551123aa57781acd7cc62b58", func := "forme/formelaw25.RowMatchesReference", spec := "rowMatchesReference", unfollowed := true, recurses := true, apart := false, narrowed := true }
def RowMatchesReferenceUptoSaid : Prop := rowMatchesReferenceUptoRow.holds Try.pinned (OpenSpec.upto rowMatchesReferenceSpec)

/-- 'formelaw25.RowWidths', WHERE WHAT IT READS IS OF BULK AT MOST 1048576: true; the input reads as it did. -/
def rowWidthsUptoRow : OpenClaim := { program := "ytdnhjkldhdolpaa", sum := "4f145b64f6f50f421923d36d4e83b66d6d3f396d551123aa57781acd7cc62b58", func := "forme/formelaw25.RowWidths", spec := "rowWidths", unfollowed := true, recurses := true, apart := false, narrowed := true }
def RowWidthsUptoSaid : Prop := rowWidthsUptoRow.holds Try.pinned (OpenSpec.upto rowWidthsSpec)

/-- 'formelaw25.RowPlaces', WHERE WHAT IT READS IS OF BULK AT MOST 1048576: true; the input reads as it did. -/
def rowPlacesUptoRow : OpenClaim := { program := "ytdnhjkldhdolpaa", sum := "4f145b64f6f50f421923d36d4e83b66d6d3f396d551123aa57781acd7cc62b58", func := "forme/formelaw25.RowPlaces", spec := "rowPlaces", unfollowed := true, recurses := true, apart := false, narrowed := true }
def RowPlacesUptoSaid : Prop := rowPlacesUptoRow.holds Try.pinned (OpenSpec.upto rowPlacesSpec)

/-- 'formelaw25.RowAligns', WHERE WHAT IT READS IS OF BULK AT MOST 1048576: true; the input reads as it did. -/
def rowAlignsUptoRow : OpenClaim := { program := "ytdnhjkldhdolpaa", sum := "4f145b64f6f50f421923d36d4e83b66d6d3f396d551123aa57781acd7cc62b58", func := "forme/formelaw25.RowAligns", spec := "rowAligns", unfollowed := true, recurses := true, apart := false, narrowed := true }
def RowAlignsUptoSaid : Prop := rowAlignsUptoRow.holds Try.pinned (OpenSpec.upto rowAlignsSpec)

/-- 'formelaw25.RowEqual', WHERE WHAT IT READS IS OF BULK AT MOST 1048576: true; the input reads as it did. -/
def rowEqualUptoRow : OpenClaim := { program := "ytdnhjkldhdolpaa", sum := "4f145b64f6f50f421923d36d4e83b66d6d3f396d551123aa57781acd7cc62b58", func := "forme/formelaw25.RowEqual", spec := "rowEqual", unfollowed := true, recurses := true, apart := false, narrowed := true }
def RowEqualUptoSaid : Prop := rowEqualUptoRow.holds Try.pinned (OpenSpec.upto rowEqualSpec)

end Rows
end Go.Proofs.Ytdnhjkldhdolpaa
