/-
  No cell of these rows narrows 'for every input' (looked for: loops, veiled, ifaces, maps, wideKeys, modest, calm, conditions, laid).
  DERIVED. THE GIVEN ROWS OF THIS SEAT. 5 by the template 'for every input the law returns true; each argument reads behind the call as it read before'; 0 by the template 'total and deterministic' (their statements: YtaclpkcoaifjfaaTotals.lean).
  GIVEN WITH THE SEED: the statements are not yours to turn. If you find one false, say at which input.
  Laid BY PROGRAM, IN A SANDBOX (cutbox-rows.mjs): the forced cells as the released guide's own fill.sh prints them over the translation a9f6a73a59a9fb14… (all of the seat's roots in one cut). By AI agents, Wed Nov 11 2026. No macro, syntax, notation, axiom, sorry.
-/
import Derived.Test.YtaclpkcoaifjfaaChecked
import GoSem.Claim
import GoSem.ClaimJoined
import GoSem.ClaimMapViews
import Derived.JoinedTies
import Derived.KernelRfl
namespace Go.Proofs.Ytaclpkcoaifjfaa
/- THE CELL 'sum', in the pinned program and in every row, IS THE sha256 OF THE DUMP (.gsa) THAT YtaclpkcoaifjfaaProg.lean LOADS. Nothing in Lean hashes anything: it is a label: what it is worth is what the hold of that sum in a sandbox is worth. -/
noncomputable def Try.pinned : Pinned := { name := "ytaclpkcoaifjfaa", sum := "a9f6a73a59a9fb1464ec1f4916bc4b54b43987307845b614d13d6595ceb2fda6", checked := Try.checked }
namespace Rows
def none {H : Type} : Left H := { results := [], args := [] }

/-- 'formelaw22.PositionMatchesReference': WHATEVER THE INPUT: true; the input reads as it did. -/
def positionMatchesReferenceSpec : ChangeSpec := { name := "positionMatchesReference", fn := fun _ => fun
  | [d1, d2, d3, d4, d5, d6, d7, d8, d9] => { results := [.lit (.bool true)], args := [d1, d2, d3, d4, d5, d6, d7, d8, d9] }
  | _ => none }
def positionMatchesReferenceRow : OpenClaim := { program := "ytaclpkcoaifjfaa", sum := "a9f6a73a59a9fb1464ec1f4916bc4b54b43987307845b614d13d6595ceb2fda6", func := "forme/formelaw22.PositionMatchesReference", spec := "positionMatchesReference", unfollowed := true, recurses := true, apart := false }
def PositionMatchesReferenceSaid : Prop := positionMatchesReferenceRow.holds Try.pinned (OpenSpec.ofChange positionMatchesReferenceSpec)

/-- ITS FALSE NEIGHBOUR: 'it returns false'. Refute it at one input. -/
def positionMatchesReferenceWrong : ChangeSpec := { name := "positionMatchesReference", fn := fun _ => fun
  | [d1, d2, d3, d4, d5, d6, d7, d8, d9] => { results := [.lit (.bool false)], args := [d1, d2, d3, d4, d5, d6, d7, d8, d9] }
  | _ => none }
def PositionMatchesReferenceWrongFalsely : Prop := positionMatchesReferenceRow.holds Try.pinned (OpenSpec.ofChange positionMatchesReferenceWrong)

/-- 'formelaw22.PositionWidths': WHATEVER THE INPUT: true; the input reads as it did. -/
def positionWidthsSpec : ChangeSpec := { name := "positionWidths", fn := fun _ => fun
  | [d1, d2, d3] => { results := [.lit (.bool true)], args := [d1, d2, d3] }
  | _ => none }
def positionWidthsRow : OpenClaim := { program := "ytaclpkcoaifjfaa", sum := "a9f6a73a59a9fb1464ec1f4916bc4b54b43987307845b614d13d6595ceb2fda6", func := "forme/formelaw22.PositionWidths", spec := "positionWidths", unfollowed := true, recurses := true, apart := false }
def PositionWidthsSaid : Prop := positionWidthsRow.holds Try.pinned (OpenSpec.ofChange positionWidthsSpec)

/-- ITS FALSE NEIGHBOUR: 'it returns false'. Refute it at one input. -/
def positionWidthsWrong : ChangeSpec := { name := "positionWidths", fn := fun _ => fun
  | [d1, d2, d3] => { results := [.lit (.bool false)], args := [d1, d2, d3] }
  | _ => none }
def PositionWidthsWrongFalsely : Prop := positionWidthsRow.holds Try.pinned (OpenSpec.ofChange positionWidthsWrong)

/-- 'formelaw22.PositionInner': WHATEVER THE INPUT: true; the input reads as it did. -/
def positionInnerSpec : ChangeSpec := { name := "positionInner", fn := fun _ => fun
  | [d1, d2] => { results := [.lit (.bool true)], args := [d1, d2] }
  | _ => none }
def positionInnerRow : OpenClaim := { program := "ytaclpkcoaifjfaa", sum := "a9f6a73a59a9fb1464ec1f4916bc4b54b43987307845b614d13d6595ceb2fda6", func := "forme/formelaw22.PositionInner", spec := "positionInner", unfollowed := true, recurses := true, apart := false }
def PositionInnerSaid : Prop := positionInnerRow.holds Try.pinned (OpenSpec.ofChange positionInnerSpec)

/-- ITS FALSE NEIGHBOUR: 'it returns false'. Refute it at one input. -/
def positionInnerWrong : ChangeSpec := { name := "positionInner", fn := fun _ => fun
  | [d1, d2] => { results := [.lit (.bool false)], args := [d1, d2] }
  | _ => none }
def PositionInnerWrongFalsely : Prop := positionInnerRow.holds Try.pinned (OpenSpec.ofChange positionInnerWrong)

/-- 'formelaw22.PositionAbs': WHATEVER THE INPUT: true; the input reads as it did. -/
def positionAbsSpec : ChangeSpec := { name := "positionAbs", fn := fun _ => fun
  | [d1, d2, d3, d4, d5, d6] => { results := [.lit (.bool true)], args := [d1, d2, d3, d4, d5, d6] }
  | _ => none }
def positionAbsRow : OpenClaim := { program := "ytaclpkcoaifjfaa", sum := "a9f6a73a59a9fb1464ec1f4916bc4b54b43987307845b614d13d6595ceb2fda6", func := "forme/formelaw22.PositionAbs", spec := "positionAbs", unfollowed := true, recurses := true, apart := false }
def PositionAbsSaid : Prop := positionAbsRow.holds Try.pinned (OpenSpec.ofChange positionAbsSpec)

/-- ITS FALSE NEIGHBOUR: 'it returns false'. Refute it at one input. -/
def positionAbsWrong : ChangeSpec := { name := "positionAbs", fn := fun _ => fun
  | [d1, d2, d3, d4, d5, d6] => { results := [.lit (.bool false)], args := [d1, d2, d3, d4, d5, d6] }
  | _ => none }
def PositionAbsWrongFalsely : Prop := positionAbsRow.holds Try.pinned (OpenSpec.ofChange positionAbsWrong)

/-- 'formelaw22.PositionSticks': WHATEVER THE INPUT: true; the input reads as it did. -/
def positionSticksSpec : ChangeSpec := { name := "positionSticks", fn := fun _ => fun
  | [d1, d2, d3, d4, d5, d6, d7] => { results := [.lit (.bool true)], args := [d1, d2, d3, d4, d5, d6, d7] }
  | _ => none }
def positionSticksRow : OpenClaim := { program := "ytaclpkcoaifjfaa", sum := "a9f6a73a59a9fb1464ec1f4916bc4b54b43987307845b614d13d6595ceb2fda6", func := "forme/formelaw22.PositionSticks", spec := "positionSticks", unfollowed := true, recurses := true, apart := false }
def PositionSticksSaid : Prop := positionSticksRow.holds Try.pinned (OpenSpec.ofChange positionSticksSpec)

/-- ITS FALSE NEIGHBOUR: 'it returns false'. Refute it at one input. -/
def positionSticksWrong : ChangeSpec := { name := "positionSticks", fn := fun _ => fun
  | [d1, d2, d3, d4, d5, d6, d7] => { results := [.lit (.bool false)], args := [d1, d2, d3, d4, d5, d6, d7] }
  | _ => none }
def PositionSticksWrongFalsely : Prop := positionSticksRow.holds Try.pinned (OpenSpec.ofChange positionSticksWrong)

/- THE SECOND FORM. 'bulk': how many values and letters a reading holds, each counted each time it is reached (what is shared counts as often as it is met; a slice's spare places count too). A statement '..UptoSaid' is the law's where the arguments, and the package variables that the reading takes, are together of bulk at most 1048576: NARROWER than '..Said'. Prove '..Said' where nothing that the law and all that it calls make is longer than what came in: it says more and counts as full. Else prove '..UptoSaid'. A law counts once. -/
mutual
def uptoBulk {H : Type} : DataW H → Nat
  | .lit (.string bytes) => bytes.length + 1
  | .lit _ => 1
  | .nil => 1
  | .ptr d => uptoBulk d + 1
  | .slice elems spare => uptoBulkAll elems + uptoBulkAll spare + 1
  | .agg parts => uptoBulkAll parts + 1
  | .iface _ d => uptoBulk d + 1
  | .map entries => uptoBulkEntries entries + 1
  | .held _ => 1
def uptoBulkAll {H : Type} : List (DataW H) → Nat
  | [] => 0
  | d :: r => uptoBulk d + uptoBulkAll r
def uptoBulkEntries {H : Type} : List (Lit × DataW H) → Nat
  | [] => 0
  | x :: r => uptoBulkEntry x + uptoBulkEntries r
def uptoBulkEntry {H : Type} : Lit × DataW H → Nat
  | (.string bytes, d) => bytes.length + uptoBulk d + 1
  | (_, d) => uptoBulk d + 1
 end
def uptoSmall : (H : Type) → List (DataW H) → Bool := fun _ ds => decide (uptoBulkAll ds ≤ 1048576)
def OpenSpec.upto (s : _root_.Go.ChangeSpec) : _root_.Go.OpenSpec := { _root_.Go.OpenSpec.ofChange s with cond := some uptoSmall }

/-- 'formelaw22.PositionMatchesReference', WHERE WHAT IT READS IS OF BULK AT MOST 1048576: true; the input reads as it did. -/
def positionMatchesReferenceUptoRow : OpenClaim := { program := "ytaclpkcoaifjfaa", sum := "a9f6a73a59a9fb1464ec1f4916bc4b54b43987307845b614d13d6595ceb2fda6", func := "forme/formelaw22.PositionMatchesReference", spec := "positionMatchesReference", unfollowed := true, recurses := true, apart := false, narrowed := true }
def PositionMatchesReferenceUptoSaid : Prop := positionMatchesReferenceUptoRow.holds Try.pinned (OpenSpec.upto positionMatchesReferenceSpec)

/-- 'formelaw22.PositionWidths', WHERE WHAT IT READS IS OF BULK AT MOST 1048576: true; the input reads as it did. -/
def positionWidthsUptoRow : OpenClaim := { program := "ytaclpkcoaifjfaa", sum := "a9f6a73a59a9fb1464ec1f4916bc4b54b43987307845b614d13d6595ceb2fda6", func := "forme/formelaw22.PositionWidths", spec := "positionWidths", unfollowed := true, recurses := true, apart := false, narrowed := true }
def PositionWidthsUptoSaid : Prop := positionWidthsUptoRow.holds Try.pinned (OpenSpec.upto positionWidthsSpec)

/-- 'formelaw22.PositionInner', WHERE WHAT IT READS IS OF BULK AT MOST 1048576: true; the input reads as it did. -/
def positionInnerUptoRow : OpenClaim := { program := "ytaclpkcoaifjfaa", sum := "a9f6a73a59a9fb1464ec1f4916bc4b54b43987307845b614d13d6595ceb2fda6", func := "forme/formelaw22.PositionInner", spec := "positionInner", unfollowed := true, recurses := true, apart := false, narrowed := true }
def PositionInnerUptoSaid : Prop := positionInnerUptoRow.holds Try.pinned (OpenSpec.upto positionInnerSpec)

/-- 'formelaw22.PositionAbs', WHERE WHAT IT READS IS OF BULK AT MOST 1048576: true; the input reads as it did. -/
def positionAbsUptoRow : OpenClaim := { program := "ytaclpkcoaifjfaa", sum := "a9f6a73a59a9fb1464ec1f4916bc4b54b43987307845b614d13d6595ceb2fda6", func := "forme/formelaw22.PositionAbs", spec := "positionAbs", unfollowed := true, recurses := true, apart := false, narrowed := true }
def PositionAbsUptoSaid : Prop := positionAbsUptoRow.holds Try.pinned (OpenSpec.upto positionAbsSpec)

/-- 'formelaw22.PositionSticks', WHERE WHAT IT READS IS OF BULK AT MOST 1048576: true; the input reads as it did. -/
def positionSticksUptoRow : OpenClaim := { program := "ytaclpkcoaifjfaa", sum := "a9f6a73a59a9fb1464ec1f4916bc4b54b43987307845b614d13d6595ceb2fda6", func := "forme/formelaw22.PositionSticks", spec := "positionSticks", unfollowed := true, recurses := true, apart := false, narrowed := true }
def PositionSticksUptoSaid : Prop := positionSticksUptoRow.holds Try.pinned (OpenSpec.upto positionSticksSpec)

end Rows
end Go.Proofs.Ytaclpkcoaifjfaa
