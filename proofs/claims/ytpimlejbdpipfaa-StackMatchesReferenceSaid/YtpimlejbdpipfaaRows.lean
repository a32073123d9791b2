/-
  No cell of these rows narrows 'for every input' (looked for: loops, veiled, ifaces, maps, wideKeys, modest, calm, conditions, laid).
  DERIVED. THE GIVEN ROWS OF THIS SEAT. 6 by the template 'for every input the law returns true; each argument reads behind the call as it read before'; 0 by the template 'total and deterministic' (their statements: YtpimlejbdpipfaaTotals.lean).
  GIVEN WITH THE SEED: the statements are not yours to turn. If you find one false, say at which input.
  Laid BY PROGRAM, IN A SANDBOX (cutbox-rows.mjs): the forced cells as the released guide's own fill.sh prints them over the translation 518f7a464b300c62… (all of the seat's roots in one cut). By AI agents, Wed Nov 11 2026. No macro, syntax, notation, axiom, sorry.
-/
import Derived.Test.YtpimlejbdpipfaaChecked
import GoSem.Claim
import GoSem.ClaimJoined
import GoSem.ClaimMapViews
import Derived.JoinedTies
import Derived.KernelRfl
namespace Go.Proofs.Ytpimlejbdpipfaa
/- THE CELL 'sum', in the pinned program and in every row, IS THE sha256 OF THE DUMP (.gsa) THAT YtpimlejbdpipfaaProg.lean LOADS. Nothing in Lean hashes anything: it is a label: what it is worth is what the hold of that sum in a sandbox is worth. -/
noncomputable def Try.pinned : Pinned := { name := "ytpimlejbdpipfaa", sum := "518f7a464b300c6298e62d757422df98bd59b8137c0531b2e986485e129e0716", checked := Try.checked }
namespace Rows
def none {H : Type} : Left H := { results := [], args := [] }

/-- 'formelaw19.StackMatchesReference': WHATEVER THE INPUT: true; the input reads as it did. -/
def stackMatchesReferenceSpec : ChangeSpec := { name := "stackMatchesReference", fn := fun _ => fun
  | [d1, d2, d3, d4, d5] => { results := [.lit (.bool true)], args := [d1, d2, d3, d4, d5] }
  | _ => none }
def stackMatchesReferenceRow : OpenClaim := { program := "ytpimlejbdpipfaa", sum := "518f7a464b300c6298e62d757422df98bd59b8137c0531b2e986485e129e0716", func := "forme/formelaw19.StackMatchesReference", spec := "stackMatchesReference", unfollowed := true, recurses := true, apart := false }
def StackMatchesReferenceSaid : Prop := stackMatchesReferenceRow.holds Try.pinned (OpenSpec.ofChange stackMatchesReferenceSpec)

/-- ITS FALSE NEIGHBOUR: 'it returns false'. Refute it at one input. -/
def stackMatchesReferenceWrong : ChangeSpec := { name := "stackMatchesReference", fn := fun _ => fun
  | [d1, d2, d3, d4, d5] => { results := [.lit (.bool false)], args := [d1, d2, d3, d4, d5] }
  | _ => none }
def StackMatchesReferenceWrongFalsely : Prop := stackMatchesReferenceRow.holds Try.pinned (OpenSpec.ofChange stackMatchesReferenceWrong)

/-- 'formelaw19.StackGaps': WHATEVER THE INPUT: true; the input reads as it did. -/
def stackGapsSpec : ChangeSpec := { name := "stackGaps", fn := fun _ => fun
  | [d1, d2] => { results := [.lit (.bool true)], args := [d1, d2] }
  | _ => none }
def stackGapsRow : OpenClaim := { program := "ytpimlejbdpipfaa", sum := "518f7a464b300c6298e62d757422df98bd59b8137c0531b2e986485e129e0716", func := "forme/formelaw19.StackGaps", spec := "stackGaps", unfollowed := true, recurses := true, apart := false }
def StackGapsSaid : Prop := stackGapsRow.holds Try.pinned (OpenSpec.ofChange stackGapsSpec)

/-- ITS FALSE NEIGHBOUR: 'it returns false'. Refute it at one input. -/
def stackGapsWrong : ChangeSpec := { name := "stackGaps", fn := fun _ => fun
  | [d1, d2] => { results := [.lit (.bool false)], args := [d1, d2] }
  | _ => none }
def StackGapsWrongFalsely : Prop := stackGapsRow.holds Try.pinned (OpenSpec.ofChange stackGapsWrong)

/-- 'formelaw19.StackMoves': WHATEVER THE INPUT: true; the input reads as it did. -/
def stackMovesSpec : ChangeSpec := { name := "stackMoves", fn := fun _ => fun
  | [d1, d2, d3] => { results := [.lit (.bool true)], args := [d1, d2, d3] }
  | _ => none }
def stackMovesRow : OpenClaim := { program := "ytpimlejbdpipfaa", sum := "518f7a464b300c6298e62d757422df98bd59b8137c0531b2e986485e129e0716", func := "forme/formelaw19.StackMoves", spec := "stackMoves", unfollowed := true, recurses := true, apart := false }
def StackMovesSaid : Prop := stackMovesRow.holds Try.pinned (OpenSpec.ofChange stackMovesSpec)

/-- ITS FALSE NEIGHBOUR: 'it returns false'. Refute it at one input. -/
def stackMovesWrong : ChangeSpec := { name := "stackMoves", fn := fun _ => fun
  | [d1, d2, d3] => { results := [.lit (.bool false)], args := [d1, d2, d3] }
  | _ => none }
def StackMovesWrongFalsely : Prop := stackMovesRow.holds Try.pinned (OpenSpec.ofChange stackMovesWrong)

/-- 'formelaw19.StackParts': WHATEVER THE INPUT: true; the input reads as it did. -/
def stackPartsSpec : ChangeSpec := { name := "stackParts", fn := fun _ => fun
  | [d1, d2, d3] => { results := [.lit (.bool true)], args := [d1, d2, d3] }
  | _ => none }
def stackPartsRow : OpenClaim := { program := "ytpimlejbdpipfaa", sum := "518f7a464b300c6298e62d757422df98bd59b8137c0531b2e986485e129e0716", func := "forme/formelaw19.StackParts", spec := "stackParts", unfollowed := true, recurses := true, apart := false }
def StackPartsSaid : Prop := stackPartsRow.holds Try.pinned (OpenSpec.ofChange stackPartsSpec)

/-- ITS FALSE NEIGHBOUR: 'it returns false'. Refute it at one input. -/
def stackPartsWrong : ChangeSpec := { name := "stackParts", fn := fun _ => fun
  | [d1, d2, d3] => { results := [.lit (.bool false)], args := [d1, d2, d3] }
  | _ => none }
def StackPartsWrongFalsely : Prop := stackPartsRow.holds Try.pinned (OpenSpec.ofChange stackPartsWrong)

/-- 'formelaw19.StackGrows': WHATEVER THE INPUT: true; the input reads as it did. -/
def stackGrowsSpec : ChangeSpec := { name := "stackGrows", fn := fun _ => fun
  | [d1, d2, d3, d4] => { results := [.lit (.bool true)], args := [d1, d2, d3, d4] }
  | _ => none }
def stackGrowsRow : OpenClaim := { program := "ytpimlejbdpipfaa", sum := "518f7a464b300c6298e62d757422df98bd59b8137c0531b2e986485e129e0716", func := "forme/formelaw19.StackGrows", spec := "stackGrows", unfollowed := true, recurses := true, apart := false }
def StackGrowsSaid : Prop := stackGrowsRow.holds Try.pinned (OpenSpec.ofChange stackGrowsSpec)

/-- ITS FALSE NEIGHBOUR: 'it returns false'. Refute it at one input. -/
def stackGrowsWrong : ChangeSpec := { name := "stackGrows", fn := fun _ => fun
  | [d1, d2, d3, d4] => { results := [.lit (.bool false)], args := [d1, d2, d3, d4] }
  | _ => none }
def StackGrowsWrongFalsely : Prop := stackGrowsRow.holds Try.pinned (OpenSpec.ofChange stackGrowsWrong)

/-- 'formelaw19.StackCuts': WHATEVER THE INPUT: true; the input reads as it did. -/
def stackCutsSpec : ChangeSpec := { name := "stackCuts", fn := fun _ => fun
  | [d1, d2] => { results := [.lit (.bool true)], args := [d1, d2] }
  | _ => none }
def stackCutsRow : OpenClaim := { program := "ytpimlejbdpipfaa", sum := "518f7a464b300c6298e62d757422df98bd59b8137c0531b2e986485e129e0716", func := "forme/formelaw19.StackCuts", spec := "stackCuts", unfollowed := true, recurses := true, apart := false }
def StackCutsSaid : Prop := stackCutsRow.holds Try.pinned (OpenSpec.ofChange stackCutsSpec)

/-- ITS FALSE NEIGHBOUR: 'it returns false'. Refute it at one input. -/
def stackCutsWrong : ChangeSpec := { name := "stackCuts", fn := fun _ => fun
  | [d1, d2] => { results := [.lit (.bool false)], args := [d1, d2] }
  | _ => none }
def StackCutsWrongFalsely : Prop := stackCutsRow.holds Try.pinned (OpenSpec.ofChange stackCutsWrong)

/- THE SECOND FORM. 'bulk': how many values and letters a reading holds, each counted each time it is reached (what is shared counts as often as it is met; a slice's spare places count too). A statement '..UptoSaid' is the law's where the arguments, and the package variables that the reading takes, are together of bulk at most 1048576: NARROWER than '..Said'. Prove '..Said' where nothing that the law and all that it calls make is longer than what came in: it says more and counts as full. Else prove '..UptoSaid'. A law counts once. -/
mutual
def uptoBulk {H : Type} : DataW H → Nat
  | .lit (.string bytes) => bytes.length + 1
  | .lit _ => 1
  | .nil => 1
  | .ptr d => uptoBulk d + 1
  | .slice elems spare => uptoBulkAll elems + uptoBulkAll spare + 1
  | .agg parts => uptoBulkAll parts + 1
  | .iface _ d => uptoBulk d + 1
  | .map entries => uptoBulkEntries entries + 1
  | .held _ => 1
def uptoBulkAll {H : Type} : List (DataW H) → Nat
  | [] => 0
  | d :: r => uptoBulk d + uptoBulkAll r
def uptoBulkEntries {H : Type} : List (Lit × DataW H) → Nat
  | [] => 0
  | x :: r => uptoBulkEntry x + uptoBulkEntries r
def uptoBulkEntry {H : Type} : Lit × DataW H → Nat
  | (.string bytes, d) => bytes.length + uptoBulk d + 1
  | (_, d) => uptoBulk d + 1
 end
def uptoSmall : (H : Type) → List (DataW H) → Bool := fun _ ds => decide (uptoBulkAll ds ≤ 1048576)
def OpenSpec.upto (s : _root_.Go.ChangeSpec) : _root_.Go.OpenSpec := { _root_.Go.OpenSpec.ofChange s with cond := some uptoSmall }

/-- 'formelaw19.StackMatchesReference', WHERE WHAT IT READS IS OF BULK AT MOST 1048576: true; the input reads as it did. -/
def stackMatchesReferenceUptoRow : OpenClaim := { program := "ytpimlejbdpipfaa", sum := "518f7a464b300c6298e62d757422df98bd59b8137c0531b2e986485e129e0716", func := "forme/formelaw19.StackMatchesReference", spec := "stackMatchesReference", unfollowed := true, recurses := true, apart := false, narrowed := true }
def StackMatchesReferenceUptoSaid : Prop := stackMatchesReferenceUptoRow.holds Try.pinned (OpenSpec.upto stackMatchesReferenceSpec)

/-- 'formelaw19.StackGaps', WHERE WHAT IT READS IS OF BULK AT MOST 1048576: true; the input reads as it did. -/
def stackGapsUptoRow : OpenClaim := { program := "ytpimlejbdpipfaa", sum := "518f7a464b300c6298e62d757422df98bd59b8137c0531b2e986485e129e0716", func := "forme/formelaw19.StackGaps", spec := "stackGaps", unfollowed := true, recurses := true, apart := false, narrowed := true }
def StackGapsUptoSaid : Prop := stackGapsUptoRow.holds Try.pinned (OpenSpec.upto stackGapsSpec)

/-- 'formelaw19.StackMoves', WHERE WHAT IT READS IS OF BULK AT MOST 1048576: true; the input reads as it did. -/
def stackMovesUptoRow : OpenClaim := { program := "ytpimlejbdpipfaa", sum := "518f7a464b300c6298e62d757422df98bd59b8137c0531b2e986485e129e0716", func := "forme/formelaw19.StackMoves", spec := "stackMoves", unfollowed := true, recurses := true, apart := false, narrowed := true }
def StackMovesUptoSaid : Prop := stackMovesUptoRow.holds Try.pinned (OpenSpec.upto stackMovesSpec)

/-- 'formelaw19.StackParts', WHERE WHAT IT READS IS OF BULK AT MOST 1048576: true; the input reads as it did. -/
def stackPartsUptoRow : OpenClaim := { program := "ytpimlejbdpipfaa", sum := "518f7a464b300c6298e62d757422df98bd59b8137c0531b2e986485e129e0716", func := "forme/formelaw19.StackParts", spec := "stackParts", unfollowed := true, recurses := true, apart := false, narrowed := true }
def StackPartsUptoSaid : Prop := stackPartsUptoRow.holds Try.pinned (OpenSpec.upto stackPartsSpec)

/-- 'formelaw19.StackGrows', WHERE WHAT IT READS IS OF BULK AT MOST 1048576: true; the input reads as it did. -/
def stackGrowsUptoRow : OpenClaim := { program := "ytpimlejbdpipfaa", sum := "518f7a464b300c6298e62d757422df98bd59b8137c0531b2e986485e129e0716", func := "forme/formelaw19.StackGrows", spec := "stackGrows", unfollowed := true, recurses := true, apart := false, narrowed := true }
def StackGrowsUptoSaid : Prop := stackGrowsUptoRow.holds Try.pinned (OpenSpec.upto stackGrowsSpec)

/-- 'formelaw19.StackCuts', WHERE WHAT IT READS IS OF BULK AT MOST 1048576: true; the input reads as it did. -/
def stackCutsUptoRow : OpenClaim := { program := "ytpimlejbdpipfaa", sum := "518f7a464b300c6298e62d757422df98bd59b8137c0531b2e986485e129e0716", func := "forme/formelaw19.StackCuts", spec := "stackCuts", unfollowed := true, recurses := true, apart := false, narrowed := true }
def StackCutsUptoSaid : Prop := stackCutsUptoRow.holds Try.pinned (OpenSpec.upto stackCutsSpec)

end Rows
end Go.Proofs.Ytpimlejbdpipfaa
