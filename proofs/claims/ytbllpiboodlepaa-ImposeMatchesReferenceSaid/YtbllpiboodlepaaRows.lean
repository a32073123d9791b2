/-
  No cell of these rows narrows 'for every input' (looked for: loops, veiled, ifaces, maps, wideKeys, modest, calm, conditions, laid).
  DERIVED. THE GIVEN ROWS OF THIS SEAT. 7 by the template 'for every input the law returns true; each argument reads behind the call as it read before'; 0 by the template 'total and deterministic' (their statements: YtbllpiboodlepaaTotals.lean).
  GIVEN WITH THE SEED: the statements are not yours to turn. If you find one false, say at which input.
  Laid BY PROGRAM, IN A SANDBOX (cutbox-rows.mjs): the forced cells as the released guide's own fill.sh prints them over the translation c80e2cee594133e7… (all of the seat's roots in one cut). By AI agents, Wed Nov 11 2026. No macro, syntax, notation, axiom, sorry.
-/
import Derived.Test.YtbllpiboodlepaaChecked
import GoSem.Claim
import GoSem.ClaimJoined
import GoSem.ClaimMapViews
import Derived.JoinedTies
import Derived.KernelRfl
namespace Go.Proofs.Ytbllpiboodlepaa
/- THE CELL 'sum', in the pinned program and in every row, IS THE sha256 OF THE DUMP (.gsa) THAT YtbllpiboodlepaaProg.lean LOADS. Nothing in Lean hashes anything: it is a label: what it is worth is what the hold of that sum in a sandbox is worth. -/
noncomputable def Try.pinned : Pinned := { name := "ytbllpiboodlepaa", sum := "c80e2cee594133e7313f3e0dc762c6637a8fc1a544ad8e824d2f61cbf5952370", checked := Try.checked }
namespace Rows
def none {H : Type} : Left H := { results := [], args := [] }

/-- 'formelaw42.ImposeMatchesReference': WHATEVER THE INPUT: true; the input reads as it did. -/
def imposeMatchesReferenceSpec : ChangeSpec := { name := "imposeMatchesReference", fn := fun _ => fun
  | [d1, d2, d3] => { results := [.lit (.bool true)], args := [d1, d2, d3] }
  | _ => none }
def imposeMatchesReferenceRow : OpenClaim := { program := "ytbllpiboodlepaa", sum := "c80e2cee594133e7313f3e0dc762c6637a8fc1a544ad8e824d2f61cbf5952370", func := "forme/formelaw42.ImposeMatchesReference", spec := "imposeMatchesReference", unfollowed := true, recurses := true, apart := false }
def ImposeMatchesReferenceSaid : Prop := imposeMatchesReferenceRow.holds Try.pinned (OpenSpec.ofChange imposeMatchesReferenceSpec)

/-- ITS FALSE NEIGHBOUR: 'it returns false'. Refute it at one input. -/
def imposeMatchesReferenceWrong : ChangeSpec := { name := "imposeMatchesReference", fn := fun _ => fun
  | [d1, d2, d3] => { results := [.lit (.bool false)], args := [d1, d2, d3] }
  | _ => none }
def ImposeMatchesReferenceWrongFalsely : Prop := imposeMatchesReferenceRow.holds Try.pinned (OpenSpec.ofChange imposeMatchesReferenceWrong)

/-- 'formelaw42.ImposeOnce': WHATEVER THE INPUT: true; the input reads as it did. -/
def imposeOnceSpec : ChangeSpec := { name := "imposeOnce", fn := fun _ => fun
  | [d] => { results := [.lit (.bool true)], args := [d] }
  | _ => none }
def imposeOnceRow : OpenClaim := { program := "ytbllpiboodlepaa", sum := "c80e2cee594133e7313f3e0dc762c6637a8fc1a544ad8e824d2f61cbf5952370", func := "forme/formelaw42.ImposeOnce", spec := "imposeOnce", unfollowed := true, recurses := true, apart := false }
def ImposeOnceSaid : Prop := imposeOnceRow.holds Try.pinned (OpenSpec.ofChange imposeOnceSpec)

/-- ITS FALSE NEIGHBOUR: 'it returns false'. Refute it at one input. -/
def imposeOnceWrong : ChangeSpec := { name := "imposeOnce", fn := fun _ => fun
  | [d] => { results := [.lit (.bool false)], args := [d] }
  | _ => none }
def ImposeOnceWrongFalsely : Prop := imposeOnceRow.holds Try.pinned (OpenSpec.ofChange imposeOnceWrong)

/-- 'formelaw42.ImposeReads': WHATEVER THE INPUT: true; the input reads as it did. -/
def imposeReadsSpec : ChangeSpec := { name := "imposeReads", fn := fun _ => fun
  | [d] => { results := [.lit (.bool true)], args := [d] }
  | _ => none }
def imposeReadsRow : OpenClaim := { program := "ytbllpiboodlepaa", sum := "c80e2cee594133e7313f3e0dc762c6637a8fc1a544ad8e824d2f61cbf5952370", func := "forme/formelaw42.ImposeReads", spec := "imposeReads", unfollowed := true, recurses := true, apart := false }
def ImposeReadsSaid : Prop := imposeReadsRow.holds Try.pinned (OpenSpec.ofChange imposeReadsSpec)

/-- ITS FALSE NEIGHBOUR: 'it returns false'. Refute it at one input. -/
def imposeReadsWrong : ChangeSpec := { name := "imposeReads", fn := fun _ => fun
  | [d] => { results := [.lit (.bool false)], args := [d] }
  | _ => none }
def ImposeReadsWrongFalsely : Prop := imposeReadsRow.holds Try.pinned (OpenSpec.ofChange imposeReadsWrong)

/-- 'formelaw42.ImposeLeaves': WHATEVER THE INPUT: true; the input reads as it did. -/
def imposeLeavesSpec : ChangeSpec := { name := "imposeLeaves", fn := fun _ => fun
  | [d1, d2] => { results := [.lit (.bool true)], args := [d1, d2] }
  | _ => none }
def imposeLeavesRow : OpenClaim := { program := "ytbllpiboodlepaa", sum := "c80e2cee594133e7313f3e0dc762c6637a8fc1a544ad8e824d2f61cbf5952370", func := "forme/formelaw42.ImposeLeaves", spec := "imposeLeaves", unfollowed := true, recurses := true, apart := false }
def ImposeLeavesSaid : Prop := imposeLeavesRow.holds Try.pinned (OpenSpec.ofChange imposeLeavesSpec)

/-- ITS FALSE NEIGHBOUR: 'it returns false'. Refute it at one input. -/
def imposeLeavesWrong : ChangeSpec := { name := "imposeLeaves", fn := fun _ => fun
  | [d1, d2] => { results := [.lit (.bool false)], args := [d1, d2] }
  | _ => none }
def ImposeLeavesWrongFalsely : Prop := imposeLeavesRow.holds Try.pinned (OpenSpec.ofChange imposeLeavesWrong)

/-- 'formelaw42.ImposeSides': WHATEVER THE INPUT: true; the input reads as it did. -/
def imposeSidesSpec : ChangeSpec := { name := "imposeSides", fn := fun _ => fun
  | [d] => { results := [.lit (.bool true)], args := [d] }
  | _ => none }
def imposeSidesRow : OpenClaim := { program := "ytbllpiboodlepaa", sum := "c80e2cee594133e7313f3e0dc762c6637a8fc1a544ad8e824d2f61cbf5952370", func := "forme/formelaw42.ImposeSides", spec := "imposeSides", unfollowed := true, recurses := true, apart := false }
def ImposeSidesSaid : Prop := imposeSidesRow.holds Try.pinned (OpenSpec.ofChange imposeSidesSpec)

/-- ITS FALSE NEIGHBOUR: 'it returns false'. Refute it at one input. -/
def imposeSidesWrong : ChangeSpec := { name := "imposeSides", fn := fun _ => fun
  | [d] => { results := [.lit (.bool false)], args := [d] }
  | _ => none }
def ImposeSidesWrongFalsely : Prop := imposeSidesRow.holds Try.pinned (OpenSpec.ofChange imposeSidesWrong)

/-- 'formelaw42.ImposeWhere': WHATEVER THE INPUT: true; the input reads as it did. -/
def imposeWhereSpec : ChangeSpec := { name := "imposeWhere", fn := fun _ => fun
  | [d1, d2] => { results := [.lit (.bool true)], args := [d1, d2] }
  | _ => none }
def imposeWhereRow : OpenClaim := { program := "ytbllpiboodlepaa", sum := "c80e2cee594133e7313f3e0dc762c6637a8fc1a544ad8e824d2f61cbf5952370", func := "forme/formelaw42.ImposeWhere", spec := "imposeWhere", unfollowed := true, recurses := true, apart := false }
def ImposeWhereSaid : Prop := imposeWhereRow.holds Try.pinned (OpenSpec.ofChange imposeWhereSpec)

/-- ITS FALSE NEIGHBOUR: 'it returns false'. Refute it at one input. -/
def imposeWhereWrong : ChangeSpec := { name := "imposeWhere", fn := fun _ => fun
  | [d1, d2] => { results := [.lit (.bool false)], args := [d1, d2] }
  | _ => none }
def ImposeWhereWrongFalsely : Prop := imposeWhereRow.holds Try.pinned (OpenSpec.ofChange imposeWhereWrong)

/-- 'formelaw42.ImposeMore': WHATEVER THE INPUT: true; the input reads as it did. -/
def imposeMoreSpec : ChangeSpec := { name := "imposeMore", fn := fun _ => fun
  | [d] => { results := [.lit (.bool true)], args := [d] }
  | _ => none }
def imposeMoreRow : OpenClaim := { program := "ytbllpiboodlepaa", sum := "c80e2cee594133e7313f3e0dc762c6637a8fc1a544ad8e824d2f61cbf5952370", func := "forme/formelaw42.ImposeMore", spec := "imposeMore", unfollowed := true, recurses := true, apart := false }
def ImposeMoreSaid : Prop := imposeMoreRow.holds Try.pinned (OpenSpec.ofChange imposeMoreSpec)

/-- ITS FALSE NEIGHBOUR: 'it returns false'. Refute it at one input. -/
def imposeMoreWrong : ChangeSpec := { name := "imposeMore", fn := fun _ => fun
  | [d] => { results := [.lit (.bool false)], args := [d] }
  | _ => none }
def ImposeMoreWrongFalsely : Prop := imposeMoreRow.holds Try.pinned (OpenSpec.ofChange imposeMoreWrong)

/- THE SECOND FORM. 'bulk': how many values and letters a reading holds, each counted each time it is reached (what is shared counts as often as it is met; a slice's spare places count too). A statement '..UptoSaid' is the law's where the arguments, and the package variables that the reading takes, are together of bulk at most 1048576: NARROWER than '..Said'. Prove '..Said' where nothing that the law and all that it calls make is longer than what came in: it says more and counts as full. Else prove '..UptoSaid'. A law counts once. -/
mutual
def uptoBulk {H : Type} : DataW H → Nat
  | .lit (.string bytes) => bytes.length + 1
  | .lit _ => 1
  | .nil => 1
  | .ptr d => uptoBulk d + 1
  | .slice elems spare => uptoBulkAll elems + uptoBulkAll spare + 1
  | .agg parts => uptoBulkAll parts + 1
  | .iface _ d => uptoBulk d + 1
  | .map entries => uptoBulkEntries entries + 1
  | .held _ => 1
def uptoBulkAll {H : Type} : List (DataW H) → Nat
  | [] => 0
  | d :: r => uptoBulk d + uptoBulkAll r
def uptoBulkEntries {H : Type} : List (Lit × DataW H) → Nat
  | [] => 0
  | x :: r => uptoBulkEntry x + uptoBulkEntries r
def uptoBulkEntry {H : Type} : Lit × DataW H → Nat
  | (.string bytes, d) => bytes.length + uptoBulk d + 1
  | (_, d) => uptoBulk d + 1
 end
def uptoSmall : (H : Type) → List (DataW H) → Bool := fun _ ds => decide (uptoBulkAll ds ≤ 1048576)
def OpenSpec.upto (s : _root_.Go.ChangeSpec) : _root_.Go.OpenSpec := { _root_.Go.OpenSpec.ofChange s with cond := some uptoSmall }

/-- 'formelaw42.ImposeMatchesReference', WHERE WHAT IT READS IS OF BULK AT MOST 1048576: true; the input reads as it did. -/
def imposeMatchesReferenceUptoRow : OpenClaim := { program := "ytbllpiboodlepaa", sum := "c80e2cee594133e7313f3e0dc762c6637a8fc1a544ad8e824d2f61cbf5952370", func := "forme/formelaw42.ImposeMatchesReference", spec := "imposeMatchesReference", unfollowed := true, recurses := true, apart := false, narrowed := true }
def ImposeMatchesReferenceUptoSaid : Prop := imposeMatchesReferenceUptoRow.holds Try.pinned (OpenSpec.upto imposeMatchesReferenceSpec)

/-- 'formelaw42.ImposeOnce', WHERE WHAT IT READS IS OF BULK AT MOST 1048576: true; the input reads as it did. -/
def imposeOnceUptoRow : OpenClaim := { program := "ytbllpiboodlepaa", sum := "c80e2cee594133e7313f3e0dc762c6637a8fc1a544ad8e824d2f61cbf5952370", func := "forme/formelaw42.ImposeOnce", spec := "imposeOnce", unfollowed := true, recurses := true, apart := false, narrowed := true }
def ImposeOnceUptoSaid : Prop := imposeOnceUptoRow.holds Try.pinned (OpenSpec.upto imposeOnceSpec)

/-- 'formelaw42.ImposeReads', WHERE WHAT IT READS IS OF BULK AT MOST 1048576: true; the input reads as it did. -/
def imposeReadsUptoRow : OpenClaim := { program := "ytbllpiboodlepaa", sum := "c80e2cee594133e7313f3e0dc762c6637a8fc1a544ad8e824d2f61cbf5952370", func := "forme/formelaw42.ImposeReads", spec := "imposeReads", unfollowed := true, recurses := true, apart := false, narrowed := true }
def ImposeReadsUptoSaid : Prop := imposeReadsUptoRow.holds Try.pinned (OpenSpec.upto imposeReadsSpec)

/-- 'formelaw42.ImposeLeaves', WHERE WHAT IT READS IS OF BULK AT MOST 1048576: true; the input reads as it did. -/
def imposeLeavesUptoRow : OpenClaim := { program := "ytbllpiboodlepaa", sum := "c80e2cee594133e7313f3e0dc762c6637a8fc1a544ad8e824d2f61cbf5952370", func := "forme/formelaw42.ImposeLeaves", spec := "imposeLeaves", unfollowed := true, recurses := true, apart := false, narrowed := true }
def ImposeLeavesUptoSaid : Prop := imposeLeavesUptoRow.holds Try.pinned (OpenSpec.upto imposeLeavesSpec)

/-- 'formelaw42.ImposeSides', WHERE WHAT IT READS IS OF BULK AT MOST 1048576: true; the input reads as it did. -/
def imposeSidesUptoRow : OpenClaim := { program := "ytbllpiboodlepaa", sum := "c80e2cee594133e7313f3e0dc762c6637a8fc1a544ad8e824d2f61cbf5952370", func := "forme/formelaw42.ImposeSides", spec := "imposeSides", unfollowed := true, recurses := true, apart := false, narrowed := true }
def ImposeSidesUptoSaid : Prop := imposeSidesUptoRow.holds Try.pinned (OpenSpec.upto imposeSidesSpec)

/-- 'formelaw42.ImposeWhere', WHERE WHAT IT READS IS OF BULK AT MOST 1048576: true; the input reads as it did. -/
def imposeWhereUptoRow : OpenClaim := { program := "ytbllpiboodlepaa", sum := "c80e2cee594133e7313f3e0dc762c6637a8fc1a544ad8e824d2f61cbf5952370", func := "forme/formelaw42.ImposeWhere", spec := "imposeWhere", unfollowed := true, recurses := true, apart := false, narrowed := true }
def ImposeWhereUptoSaid : Prop := imposeWhereUptoRow.holds Try.pinned (OpenSpec.upto imposeWhereSpec)

/-- 'formelaw42.ImposeMore', WHERE WHAT IT READS IS OF BULK AT MOST 1048576: true; the input reads as it did. -/
def imposeMoreUptoRow : OpenClaim := { program := "ytbllpiboodlepaa", sum := "c80e2cee594133e7313f3e0dc762c6637a8fc1a544ad8e824d2f61cbf5952370", func := "forme/formelaw42.ImposeMore", spec := "imposeMore", unfollowed := true, recurses := true, apart := false, narrowed := true }
def ImposeMoreUptoSaid : Prop := imposeMoreUptoRow.holds Try.pinned (OpenSpec.upto imposeMoreSpec)

end Rows
end Go.Proofs.Ytbllpiboodlepaa
