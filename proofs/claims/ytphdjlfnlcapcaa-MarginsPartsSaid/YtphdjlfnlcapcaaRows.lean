/-
  No cell of these rows narrows 'for every input' (looked for: loops, veiled, ifaces, maps, wideKeys, modest, calm, conditions, laid).
  DERIVED. THE GIVEN ROWS OF THIS SEAT. 6 by the template 'for every input the law returns true; each argument reads behind the call as it read before'; 0 by the template 'total and deterministic' (their statements: YtphdjlfnlcapcaaTotals.lean).
  GIVEN WITH THE SEED: the statements are not yours to turn. If you find one false, say at which input.
  Laid BY PROGRAM, IN A SANDBOX (cutbox-rows.mjs): the forced cells as the released guide's own fill.sh prints them over the translation 1880ce4cbc6dd9c6… (all of the seat's roots in one cut). By AI agents, Wed Nov 11 2026. No macro, syntax, notation, axiom, sorry.
-/
import Derived.Test.YtphdjlfnlcapcaaChecked
import GoSem.Claim
import GoSem.ClaimJoined
import GoSem.ClaimMapViews
import Derived.JoinedTies
import Derived.KernelRfl
namespace Go.Proofs.Ytphdjlfnlcapcaa
/- THE CELL 'sum', in the pinned program and in every row, IS THE sha256 OF THE DUMP (.gsa) THAT YtphdjlfnlcapcaaProg.lean LOADS. Nothing in Lean hashes anything: it is a label: what it is worth is what the hold of that sum in a sandbox is worth. -/
noncomputable def Try.pinned : Pinned := { name := "ytphdjlfnlcapcaa", sum := "1880ce4cbc6dd9c69f4d25d06721383f9f8ce431a5a7f2d952761c4ad021f181", checked := Try.checked }
namespace Rows
def none {H : Type} : Left H := { results := [], args := [] }

/-- 'formelaw18.MarginsMatchesReference': WHATEVER THE INPUT: true; the input reads as it did. -/
def marginsMatchesReferenceSpec : ChangeSpec := { name := "marginsMatchesReference", fn := fun _ => fun
  | [d1, d2] => { results := [.lit (.bool true)], args := [d1, d2] }
  | _ => none }
def marginsMatchesReferenceRow : OpenClaim := { program := "ytphdjlfnlcapcaa", sum := "1880ce4cbc6dd9c69f4d25d06721383f9f8ce431a5a7f2d952761c4ad021f181", func := "forme/formelaw18.MarginsMatchesReference", spec := "marginsMatchesReference", unfollowed := true, recurses := true, apart := false }
def MarginsMatchesReferenceSaid : Prop := marginsMatchesReferenceRow.holds Try.pinned (OpenSpec.ofChange marginsMatchesReferenceSpec)

/-- ITS FALSE NEIGHBOUR: 'it returns false'. Refute it at one input. -/
def marginsMatchesReferenceWrong : ChangeSpec := { name := "marginsMatchesReference", fn := fun _ => fun
  | [d1, d2] => { results := [.lit (.bool false)], args := [d1, d2] }
  | _ => none }
def MarginsMatchesReferenceWrongFalsely : Prop := marginsMatchesReferenceRow.holds Try.pinned (OpenSpec.ofChange marginsMatchesReferenceWrong)

/-- 'formelaw18.MarginsOrder': WHATEVER THE INPUT: true; the input reads as it did. -/
def marginsOrderSpec : ChangeSpec := { name := "marginsOrder", fn := fun _ => fun
  | [d1, d2] => { results := [.lit (.bool true)], args := [d1, d2] }
  | _ => none }
def marginsOrderRow : OpenClaim := { program := "ytphdjlfnlcapcaa", sum := "1880ce4cbc6dd9c69f4d25d06721383f9f8ce431a5a7f2d952761c4ad021f181", func := "forme/formelaw18.MarginsOrder", spec := "marginsOrder", unfollowed := true, recurses := true, apart := false }
def MarginsOrderSaid : Prop := marginsOrderRow.holds Try.pinned (OpenSpec.ofChange marginsOrderSpec)

/-- ITS FALSE NEIGHBOUR: 'it returns false'. Refute it at one input. -/
def marginsOrderWrong : ChangeSpec := { name := "marginsOrder", fn := fun _ => fun
  | [d1, d2] => { results := [.lit (.bool false)], args := [d1, d2] }
  | _ => none }
def MarginsOrderWrongFalsely : Prop := marginsOrderRow.holds Try.pinned (OpenSpec.ofChange marginsOrderWrong)

/-- 'formelaw18.MarginsSigns': WHATEVER THE INPUT: true; the input reads as it did. -/
def marginsSignsSpec : ChangeSpec := { name := "marginsSigns", fn := fun _ => fun
  | [d] => { results := [.lit (.bool true)], args := [d] }
  | _ => none }
def marginsSignsRow : OpenClaim := { program := "ytphdjlfnlcapcaa", sum := "1880ce4cbc6dd9c69f4d25d06721383f9f8ce431a5a7f2d952761c4ad021f181", func := "forme/formelaw18.MarginsSigns", spec := "marginsSigns", unfollowed := true, recurses := true, apart := false }
def MarginsSignsSaid : Prop := marginsSignsRow.holds Try.pinned (OpenSpec.ofChange marginsSignsSpec)

/-- ITS FALSE NEIGHBOUR: 'it returns false'. Refute it at one input. -/
def marginsSignsWrong : ChangeSpec := { name := "marginsSigns", fn := fun _ => fun
  | [d] => { results := [.lit (.bool false)], args := [d] }
  | _ => none }
def MarginsSignsWrongFalsely : Prop := marginsSignsRow.holds Try.pinned (OpenSpec.ofChange marginsSignsWrong)

/-- 'formelaw18.MarginsGrow': WHATEVER THE INPUT: true; the input reads as it did. -/
def marginsGrowSpec : ChangeSpec := { name := "marginsGrow", fn := fun _ => fun
  | [d1, d2, d3] => { results := [.lit (.bool true)], args := [d1, d2, d3] }
  | _ => none }
def marginsGrowRow : OpenClaim := { program := "ytphdjlfnlcapcaa", sum := "1880ce4cbc6dd9c69f4d25d06721383f9f8ce431a5a7f2d952761c4ad021f181", func := "forme/formelaw18.MarginsGrow", spec := "marginsGrow", unfollowed := true, recurses := true, apart := false }
def MarginsGrowSaid : Prop := marginsGrowRow.holds Try.pinned (OpenSpec.ofChange marginsGrowSpec)

/-- ITS FALSE NEIGHBOUR: 'it returns false'. Refute it at one input. -/
def marginsGrowWrong : ChangeSpec := { name := "marginsGrow", fn := fun _ => fun
  | [d1, d2, d3] => { results := [.lit (.bool false)], args := [d1, d2, d3] }
  | _ => none }
def MarginsGrowWrongFalsely : Prop := marginsGrowRow.holds Try.pinned (OpenSpec.ofChange marginsGrowWrong)

/-- 'formelaw18.MarginsTurned': WHATEVER THE INPUT: true; the input reads as it did. -/
def marginsTurnedSpec : ChangeSpec := { name := "marginsTurned", fn := fun _ => fun
  | [d1, d2] => { results := [.lit (.bool true)], args := [d1, d2] }
  | _ => none }
def marginsTurnedRow : OpenClaim := { program := "ytphdjlfnlcapcaa", sum := "1880ce4cbc6dd9c69f4d25d06721383f9f8ce431a5a7f2d952761c4ad021f181", func := "forme/formelaw18.MarginsTurned", spec := "marginsTurned", unfollowed := true, recurses := true, apart := false }
def MarginsTurnedSaid : Prop := marginsTurnedRow.holds Try.pinned (OpenSpec.ofChange marginsTurnedSpec)

/-- ITS FALSE NEIGHBOUR: 'it returns false'. Refute it at one input. -/
def marginsTurnedWrong : ChangeSpec := { name := "marginsTurned", fn := fun _ => fun
  | [d1, d2] => { results := [.lit (.bool false)], args := [d1, d2] }
  | _ => none }
def MarginsTurnedWrongFalsely : Prop := marginsTurnedRow.holds Try.pinned (OpenSpec.ofChange marginsTurnedWrong)

/-- 'formelaw18.MarginsParts': WHATEVER THE INPUT: true; the input reads as it did. -/
def marginsPartsSpec : ChangeSpec := { name := "marginsParts", fn := fun _ => fun
  | [d1, d2, d3] => { results := [.lit (.bool true)], args := [d1, d2, d3] }
  | _ => none }
def marginsPartsRow : OpenClaim := { program := "ytphdjlfnlcapcaa", sum := "1880ce4cbc6dd9c69f4d25d06721383f9f8ce431a5a7f2d952761c4ad021f181", func := "forme/formelaw18.MarginsParts", spec := "marginsParts", unfollowed := true, recurses := true, apart := false }
def MarginsPartsSaid : Prop := marginsPartsRow.holds Try.pinned (OpenSpec.ofChange marginsPartsSpec)

/-- ITS FALSE NEIGHBOUR: 'it returns false'. Refute it at one input. -/
def marginsPartsWrong : ChangeSpec := { name := "marginsParts", fn := fun _ => fun
  | [d1, d2, d3] => { results := [.lit (.bool false)], args := [d1, d2, d3] }
  | _ => none }
def MarginsPartsWrongFalsely : Prop := marginsPartsRow.holds Try.pinned (OpenSpec.ofChange marginsPartsWrong)

/- THE SECOND FORM. 'bulk': how many values and letters a reading holds, each counted each time it is reached (what is shared counts as often as it is met; a slice's spare places count too). A statement '..UptoSaid' is the law's where the arguments, and the package variables that the reading takes, are together of bulk at most 1048576: NARROWER than '..Said'. Prove '..Said' where nothing that the law and all that it calls make is longer than what came in: it says more and counts as full. Else prove '..UptoSaid'. A law counts once. -/
mutual
def uptoBulk {H : Type} : DataW H → Nat
  | .lit (.string bytes) => bytes.length + 1
  | .lit _ => 1
  | .nil => 1
  | .ptr d => uptoBulk d + 1
  | .slice elems spare => uptoBulkAll elems + uptoBulkAll spare + 1
  | .agg parts => uptoBulkAll parts + 1
  | .iface _ d => uptoBulk d + 1
  | .map entries => uptoBulkEntries entries + 1
  | .held _ => 1
def uptoBulkAll {H : Type} : List (DataW H) → Nat
  | [] => 0
  | d :: r => uptoBulk d + uptoBulkAll r
def uptoBulkEntries {H : Type} : List (Lit × DataW H) → Nat
  | [] => 0
  | x :: r => uptoBulkEntry x + uptoBulkEntries r
def uptoBulkEntry {H : Type} : Lit × DataW H → Nat
  | (.string bytes, d) => bytes.length + uptoBulk d + 1
  | (_, d) => uptoBulk d + 1
 end
def uptoSmall : (H : Type) → List (DataW H) → Bool := fun _ ds => decide (uptoBulkAll ds ≤ 1048576)
def OpenSpec.upto (s : _root_.Go.ChangeSpec) : _root_.Go.OpenSpec := { _root_.Go.OpenSpec.ofChange s with cond := some uptoSmall }

/-- 'formelaw18.MarginsMatchesReference', WHERE WHAT IT READS IS OF BULK AT MOST 1048576: true; the input reads as it did. -/
def marginsMatchesReferenceUptoRow : OpenClaim := { program := "ytphdjlfnlcapcaa", sum := "1880ce4cbc6dd9c69f4d25d06721383f9f8ce431a5a7f2d952761c4ad021f181", func := "forme/formelaw18.MarginsMatchesReference", spec := "marginsMatchesReference", unfollowed := true, recurses := true, apart := false, narrowed := true }
def MarginsMatchesReferenceUptoSaid : Prop := marginsMatchesReferenceUptoRow.holds Try.pinned (OpenSpec.upto marginsMatchesReferenceSpec)

/-- 'formelaw18.MarginsOrder', WHERE WHAT IT READS IS OF BULK AT MOST 1048576: true; the input reads as it did. -/
def marginsOrderUptoRow : OpenClaim := { program := "ytphdjlfnlcapcaa", sum := "1880ce4cbc6dd9c69f4d25d06721383f9f8ce431a5a7f2d952761c4ad021f181", func := "forme/formelaw18.MarginsOrder", spec := "marginsOrder", unfollowed := true, recurses := true, apart := false, narrowed := true }
def MarginsOrderUptoSaid : Prop := marginsOrderUptoRow.holds Try.pinned (OpenSpec.upto marginsOrderSpec)

/-- 'formelaw18.MarginsSigns', WHERE WHAT IT READS IS OF BULK AT MOST 1048576: true; the input reads as it did. -/
def marginsSignsUptoRow : OpenClaim := { program := "ytphdjlfnlcapcaa", sum := "1880ce4cbc6dd9c69f4d25d06721383f9f8ce431a5a7f2d952761c4ad021f181", func := "forme/formelaw18.MarginsSigns", spec := "marginsSigns", unfollowed := true, recurses := true, apart := false, narrowed := true }
def MarginsSignsUptoSaid : Prop := marginsSignsUptoRow.holds Try.pinned (OpenSpec.upto marginsSignsSpec)

/-- 'formelaw18.MarginsGrow', WHERE WHAT IT READS IS OF BULK AT MOST 1048576: true; the input reads as it did. -/
def marginsGrowUptoRow : OpenClaim := { program := "ytphdjlfnlcapcaa", sum := "1880ce4cbc6dd9c69f4d25d06721383f9f8ce431a5a7f2d952761c4ad021f181", func := "forme/formelaw18.MarginsGrow", spec := "marginsGrow", unfollowed := true, recurses := true, apart := false, narrowed := true }
def MarginsGrowUptoSaid : Prop := marginsGrowUptoRow.holds Try.pinned (OpenSpec.upto marginsGrowSpec)

/-- 'formelaw18.MarginsTurned', WHERE WHAT IT READS IS OF BULK AT MOST 1048576: true; the input reads as it did. -/
def marginsTurnedUptoRow : OpenClaim := { program := "ytphdjlfnlcapcaa", sum := "1880ce4cbc6dd9c69f4d25d06721383f9f8ce431a5a7f2d952761c4ad021f181", func := "forme/formelaw18.MarginsTurned", spec := "marginsTurned", unfollowed := true, recurses := true, apart := false, narrowed := true }
def MarginsTurnedUptoSaid : Prop := marginsTurnedUptoRow.holds Try.pinned (OpenSpec.upto marginsTurnedSpec)

/-- 'formelaw18.MarginsParts', WHERE WHAT IT READS IS OF BULK AT MOST 1048576: true; the input reads as it did. -/
def marginsPartsUptoRow : OpenClaim := { program := "ytphdjlfnlcapcaa", sum := "1880ce4cbc6dd9c69f4d25d06721383f9f8ce431a5a7f2d952761c4ad021f181", func := "forme/formelaw18.MarginsParts", spec := "marginsParts", unfollowed := true, recurses := true, apart := false, narrowed := true }
def MarginsPartsUptoSaid : Prop := marginsPartsUptoRow.holds Try.pinned (OpenSpec.upto marginsPartsSpec)

end Rows
end Go.Proofs.Ytphdjlfnlcapcaa
