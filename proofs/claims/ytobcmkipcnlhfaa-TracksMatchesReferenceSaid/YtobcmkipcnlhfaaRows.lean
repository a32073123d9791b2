/-
  No cell of these rows narrows 'for every input' (looked for: loops, veiled, ifaces, maps, wideKeys, modest, calm, conditions, laid).
  DERIVED. THE GIVEN ROWS OF THIS SEAT. 7 by the template 'for every input the law returns true; each argument reads behind the call as it read before'; 0 by the template 'total and deterministic' (their statements: YtobcmkipcnlhfaaTotals.lean).
  GIVEN WITH THE SEED: the statements are not yours to turn. If you find one false, say at which input.
  Laid BY PROGRAM, IN A SANDBOX (cutbox-rows.mjs): the forced cells as the released guide's own fill.sh prints them over the translation 187410e857186e54… (all of the seat's roots in one cut). By AI agents, Wed Nov 11 2026. No macro, syntax, notation, axiom, sorry.
-/
import Derived.Test.YtobcmkipcnlhfaaChecked
import GoSem.Claim
import GoSem.ClaimJoined
import GoSem.ClaimMapViews
import Derived.JoinedTies
import Derived.KernelRfl
namespace Go.Proofs.Ytobcmkipcnlhfaa
/- THE CELL 'sum', in the pinned program and in every row, IS THE sha256 OF THE DUMP (.gsa) THAT YtobcmkipcnlhfaaProg.lean LOADS. Nothing in Lean hashes anything: it is a label: what it is worth is what the hold of that sum in a sandbox is worth. -/
noncomputable def Try.pinned : Pinned := { name := "ytobcmkipcnlhfaa", sum := "187410e857186e54d638928fec1905fada0b7152f607277339e49d2ab3dd5f9a", checked := Try.checked }
namespace Rows
def none {H : Type} : Left H := { results := [], args := [] }

/-- 'formelaw23.TracksMatchesReference': WHATEVER THE INPUT: true; the input reads as it did. -/
def tracksMatchesReferenceSpec : ChangeSpec := { name := "tracksMatchesReference", fn := fun _ => fun
  | [d1, d2, d3, d4] => { results := [.lit (.bool true)], args := [d1, d2, d3, d4] }
  | _ => none }
def tracksMatchesReferenceRow : OpenClaim := { program := "ytobcmkipcnlhfaa", sum := "187410e857186e54d638928fec1905fada0b7152f607277339e49d2ab3dd5f9a", func := "forme/formelaw23.TracksMatchesReference", spec := "tracksMatchesReference", unfollowed := true, recurses := true, apart := false }
def TracksMatchesReferenceSaid : Prop := tracksMatchesReferenceRow.holds Try.pinned (OpenSpec.ofChange tracksMatchesReferenceSpec)

/-- ITS FALSE NEIGHBOUR: 'it returns false'. Refute it at one input. -/
def tracksMatchesReferenceWrong : ChangeSpec := { name := "tracksMatchesReference", fn := fun _ => fun
  | [d1, d2, d3, d4] => { results := [.lit (.bool false)], args := [d1, d2, d3, d4] }
  | _ => none }
def TracksMatchesReferenceWrongFalsely : Prop := tracksMatchesReferenceRow.holds Try.pinned (OpenSpec.ofChange tracksMatchesReferenceWrong)

/-- 'formelaw23.TracksLimits': WHATEVER THE INPUT: true; the input reads as it did. -/
def tracksLimitsSpec : ChangeSpec := { name := "tracksLimits", fn := fun _ => fun
  | [d1, d2, d3] => { results := [.lit (.bool true)], args := [d1, d2, d3] }
  | _ => none }
def tracksLimitsRow : OpenClaim := { program := "ytobcmkipcnlhfaa", sum := "187410e857186e54d638928fec1905fada0b7152f607277339e49d2ab3dd5f9a", func := "forme/formelaw23.TracksLimits", spec := "tracksLimits", unfollowed := true, recurses := true, apart := false }
def TracksLimitsSaid : Prop := tracksLimitsRow.holds Try.pinned (OpenSpec.ofChange tracksLimitsSpec)

/-- ITS FALSE NEIGHBOUR: 'it returns false'. Refute it at one input. -/
def tracksLimitsWrong : ChangeSpec := { name := "tracksLimits", fn := fun _ => fun
  | [d1, d2, d3] => { results := [.lit (.bool false)], args := [d1, d2, d3] }
  | _ => none }
def TracksLimitsWrongFalsely : Prop := tracksLimitsRow.holds Try.pinned (OpenSpec.ofChange tracksLimitsWrong)

/-- 'formelaw23.TracksAll': WHATEVER THE INPUT: true; the input reads as it did. -/
def tracksAllSpec : ChangeSpec := { name := "tracksAll", fn := fun _ => fun
  | [d1, d2, d3] => { results := [.lit (.bool true)], args := [d1, d2, d3] }
  | _ => none }
def tracksAllRow : OpenClaim := { program := "ytobcmkipcnlhfaa", sum := "187410e857186e54d638928fec1905fada0b7152f607277339e49d2ab3dd5f9a", func := "forme/formelaw23.TracksAll", spec := "tracksAll", unfollowed := true, recurses := true, apart := false }
def TracksAllSaid : Prop := tracksAllRow.holds Try.pinned (OpenSpec.ofChange tracksAllSpec)

/-- ITS FALSE NEIGHBOUR: 'it returns false'. Refute it at one input. -/
def tracksAllWrong : ChangeSpec := { name := "tracksAll", fn := fun _ => fun
  | [d1, d2, d3] => { results := [.lit (.bool false)], args := [d1, d2, d3] }
  | _ => none }
def TracksAllWrongFalsely : Prop := tracksAllRow.holds Try.pinned (OpenSpec.ofChange tracksAllWrong)

/-- 'formelaw23.TracksFair': WHATEVER THE INPUT: true; the input reads as it did. -/
def tracksFairSpec : ChangeSpec := { name := "tracksFair", fn := fun _ => fun
  | [d1, d2, d3, d4, d5] => { results := [.lit (.bool true)], args := [d1, d2, d3, d4, d5] }
  | _ => none }
def tracksFairRow : OpenClaim := { program := "ytobcmkipcnlhfaa", sum := "187410e857186e54d638928fec1905fada0b7152f607277339e49d2ab3dd5f9a", func := "forme/formelaw23.TracksFair", spec := "tracksFair", unfollowed := true, recurses := true, apart := false }
def TracksFairSaid : Prop := tracksFairRow.holds Try.pinned (OpenSpec.ofChange tracksFairSpec)

/-- ITS FALSE NEIGHBOUR: 'it returns false'. Refute it at one input. -/
def tracksFairWrong : ChangeSpec := { name := "tracksFair", fn := fun _ => fun
  | [d1, d2, d3, d4, d5] => { results := [.lit (.bool false)], args := [d1, d2, d3, d4, d5] }
  | _ => none }
def TracksFairWrongFalsely : Prop := tracksFairRow.holds Try.pinned (OpenSpec.ofChange tracksFairWrong)

/-- 'formelaw23.TracksMore': WHATEVER THE INPUT: true; the input reads as it did. -/
def tracksMoreSpec : ChangeSpec := { name := "tracksMore", fn := fun _ => fun
  | [d1, d2, d3, d4] => { results := [.lit (.bool true)], args := [d1, d2, d3, d4] }
  | _ => none }
def tracksMoreRow : OpenClaim := { program := "ytobcmkipcnlhfaa", sum := "187410e857186e54d638928fec1905fada0b7152f607277339e49d2ab3dd5f9a", func := "forme/formelaw23.TracksMore", spec := "tracksMore", unfollowed := true, recurses := true, apart := false }
def TracksMoreSaid : Prop := tracksMoreRow.holds Try.pinned (OpenSpec.ofChange tracksMoreSpec)

/-- ITS FALSE NEIGHBOUR: 'it returns false'. Refute it at one input. -/
def tracksMoreWrong : ChangeSpec := { name := "tracksMore", fn := fun _ => fun
  | [d1, d2, d3, d4] => { results := [.lit (.bool false)], args := [d1, d2, d3, d4] }
  | _ => none }
def TracksMoreWrongFalsely : Prop := tracksMoreRow.holds Try.pinned (OpenSpec.ofChange tracksMoreWrong)

/-- 'formelaw23.TracksStarts': WHATEVER THE INPUT: true; the input reads as it did. -/
def tracksStartsSpec : ChangeSpec := { name := "tracksStarts", fn := fun _ => fun
  | [d1, d2] => { results := [.lit (.bool true)], args := [d1, d2] }
  | _ => none }
def tracksStartsRow : OpenClaim := { program := "ytobcmkipcnlhfaa", sum := "187410e857186e54d638928fec1905fada0b7152f607277339e49d2ab3dd5f9a", func := "forme/formelaw23.TracksStarts", spec := "tracksStarts", unfollowed := true, recurses := true, apart := false }
def TracksStartsSaid : Prop := tracksStartsRow.holds Try.pinned (OpenSpec.ofChange tracksStartsSpec)

/-- ITS FALSE NEIGHBOUR: 'it returns false'. Refute it at one input. -/
def tracksStartsWrong : ChangeSpec := { name := "tracksStarts", fn := fun _ => fun
  | [d1, d2] => { results := [.lit (.bool false)], args := [d1, d2] }
  | _ => none }
def TracksStartsWrongFalsely : Prop := tracksStartsRow.holds Try.pinned (OpenSpec.ofChange tracksStartsWrong)

/-- 'formelaw23.TracksMultiples': WHATEVER THE INPUT: true; the input reads as it did. -/
def tracksMultiplesSpec : ChangeSpec := { name := "tracksMultiples", fn := fun _ => fun
  | [d1, d2, d3] => { results := [.lit (.bool true)], args := [d1, d2, d3] }
  | _ => none }
def tracksMultiplesRow : OpenClaim := { program := "ytobcmkipcnlhfaa", sum := "187410e857186e54d638928fec1905fada0b7152f607277339e49d2ab3dd5f9a", func := "forme/formelaw23.TracksMultiples", spec := "tracksMultiples", unfollowed := true, recurses := true, apart := false }
def TracksMultiplesSaid : Prop := tracksMultiplesRow.holds Try.pinned (OpenSpec.ofChange tracksMultiplesSpec)

/-- ITS FALSE NEIGHBOUR: 'it returns false'. Refute it at one input. -/
def tracksMultiplesWrong : ChangeSpec := { name := "tracksMultiples", fn := fun _ => fun
  | [d1, d2, d3] => { results := [.lit (.bool false)], args := [d1, d2, d3] }
  | _ => none }
def TracksMultiplesWrongFalsely : Prop := tracksMultiplesRow.holds Try.pinned (OpenSpec.ofChange tracksMultiplesWrong)

/- THE SECOND FORM. 'bulk': how many values and letters a reading holds, each counted each time it is reached (what is shared counts as often as it is met; a slice's spare places count too). A statement '..UptoSaid' is the law's where the arguments, and the package variables that the reading takes, are together of bulk at most 1048576: NARROWER than '..Said'. Prove '..Said' where nothing that the law and all that it calls make is longer than what came in: it says more and counts as full. Else prove '..UptoSaid'. A law counts once. -/
mutual
def uptoBulk {H : Type} : DataW H → Nat
  | .lit (.string bytes) => bytes.length + 1
  | .lit _ => 1
  | .nil => 1
  | .ptr d => uptoBulk d + 1
  | .slice elems spare => uptoBulkAll elems + uptoBulkAll spare + 1
  | .agg parts => uptoBulkAll parts + 1
  | .iface _ d => uptoBulk d + 1
  | .map entries => uptoBulkEntries entries + 1
  | .held _ => 1
def uptoBulkAll {H : Type} : List (DataW H) → Nat
  | [] => 0
  | d :: r => uptoBulk d + uptoBulkAll r
def uptoBulkEntries {H : Type} : List (Lit × DataW H) → Nat
  | [] => 0
  | x :: r => uptoBulkEntry x + uptoBulkEntries r
def uptoBulkEntry {H : Type} : Lit × DataW H → Nat
  | (.string bytes, d) => bytes.length + uptoBulk d + 1
  | (_, d) => uptoBulk d + 1
 end
def uptoSmall : (H : Type) → List (DataW H) → Bool := fun _ ds => decide (uptoBulkAll ds ≤ 1048576)
def OpenSpec.upto (s : _root_.Go.ChangeSpec) : _root_.Go.OpenSpec := { _root_.Go.OpenSpec.ofChange s with cond := some uptoSmall }

/-- 'formelaw23.TracksMatchesReference', WHERE WHAT IT READS IS OF BULK AT MOST 1048576: true; the input reads as it did. -/
def tracksMatchesReferenceUptoRow : OpenClaim := { program := "ytobcmkipcnlhfaa", sum := "187410e857186e54d638928fec1905fada0b7152f607277339e49d2ab3dd5f9a", func := "forme/formelaw23.TracksMatchesReference", spec := "tracksMatchesReference", unfollowed := true, recurses := true, apart := false, narrowed := true }
def TracksMatchesReferenceUptoSaid : Prop := tracksMatchesReferenceUptoRow.holds Try.pinned (OpenSpec.upto tracksMatchesReferenceSpec)

/-- 'formelaw23.TracksLimits', WHERE WHAT IT READS IS OF BULK AT MOST 1048576: true; the input reads as it did. -/
def tracksLimitsUptoRow : OpenClaim := { program := "ytobcmkipcnlhfaa", sum := "187410e857186e54d638928fec1905fada0b7152f607277339e49d2ab3dd5f9a", func := "forme/formelaw23.TracksLimits", spec := "tracksLimits", unfollowed := true, recurses := true, apart := false, narrowed := true }
def TracksLimitsUptoSaid : Prop := tracksLimitsUptoRow.holds Try.pinned (OpenSpec.upto tracksLimitsSpec)

/-- 'formelaw23.TracksAll', WHERE WHAT IT READS IS OF BULK AT MOST 1048576: true; the input reads as it did. -/
def tracksAllUptoRow : OpenClaim := { program := "ytobcmkipcnlhfaa", sum := "187410e857186e54d638928fec1905fada0b7152f607277339e49d2ab3dd5f9a", func := "forme/formelaw23.TracksAll", spec := "tracksAll", unfollowed := true, recurses := true, apart := false, narrowed := true }
def TracksAllUptoSaid : Prop := tracksAllUptoRow.holds Try.pinned (OpenSpec.upto tracksAllSpec)

/-- 'formelaw23.TracksFair', WHERE WHAT IT READS IS OF BULK AT MOST 1048576: true; the input reads as it did. -/
def tracksFairUptoRow : OpenClaim := { program := "ytobcmkipcnlhfaa", sum := "187410e857186e54d638928fec1905fada0b7152f607277339e49d2ab3dd5f9a", func := "forme/formelaw23.TracksFair", spec := "tracksFair", unfollowed := true, recurses := true, apart := false, narrowed := true }
def TracksFairUptoSaid : Prop := tracksFairUptoRow.holds Try.pinned (OpenSpec.upto tracksFairSpec)

/-- 'formelaw23.TracksMore', WHERE WHAT IT READS IS OF BULK AT MOST 1048576: true; the input reads as it did. -/
def tracksMoreUptoRow : OpenClaim := { program := "ytobcmkipcnlhfaa", sum := "187410e857186e54d638928fec1905fada0b7152f607277339e49d2ab3dd5f9a", func := "forme/formelaw23.TracksMore", spec := "tracksMore", unfollowed := true, recurses := true, apart := false, narrowed := true }
def TracksMoreUptoSaid : Prop := tracksMoreUptoRow.holds Try.pinned (OpenSpec.upto tracksMoreSpec)

/-- 'formelaw23.TracksStarts', WHERE WHAT IT READS IS OF BULK AT MOST 1048576: true; the input reads as it did. -/
def tracksStartsUptoRow : OpenClaim := { program := "ytobcmkipcnlhfaa", sum := "187410e857186e54d638928fec1905fada0b7152f607277339e49d2ab3dd5f9a", func := "forme/formelaw23.TracksStarts", spec := "tracksStarts", unfollowed := true, recurses := true, apart := false, narrowed := true }
def TracksStartsUptoSaid : Prop := tracksStartsUptoRow.holds Try.pinned (OpenSpec.upto tracksStartsSpec)

/-- 'formelaw23.TracksMultiples', WHERE WHAT IT READS IS OF BULK AT MOST 1048576: true; the input reads as it did. -/
def tracksMultiplesUptoRow : OpenClaim := { program := "ytobcmkipcnlhfaa", sum := "187410e857186e54d638928fec1905fada0b7152f607277339e49d2ab3dd5f9a", func := "forme/formelaw23.TracksMultiples", spec := "tracksMultiples", unfollowed := true, recurses := true, apart := false, narrowed := true }
def TracksMultiplesUptoSaid : Prop := tracksMultiplesUptoRow.holds Try.pinned (OpenSpec.upto tracksMultiplesSpec)

end Rows
end Go.Proofs.Ytobcmkipcnlhfaa
