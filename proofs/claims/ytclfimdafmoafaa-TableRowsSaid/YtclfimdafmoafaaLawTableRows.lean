import Derived.Test.YtclfimdafmoafaaRows
import Derived.Test.YtclfimdafmoafaaHNest
import Derived.Test.YtclfimdafmoafaaHStruct
import Derived.Test.YtclfimdafmoafaaWSized
import Derived.Test.YtclfimdafmoafaaPureTableRows
import Derived.WalkKit
import Derived.ProofKit
import Derived.OpenShut
import Derived.ShutString
import Derived.ChangeOld
import Derived.Below
import Derived.SizedLaws
namespace Go.Proofs.Ytclfimdafmoafaa.tableRows
open Go.ChangeShapes Go.WideShapes Go.ChangeAt Go.RowKit
open Go.Proofs.YtclfimdafmoafaaW.PrintWords Go.Proofs.YtclfimdafmoafaaW.PrintLast Go.Proofs.YtclfimdafmoafaaW.PrintMore
open Go.ChangeMaps (open_string shut_string)
set_option linter.unusedVariables false
theorem own : ownKnob Try.prog.godebug = none := by kernel_rfl
theorem laidOut : laidOutB Try.prog = true := by kernel_rfl
set_option maxRecDepth 100000 in
theorem lifted (os : Os) (started : os.Started) (H : Type) (enc : TypeId × Value → H) :
    ReturnsInHanded {} Try.checked os 8 .any (Rows.tableRowsSpec.pre6 enc Try.prog Try.f8 Rows.tableRowsRow.domain false) (Rows.tableRowsSpec.post enc Try.prog Try.f8 false true false false) := by
  refine returnsInHanded_of_change_sized (C := Try.checked) own started (by kernel_rfl) Try.func8
    (ChangeSpec.witness6 (enc := enc) (C := Try.checked) false ⟨#[], #[.slice none 0 0, .slice none 0 0, .slice none 0 0, .int .i64 0], []⟩ 8 (by kernel_rfl) (by kernel_rfl) (by kernel_rfl) (by kernel_rfl)) ?_
  intro W base args ds gs before hval0 hW hcnd hsz0 _
  have hval : ∀ (j : Nat) t v, Try.f8.params[j]? = some t → args[j]? = some v → Value.okWide Try.prog W .any base t v := hval0
  have hW' := hW
  obtain ⟨p, q, hA0, hV, rfl, hfz, hnd⟩ := hW
  have hA : DataW.TrodAll enc Try.prog W 0 (fun _ => true) true Try.f8.params.toList args.toList ds p := hA0
  rw [Try.params8] at hA hval
  obtain ⟨v0, vs0, d0, ds0, p0, q0, hargs, rfl, rfl, h0, r0⟩ := trodAll_cons hA
  obtain ⟨v1, vs1, d1, ds1, p1, q1, rfl, rfl, rfl, h1, r1⟩ := trodAll_cons r0
  obtain ⟨v2, vs2, d2, ds2, p2, q2, rfl, rfl, rfl, h2, r2⟩ := trodAll_cons r1
  obtain ⟨v3, vs3, d3, ds3, p3, q3, rfl, rfl, rfl, h3, r3⟩ := trodAll_cons r2
  obtain ⟨rfl, rfl, rfl⟩ := trodAll_nil r3
  obtain rfl : args = #[v0, v1, v2, v3] := by cases args; simp_all
  obtain ⟨rfl, rfl⟩ := trodVars_none hV
  obtain ⟨a0, len0, cap0, rfl⟩ := okWide_slice Try.underlying24 (hval 0 24 v0 rfl rfl)
  have k0 := h0
  have lt0 : ∀ x ∈ p0, x.block < W.heap.size := by obtain ⟨m, hm⟩ := k0; exact DataW.trod_lt m _ _ _ hm
  obtain ⟨z0, g0, l0, m0, w0⟩ := Go.Proofs.Ytclfimdafmoafaa.Nest.open_arg (Kd.int .i64) (fun z : Int => (Lit.int .i64 z).wf = true) (by kernel_rfl) (Go.Proofs.Ytclfimdafmoafaa.Nest.kind_int Try.underlying3) Try.underlying24 h0
  obtain rfl : len0 = z0.length := g0.1.symm
  obtain ⟨a1, len1, cap1, rfl⟩ := okWide_slice Try.underlying25 (hval 1 25 v1 rfl rfl)
  have k1 := h1
  have lt1 : ∀ x ∈ p1, x.block < W.heap.size := by obtain ⟨m, hm⟩ := k1; exact DataW.trod_lt m _ _ _ hm
  obtain ⟨z1, g1, l1, m1, w1⟩ := Go.Proofs.Ytclfimdafmoafaa.Nest.open_arg (Kd.slice 3 (Kd.int .i64)) (fun z : List Int => z.length ≤ maxLen ∧ ∀ x ∈ z, (fun z : Int => (Lit.int .i64 z).wf = true) x) (by kernel_rfl) (Go.Proofs.Ytclfimdafmoafaa.Nest.kind_slice (Kd.int .i64) (fun z : Int => (Lit.int .i64 z).wf = true) (by kernel_rfl) (Go.Proofs.Ytclfimdafmoafaa.Nest.kind_int Try.underlying3) Try.underlying24) Try.underlying25 h1
  obtain rfl : len1 = z1.length := g1.1.symm
  obtain ⟨a2, len2, cap2, rfl⟩ := okWide_slice Try.underlying25 (hval 2 25 v2 rfl rfl)
  have k2 := h2
  have lt2 : ∀ x ∈ p2, x.block < W.heap.size := by obtain ⟨m, hm⟩ := k2; exact DataW.trod_lt m _ _ _ hm
  obtain ⟨z2, g2, l2, m2, w2⟩ := Go.Proofs.Ytclfimdafmoafaa.Nest.open_arg (Kd.slice 3 (Kd.int .i64)) (fun z : List Int => z.length ≤ maxLen ∧ ∀ x ∈ z, (fun z : Int => (Lit.int .i64 z).wf = true) x) (by kernel_rfl) (Go.Proofs.Ytclfimdafmoafaa.Nest.kind_slice (Kd.int .i64) (fun z : Int => (Lit.int .i64 z).wf = true) (by kernel_rfl) (Go.Proofs.Ytclfimdafmoafaa.Nest.kind_int Try.underlying3) Try.underlying24) Try.underlying25 h2
  obtain rfl : len2 = z2.length := g2.1.symm
  obtain ⟨a3, rfl, rfl, rfl, w3⟩ := open_int Try.underlying3 (hval 3 3 v3 rfl rfl) h3
  clear hA0 hval0 hsz0
  obtain ⟨k, h⟩ := PureP.TableRows z0 z1 z2 a3
  refine (P.formelaw26_TableRows.calls k _ _ z0 (fun k_ => k_ < W.heap.size) _ _ z1 (fun k_ => k_ < W.heap.size) _ _ z2 a3 true W g0 l0 (Kd.V_mk l1 (Kd.C_F (Kd.heap_slice 3 (Kd.heap_int .i64)) g1)) (Kd.V_mk l2 (Kd.C_F (Kd.heap_slice 3 (Kd.heap_int .i64)) g2)) h).mono fun e W' ⟨he, bel⟩ => ?_
  subst he
  exact ⟨_, rfl, _, _, _, [], _, [], hW', trodAll_mk1 (shut_bool Try.underlying4 _), (trodAll_cons_mk (Below.trod laidOut (by kernel_rfl) (of_decide_eq_true (by kernel_rfl)) k0 bel lt0) (trodAll_cons_mk (Below.trod laidOut (by kernel_rfl) (of_decide_eq_true (by kernel_rfl)) k1 bel lt1) (trodAll_cons_mk (Below.trod laidOut (by kernel_rfl) (of_decide_eq_true (by kernel_rfl)) k2 bel lt2) (trodAll_cons_mk (shut_int Try.underlying3 w3) trodAll_mk0)))), rfl, bel.frame _, fun h => by cases h⟩
theorem over : Rows.tableRowsRow.holds Try.pinned (OpenSpec.ofChange Rows.tableRowsSpec) :=
  OpenClaim.holds_of_wide 8 Try.f8 rfl rfl rfl rfl rfl rfl rfl ⟨rfl, rfl, rfl, rfl, rfl⟩ rfl rfl rfl rfl rfl (by kernel_rfl) Try.func8 (by kernel_rfl)
    (of_decide_eq_true (by kernel_rfl)) (by unfold Func.isWrapper; first | (rw [if_pos (by decide +kernel)]; kernel_rfl) | (rw [if_neg (by decide +kernel)]; exact ⟨rfl, rfl⟩))
    (fun os started H enc _ => lifted os started H enc)
theorem proved : Rows.TableRowsSaid := over
#print axioms proved
end Go.Proofs.Ytclfimdafmoafaa.tableRows
namespace Go.Proofs.Ytclfimdafmoafaa
/-- The row, under a short name, for the claim. -/
theorem tableRows_holds : Rows.TableRowsSaid := tableRows.proved
end Go.Proofs.Ytclfimdafmoafaa
