import Derived.Test.YtclfimdafmoafaaRows
import Derived.Test.YtclfimdafmoafaaHNest
import Derived.Test.YtclfimdafmoafaaHStruct
import Derived.Test.YtclfimdafmoafaaWSized
import Derived.Test.YtclfimdafmoafaaPureTableNeeds
import Derived.WalkKit
import Derived.ProofKit
import Derived.OpenShut
import Derived.ShutString
import Derived.ChangeOld
import Derived.Below
import Derived.SizedLaws
namespace Go.Proofs.Ytclfimdafmoafaa.tableNeeds
open Go.ChangeShapes Go.WideShapes Go.ChangeAt Go.RowKit
open Go.Proofs.YtclfimdafmoafaaW.PrintWords Go.Proofs.YtclfimdafmoafaaW.PrintLast Go.Proofs.YtclfimdafmoafaaW.PrintMore
open Go.ChangeMaps (open_string shut_string)
set_option linter.unusedVariables false
theorem own : ownKnob Try.prog.godebug = none := by kernel_rfl
theorem laidOut : laidOutB Try.prog = true := by kernel_rfl
set_option maxRecDepth 100000 in
theorem lifted (os : Os) (started : os.Started) (H : Type) (enc : TypeId × Value → H) :
    ReturnsInHanded {} Try.checked os 4 .any (Rows.tableNeedsSpec.pre6 enc Try.prog Try.f4 Rows.tableNeedsRow.domain false) (Rows.tableNeedsSpec.post enc Try.prog Try.f4 false true false false) := by
  refine returnsInHanded_of_change_sized (C := Try.checked) own started (by kernel_rfl) Try.func4
    (ChangeSpec.witness6 (enc := enc) (C := Try.checked) false ⟨#[], #[.slice none 0 0], []⟩ 8 (by kernel_rfl) (by kernel_rfl) (by kernel_rfl) (by kernel_rfl)) ?_
  intro W base args ds gs before hval0 hW hcnd hsz0 _
  have hval : ∀ (j : Nat) t v, Try.f4.params[j]? = some t → args[j]? = some v → Value.okWide Try.prog W .any base t v := hval0
  have hW' := hW
  obtain ⟨p, q, hA0, hV, rfl, hfz, hnd⟩ := hW
  have hA : DataW.TrodAll enc Try.prog W 0 (fun _ => true) true Try.f4.params.toList args.toList ds p := hA0
  rw [Try.params4] at hA hval
  obtain ⟨v0, vs0, d0, ds0, p0, q0, hargs, rfl, rfl, h0, r0⟩ := trodAll_cons hA
  obtain ⟨rfl, rfl, rfl⟩ := trodAll_nil r0
  obtain rfl : args = #[v0] := by cases args; simp_all
  obtain ⟨rfl, rfl⟩ := trodVars_none hV
  obtain ⟨a0, len0, cap0, rfl⟩ := okWide_slice Try.underlying22 (hval 0 22 v0 rfl rfl)
  have k0 := h0
  have lt0 : ∀ x ∈ p0, x.block < W.heap.size := by obtain ⟨m, hm⟩ := k0; exact DataW.trod_lt m _ _ _ hm
  obtain ⟨z0, g0, l0, m0, w0⟩ := Go.Proofs.Ytclfimdafmoafaa.Nest.open_arg (Kd.slice 29 P.k29) (fun z : List P.S29 => z.length ≤ maxLen ∧ ∀ x ∈ z, (fun z : P.S29 => (Lit.int .i64 z.f0).wf = true ∧ (Lit.int .i64 z.f1).wf = true) x) (by kernel_rfl) (Go.Proofs.Ytclfimdafmoafaa.Nest.kind_slice P.k29 (fun z : P.S29 => (Lit.int .i64 z.f0).wf = true ∧ (Lit.int .i64 z.f1).wf = true) (by kernel_rfl) (by
    intro cs n y hy
    obtain ⟨ys, n', _, _, hl, hlen, hf⟩ := DataW.trod_struct Try.underlying29 hy
    replace hl : cs.length = 2 := hl.trans (by kernel_rfl)
    replace hlen : ys.length = 2 := hlen
    obtain ⟨x0, e0, g0⟩ := Go.Proofs.Ytclfimdafmoafaa.Str.int_field (hf 0 _ rfl) (by omega) Try.underlying3 (by kernel_rfl)
    obtain ⟨x1, e1, g1⟩ := Go.Proofs.Ytclfimdafmoafaa.Str.int_field (hf 1 _ rfl) (by omega) Try.underlying3 (by kernel_rfl)
    match cs, hl with
    | [c0, c1], _ =>
      simp at e0
      simp at e1
      subst e0 e1
      exact ⟨⟨x0, x1⟩, P.k29_mk W _, ⟨g0, g1⟩⟩) Try.underlying23) Try.underlying22 h0
  obtain rfl : len0 = z0.length := g0.1.symm
  clear hA0 hval0 hsz0
  obtain ⟨k, h⟩ := PureN.TableNeeds z0
  refine (P.formelaw26_TableNeeds.calls k (fun k_ => k_ < W.heap.size) _ _ z0 true W (Kd.V_mk l0 (Kd.C_F (Kd.heap_slice 29 (Kd.heap_iso _ (Kd.heap_pair (Kd.heap_int .i64) (Kd.heap_int .i64)))) g0)) h).mono fun e W' ⟨he, bel⟩ => ?_
  subst he
  exact ⟨_, rfl, _, _, _, [], _, [], hW', trodAll_mk1 (shut_bool Try.underlying4 _), (trodAll_cons_mk (Below.trod laidOut (by kernel_rfl) (of_decide_eq_true (by kernel_rfl)) k0 bel lt0) trodAll_mk0), rfl, bel.frame _, fun h => by cases h⟩
theorem over : Rows.tableNeedsRow.holds Try.pinned (OpenSpec.ofChange Rows.tableNeedsSpec) :=
  OpenClaim.holds_of_wide 4 Try.f4 rfl rfl rfl rfl rfl rfl rfl ⟨rfl, rfl, rfl, rfl, rfl⟩ rfl rfl rfl rfl rfl (by kernel_rfl) Try.func4 (by kernel_rfl)
    (of_decide_eq_true (by kernel_rfl)) (by unfold Func.isWrapper; first | (rw [if_pos (by decide +kernel)]; kernel_rfl) | (rw [if_neg (by decide +kernel)]; exact ⟨rfl, rfl⟩))
    (fun os started H enc _ => lifted os started H enc)
theorem proved : Rows.TableNeedsSaid := over
#print axioms proved
end Go.Proofs.Ytclfimdafmoafaa.tableNeeds
namespace Go.Proofs.Ytclfimdafmoafaa
/-- The row, under a short name, for the claim. -/
theorem tableNeeds_holds : Rows.TableNeedsSaid := tableNeeds.proved
end Go.Proofs.Ytclfimdafmoafaa
