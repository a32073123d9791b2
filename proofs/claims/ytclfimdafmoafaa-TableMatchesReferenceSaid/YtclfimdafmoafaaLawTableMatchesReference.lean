import Derived.Test.YtclfimdafmoafaaRows
import Derived.Test.YtclfimdafmoafaaHNest
import Derived.Test.YtclfimdafmoafaaHStruct
import Derived.Test.YtclfimdafmoafaaWSized
import Derived.Test.YtclfimdafmoafaaPureTableMatchesReference
import Derived.WalkKit
import Derived.ProofKit
import Derived.OpenShut
import Derived.ShutString
import Derived.ChangeOld
import Derived.Below
import Derived.SizedLaws
namespace Go.Proofs.Ytclfimdafmoafaa.tableMatchesReference
open Go.ChangeShapes Go.WideShapes Go.ChangeAt Go.RowKit
open Go.Proofs.YtclfimdafmoafaaW.PrintWords Go.Proofs.YtclfimdafmoafaaW.PrintLast Go.Proofs.YtclfimdafmoafaaW.PrintMore
open Go.ChangeMaps (open_string shut_string)
set_option linter.unusedVariables false
theorem own : ownKnob Try.prog.godebug = none := by kernel_rfl
theorem laidOut : laidOutB Try.prog = true := by kernel_rfl
set_option maxRecDepth 100000 in
theorem lifted (os : Os) (started : os.Started) (H : Type) (enc : TypeId × Value → H) :
    ReturnsInHanded {} Try.checked os 3 .any (Rows.tableMatchesReferenceSpec.pre6 enc Try.prog Try.f3 Rows.tableMatchesReferenceRow.domain false) (Rows.tableMatchesReferenceSpec.post enc Try.prog Try.f3 false true false false) := by
  refine returnsInHanded_of_change_sized (C := Try.checked) own started (by kernel_rfl) Try.func3
    (ChangeSpec.witness6 (enc := enc) (C := Try.checked) false ⟨#[], #[.slice none 0 0, .slice none 0 0, .int .i64 0, .int .i64 0, .slice none 0 0, .slice none 0 0], []⟩ 8 (by kernel_rfl) (by kernel_rfl) (by kernel_rfl) (by kernel_rfl)) ?_
  intro W base args ds gs before hval0 hW hcnd hsz0 _
  have hval : ∀ (j : Nat) t v, Try.f3.params[j]? = some t → args[j]? = some v → Value.okWide Try.prog W .any base t v := hval0
  have hW' := hW
  obtain ⟨p, q, hA0, hV, rfl, hfz, hnd⟩ := hW
  have hA : DataW.TrodAll enc Try.prog W 0 (fun _ => true) true Try.f3.params.toList args.toList ds p := hA0
  rw [Try.params3] at hA hval
  obtain ⟨v0, vs0, d0, ds0, p0, q0, hargs, rfl, rfl, h0, r0⟩ := trodAll_cons hA
  obtain ⟨v1, vs1, d1, ds1, p1, q1, rfl, rfl, rfl, h1, r1⟩ := trodAll_cons r0
  obtain ⟨v2, vs2, d2, ds2, p2, q2, rfl, rfl, rfl, h2, r2⟩ := trodAll_cons r1
  obtain ⟨v3, vs3, d3, ds3, p3, q3, rfl, rfl, rfl, h3, r3⟩ := trodAll_cons r2
  obtain ⟨v4, vs4, d4, ds4, p4, q4, rfl, rfl, rfl, h4, r4⟩ := trodAll_cons r3
  obtain ⟨v5, vs5, d5, ds5, p5, q5, rfl, rfl, rfl, h5, r5⟩ := trodAll_cons r4
  obtain ⟨rfl, rfl, rfl⟩ := trodAll_nil r5
  obtain rfl : args = #[v0, v1, v2, v3, v4, v5] := by cases args; simp_all
  obtain ⟨rfl, rfl⟩ := trodVars_none hV
  obtain ⟨a0, len0, cap0, rfl⟩ := okWide_slice Try.underlying22 (hval 0 22 v0 rfl rfl)
  have k0 := h0
  have lt0 : ∀ x ∈ p0, x.block < W.heap.size := by obtain ⟨m, hm⟩ := k0; exact DataW.trod_lt m _ _ _ hm
  obtain ⟨z0, g0, l0, m0, w0⟩ := Go.Proofs.Ytclfimdafmoafaa.Nest.open_arg (Kd.slice 29 P.k29) (fun z : List P.S29 => z.length ≤ maxLen ∧ ∀ x ∈ z, (fun z : P.S29 => (Lit.int .i64 z.f0).wf = true ∧ (Lit.int .i64 z.f1).wf = true) x) (by kernel_rfl) (Go.Proofs.Ytclfimdafmoafaa.Nest.kind_slice P.k29 (fun z : P.S29 => (Lit.int .i64 z.f0).wf = true ∧ (Lit.int .i64 z.f1).wf = true) (by kernel_rfl) (by
    intro cs n y hy
    obtain ⟨ys, n', _, _, hl, hlen, hf⟩ := DataW.trod_struct Try.underlying29 hy
    replace hl : cs.length = 2 := hl.trans (by kernel_rfl)
    replace hlen : ys.length = 2 := hlen
    obtain ⟨x0, e0, g0⟩ := Go.Proofs.Ytclfimdafmoafaa.Str.int_field (hf 0 _ rfl) (by omega) Try.underlying3 (by kernel_rfl)
    obtain ⟨x1, e1, g1⟩ := Go.Proofs.Ytclfimdafmoafaa.Str.int_field (hf 1 _ rfl) (by omega) Try.underlying3 (by kernel_rfl)
    match cs, hl with
    | [c0, c1], _ =>
      simp at e0
      simp at e1
      subst e0 e1
      exact ⟨⟨x0, x1⟩, P.k29_mk W _, ⟨g0, g1⟩⟩) Try.underlying23) Try.underlying22 h0
  obtain rfl : len0 = z0.length := g0.1.symm
  obtain ⟨a1, len1, cap1, rfl⟩ := okWide_slice Try.underlying23 (hval 1 23 v1 rfl rfl)
  have k1 := h1
  have lt1 : ∀ x ∈ p1, x.block < W.heap.size := by obtain ⟨m, hm⟩ := k1; exact DataW.trod_lt m _ _ _ hm
  obtain ⟨z1, g1, l1, m1, w1⟩ := Go.Proofs.Ytclfimdafmoafaa.Nest.open_arg P.k29 (fun z : P.S29 => (Lit.int .i64 z.f0).wf = true ∧ (Lit.int .i64 z.f1).wf = true) (by kernel_rfl) (by
    intro cs n y hy
    obtain ⟨ys, n', _, _, hl, hlen, hf⟩ := DataW.trod_struct Try.underlying29 hy
    replace hl : cs.length = 2 := hl.trans (by kernel_rfl)
    replace hlen : ys.length = 2 := hlen
    obtain ⟨x0, e0, g0⟩ := Go.Proofs.Ytclfimdafmoafaa.Str.int_field (hf 0 _ rfl) (by omega) Try.underlying3 (by kernel_rfl)
    obtain ⟨x1, e1, g1⟩ := Go.Proofs.Ytclfimdafmoafaa.Str.int_field (hf 1 _ rfl) (by omega) Try.underlying3 (by kernel_rfl)
    match cs, hl with
    | [c0, c1], _ =>
      simp at e0
      simp at e1
      subst e0 e1
      exact ⟨⟨x0, x1⟩, P.k29_mk W _, ⟨g0, g1⟩⟩) Try.underlying23 h1
  obtain rfl : len1 = z1.length := g1.1.symm
  obtain ⟨a2, rfl, rfl, rfl, w2⟩ := open_int Try.underlying3 (hval 2 3 v2 rfl rfl) h2
  obtain ⟨a3, rfl, rfl, rfl, w3⟩ := open_int Try.underlying3 (hval 3 3 v3 rfl rfl) h3
  obtain ⟨a4, len4, cap4, rfl⟩ := okWide_slice Try.underlying24 (hval 4 24 v4 rfl rfl)
  have k4 := h4
  have lt4 : ∀ x ∈ p4, x.block < W.heap.size := by obtain ⟨m, hm⟩ := k4; exact DataW.trod_lt m _ _ _ hm
  obtain ⟨z4, g4, l4, m4, w4⟩ := Go.Proofs.Ytclfimdafmoafaa.Nest.open_arg (Kd.int .i64) (fun z : Int => (Lit.int .i64 z).wf = true) (by kernel_rfl) (Go.Proofs.Ytclfimdafmoafaa.Nest.kind_int Try.underlying3) Try.underlying24 h4
  obtain rfl : len4 = z4.length := g4.1.symm
  obtain ⟨a5, len5, cap5, rfl⟩ := okWide_slice Try.underlying25 (hval 5 25 v5 rfl rfl)
  have k5 := h5
  have lt5 : ∀ x ∈ p5, x.block < W.heap.size := by obtain ⟨m, hm⟩ := k5; exact DataW.trod_lt m _ _ _ hm
  obtain ⟨z5, g5, l5, m5, w5⟩ := Go.Proofs.Ytclfimdafmoafaa.Nest.open_arg (Kd.slice 3 (Kd.int .i64)) (fun z : List Int => z.length ≤ maxLen ∧ ∀ x ∈ z, (fun z : Int => (Lit.int .i64 z).wf = true) x) (by kernel_rfl) (Go.Proofs.Ytclfimdafmoafaa.Nest.kind_slice (Kd.int .i64) (fun z : Int => (Lit.int .i64 z).wf = true) (by kernel_rfl) (Go.Proofs.Ytclfimdafmoafaa.Nest.kind_int Try.underlying3) Try.underlying24) Try.underlying25 h5
  obtain rfl : len5 = z5.length := g5.1.symm
  clear hA0 hval0 hsz0
  obtain ⟨k, h⟩ := PureP.TableMatchesReference z0 z1 a2 a3 z4 z5
  refine (P.formelaw26_TableMatchesReference.calls k _ _ z0 _ _ z1 a2 a3 _ _ z4 _ _ z5 true W g0 l0 g1 l1 g4 l4 g5 l5 h).mono fun e W' ⟨he, bel⟩ => ?_
  subst he
  exact ⟨_, rfl, _, _, _, [], _, [], hW', trodAll_mk1 (shut_bool Try.underlying4 _), (trodAll_cons_mk (Below.trod laidOut (by kernel_rfl) (of_decide_eq_true (by kernel_rfl)) k0 bel lt0) (trodAll_cons_mk (Below.trod laidOut (by kernel_rfl) (of_decide_eq_true (by kernel_rfl)) k1 bel lt1) (trodAll_cons_mk (shut_int Try.underlying3 w2) (trodAll_cons_mk (shut_int Try.underlying3 w3) (trodAll_cons_mk (Below.trod laidOut (by kernel_rfl) (of_decide_eq_true (by kernel_rfl)) k4 bel lt4) (trodAll_cons_mk (Below.trod laidOut (by kernel_rfl) (of_decide_eq_true (by kernel_rfl)) k5 bel lt5) trodAll_mk0)))))), rfl, bel.frame _, fun h => by cases h⟩
theorem over : Rows.tableMatchesReferenceRow.holds Try.pinned (OpenSpec.ofChange Rows.tableMatchesReferenceSpec) :=
  OpenClaim.holds_of_wide 3 Try.f3 rfl rfl rfl rfl rfl rfl rfl ⟨rfl, rfl, rfl, rfl, rfl⟩ rfl rfl rfl rfl rfl (by kernel_rfl) Try.func3 (by kernel_rfl)
    (of_decide_eq_true (by kernel_rfl)) (by unfold Func.isWrapper; first | (rw [if_pos (by decide +kernel)]; kernel_rfl) | (rw [if_neg (by decide +kernel)]; exact ⟨rfl, rfl⟩))
    (fun os started H enc _ => lifted os started H enc)
theorem proved : Rows.TableMatchesReferenceSaid := over
#print axioms proved
end Go.Proofs.Ytclfimdafmoafaa.tableMatchesReference
namespace Go.Proofs.Ytclfimdafmoafaa
/-- The row, under a short name, for the claim. -/
theorem tableMatchesReference_holds : Rows.TableMatchesReferenceSaid := tableMatchesReference.proved
end Go.Proofs.Ytclfimdafmoafaa
