import Derived.Test.YtphdjlfnlcapcaaRows
import Derived.Test.YtphdjlfnlcapcaaHNest
import Derived.Test.YtphdjlfnlcapcaaHStruct
import Derived.Test.YtphdjlfnlcapcaaWSized
import Derived.Test.YtphdjlfnlcapcaaPureMarginsParts
import Derived.WalkKit
import Derived.ProofKit
import Derived.OpenShut
import Derived.ShutString
import Derived.ChangeOld
import Derived.Below
import Derived.SizedLaws
namespace Go.Proofs.Ytphdjlfnlcapcaa.marginsParts
open Go.ChangeShapes Go.WideShapes Go.ChangeAt Go.RowKit
open Go.Proofs.YtphdjlfnlcapcaaW.PrintWords Go.Proofs.YtphdjlfnlcapcaaW.PrintLast Go.Proofs.YtphdjlfnlcapcaaW.PrintMore
open Go.ChangeMaps (open_string shut_string)
set_option linter.unusedVariables false
theorem own : ownKnob Try.prog.godebug = none := by kernel_rfl
theorem laidOut : laidOutB Try.prog = true := by kernel_rfl
set_option maxRecDepth 100000 in
theorem lifted (os : Os) (started : os.Started) (H : Type) (enc : TypeId × Value → H) :
    ReturnsInHanded {} Try.checked os 8 .any (Rows.marginsPartsSpec.pre6 enc Try.prog Try.f8 Rows.marginsPartsRow.domain false) (Rows.marginsPartsSpec.post enc Try.prog Try.f8 false true false false) := by
  refine returnsInHanded_of_change_sized (C := Try.checked) own started (by kernel_rfl) Try.func8
    (ChangeSpec.witness6 (enc := enc) (C := Try.checked) false ⟨#[], #[.slice none 0 0, .slice none 0 0, .int .u16 0], []⟩ 8 (by kernel_rfl) (by kernel_rfl) (by kernel_rfl) (by kernel_rfl)) ?_
  intro W base args ds gs before hval0 hW hcnd hsz0 _
  have hval : ∀ (j : Nat) t v, Try.f8.params[j]? = some t → args[j]? = some v → Value.okWide Try.prog W .any base t v := hval0
  have hW' := hW
  obtain ⟨p, q, hA0, hV, rfl, hfz, hnd⟩ := hW
  have hA : DataW.TrodAll enc Try.prog W 0 (fun _ => true) true Try.f8.params.toList args.toList ds p := hA0
  rw [Try.params8] at hA hval
  obtain ⟨v0, vs0, d0, ds0, p0, q0, hargs, rfl, rfl, h0, r0⟩ := trodAll_cons hA
  obtain ⟨v1, vs1, d1, ds1, p1, q1, rfl, rfl, rfl, h1, r1⟩ := trodAll_cons r0
  obtain ⟨v2, vs2, d2, ds2, p2, q2, rfl, rfl, rfl, h2, r2⟩ := trodAll_cons r1
  obtain ⟨rfl, rfl, rfl⟩ := trodAll_nil r2
  obtain rfl : args = #[v0, v1, v2] := by cases args; simp_all
  obtain ⟨rfl, rfl⟩ := trodVars_none hV
  obtain ⟨a0, len0, cap0, rfl⟩ := okWide_slice Try.underlying23 (hval 0 23 v0 rfl rfl)
  have k0 := h0
  have lt0 : ∀ x ∈ p0, x.block < W.heap.size := by obtain ⟨m, hm⟩ := k0; exact DataW.trod_lt m _ _ _ hm
  obtain ⟨z0, g0, l0, m0, w0⟩ := Go.Proofs.Ytphdjlfnlcapcaa.Nest.open_arg P.k39 (fun z : P.S39 => (Lit.int .i64 z.f0).wf = true ∧ (Lit.int .i64 z.f1).wf = true ∧ (Lit.int .i64 z.f2).wf = true) (by kernel_rfl) (by
    intro cs n y hy
    obtain ⟨ys, n', _, _, hl, hlen, hf⟩ := DataW.trod_struct Try.underlying39 hy
    replace hl : cs.length = 3 := hl.trans (by kernel_rfl)
    replace hlen : ys.length = 3 := hlen
    obtain ⟨x0, e0, g0⟩ := Go.Proofs.Ytphdjlfnlcapcaa.Str.int_field (hf 0 _ rfl) (by omega) Try.underlying3 (by kernel_rfl)
    obtain ⟨x1, e1, g1⟩ := Go.Proofs.Ytphdjlfnlcapcaa.Str.int_field (hf 1 _ rfl) (by omega) Try.underlying3 (by kernel_rfl)
    obtain ⟨x2, e2, g2⟩ := Go.Proofs.Ytphdjlfnlcapcaa.Str.int_field (hf 2 _ rfl) (by omega) Try.underlying3 (by kernel_rfl)
    match cs, hl with
    | [c0, c1, c2], _ =>
      simp at e0
      simp at e1
      simp at e2
      subst e0 e1 e2
      exact ⟨⟨x0, x1, x2⟩, P.k39_mk W _, ⟨g0, g1, g2⟩⟩) Try.underlying23 h0
  obtain rfl : len0 = z0.length := g0.1.symm
  obtain ⟨a1, len1, cap1, rfl⟩ := okWide_slice Try.underlying23 (hval 1 23 v1 rfl rfl)
  have k1 := h1
  have lt1 : ∀ x ∈ p1, x.block < W.heap.size := by obtain ⟨m, hm⟩ := k1; exact DataW.trod_lt m _ _ _ hm
  obtain ⟨z1, g1, l1, m1, w1⟩ := Go.Proofs.Ytphdjlfnlcapcaa.Nest.open_arg P.k39 (fun z : P.S39 => (Lit.int .i64 z.f0).wf = true ∧ (Lit.int .i64 z.f1).wf = true ∧ (Lit.int .i64 z.f2).wf = true) (by kernel_rfl) (by
    intro cs n y hy
    obtain ⟨ys, n', _, _, hl, hlen, hf⟩ := DataW.trod_struct Try.underlying39 hy
    replace hl : cs.length = 3 := hl.trans (by kernel_rfl)
    replace hlen : ys.length = 3 := hlen
    obtain ⟨x0, e0, g0⟩ := Go.Proofs.Ytphdjlfnlcapcaa.Str.int_field (hf 0 _ rfl) (by omega) Try.underlying3 (by kernel_rfl)
    obtain ⟨x1, e1, g1⟩ := Go.Proofs.Ytphdjlfnlcapcaa.Str.int_field (hf 1 _ rfl) (by omega) Try.underlying3 (by kernel_rfl)
    obtain ⟨x2, e2, g2⟩ := Go.Proofs.Ytphdjlfnlcapcaa.Str.int_field (hf 2 _ rfl) (by omega) Try.underlying3 (by kernel_rfl)
    match cs, hl with
    | [c0, c1, c2], _ =>
      simp at e0
      simp at e1
      simp at e2
      subst e0 e1 e2
      exact ⟨⟨x0, x1, x2⟩, P.k39_mk W _, ⟨g0, g1, g2⟩⟩) Try.underlying23 h1
  obtain rfl : len1 = z1.length := g1.1.symm
  obtain ⟨a2, rfl, rfl, rfl, w2⟩ := open_int Try.underlying35 (hval 2 35 v2 rfl rfl) h2
  clear hA0 hval0 hsz0
  refine (PureM.MarginsParts _ _ z0 _ _ z1 a2 (PureM.u16_bd w2) W g0 l0 g1 l1).mono fun e W' ⟨he, bel⟩ => ?_
  subst he
  exact ⟨_, rfl, _, _, _, [], _, [], hW', trodAll_mk1 (shut_bool Try.underlying4 _), (trodAll_cons_mk (Below.trod laidOut (by kernel_rfl) (of_decide_eq_true (by kernel_rfl)) k0 bel lt0) (trodAll_cons_mk (Below.trod laidOut (by kernel_rfl) (of_decide_eq_true (by kernel_rfl)) k1 bel lt1) (trodAll_cons_mk (shut_int Try.underlying35 w2) trodAll_mk0))), rfl, bel.frame _, fun h => by cases h⟩
theorem over : Rows.marginsPartsRow.holds Try.pinned (OpenSpec.ofChange Rows.marginsPartsSpec) :=
  OpenClaim.holds_of_wide 8 Try.f8 rfl rfl rfl rfl rfl rfl rfl ⟨rfl, rfl, rfl, rfl, rfl⟩ rfl rfl rfl rfl rfl (by kernel_rfl) Try.func8 (by kernel_rfl)
    (of_decide_eq_true (by kernel_rfl)) (by unfold Func.isWrapper; first | (rw [if_pos (by decide +kernel)]; kernel_rfl) | (rw [if_neg (by decide +kernel)]; exact ⟨rfl, rfl⟩))
    (fun os started H enc _ => lifted os started H enc)
theorem proved : Rows.MarginsPartsSaid := over
#print axioms proved
end Go.Proofs.Ytphdjlfnlcapcaa.marginsParts
namespace Go.Proofs.Ytphdjlfnlcapcaa
/-- The row, under a short name, for the claim. -/
theorem marginsParts_holds : Rows.MarginsPartsSaid := marginsParts.proved
end Go.Proofs.Ytphdjlfnlcapcaa
