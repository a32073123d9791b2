/- The bytes of a list, with anything behind them or without some of their last ones, are not read as any list (package codec alone; up to 300 integers). Conditions: those of the statement alone. -/
import Derived.Test.YtpggngomdemdgaaPx14
import Derived.Test.YtpggngomdemdgaaHPure2
set_option linter.unusedVariables false
set_option linter.unusedSimpArgs false
namespace Go.Proofs.Ytpggngomdemdgaa.Pure
open Go.RowKit Go.Proofs.Ytpggngomdemdgaa.P Go.Proofs.YtpggngomdemdgaaW.PrintWords Go.Proofs.YtpggngomdemdgaaW.PrintLast Go.Codec
/-- The first bytes of a list's bytes are no list's. -/
theorem prefix_none {l : List Int} (hi : ∀ x ∈ l, i64 x) (hl : l.length ≤ 300) {m : Nat} (hm : m < (enc l).length) : getL ((enc l).take m) = none := by
  cases hg : getL ((enc l).take m) with
  | none => rfl
  | some l' =>
    have hb : ∀ x ∈ (enc l).take m, 0 ≤ x ∧ x ≤ 255 := fun x hx => enc_byte hi (by omega) x (List.take_subset _ _ hx)
    obtain ⟨he, hl', hi'⟩ := enc_getL hb hg
    have h1 := getL_enc hi' hl' ((enc l).drop m)
    rw [he, List.take_append_drop, if_neg (by intro h; have := congrArg List.length h; simp at this; omega)] at h1
    have h2 := getL_enc hi (by omega) []
    rw [List.append_nil, if_pos rfl, h1] at h2
    cases h2
theorem pre1 {l0 l1 : List Int} {a2 : Int} (hi : ∀ x ∈ l0, i64 x) (hl : l0.length ≤ 300) (hb : ∀ x ∈ l1, 0 ≤ x ∧ x ≤ 255) (h1 : l1 ≠ []) (hl1 : l1.length ≤ 300) (ha : 0 ≤ a2 ∧ a2 ≤ 65535) :
    ∀ q, q = false → Ev (fun k => formelaw05_CodecPrefixes.j1 k l1 a2 true (enc l0) q) true := fun q hq => by
  have hle := enc_len l0
  have hpos : 0 < (enc l0).length := enc_pos l0
  have hbe := enc_byte hi (show l0.length ≤ 4000 by omega)
  have hw : wrap64 a2 = a2 := EvT.w64 (by omega) (by omega)
  have hm0 : 0 ≤ Int.tmod (wrap64 a2) ((enc l0).length : Int) := by rw [hw]; exact Int.tmod_nonneg _ ha.1
  have hm1 : Int.tmod (wrap64 a2) ((enc l0).length : Int) < ((enc l0).length : Int) := by rw [hw]; exact Int.tmod_lt_of_pos _ (by omega)
  have hg1 : getL (([] ++ enc l0) ++ l1) = none := by rw [List.nil_append, getL_enc hi (by omega) l1, if_neg h1]
  have hg2 : getL ((enc l0).take (Int.tmod (wrap64 a2) ((enc l0).length : Int)).toNat) = none := prefix_none hi hl (by omega)
  refine Ev.step (fun k => rfl) (EvT.ifn (by rw [hq]; decide) ?_)
  refine EvT.bindc rfl (EvT.ifp (by simp; omega) (EvT.bindc rfl (EvT.ifp (by simp; omega) ?_)))
  refine EvT.bindc (by rw [Get_f (by
    intro x hx
    rcases List.mem_append.1 hx with h | h
    · exact hbe x (by simpa using h)
    · exact hb x h), hg1]) (EvT.ifn (by omega) (EvT.ifp hm0 (EvT.ifp (by omega) ?_)))
  exact EvT.bindc (by rw [Get_f (fun x hx => hbe x (List.take_subset _ _ hx)), hg2]) (EvT.ifp rfl (EvT.ifp rfl (Ev.now _)))
theorem CodecPrefixes : formelaw05_CodecPrefixes.Pure := by
  intro l0 l1 a2 _ _ h0 _ _ h1 h2
  have hi : ∀ x ∈ l0, i64 x := fun x hx => wf_i64 (h0 x hx)
  have hb : ∀ x ∈ l1, 0 ≤ x ∧ x ≤ 255 := fun x hx => wf_u8 (h1 x hx)
  have ha : 0 ≤ a2 ∧ a2 ≤ 65535 := by
    have m1 : IntKind.u16.min = 0 := by decide
    have m2 : IntKind.u16.max = 65535 := by decide
    simp [Lit.wf, m1, m2] at h2
    omega
  have hJ : ∀ q, q = true → Ev (fun k => formelaw05_CodecPrefixes.j0 k l0 l1 a2 true q) true := fun q hq => Ev.step (fun k => rfl) (EvT.ifp hq (Ev.now _))
  refine Ev.rounds ?_
  unfold formelaw05_CodecPrefixes.f
  refine Ev.bind head_ev (EvT.ifp rfl (EvT.ite (fun h => hJ _ rfl) (fun h => EvT.ite (fun h => hJ _ rfl) (fun hn => ?_))))
  have hM : ∀ q, decide ((l1.length : Int) > 300) = q → Ev (fun k => formelaw05_CodecPrefixes.j0 k l0 l1 a2 true q) true := fun q hq =>
    Ev.step (fun k => rfl) (EvT.ite (fun _ => Ev.now _) (fun hf => Ev.bind (Put_ev hi (by omega)) (EvT.ifp rfl (pre1 hi (by omega) hb (by intro e; subst e; exact hn rfl) (by
      have : ¬ (l1.length : Int) > 300 := fun hgt => hf (hq.symm.trans (decide_eq_true hgt))
      omega) ha _ (by
      have := enc_pos l0
      exact beq_eq_false_iff_ne.2 (show ((enc l0).length : Int) ≠ 0 by omega))))))
  exact hM _ rfl
end Go.Proofs.Ytpggngomdemdgaa.Pure
