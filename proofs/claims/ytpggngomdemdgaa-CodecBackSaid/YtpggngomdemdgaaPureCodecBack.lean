/- The bytes of a list are read as this list, and what bytes are read as has these bytes (package codec alone; up to 300 integers and 3000 bytes). Conditions: those of the statement alone. -/
import Derived.Test.YtpggngomdemdgaaPx9
import Derived.Test.YtpggngomdemdgaaHPure2
set_option linter.unusedVariables false
set_option linter.unusedSimpArgs false
namespace Go.Proofs.Ytpggngomdemdgaa.Pure
open Go.RowKit Go.Proofs.Ytpggngomdemdgaa.P Go.Proofs.YtpggngomdemdgaaW.PrintWords Go.Proofs.YtpggngomdemdgaaW.PrintLast Go.Codec
theorem back1 {l1 : List Int} (hb : ∀ x ∈ l1, 0 ≤ x ∧ x ≤ 255) : ∀ q, q = false → Ev (fun k => formelaw05_CodecBack.j1 k l1 true q) true
  | q, hq => by
    refine Ev.step (fun k => rfl) (EvT.ifn (by rw [hq]; decide) ?_)
    cases hg : getL l1 with
    | none =>
      refine EvT.bindc (by rw [Get_f hb, hg]) (EvT.ifn (by decide) (EvT.ifp rfl (EvT.ifp rfl (Ev.now _))))
    | some l =>
      obtain ⟨he, hl, hi⟩ := enc_getL hb hg
      refine EvT.bindc (by rw [Get_f hb, hg]) (EvT.ifp rfl (Ev.bind (Put_ev hi hl) (EvT.ifp rfl (EvT.ifp rfl ?_))))
      refine EvT.bindc (x := true) (by rw [he]; exact SameBytes_self l1) (Ev.now _)
theorem back0 {l0 l1 : List Int} (hi : ∀ x ∈ l0, i64 x) (hl : l0.length ≤ 300) (hb : ∀ x ∈ l1, 0 ≤ x ∧ x ≤ 255) : ∀ q, Ev (fun k => formelaw05_CodecBack.j0 k l0 l1 true q) true := fun q => by
    have hg : getL (enc l0) = some l0 := by
      have := getL_enc hi (by omega) []
      rw [List.append_nil] at this
      rw [this]; rfl
    refine Ev.step (fun k => rfl) (EvT.ite (fun _ => Ev.now _) (fun _ => Ev.bind (Put_ev hi (by omega)) ?_))
    refine EvT.bindc (by rw [Get_f (enc_byte hi (by omega)), hg]) (EvT.ifp rfl (EvT.ifp rfl (Ev.bind (Same_ev l0 (by omega)) ?_)))
    exact back1 hb _ rfl
theorem CodecBack : formelaw05_CodecBack.Pure := by
  intro l0 l1 _ _ h0 _ _ h1
  refine Ev.rounds ?_
  unfold formelaw05_CodecBack.f
  refine Ev.bind head_ev (EvT.ifp rfl (EvT.ite (fun h => ?_) (fun h => ?_)))
  · have hJ : ∀ q, q = true → Ev (fun k => formelaw05_CodecBack.j0 k l0 l1 true q) true := fun q hq => Ev.step (fun k => rfl) (EvT.ifp hq (Ev.now _))
    exact hJ _ rfl
  · exact back0 (fun x hx => wf_i64 (h0 x hx)) (by omega) (fun x hx => wf_u8 (h1 x hx)) _
end Go.Proofs.Ytpggngomdemdgaa.Pure
