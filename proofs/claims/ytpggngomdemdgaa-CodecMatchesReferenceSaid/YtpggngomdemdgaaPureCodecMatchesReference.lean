/- For all lists, bytes and strings all functions return what the reference implementation returns (up to 300 integers, or more than 4000; up to 3000 bytes, or more than 200000; strings of up to 300 bytes, or more than 2000). Conditions: those of the statement alone. -/
import Derived.Test.YtpggngomdemdgaaPx8
import Derived.Test.YtpggngomdemdgaaHPure12
set_option linter.unusedVariables false
set_option linter.unusedSimpArgs false
namespace Go.Proofs.Ytpggngomdemdgaa.Pure
open Go.RowKit Go.Proofs.Ytpggngomdemdgaa.P Go.Proofs.YtpggngomdemdgaaW.PrintWords Go.Proofs.YtpggngomdemdgaaW.PrintLast Go.Codec
theorem m2 {b : List Int} (hb : ∀ x ∈ b, 0 ≤ x ∧ x ≤ 255) : ∀ q, q = true → Ev (fun k => formelaw05_CodecMatchesReference.j2 k b q) true := fun q hq => by
  obtain ⟨r, f1, f2, f3, f4⟩ := frames_both hb
  by_cases h : b.length ≤ 3000
  · obtain ⟨g, hg, hg2, hgl⟩ : ∃ g : List Int × Int, codec_Get.f b = some g ∧ Ev (fun k => formeref05_Get.f k b) g ∧ g.1.length ≤ 4000 := by
      have h1 := Get_f hb
      have h2 := RGet_ev hb (by omega)
      cases e : getL b with
      | none => rw [e] at h1 h2; exact ⟨_, h1, h2, by decide⟩
      | some l => rw [e] at h1 h2; exact ⟨_, h1, h2, (enc_getL hb e).2.1⟩
    refine Ev.step (fun k => rfl) (EvT.ifp (by omega) (EvT.bindc hg (Ev.bind hg2 (EvT.ifp hq (Ev.bind (Same_ev g.1 (by omega)) (EvT.ifp rfl ?_))))))
    refine Ev.bind f1 (Ev.bind f2 (EvT.ifp rfl (Ev.bind (SameL_ev r.1 f3 f4) (EvT.ifp rfl (EvT.ifp rfl ?_)))))
    rw [beq_self_eq_true]; exact Ev.now _
  · refine Ev.step (fun k => rfl) (EvT.ifn (by omega) (Ev.bind f1 (Ev.bind f2 (EvT.ifp hq (Ev.bind (SameL_ev r.1 f3 f4) (EvT.ifp rfl (EvT.ifp rfl ?_)))))))
    rw [beq_self_eq_true]; exact Ev.now _
theorem m1 {l b : List Int} {s : ByteArray} (hi : ∀ x ∈ l, i64 x) (hl : l.length ≤ 9223372036854775807) (hb : ∀ x ∈ b, 0 ≤ x ∧ x ≤ 255) : ∀ q, q = true → Ev (fun k => formelaw05_CodecMatchesReference.j1 k l b s q) true := fun q hq => by
  obtain ⟨t, t1, t2, t3⟩ := text_both s
  obtain ⟨r, r1, r2⟩ := read_both hi hl
  exact Ev.step (fun k => rfl) (EvT.bindc t1 (Ev.bind t2 (EvT.ifp hq (Ev.bind (Same_ev t.1 (by omega)) (EvT.ifp rfl (Ev.bind r1 (Ev.bind r2 (EvT.ifp rfl (EvT.ifp rfl (EvT.ifp rfl (m2 hb _ (beq_self_eq_true _))))))))))))
theorem m0 {l b : List Int} {s : ByteArray} (hi : ∀ x ∈ l, i64 x) (hl : l.length ≤ 9223372036854775807) (hb : ∀ x ∈ b, 0 ≤ x ∧ x ≤ 255) : ∀ q, Ev (fun k => formelaw05_CodecMatchesReference.j0 k l b s true q) true := fun q => by
  refine Ev.step (fun k => rfl) (EvT.ite (fun _ => Ev.now _) (fun _ => ?_))
  refine Ev.bind (PutAll_ev hi) (Ev.bind (RPut_ev hi) (EvT.ifp rfl (EvT.bindc (SameBytes_self _) (EvT.ifp rfl (Ev.bind (Frame_ev hi) (Ev.bind (RFrame_ev hi) (EvT.ifp rfl (EvT.bindc (SameBytes_self _) (EvT.ifp rfl (m1 hi hl hb _ (beq_self_eq_true _)))))))))))
theorem CodecMatchesReference : formelaw05_CodecMatchesReference.Pure := by
  intro l b s hl _ h0 _ _ h1 _
  have hi : ∀ x ∈ l, i64 x := fun x hx => wf_i64 (h0 x hx)
  have hb : ∀ x ∈ b, 0 ≤ x ∧ x ≤ 255 := fun x hx => wf_u8 (h1 x hx)
  have hJ := fun q => m0 (s := s) hi (by unfold maxLen at hl; omega) hb q
  refine Ev.rounds ?_
  unfold formelaw05_CodecMatchesReference.f
  refine Ev.bind head_ev (EvT.ifp rfl ?_)
  have hT : Ev (fun k => if (s.size : Int) > 300 then formelaw05_CodecMatchesReference.j0 k l b s true (decide ((s.size : Int) ≤ 2000)) else formelaw05_CodecMatchesReference.j0 k l b s true false) true := EvT.ite (fun _ => hJ _) (fun _ => hJ _)
  have hM : Ev (fun k => if (b.length : Int) > 3000 then (if (b.length : Int) ≤ 200000 then formelaw05_CodecMatchesReference.j0 k l b s true true else (if (s.size : Int) > 300 then formelaw05_CodecMatchesReference.j0 k l b s true (decide ((s.size : Int) ≤ 2000)) else formelaw05_CodecMatchesReference.j0 k l b s true false)) else (if (s.size : Int) > 300 then formelaw05_CodecMatchesReference.j0 k l b s true (decide ((s.size : Int) ≤ 2000)) else formelaw05_CodecMatchesReference.j0 k l b s true false)) true := EvT.ite (fun _ => EvT.ite (fun _ => hJ _) (fun _ => hT)) (fun _ => hT)
  exact EvT.ite (fun _ => EvT.ite (fun _ => hJ _) (fun _ => hM)) (fun _ => hM)
end Go.Proofs.Ytpggngomdemdgaa.Pure
