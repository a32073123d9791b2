/- For any lists and integers, valid or not, both functions return what the reference implementation returns (up to 70 elements). Conditions: those of the statement alone. -/
import Derived.Test.YtdnhjkldhdolpaaPx7
import Derived.Test.YtdnhjkldhdolpaaHRowP3
set_option linter.unusedVariables false
set_option linter.unusedSimpArgs false
namespace Go.Proofs.Ytdnhjkldhdolpaa.Pure
open Go.RowKit Go.Proofs.Ytdnhjkldhdolpaa.P Go.Proofs.YtdnhjkldhdolpaaW.PrintWords Go.Proofs.YtdnhjkldhdolpaaW.PrintLast

theorem RowMatchesReference : formelaw25_RowMatchesReference.Pure := fun l0 l1 a2 a3 a4 _ _ _ _ _ _ _ _ _ => Ev.rounds (Ev.bind head_ev (EvT.ifp rfl (Ev.bind (few_ev [l0, l1] (by simp)) (EvT.ite (fun h => by
  have hl : l0.length ≤ 70 ∧ l1.length ≤ 70 := by simpa using h
  obtain ⟨r, hr, e1, e2⟩ : ∃ r : List Int × Int, r.1.length ≤ 100000 ∧ Ev (fun k => row_Widths.f k l0 l1 a2 a3) r ∧ Ev (fun k => formeref25_Widths.f k l0 l1 a2 a3) r := by
    by_cases he : l0.length = l1.length
    · obtain ⟨r, _, h1, h2, h3⟩ := widths_ev l0 l1 a2 a3 (by omega) he
      exact ⟨r, h1, h2, h3⟩
    · exact ⟨_, by simp, (widths_no l0 l1 a2 a3 he).1, (widths_no l0 l1 a2 a3 he).2⟩
  obtain ⟨P, p1, p2, p3, p4⟩ := place_same l0 l1 a3 a4 a2 (by omega) (by omega)
  refine Ev.bind e1 (Ev.bind e2 (Ev.bind (same_ev r.1 (by omega)) (EvT.ifp rfl (EvT.bindc p1 (Ev.bind p2 (EvT.ifp rfl (Ev.bind (boxes_ev P.1 p4 p3) (EvT.ifp rfl (EvT.ifp rfl (EvT.now ?_))))))))))
  simp) (fun _ => Ev.now _)))))
end Go.Proofs.Ytdnhjkldhdolpaa.Pure
