/- For every booklet: with as many more pages as there are empty ones, no page moves, and none is empty. Conditions: those of the statement alone. -/
import Derived.Test.YtbllpiboodlepaaPx13
import Derived.Test.YtbllpiboodlepaaHPures
set_option linter.unusedVariables false
set_option linter.unusedSimpArgs false
namespace Go.Proofs.Ytbllpiboodlepaa.Pure
open Go.RowKit Go.Proofs.Ytbllpiboodlepaa.P Go.Proofs.YtbllpiboodlepaaW.PrintWords Go.Proofs.YtbllpiboodlepaaW.PrintLast

theorem more_loop (n : Int) (K : Nat) (h0 : 0 ≤ n) (h1 : n ≤ 500) (hK : (K : Int) = (n + 3) / 4) : ∀ (d i : Nat), i + d = 2 * K →
    Ev (fun k => formelaw42_ImposeMore.l0 k n true (faces (4 * (K : Int)) K) (faces n K) ((faces n K).length : Int) (i : Int)) true
  | 0, i, h => Ev.step (fun k => rfl) (EvT.ifn (by rw [faces_length]; omega) (Ev.now _))
  | d + 1, i, h => by
    have hi : i < 2 * K := by omega
    have hl := faces_length n K
    have hl2 := faces_length (4 * (K : Int)) K
    have hw : wrap64 ((i : Int) + 1) = ((i + 1 : Nat) : Int) := EvT.w64 (by omega) (by omega)
    have IH := more_loop n K h0 h1 hK d (i + 1) (by omega)
    have hf := face_cases n K i
    have hg := face_cases (4 * (K : Int)) K i
    have hb : ((face (4 * (K : Int)) K i).f1 == (face n K i).f1) = true := by
      rcases hf with ⟨a, b, _⟩ | ⟨a, b, _⟩ <;> rcases hg with ⟨c, e, _⟩ | ⟨c, e, _⟩ <;> first | omega | (rw [b, e]; rfl)
    refine Ev.step (fun k => rfl) (EvT.ifp (by rw [hl]; omega) (EvT.ifp (by omega) (EvT.ifp (by rw [hl]; omega) (EvT.ifp (by rw [hl2]; omega) (EvT.ifp rfl ?_)))))
    rw [faces_get n K i hi, faces_get _ K i hi, hw]
    unfold clip at hf hg
    refine EvT.ifp (by omega) (EvT.ifp (by omega) (EvT.ifp (by omega) (EvT.ifp hb ?_)))
    refine EvT.ite (fun h2 => EvT.ite (fun h3 => IH) (fun h3 => EvT.ifp (by omega) ?_)) (fun h2 => EvT.ifp (by omega) (EvT.ifp (by omega) (EvT.ite (fun h3 => IH) (fun h3 => EvT.ifp (by omega) ?_))))
    · rw [decide_eq_true (show (face (4 * (K : Int)) K i).f3 > n by omega)]; exact IH
    · rw [decide_eq_true (show (face (4 * (K : Int)) K i).f3 > n by omega)]; exact IH
theorem ImposeMore : formelaw42_ImposeMore.Pure := fun a0 _ => Ev.rounds (begin_ev (g := fun k l b c => formelaw42_ImposeMore.j0 k a0 true l b c) a0
  (Ev.step (fun k => rfl) (Ev.now _))
  (fun K h0 h1 hK => EvT.lit (g := fun k c => formelaw42_ImposeMore.j0 k a0 true (faces a0 K) true c) false (fun c hc => Ev.step (fun k => rfl) (EvT.ifn (by rw [hc]; decide) (by
    have hl := faces_length a0 K
    rw [show wrap64 (2 * ((faces a0 K).length : Int)) = 4 * (K : Int) by rw [EvT.w64 (by omega) (by omega)]; omega]
    refine EvT.bindc (faces_f (4 * (K : Int)) K (by omega) (by omega) (by omega)) (EvT.ifp rfl ?_)
    rw [show (((faces (4 * (K : Int)) K).length : Int) != ((faces a0 K).length : Int)) = false by rw [faces_length, faces_length]; simp]
    exact Ev.step (fun k => rfl) (more_loop a0 K h0 h1 hK (2 * K) 0 (by omega)))))))
end Go.Proofs.Ytbllpiboodlepaa.Pure
