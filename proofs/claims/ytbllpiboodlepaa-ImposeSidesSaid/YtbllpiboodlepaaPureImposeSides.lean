/- For every booklet: both pages of a face are together 1 more than 4 times the number of sheets, if none is empty; a face with an empty page is one of the outer two sheets. Conditions: those of the statement alone. -/
import Derived.Test.YtbllpiboodlepaaPx11
import Derived.Test.YtbllpiboodlepaaHPures
set_option linter.unusedVariables false
set_option linter.unusedSimpArgs false
namespace Go.Proofs.Ytbllpiboodlepaa.Pure
open Go.RowKit Go.Proofs.Ytbllpiboodlepaa.P Go.Proofs.YtbllpiboodlepaaW.PrintWords Go.Proofs.YtbllpiboodlepaaW.PrintLast

theorem sides_loop (n : Int) (K : Nat) (h0 : 0 ≤ n) (h1 : n ≤ 500) (hK : (K : Int) = (n + 3) / 4) : ∀ (d i : Nat), i + d = 2 * K →
    Ev (fun k => formelaw42_ImposeSides.l0 k true (faces n K) (faces n K) ((faces n K).length : Int) (i : Int)) true
  | 0, i, h => Ev.step (fun k => rfl) (EvT.ifn (by rw [faces_length]; omega) (Ev.now _))
  | d + 1, i, h => by
    have hi : i < 2 * K := by omega
    have hl := faces_length n K
    have hw : wrap64 ((i : Int) + 1) = ((i + 1 : Nat) : Int) := EvT.w64 (by omega) (by omega)
    have hw2 : wrap64 (wrap64 (2 * ((faces n K).length : Int)) + 1) = 4 * K + 1 := by rw [hl, EvT.w64 (x := 2 * _) (by omega) (by omega), EvT.w64 (by omega) (by omega)]; omega
    have IH := sides_loop n K h0 h1 hK d (i + 1) (by omega)
    have hf := face_cases n K i
    refine Ev.step (fun k => rfl) (EvT.ifp (by rw [hl]; omega) (EvT.ifp (by omega) (EvT.ifp (by rw [hl]; omega) ?_)))
    rw [faces_get n K i hi, hw, hw2]
    unfold clip at hf
    refine EvT.ite (fun h2 => EvT.ite (fun h3 => EvT.ifp rfl ?_) (fun h3 => EvT.ifp rfl ?_)) (fun h2 => EvT.ifp rfl ?_)
    · rw [EvT.w64 (by omega) (by omega), show ((face n K i).f2 + (face n K i).f3 == 4 * (K : Int) + 1) = true by rw [beq_iff_eq]; omega]
      exact IH
    · rw [decide_eq_true (show (face n K i).f0 ≤ 2 by omega)]
      exact IH
    · rw [decide_eq_true (show (face n K i).f0 ≤ 2 by omega)]
      exact IH
theorem ImposeSides : formelaw42_ImposeSides.Pure := fun a0 _ => Ev.rounds (begin_ev (g := fun k l b c => formelaw42_ImposeSides.j0 k true l b c) a0
  (Ev.step (fun k => rfl) (Ev.now _))
  (fun K h0 h1 hK => Ev.step (fun k => rfl) (sides_loop a0 K h0 h1 hK (2 * K) 0 (by omega))))
end Go.Proofs.Ytbllpiboodlepaa.Pure
