/- From another coordinate on, items and the end are moved by the difference (package stack; the reference implementation says which items can be placed; up to 60 items). Conditions: those of the statement alone. -/
/- From another coordinate on, items and the end are moved by the difference (package stack; the reference implementation says which items can be placed; up to 60 items). Conditions: those of the statement alone. -/
import Derived.Test.YtpimlejbdpipfaaPx6
import Derived.Test.YtpimlejbdpipfaaHPures3
set_option linter.unusedVariables false
set_option linter.unusedSimpArgs false
namespace Go.Proofs.Ytpimlejbdpipfaa.Pure
open Go.RowKit Go.Proofs.Ytpimlejbdpipfaa.P Go.Proofs.YtpimlejbdpipfaaW.PrintWords Go.Proofs.YtpimlejbdpipfaaW.PrintLast

theorem moves_loop (a d : Int) (l : List S39) (hl : l.length ≤ 60) (h1 : good a l) (h2 : good (a + d) l) : ∀ (m i : Nat), i + m = l.length →
    Ev (fun k => formelaw19_StackMoves.l0 k d true (tops a l l.length) (pos a l l.length + G l l.length) (tops (a + d) l l.length) (pos (a + d) l l.length + G l l.length) ((tops a l l.length).length : Int) (i : Int)) true
  | 0, i, h => by
    have hb := (isC_iff _).1 h2.2.2.2
    have hm := pos_move a d l l.length
    refine Ev.step (fun k => rfl) (EvT.ifn (by rw [tops_length]; omega) (EvT.ifp rfl (EvT.now ?_)))
    rw [EvT.w64 (by omega) (by omega), hm]
    congr 1
    rw [beq_iff_eq]
    omega
  | m + 1, i, h => by
    have hw : wrap64 ((i : Int) + 1) = ((i + 1 : Nat) : Int) := EvT.w64 (by omega) (by omega)
    have hb := (isC_iff _).1 (h2.2.2.1 i (by omega)).1
    have hm := pos_move a d l i
    refine Ev.step (fun k => rfl) (EvT.ifp (by rw [tops_length]; omega) (EvT.ifp rfl (EvT.ifp (by omega) (EvT.ifp (by rw [tops_length]; omega) (EvT.ifp (by rw [tops_length]; omega) ?_)))))
    rw [tops_get _ _ _ _ (by omega), tops_get _ _ _ _ (by omega), hw, show (pos (a + d) l i + G l i == wrap64 (pos a l i + G l i + d)) = true by
      rw [EvT.w64 (by omega) (by omega), beq_iff_eq]; omega]
    exact moves_loop a d l hl h1 h2 m (i + 1) (by omega)
theorem StackMoves : formelaw19_StackMoves.Pure := fun a0 a1 l2 w0 w1 _ _ _ => by
  refine Ev.rounds (Ev.bind head_ev (EvT.ifp rfl (EvT.bindc (coord_eq a1) ?_)))
  have fin : Ev (fun k => formelaw19_StackMoves.j0 k a0 a1 l2 true true) true := Ev.step (fun k => rfl) (Ev.now _)
  refine EvT.ite (fun hc => Ev.bind (right_ev a0 l2) (EvT.ite (fun h1 => ?_) (fun _ => fin))) (fun _ => fin)
  obtain ⟨hl, g1⟩ := right_yes a0 l2 h1
  have b1 := (isC_iff _).1 hc
  have b0 := (isC_iff _).1 g1.2.1
  have e : wrap64 (a0 + a1) = a0 + a1 := EvT.w64 (by omega) (by omega)
  rw [e]
  refine Ev.bind (right_ev (a0 + a1) l2) ?_
  by_cases h2 : (decide (l2.length ≤ 60) && ((sp (a0 + a1) l2).2.2 == 0)) = true
  · obtain ⟨_, g2⟩ := right_yes _ l2 h2
    rw [h2]
    refine EvT.lit (g := fun k c => formelaw19_StackMoves.j0 k a0 a1 l2 true c) false (fun c hcc => Ev.step (fun k => rfl) (EvT.ifn (by rw [hcc]; decide) (Ev.bind (placed_good a0 l2 hl g1) ?_)))
    rw [e]
    refine Ev.bind (placed_good (a0 + a1) l2 hl g2) (EvT.ifp rfl ?_)
    exact Ev.step (fun k => rfl) (moves_loop a0 a1 l2 hl g1 g2 l2.length 0 (by omega))
  · rw [Bool.not_eq_true] at h2
    rw [h2]
    exact fin
end Go.Proofs.Ytpimlejbdpipfaa.Pure
