/- Items that are placed begin below the one before them by exactly the joined margin of both, the first one by its own margin below the coordinate; the end is below the last one by its own (packages margins and stack; the reference implementation says which items can be placed; up to 60 items). Conditions: those of the statement alone. -/
/- Items that are placed begin below the one before them by exactly the joined margin of both, the first one by its own margin below the coordinate; the end is below the last one by its own (packages margins and stack; the reference implementation says which items can be placed; up to 60 items). Conditions: those of the statement alone. -/
import Derived.Test.YtpimlejbdpipfaaPx5
import Derived.Test.YtpimlejbdpipfaaHPures3
set_option linter.unusedVariables false
set_option linter.unusedSimpArgs false
namespace Go.Proofs.Ytpimlejbdpipfaa.Pure
open Go.RowKit Go.Proofs.Ytpimlejbdpipfaa.P Go.Proofs.YtpimlejbdpipfaaW.PrintWords Go.Proofs.YtpimlejbdpipfaaW.PrintLast

theorem hilo_one (x : Int) : hi [x] + lo [x] = x := by simp only [hi, lo, List.foldl, mx, mn]; split <;> split <;> omega
theorem G_first (l : List S39) (h : 0 < l.length) : G l 0 = (rd_T39 l 0).f0 := by
  rw [G_eq l 0 (by omega)]
  have : at_ l 0 = [(rd_T39 l 0).f0] := by simp [at_, h]
  rw [this, hilo_one]
theorem G_last (l : List S39) (n : Nat) (h : l.length = n + 1) : G l l.length = (rd_T39 l (n : Int)).f1 := by
  rw [G_eq l _ (Nat.le_refl _)]
  have : at_ l l.length = [(rd_T39 l (n : Int)).f1] := by
    simp only [at_]
    rw [if_pos (by omega), if_neg (by omega), List.append_nil, show ((l.length : Int) - 1) = (n : Int) by omega]
  rw [this, hilo_one]
theorem G_mid (l : List S39) (ha : l.all okItem = true) (i : Nat) (h : i + 1 < l.length) : margins_Join.f [(rd_T39 l (i : Int)).f1, (rd_T39 l ((i + 1 : Nat) : Int)).f0] = some (G l (i + 1), 0) := by
  have hok := at_ok l ha (i + 1) (by omega)
  have : at_ l (i + 1) = [(rd_T39 l (i : Int)).f1, (rd_T39 l ((i + 1 : Nat) : Int)).f0] := by
    simp only [at_]
    rw [if_pos (by omega), if_pos h, show (((i + 1 : Nat) : Int) - 1) = (i : Int) by omega]
    rfl
  rw [← this, G_eq l (i + 1) (by omega)]
  exact join_some _ hok.1 (by omega)
theorem gaps_loop (a : Int) (l : List S39) (hl : l.length ≤ 60) (h0 : 0 < l.length) (hg : good a l) : ∀ (m i : Nat), i + 1 + m = l.length →
    Ev (fun k => formelaw19_StackGaps.l0 k a l true (tops a l l.length) (pos a l l.length + G l l.length) ((i + 1 : Nat) : Int)) true
  | 0, i, h => by
    have hw : wrap64 ((l.length : Int) - 1) = (i : Int) := by rw [EvT.w64 (by omega) (by omega)]; omega
    have t0 := tops_get a l l.length 0 h0
    have ti := tops_get a l l.length i (by omega)
    have hb := (isC_iff _).1 hg.2.2.2
    have hp := (isC_iff _).1 (hg.2.2.1 i (by omega)).2
    have hp0 := (isC_iff _).1 (hg.2.2.1 0 h0).1
    have gl := G_last l i (by omega)
    have gf := G_first l h0
    have gb := G_bd l hg.1 l.length (Nat.le_refl _)
    have e0 : pos a l (i + 1) = pos a l i + G l i + H l i := rfl
    have el : pos a l l.length = pos a l (i + 1) := by rw [show l.length = i + 1 by omega]
    have hh : (rd_T39 l (i : Int)).f2 = H l i := rfl
    have ez : pos a l 0 = a := rfl
    rw [show ((0 : Nat) : Int) = 0 from rfl] at t0
    refine Ev.step (fun k => rfl) (EvT.ifn (by omega) (EvT.ifp rfl (EvT.ifp (by rw [tops_length]; omega) (EvT.ifp (by omega) ?_))))
    rw [hw, t0, ti, hh, ← gf]
    refine EvT.ifp (by rw [EvT.w64 (by omega) (by omega)]; omega) (EvT.ifp (by omega) (EvT.ifp (by rw [tops_length]; omega) (EvT.ifp (by omega) (EvT.now ?_))))
    congr 1
    rw [← gl, EvT.w64 (x := pos a l i + G l i + H l i) (by omega) (by omega), EvT.w64 (by omega) (by omega), beq_iff_eq]
    omega
  | m + 1, i, h => by
    have hw : wrap64 (((i + 1 : Nat) : Int) + 1) = ((i + 1 + 1 : Nat) : Int) := EvT.w64 (by omega) (by omega)
    have hw2 : wrap64 (((i + 1 : Nat) : Int) - 1) = (i : Int) := by rw [EvT.w64 (by omega) (by omega)]; omega
    have ti := tops_get a l l.length i (by omega)
    have tj := tops_get a l l.length (i + 1) (by omega)
    have hp := (isC_iff _).1 (hg.2.2.1 i (by omega)).2
    have hq := (isC_iff _).1 (hg.2.2.1 (i + 1) (by omega)).1
    have e0 : pos a l (i + 1) = pos a l i + G l i + H l i := rfl
    have hh : (rd_T39 l (i : Int)).f2 = H l i := rfl
    refine Ev.step (fun k => rfl) (EvT.ifp (by omega) ?_)
    rw [hw2, hw, ti, tj, hh]
    refine EvT.ifp (by omega) (EvT.ifp (by omega) (EvT.ifp (by omega) (EvT.bindc (G_mid l hg.1 i (by omega)) (EvT.ifp rfl (EvT.ifp rfl (EvT.ifp (by rw [tops_length]; omega) (EvT.ifp (by rw [tops_length]; omega) ?_)))))))
    rw [show (pos a l (i + 1) + G l (i + 1) == wrap64 (wrap64 (pos a l i + G l i + H l i) + G l (i + 1))) = true by
      rw [EvT.w64 (x := pos a l i + G l i + H l i) (by omega) (by omega), EvT.w64 (by omega) (by omega), beq_iff_eq]; omega]
    exact gaps_loop a l hl h0 hg m (i + 1) (by omega)
theorem StackGaps : formelaw19_StackGaps.Pure := fun a0 l1 w0 _ _ _ => by
  refine Ev.rounds (Ev.bind head_ev (EvT.ifp rfl (Ev.bind (right_ev a0 l1) (EvT.ite (fun h => ?_) (fun _ => Ev.now _)))))
  obtain ⟨hl, hg⟩ := right_yes a0 l1 h
  refine Ev.bind (placed_good a0 l1 hl hg) (EvT.ifp rfl (EvT.ite (fun h0 => ?_) (fun h0 => ?_)))
  · obtain rfl : l1 = [] := List.length_eq_zero_iff.1 (by omega)
    refine EvT.now ?_
    have : G [] 0 = 0 := by decide +kernel
    show some (pos a0 [] 0 + G [] 0 == a0) = some true
    rw [this]
    simp [pos]
  · exact gaps_loop a0 l1 hl (by omega) hg (l1.length - 1) 0 (by omega)
end Go.Proofs.Ytpimlejbdpipfaa.Pure
