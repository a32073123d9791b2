/- For any columns and spans: the first item begins in the first cell, each further one directly behind the one before it, if it fits there, and otherwise at the beginning of the next row (up to 100 items). Conditions: those of the statement alone. -/
import Derived.Test.YtciheadencbmjaaPx11
import Derived.Test.YtciheadencbmjaaHPure2
set_option linter.unusedVariables false
set_option linter.unusedSimpArgs false
namespace Go.Proofs.Ytciheadencbmjaa.Pure
open Go.RowKit Go.Proofs.Ytciheadencbmjaa.P Go.Proofs.YtciheadencbmjaaW.PrintWords Go.Proofs.YtciheadencbmjaaW.PrintLast
theorem cells1 {cols : Int} {l : List Int} (hc : 1 ≤ cols ∧ cols ≤ 64) (hl : ∀ x ∈ l, 1 ≤ x ∧ x ≤ 64) (hn : l.length ≤ 4000) : ∀ (d i : Nat) (q : Bool), i + d = l.length → q = true →
    Ev (fun k => formelaw24_GridCells.l0 k cols l q (cellsL cols l) (cellsL cols l) ((cellsL cols l).length : Int) (i : Int)) true
  | 0, i, q, h, hq => Ev.step (fun k => rfl) (EvT.ifn (by rw [cellsL_length]; omega) (by rw [hq]; exact Ev.now _))
  | d + 1, i, q, h, hq => by
    have hi : i < l.length := by omega
    have hb := cell_bd hc hl i hi
    have hlen := cellsL_length cols l
    have hacc : decide (wrap64 ((cellAt cols l i).f1 + mn (rd l (i : Int)) cols) ≤ cols) = true := by rw [EvT.w64 (by omega) (by omega)]; exact decide_eq_true hb.2.1
    have ih := cells1 hc hl hn d (i + 1) (decide (wrap64 ((cellAt cols l i).f1 + mn (rd l (i : Int)) cols) ≤ cols)) (by omega) hacc
    refine Ev.step (fun k => rfl) (EvT.ifp (by omega) (EvT.ifp (by omega) (EvT.ifp (by omega) (EvT.ifp (by omega) ?_))))
    rw [rd_cell, w_succ i l.length (by omega) (by omega)]
    cases i with
    | zero =>
      have hz := cell_zero hc hl hi
      refine EvT.ifn (by omega) (EvT.ifp hq (EvT.ifp (by rw [hz]; rfl) ih))
    | succ j =>
      have hw : wrap64 (((j + 1 : Nat) : Int) - 1) = (j : Int) := by rw [EvT.w64 (by omega) (by omega)]; omega
      have hb0 := cell_bd hc hl j (by omega)
      have hs := cell_succ cols l j hi
      rw [hw, rd_cell]
      refine EvT.ifp (by omega) (EvT.ifp (by omega) (EvT.ifp (by omega) (EvT.ifp (by omega) ?_)))
      rw [EvT.w64 (x := (cellAt cols l j).f1 + mn (rd l (j : Int)) cols) (by omega) (by omega), EvT.w64 (x := (cellAt cols l j).f0 + 1) (by omega) (by omega), EvT.w64 (x := _ + mn (rd l ((j + 1 : Nat) : Int)) cols) (by omega) (by omega)]
      unfold nextC at hs
      by_cases hbig : (cellAt cols l j).f1 + mn (rd l (j : Int)) cols + mn (rd l ((j + 1 : Nat) : Int)) cols > cols
      · rw [if_pos hbig] at hs
        exact EvT.ifp hbig (EvT.ifp hq (EvT.ifp (by rw [hs]; simp) ih))
      · rw [if_neg hbig] at hs
        exact EvT.ifn hbig (EvT.ifp hq (EvT.ifp (by rw [hs]; simp) ih))
theorem GridCells : formelaw24_GridCells.Pure := by
  intro a0 l1 _ _ _ _
  suffices h : Ev (fun k => formelaw24_GridCells.f k a0 l1) true from let ⟨k, hk⟩ := h; ⟨k, hk k (Nat.le_refl _)⟩
  unfold formelaw24_GridCells.f
  refine Ev.bind head_ev (EvT.ifp rfl (Ev.bind (usable_ev a0 l1) ?_))
  by_cases hu : usableB a0 l1 = true
  · obtain ⟨hlen, hck⟩ := usable_true hu
    obtain ⟨hn, hc, hl⟩ := checkE_zero hck
    rw [hu]
    refine EvT.ifp rfl (EvT.bindc (by unfold grid_Cells.f; rw [if_pos hck]) (EvT.ifp rfl (EvT.ifp (by rw [cellsL_length]) ?_)))
    exact cells1 hc hl hn l1.length 0 true (by omega) rfl
  · rw [Bool.not_eq_true] at hu
    rw [hu]
    exact EvT.ifn (by decide) (Ev.now _)
end Go.Proofs.Ytciheadencbmjaa.Pure
