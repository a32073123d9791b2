/- No track is narrower than its Base, none wider than its Max, if it has one, and one without Grow is as wide as its Base (package tracks alone; up to 64 tracks). Conditions: those of the statement alone. -/
import Derived.Test.YtobcmkipcnlhfaaPx7
import Derived.Test.YtobcmkipcnlhfaaHPT2
set_option linter.unusedVariables false
set_option linter.unusedSimpArgs false
namespace Go.Proofs.Ytobcmkipcnlhfaa.Pure
open Go.RowKit Go.Proofs.Ytobcmkipcnlhfaa.P Go.Proofs.YtobcmkipcnlhfaaW.PrintWords Go.Proofs.YtobcmkipcnlhfaaW.PrintLast

theorem limits_loop (l : List S36) (hl : l.length ≤ 64) (res : Nat → Int) (h : ∀ i, i < l.length → (tk l i).f0 ≤ res i ∧ ((tk l i).f2 = 0 ∨ res i ≤ (tk l i).f2) ∧ ((tk l i).f1 = 0 → res i = (tk l i).f0)) : ∀ (d i : Nat), i + d = l.length →
    Ev (fun k => formelaw23_TracksLimits.l0 k l true (tab l.length res) (i : Int)) true
  | 0, i, e => Ev.step (fun k => rfl) (EvT.ifn (by omega) (Ev.now _))
  | d + 1, i, e => by
    have hi : i < l.length := by omega
    obtain ⟨h1, h2, h3⟩ := h i hi
    have IH := limits_loop l hl res h d (i + 1) (by omega)
    refine Ev.step (fun k => rfl) (EvT.ifp (by omega) (EvT.ifp (by omega) (EvT.ifp (by rw [tab_length]; omega) ?_)))
    rw [tab_rd _ _ _ hi, show rd_T36 l (i : Int) = tk l i from rfl, show wrap64 ((i : Int) + 1) = ((i + 1 : Nat) : Int) from EvT.w64 (by omega) (by omega)]
    refine EvT.ifn (by omega) (EvT.ite (fun h4 => EvT.ite (fun h5 => EvT.ifp (h3 h5) IH) (fun _ => IH)) (fun h4 => EvT.ifn (by omega) (EvT.ite (fun h5 => EvT.ifp (h3 h5) IH) (fun _ => IH))))
theorem TracksLimits : formelaw23_TracksLimits.Pure := fun l a1 a2 _ _ _ _ _ => Ev.rounds (begin_ev l a1 a2 fun ok b1 b2 h1 h2 h3 => by
  obtain ⟨res, hS, hF⟩ := Share_spec l ok a1 a2 b1 b2
  exact EvT.bindc (share_f hS h1 h2 h3) (EvT.ifp rfl (limits_loop l ok.n64 res hF.lim l.length 0 (by omega))))
end Go.Proofs.Ytobcmkipcnlhfaa.Pure
