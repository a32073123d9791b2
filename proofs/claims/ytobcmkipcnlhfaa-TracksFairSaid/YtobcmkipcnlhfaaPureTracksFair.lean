/- A track with a Grow that is not less than that of another one, and that is not as wide as its Max, if it has one, gets a part that is at most 1 less; also, if the other one is cut (package tracks alone; up to 64 tracks). Conditions: those of the statement alone. -/
import Derived.Test.YtobcmkipcnlhfaaPx9
import Derived.Test.YtobcmkipcnlhfaaHPT2
set_option linter.unusedVariables false
set_option linter.unusedSimpArgs false
namespace Go.Proofs.Ytobcmkipcnlhfaa.Pure
open Go.RowKit Go.Proofs.Ytobcmkipcnlhfaa.P Go.Proofs.YtobcmkipcnlhfaaW.PrintWords Go.Proofs.YtobcmkipcnlhfaaW.PrintLast

theorem u8_bd {a : Int} (h : (Lit.int .u8 a).wf = true) : 0 ≤ a ∧ a ≤ 255 := by
  have h1 : IntKind.u8.min = 0 := rfl
  have h2 : IntKind.u8.max = 255 := rfl
  simp only [Lit.wf, Bool.and_eq_true, decide_eq_true_eq] at h
  omega
theorem pick_ (a : Int) (n : Nat) (h : 0 ≤ a ∧ a ≤ 255) (hn : 1 ≤ n) : ∃ i : Nat, i < n ∧ Int.tmod (wrap64 a) (n : Int) = (i : Int) := by
  rw [EvT.w64 (by omega) (by omega), Int.tmod_eq_emod_of_nonneg h.1]
  have h1 := Int.emod_nonneg a (show (n : Int) ≠ 0 by omega)
  have h2 := Int.emod_lt_of_pos a (show (0 : Int) < n by omega)
  exact ⟨(a % n).toNat, by omega, by omega⟩
theorem TracksFair : formelaw23_TracksFair.Pure := fun l a1 a2 a3 a4 _ _ _ _ _ w3 w4 => Ev.rounds (begin_ev l a1 a2 fun ok b1 b2 h1 h2 h3 => by
  obtain ⟨res, hS, hF⟩ := Share_spec l ok a1 a2 b1 b2
  have hN := leftN_bd l ok a1 a2 b1 b2
  obtain ⟨i, hi, ei⟩ := pick_ a3 l.length (u8_bd w3) ok.n1
  obtain ⟨k, hk, ek⟩ := pick_ a4 l.length (u8_bd w4) ok.n1
  have n1 := ok.n1
  refine EvT.bindc (share_f hS h1 h2 h3) (EvT.ifp rfl (EvT.ifn (by omega) ?_))
  rw [ei, ek]
  have hbi := fin_bd ok hN.2 hF i hi
  have hbk := fin_bd ok hN.2 hF k hk
  have ci := ok.bd i hi
  have ck := ok.bd k hk
  have hl := hF.lim i hi
  have fin : (tk l k).f1 ≤ (tk l i).f1 → 0 < (tk l k).f1 → ((tk l i).f2 = 0 ∨ res i < (tk l i).f2) → decide (wrap64 (res i - (tk l i).f0) ≥ wrap64 (wrap64 (res k - (tk l k).f0) - 1)) = true := fun x y z => by
    have := hF.fair i k hi hk x y z
    rw [EvT.w64 (x := res i - (tk l i).f0) (by omega) (by omega), EvT.w64 (x := res k - (tk l k).f0) (by omega) (by omega), EvT.w64 (by omega) (by omega)]
    exact decide_eq_true (by omega)
  refine EvT.ifp (by omega) (EvT.ifp (by omega) (EvT.ifp (by omega) (EvT.ifp (by omega) ?_)))
  rw [show rd_T36 l (i : Int) = tk l i from rfl, show rd_T36 l (k : Int) = tk l k from rfl, tab_rd _ _ _ hi, tab_rd _ _ _ hk]
  refine EvT.ite (fun _ => Ev.now _) (fun g1 => EvT.ite (fun _ => Ev.now _) (fun g2 => EvT.ite (fun g3 => ?_) (fun g3 => ?_)))
  · refine EvT.ifp (by rw [tab_length]; omega) (EvT.ifp (by rw [tab_length]; omega) (EvT.now ?_))
    rw [fin (by omega) (by omega) (.inl g3)]
  · refine EvT.ifp (by rw [tab_length]; omega) (EvT.ite (fun _ => Ev.now _) (fun g4 => EvT.ifp (by rw [tab_length]; omega) (EvT.now ?_)))
    rw [fin (by omega) (by omega) (.inr (by omega))])
end Go.Proofs.Ytobcmkipcnlhfaa.Pure
