/- If the Bases and gaps fit, all widths and gaps together are not more than the space, and exactly the space if some track with a Grow above 0 is not as wide as its Max, or has none (package tracks alone; up to 64 tracks). Conditions: those of the statement alone. -/
import Derived.Test.YtobcmkipcnlhfaaPx8
import Derived.Test.YtobcmkipcnlhfaaHPT2
set_option linter.unusedVariables false
set_option linter.unusedSimpArgs false
namespace Go.Proofs.Ytobcmkipcnlhfaa.Pure
open Go.RowKit Go.Proofs.Ytobcmkipcnlhfaa.P Go.Proofs.YtobcmkipcnlhfaaW.PrintWords Go.Proofs.YtobcmkipcnlhfaaW.PrintLast

def openp (l : List S36) (res : Nat → Int) (i : Nat) : Bool := decide (0 < (tk l i).f1) && (decide ((tk l i).f2 = 0) || decide (res i < (tk l i).f2))
theorem all_loop (l : List S36) (ok : OkL l) (space G : Int) (hG : 0 ≤ G ∧ G ≤ 6300000) (res : Nat → Int) (hb : ∀ i, i < l.length → 0 ≤ res i ∧ res i ≤ 2000000)
    (hfin : (space < G + sumTo (fun i => (tk l i).f0) l.length → sumTo res l.length = sumTo (fun i => (tk l i).f0) l.length) ∧ (G + sumTo (fun i => (tk l i).f0) l.length ≤ space → G + sumTo res l.length ≤ space ∧ (anyOf (openp l res) l.length = true → G + sumTo res l.length = space))) : ∀ (d i : Nat), i + d = l.length →
    Ev (fun k => formelaw23_TracksAll.l0 k l space true (tab l.length res) (G + sumTo (fun i => (tk l i).f0) i) (G + sumTo res i) (anyOf (openp l res) i) (i : Int)) true
  | 0, i, e => by
    obtain rfl : i = l.length := by omega
    refine Ev.step (fun k => rfl) (EvT.ifn (by omega) (EvT.ite (fun h => EvT.ifp rfl (EvT.now ?_)) (fun h => EvT.ifp rfl (EvT.ifp ?_ (EvT.ite (fun h2 => EvT.now ?_) (fun _ => Ev.now _))))))
    · rw [hfin.1 (by omega)]; simp
    · exact (hfin.2 (by omega)).1
    · have := (hfin.2 (by omega)).2 h2
      simp [this]
  | d + 1, i, e => by
    have hi : i < l.length := by omega
    have n64 := ok.n64
    have IH := all_loop l ok space G hG res hb hfin d (i + 1) (by omega)
    have hb0 := ok.bd i hi
    have hbi := hb i hi
    have s1 := sumTo_bd (w := fun i => (tk l i).f0) 1000000 (by omega) i (fun j hj => by have := ok.bd j (by omega); omega) (by omega)
    have s2 := sumTo_bd (w := res) 2000000 (by omega) i (fun j hj => hb j (by omega)) (by omega)
    refine Ev.step (fun k => rfl) (EvT.ifp (by omega) (EvT.ifp (by omega) (EvT.ifp (by rw [tab_length]; omega) ?_)))
    rw [tab_rd _ _ _ hi, show rd_T36 l (i : Int) = tk l i from rfl, show wrap64 ((i : Int) + 1) = ((i + 1 : Nat) : Int) from EvT.w64 (by omega) (by omega)]
    rw [show wrap64 (G + sumTo (fun i => (tk l i).f0) i + (tk l i).f0) = G + sumTo (fun i => (tk l i).f0) (i + 1) by rw [EvT.w64 (by omega) (by omega)]; simp only [sumTo]; omega,
      show wrap64 (G + sumTo res i + res i) = G + sumTo res (i + 1) by rw [EvT.w64 (by omega) (by omega)]; simp only [sumTo]; omega]
    have step : ∀ b, anyOf (openp l res) (i + 1) = b → Ev (fun k => formelaw23_TracksAll.l0 k l space true (tab l.length res) (G + sumTo (fun i => (tk l i).f0) (i + 1)) (G + sumTo res (i + 1)) b ((i + 1 : Nat) : Int)) true := fun b hb => by rw [← hb]; exact IH
    refine EvT.ite (fun h1 => step _ (by simp [anyOf, h1])) (fun h1 => ?_)
    have h1' : anyOf (openp l res) i = false := Bool.eq_false_iff.2 h1
    refine EvT.ite (fun h2 => EvT.ite (fun h3 => step _ ?_) (fun h3 => step _ ?_)) (fun h2 => step _ ?_)
    · simp only [anyOf, h1', Bool.false_or, openp, decide_eq_true h3, decide_eq_true (show 0 < (tk l i).f1 from h2)]; rfl
    · simp only [anyOf, h1', Bool.false_or, openp, decide_eq_false h3, decide_eq_true (show 0 < (tk l i).f1 from h2), Bool.true_and]
    · simp only [anyOf, h1', Bool.false_or, openp, decide_eq_false (show ¬ 0 < (tk l i).f1 from h2), Bool.false_and]
theorem TracksAll : formelaw23_TracksAll.Pure := fun l a1 a2 _ _ _ _ _ => Ev.rounds (begin_ev l a1 a2 fun ok b1 b2 h1 h2 h3 => by
  obtain ⟨res, hS, hF⟩ := Share_spec l ok a1 a2 b1 b2
  have n64 := ok.n64
  have n1 := ok.n1
  have hN := leftN_bd l ok a1 a2 b1 b2
  refine EvT.bindc (share_f hS h1 h2 h3) (EvT.ifp rfl ?_)
  obtain ⟨m, hm⟩ : ∃ m : Int, (l.length : Int) - 1 = m := ⟨_, rfl⟩
  have hm1 : 0 ≤ m ∧ m ≤ 63 := by omega
  have hp : 0 ≤ a2 * m ∧ a2 * m ≤ 6300000 := by
    refine ⟨Int.mul_nonneg b2.1 hm1.1, ?_⟩
    have := Int.mul_le_mul b2.2 hm1.2 hm1.1 (by omega)
    omega
  have hL := leftN_eq l a1 a2
  rw [hm] at hL
  have hsub := sumTo_sub res (fun i => (tk l i).f0) l.length
  have h0 := sumTo_nonneg (w := fun i => res i - (tk l i).f0) l.length (fun i hi => by have := (hF.lim i hi).1; omega)
  have hle := hF.sumle
  rw [hm, EvT.w64 (x := m) (by omega) (by omega), EvT.w64 (x := a2 * m) (by omega) (by omega)]
  have := all_loop l ok a1 (a2 * m) hp res (fun i hi => by have := fin_bd ok hN.2 hF i hi; omega) ⟨fun hh => ?_, fun hh => ⟨?_, fun ho => ?_⟩⟩ l.length 0 (by omega)
  · simpa [sumTo, anyOf] using this
  · unfold mx at hL; split at hL <;> omega
  · unfold mx at hL; split at hL <;> omega
  · obtain ⟨i, hi, ho⟩ := anyOf_true ho
    simp [openp] at ho
    have := hF.sumeq ⟨i, hi, ho.1, ho.2⟩
    unfold mx at hL; split at hL <;> omega)
end Go.Proofs.Ytobcmkipcnlhfaa.Pure
