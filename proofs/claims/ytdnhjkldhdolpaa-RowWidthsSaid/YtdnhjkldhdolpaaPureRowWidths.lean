/- No width is less than its base; if the bases and gaps fit into a space, the widths and gaps fill it exactly, if a Grow is not 0, and are the bases otherwise, as they are if the bases and gaps do not fit (package row; up to 64 boxes). Conditions: those of the statement alone. -/
import Derived.Test.YtdnhjkldhdolpaaPx8
import Derived.Test.YtdnhjkldhdolpaaHRowP4
set_option linter.unusedVariables false
set_option linter.unusedSimpArgs false
namespace Go.Proofs.Ytdnhjkldhdolpaa.Pure
open Go.RowKit Go.Proofs.Ytdnhjkldhdolpaa.P Go.Proofs.YtdnhjkldhdolpaaW.PrintWords Go.Proofs.YtdnhjkldhdolpaaW.PrintLast

theorem rw_loop (l0 l1 : List Int) (a2 a3 : Int) (res : Nat → Int) (he : l0.length = l1.length) (hl : l0.length ≤ 64)
    (h : ∀ i, i < l0.length → rd l0 (i : Int) ≤ res i ∧ (¬ rd l1 (i : Int) > 0 → res i = rd l0 (i : Int)))
    (hend : Ev (fun k => formelaw25_RowWidths.l0 k l0 l1 a2 a3 true (tab l0.length res) (tab l0.length res) (l0.length : Int) (l0.length : Int)) true) : ∀ (d i : Nat), i + d = l0.length →
    Ev (fun k => formelaw25_RowWidths.l0 k l0 l1 a2 a3 true (tab l0.length res) (tab l0.length res) (l0.length : Int) (i : Int)) true
  | 0, i, e => by
    obtain rfl : i = l0.length := by omega
    exact hend
  | d + 1, i, e => by
    have hi : i < l0.length := by omega
    obtain ⟨h1, h2⟩ := h i hi
    have IH := rw_loop l0 l1 a2 a3 res he hl h hend d (i + 1) (by omega)
    refine EvT.succ (fun k => rfl) (EvT.ifp (by omega) (EvT.ifp (by omega) (EvT.ifp (by rw [tab_length]; omega) (EvT.ifp rfl (EvT.ifp (by omega) (EvT.ifp ?_ (EvT.ifp (by omega) ?_)))))))
    · rw [tab_rd _ _ _ hi]; exact h1
    · rw [w1 i (by omega), tab_rd _ _ _ hi]
      refine EvT.ite (fun _ => IH) (fun h3 => ?_)
      rw [show (res i == rd l0 (i : Int)) = true by rw [h2 h3]; simp]
      exact IH
theorem RowWidths : formelaw25_RowWidths.Pure := fun l0 l1 a2 a3 _ _ _ _ _ _ _ _ => Ev.rounds (Ev.bind head_ev (EvT.ifp rfl (Ev.bind (few_ev [l0, l1] (by simp)) (EvT.ite (fun h => by
  have hl : l0.length ≤ 70 ∧ l1.length ≤ 70 := by simpa using h
  rcases widths_cases l0 l1 a2 a3 (by omega) with ⟨hw, _⟩ | ⟨he, ok, b2, b3, res, hS, hw, hF⟩
  · exact Ev.bind hw (EvT.ifn (by decide) (Ev.now _))
  · have n1 := ok.n1
    have n64 := ok.n64
    rw [zt_length] at n1 n64
    have bd : ∀ i, i < l0.length → 0 ≤ rd l0 (i : Int) ∧ rd l0 (i : Int) ≤ 1000000 ∧ 0 ≤ rd l1 (i : Int) ∧ rd l1 (i : Int) ≤ 1000 := fun i hi => by
      have := ok.bd i (by rw [zt_length]; exact hi)
      rw [zt_tk _ _ _ _ hi] at this
      exact ⟨this.1, this.2.1, this.2.2.1, this.2.2.2.1⟩
    have lim : ∀ i, i < l0.length → rd l0 (i : Int) ≤ res i ∧ (rd l1 (i : Int) = 0 → res i = rd l0 (i : Int)) := fun i hi => by
      have := hF.lim i (by rw [zt_length]; exact hi)
      rw [zt_tk _ _ _ _ hi] at this
      exact ⟨this.1, this.2.2⟩
    have hN := leftN_bd _ ok a2 a3 b2 b3
    have rb : ∀ i, i < l0.length → 0 ≤ res i ∧ res i ≤ 2000000 := fun i hi => by
      have := fin_bd ok hN.2 hF i (by rw [zt_length]; exact hi)
      exact ⟨this.1, this.2.1⟩
    have hG := gap_bd b3 n1 n64
    have hL := leftN_eq (zt l0 l1 l0.length) a2 a3
    rw [zt_length, sumTo_congr (w' := fun i => rd l0 (i : Int)) l0.length (fun i hi => by rw [zt_tk _ _ _ _ hi])] at hL
    have hse := hF.sumle
    have hsq := hF.sumeq
    rw [zt_length, sumTo_congr (w' := fun i => res i - rd l0 (i : Int)) l0.length (fun i hi => by rw [zt_tk _ _ _ _ hi])] at hse hsq
    have hsub := sumTo_sub res (fun i => rd l0 (i : Int)) l0.length
    have S0 := sumTo_bd (w := fun i => rd l0 (i : Int)) 1000000 (by omega) l0.length (fun i hi => by have := bd i hi; omega) n64
    have S1 := sumTo_bd (w := res) 2000000 (by omega) l0.length rb n64
    refine Ev.bind hw (EvT.ifp rfl (EvT.ifp (by rw [tab_length]) ?_))
    have allsame : sumTo (fun i => res i - rd l0 (i : Int)) l0.length ≤ 0 → tab l0.length res = l0 := fun hz => by
      rw [← tab_self l0, tab_length]
      refine tab_congr fun i hi => ?_
      have h1 := sumTo_le (w := fun i => res i - rd l0 (i : Int)) l0.length i hi (fun j hj => by have := (lim j hj).1; omega)
      have h2 := (lim i hi).1
      have h3 : res i - rd l0 (i : Int) ≤ sumTo (fun i => res i - rd l0 (i : Int)) l0.length := h1
      omega
    have hT : Ev (fun k => formelaw25_total.f k l0) (sumTo (fun j => rd l0 (j : Int)) l0.length) := total_ev l0 n64 1000000 (by omega) (fun i hi => by have := bd i hi; omega)
    have hT1 : Ev (fun k => formelaw25_total.f k l1) (sumTo (fun j => rd l1 (j : Int)) l0.length) := by
      have := total_ev l1 (by omega) 1000 (by omega) (fun i hi => by have := bd i (by omega); omega)
      rwa [← he] at this
    have hTr : Ev (fun k => formelaw25_total.f k (tab l0.length res)) (sumTo res l0.length) := by
      have := total_ev (tab l0.length res) (by rw [tab_length]; exact n64) 2000000 (by omega) (fun i hi => by rw [tab_length] at hi; rw [tab_rd _ _ _ hi]; exact rb i hi)
      rw [tab_length] at this
      rwa [sumTo_congr (w' := res) l0.length (fun i hi => tab_rd _ _ _ hi)] at this
    have hg : wrap64 (a3 * wrap64 ((l0.length : Int) - 1)) = a3 * ((l0.length : Int) - 1) := by rw [EvT.w64 (x := (l0.length : Int) - 1) (by omega) (by omega), EvT.w64 (by omega) (by omega)]
    have hsame : tab l0.length res = l0 → Ev (fun k => formelaw25_RowWidths.j1 k l0 a2 true (tab l0.length res) (a3 * ((l0.length : Int) - 1)) true) true := fun hz => by
      refine EvT.lit (g := fun k c => formelaw25_RowWidths.j1 k l0 a2 true (tab l0.length res) (a3 * ((l0.length : Int) - 1)) c) true (fun c hc => EvT.succ (fun k => rfl) (EvT.ifp hc (EvT.ifp rfl ?_)))
      rw [hz]
      exact Ev.bind (same_ev l0 (by omega)) (Ev.now _)
    refine EvT.ifp (by omega) ?_
    rw [tab_length]
    refine rw_loop l0 l1 a2 a3 res he n64 (fun i hi => ⟨(lim i hi).1, fun h3 => (lim i hi).2 (by have := bd i hi; omega)⟩) ?_ l0.length 0 (by omega)
    refine EvT.succ (fun k => rfl) (EvT.ifn (by omega) (Ev.bind hT ?_))
    rw [hg, EvT.w64 (x := sumTo (fun j => rd l0 (j : Int)) l0.length + a3 * ((l0.length : Int) - 1)) (by omega) (by omega)]
    refine EvT.ite (fun hc => hsame (allsame (by unfold mx at hL; split at hL <;> omega))) (fun hc => Ev.bind hT1 ?_)
    cases hz : (sumTo (fun j => rd l1 (j : Int)) l0.length == 0)
    · refine EvT.lit (g := fun k c => formelaw25_RowWidths.j1 k l0 a2 true (tab l0.length res) (a3 * ((l0.length : Int) - 1)) c) false (fun c hc => EvT.succ (fun k => rfl) (EvT.ifn (by rw [hc]; decide) (EvT.ifp rfl (Ev.bind hTr (EvT.now ?_)))))
      have hz' : sumTo (fun j => rd l1 (j : Int)) l0.length ≠ 0 := by simpa using hz
      have hex : ∃ i, i < l0.length ∧ 0 < rd l1 (i : Int) := Classical.byContradiction fun hn => hz' (by
        have : ∀ i, i < l0.length → rd l1 (i : Int) = 0 := fun i hi => by
          have := bd i hi
          have : ¬ 0 < rd l1 (i : Int) := fun h => hn ⟨i, hi, h⟩
          omega
        rw [sumTo_congr (w' := fun _ => 0) l0.length this]
        have z : ∀ n, sumTo (fun _ => 0) n = 0 := fun n => by induction n with
          | zero => rfl
          | succ n ih => simp [sumTo, ih]
        exact z _)
      obtain ⟨i, hi, hp⟩ := hex
      have hq := hsq ⟨i, hi, by rw [zt_tk _ _ _ _ hi]; exact hp, .inl (by rw [zt_tk _ _ _ _ hi])⟩
      have hL' : leftN (zt l0 l1 l0.length) a2 a3 = a2 - (a3 * ((l0.length : Int) - 1) + sumTo (fun i => rd l0 (i : Int)) l0.length) := by
        rw [hL]; unfold mx; split <;> omega
      rw [EvT.w64 (x := sumTo res l0.length + a3 * ((l0.length : Int) - 1)) (by omega) (by omega)]
      simp
      omega
    · refine hsame (allsame ?_)
      have hz' : sumTo (fun j => rd l1 (j : Int)) l0.length = 0 := by simpa using hz
      have hall : ∀ i, i < l0.length → rd l1 (i : Int) = 0 := fun i hi => by
        have h1 : rd l1 (i : Int) ≤ _ := sumTo_le (w := fun j => rd l1 (j : Int)) l0.length i hi (fun j hj => by have := bd j hj; omega)
        have := bd i hi
        omega
      rw [sumTo_congr (w' := fun _ => 0) l0.length (fun i hi => by have := (lim i hi).2 (hall i hi); omega)]
      have z : ∀ n, sumTo (fun _ => 0) n = 0 := fun n => by induction n with
        | zero => rfl
        | succ n ih => simp [sumTo, ih]
      rw [z]
      omega) (fun _ => Ev.now _)))))
end Go.Proofs.Ytdnhjkldhdolpaa.Pure
