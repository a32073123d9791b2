/- Columns fit exactly if the least widths and the gaps are not more than the space; then no column is narrower than its Lo, or wider than its Hi, and if not all are as wide as Hi, the widths and gaps are exactly the space (package table alone; up to 64 columns). Conditions: those of the statement alone. -/
import Derived.Test.YtclfimdafmoafaaPx12
import Derived.Test.YtclfimdafmoafaaHTabQ
set_option linter.unusedVariables false
set_option linter.unusedSimpArgs false
namespace Go.Proofs.Ytclfimdafmoafaa.Pure
open Go.RowKit Go.Proofs.Ytclfimdafmoafaa.P Go.Proofs.YtclfimdafmoafaaW.PrintWords Go.Proofs.YtclfimdafmoafaaW.PrintLast Go.Proofs.YtclfimdafmoafaaW.PrintMore

theorem tw_rows (l : List S29) (a1 : Int) (P g : Int) (w : Nat → Int) (ok : OkN l) (hg : 0 ≤ g ∧ g ≤ 6300000) (hP : 0 ≤ P ∧ P ≤ spTo l l.length)
    (hw : ∀ i, w i = (tkr l i).f0 + (pre l P (i + 1) - pre l P i))
    (hend : g + loTo l l.length + P ≤ a1) (hfull : P < spTo l l.length → g + loTo l l.length + P = a1) : ∀ (d i : Nat) (full : Bool), i + d = l.length →
    (full = true ↔ ∀ j, j < i → w j = (tkr l j).f1) →
    Ev (fun k => formelaw26_TableWidths.l1 k l a1 true (tabW l.length w) (g + loTo l i + pre l P i) full (i : Int)) true
  | 0, i, full, e, hf => by
    obtain rfl : i = l.length := by omega
    rw [pre_last ok hP]
    refine EvT.succ (fun k => rfl) (EvT.ifn (by rw [tabW_length]; omega) (EvT.ifp rfl (EvT.ifp hend (EvT.ite (fun _ => EvT.now rfl) (fun hc => EvT.now ?_)))))
    have : P < spTo l l.length := by
      rcases Decidable.em (P < spTo l l.length) with h | h
      · exact h
      have he : P = spTo l l.length := by omega
      refine absurd (hf.2 fun j hj => ?_) hc
      rw [hw, he, pre_full ok _ (by omega), pre_full ok _ (by omega)]
      simp only [spTo]
      omega
    rw [hfull this]
    simp
  | d + 1, i, full, e, hf => by
    have hi : i < l.length := by omega
    have n64 := ok.n64
    have b := ok.bd i hi
    have st := pre_step ok hP i hi
    have pb := pre_bd ok hP i (by omega)
    have lb := loTo_bd ok i (by omega)
    have sb := spTo_bd ok i (by omega)
    have hwi := hw i
    have hr : rd (tabW l.length w) (i : Int) = w i := tabW_rd _ _ _ hi
    have IH := fun full h => tw_rows l a1 P g w ok hg hP hw hend hfull d (i + 1) full (by omega) h
    have hnext : g + loTo l i + pre l P i + w i = g + loTo l (i + 1) + pre l P (i + 1) := by rw [hwi]; simp only [loTo]; omega
    have hlt : ∀ j, j < i + 1 ↔ j < i ∨ j = i := fun j => by omega
    refine EvT.succ (fun k => rfl) (EvT.ifp (by rw [tabW_length]; omega) (EvT.ifp (by omega) (EvT.ifp (by omega) ?_)))
    rw [hr, show rd_T29 l (i : Int) = tkr l i from rfl, w1 i (by omega), EvT.w64 (x := g + loTo l i + pre l P i + w i) (by omega) (by omega), hnext]
    refine EvT.ifn (by omega) (EvT.ifn (by omega) (EvT.ite (fun h => IH _ ?_) (fun h => IH _ ?_)))
    · rw [beq_iff_eq]
      have h0 := hf.1 h
      exact ⟨fun h1 j hj => ((hlt j).1 hj).elim (h0 j) (fun e => by rw [e]; exact h1), fun h1 => h1 i (by omega)⟩
    · constructor
      · intro h1; cases h1
      · intro h1
        exact absurd (hf.2 fun j hj => h1 j (by omega)) h
theorem tw_lo (l : List S29) (a1 : Int) (g : Int) (ok : OkN l) (hg : 0 ≤ g ∧ g ≤ 6300000) (res : List Int) (st : Int) 
    (hend : Ev (fun k => formelaw26_TableWidths.l0 k l a1 true res st (g + loTo l l.length) g (l.length : Int)) true) : ∀ (d i : Nat), i + d = l.length →
    Ev (fun k => formelaw26_TableWidths.l0 k l a1 true res st (g + loTo l i) g (i : Int)) true
  | 0, i, e => by
    obtain rfl : i = l.length := by omega
    exact hend
  | d + 1, i, e => by
    have hi : i < l.length := by omega
    have n64 := ok.n64
    have b := ok.bd i hi
    have lb := loTo_bd ok i (by omega)
    have IH := tw_lo l a1 g ok hg res st hend d (i + 1) (by omega)
    refine EvT.succ (fun k => rfl) (EvT.ifp (by omega) (EvT.ifp (by omega) ?_))
    rw [show rd_T29 l (i : Int) = tkr l i from rfl, w1 i (by omega), EvT.w64 (x := g + loTo l i + (tkr l i).f0) (by omega) (by omega), show g + loTo l i + (tkr l i).f0 = g + loTo l (i + 1) by simp only [loTo]; omega]
    exact IH
theorem TableWidths : formelaw26_TableWidths.Pure := fun l a1 a2 _ _ _ _ _ => Ev.rounds (Ev.bind head_ev (EvT.ifp rfl (Ev.bind (usable_ev l a1 a2) (EvT.ite (fun h => by
  obtain ⟨ok, b1, b2⟩ := OkN.of h
  have n1 := ok.n1
  have n64 := ok.n64
  have rb := restR_bd ok b1 b2
  have lb := loTo_bd ok l.length (Nat.le_refl _)
  have sb := spTo_bd ok l.length (Nat.le_refl _)
  have hg : wrap64 (a2 * wrap64 ((l.length : Int) - 1)) = a2 * ((l.length : Int) - 1) := by rw [EvT.w64 (x := (l.length : Int) - 1) (by omega) (by omega), EvT.w64 (by omega) (by omega)]
  rw [hg]
  have hR : restR l a1 a2 = a1 - a2 * ((l.length : Int) - 1) - loTo l l.length := rfl
  generalize a2 * ((l.length : Int) - 1) = G at hR rb ⊢
  have hf : table_Widths.f l a1 a2 = if restR l a1 a2 < 0 then some ([], 22) else some (tabW l.length (widR l a1 a2), 0) := by unfold table_Widths.f; rw [if_pos h]
  by_cases hneg : restR l a1 a2 < 0
  · rw [if_pos hneg] at hf
    refine EvT.bindc hf ?_
    have := tw_lo l a1 G ok rb.2.2 [] 22 (EvT.succ (fun k => rfl) (EvT.ifn (by omega) (EvT.ifp (by omega) (EvT.ifp rfl (EvT.ifp rfl (EvT.now rfl)))))) l.length 0 (by omega)
    simpa [loTo] using this
  · rw [if_neg hneg] at hf
    refine EvT.bindc hf ?_
    have hP : 0 ≤ mn (restR l a1 a2) (spTo l l.length) ∧ mn (restR l a1 a2) (spTo l l.length) ≤ spTo l l.length := by unfold mn; split <;> omega
    have rows := tw_rows l a1 _ G (widR l a1 a2) ok rb.2.2 hP (widR_pre l a1 a2) (by unfold mn; split <;> omega) (by unfold mn; split <;> omega) l.length 0 true (by omega) (by simp)
    rw [pre_zero, show loTo l 0 = 0 from rfl, Int.add_zero, Int.add_zero] at rows
    have := tw_lo l a1 G ok rb.2.2 (tabW l.length (widR l a1 a2)) 0 (EvT.succ (fun k => rfl) (EvT.ifn (by omega) (EvT.ifn (by omega) (EvT.ifp rfl ?_)))) l.length 0 (by omega)
    · simpa [loTo] using this
    · rw [tabW_length, show ((l.length : Int) != (l.length : Int)) = false by simp]
      exact EvT.lit (g := fun k c => formelaw26_TableWidths.j1 k l a1 true (tabW l.length (widR l a1 a2)) G c) false (fun c hc => EvT.succ (fun k => rfl) (EvT.ifn (by rw [hc]; decide) rows))) (fun _ => Ev.now _)))))
end Go.Proofs.Ytclfimdafmoafaa.Pure
