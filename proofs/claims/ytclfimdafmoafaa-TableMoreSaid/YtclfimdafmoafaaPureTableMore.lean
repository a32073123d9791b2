/- With more space no column begins or ends further to the left (package table alone; up to 64 columns). Conditions: those of the statement alone. -/
import Derived.Test.YtclfimdafmoafaaPx13
import Derived.Test.YtclfimdafmoafaaHTabQ
set_option linter.unusedVariables false
set_option linter.unusedSimpArgs false
namespace Go.Proofs.Ytclfimdafmoafaa.Pure
open Go.RowKit Go.Proofs.Ytclfimdafmoafaa.P Go.Proofs.YtclfimdafmoafaaW.PrintWords Go.Proofs.YtclfimdafmoafaaW.PrintLast Go.Proofs.YtclfimdafmoafaaW.PrintMore

theorem tm_rows (l : List S29) (P Q : Int) (w v : Nat → Int) (ok : OkN l) (hP : 0 ≤ P ∧ P ≤ spTo l l.length) (hQ : 0 ≤ Q ∧ Q ≤ spTo l l.length) (hPQ : P ≤ Q)
    (hw : ∀ i, w i = (tkr l i).f0 + (pre l P (i + 1) - pre l P i)) (hv : ∀ i, v i = (tkr l i).f0 + (pre l Q (i + 1) - pre l Q i)) : ∀ (d i : Nat), i + d = l.length →
    Ev (fun k => formelaw26_TableMore.l0 k true (tabW l.length w) (tabW l.length v) (loTo l i + pre l P i) (loTo l i + pre l Q i) (i : Int)) true
  | 0, i, e => by
    obtain rfl : i = l.length := by omega
    exact EvT.succ (fun k => rfl) (EvT.ifn (by rw [tabW_length]; omega) (EvT.now rfl))
  | d + 1, i, e => by
    have hi : i < l.length := by omega
    have n64 := ok.n64
    have b := ok.bd i hi
    have s1 := pre_step ok hP i hi
    have s2 := pre_step ok hQ i hi
    have p1 := pre_bd ok hP i (by omega)
    have p2 := pre_bd ok hQ i (by omega)
    have m := pre_mono ok hP.1 hPQ (i + 1) (by omega)
    have lb := loTo_bd ok i (by omega)
    have sb := spTo_bd ok i (by omega)
    have hwi := hw i
    have hvi := hv i
    have IH := tm_rows l P Q w v ok hP hQ hPQ hw hv d (i + 1) (by omega)
    have e1 : loTo l i + pre l P i + w i = loTo l (i + 1) + pre l P (i + 1) := by rw [hwi]; simp only [loTo]; omega
    have e2 : loTo l i + pre l Q i + v i = loTo l (i + 1) + pre l Q (i + 1) := by rw [hvi]; simp only [loTo]; omega
    refine EvT.succ (fun k => rfl) (EvT.ifp (by rw [tabW_length]; omega) (EvT.ifp (by omega) (EvT.ifp (by rw [tabW_length]; omega) ?_)))
    rw [tabW_rd _ _ _ hi, tabW_rd _ _ _ hi, w1 i (by omega), EvT.w64 (x := loTo l i + pre l P i + w i) (by omega) (by omega), EvT.w64 (x := loTo l i + pre l Q i + v i) (by omega) (by omega), e1, e2]
    exact EvT.ifn (by omega) IH
theorem TableMore : formelaw26_TableMore.Pure := fun l a1 a2 a3 _ _ _ w1' _ w3' => Ev.rounds (Ev.bind head_ev (EvT.ifp rfl (Ev.bind (usable_ev l a1 a2) (EvT.ite (fun h => by
  obtain ⟨ok, b1, b2⟩ := OkN.of h
  have n1 := ok.n1
  have n64 := ok.n64
  have h3 : 0 ≤ a3 ∧ a3 ≤ 4294967295 := by
    have m1 : IntKind.u32.min = 0 := by decide
    have m2 : IntKind.u32.max = 4294967295 := by decide
    simpa [Lit.wf, m1, m2] using w3'
  have e3 : wrap64 a3 = a3 := EvT.w64 (by omega) (by omega)
  rw [e3, EvT.w64 (x := a1 + a3) (by omega) (by omega)]
  cases hbig : decide (a1 + a3 > 1000000)
  · have hb2 : a1 + a3 ≤ 1000000 := by have := of_decide_eq_false hbig; omega
    refine EvT.lit (g := fun k c => formelaw26_TableMore.j0 k l a1 a2 a3 true c) false (fun c hc => EvT.succ (fun k => rfl) (EvT.ifn (by rw [hc]; decide) ?_))
    rw [e3, EvT.w64 (x := a1 + a3) (by omega) (by omega)]
    have h' : okW l (a1 + a3) a2 = true := by
      simp only [okW, inside, Bool.and_eq_true, decide_eq_true_eq] at h ⊢
      exact ⟨⟨⟨h.1.1.1, by omega⟩, h.1.2⟩, h.2⟩
    have hR : restR l (a1 + a3) a2 = restR l a1 a2 + a3 := by unfold restR; omega
    have hf : table_Widths.f l a1 a2 = if restR l a1 a2 < 0 then some ([], 22) else some (tabW l.length (widR l a1 a2), 0) := by unfold table_Widths.f; rw [if_pos h]
    have hf' : table_Widths.f l (a1 + a3) a2 = if restR l (a1 + a3) a2 < 0 then some ([], 22) else some (tabW l.length (widR l (a1 + a3) a2), 0) := by unfold table_Widths.f; rw [if_pos h']
    have sb := spTo_bd ok l.length (Nat.le_refl _)
    by_cases hneg : restR l a1 a2 < 0
    · rw [if_pos hneg] at hf
      refine EvT.bindc hf ?_
      by_cases hneg' : restR l (a1 + a3) a2 < 0
      · rw [if_pos hneg'] at hf'
        exact EvT.bindc hf' (EvT.ifn (by decide) (EvT.ifp rfl (EvT.ifp rfl (EvT.ifp rfl (EvT.now rfl)))))
      · rw [if_neg hneg'] at hf'
        exact EvT.bindc hf' (EvT.ifn (by decide) (EvT.ifp rfl (EvT.ifp rfl (EvT.ifn (show ¬ (0 : Int) = 22 by decide) (EvT.now rfl)))))
    · rw [if_neg hneg] at hf
      rw [if_neg (by omega)] at hf'
      refine EvT.bindc hf (EvT.bindc hf' (EvT.ifp rfl (EvT.ifp rfl (EvT.ifp (by rw [tabW_length]) ?_))))
      rw [tabW_length, show ((l.length : Int) != (l.length : Int)) = false by simp]
      refine EvT.lit (g := fun k c => formelaw26_TableMore.j1 k true (tabW l.length (widR l a1 a2)) (tabW l.length (widR l (a1 + a3) a2)) c) false (fun c hc => EvT.succ (fun k => rfl) (EvT.ifn (by rw [hc]; decide) ?_))
      have := tm_rows l (mn (restR l a1 a2) (spTo l l.length)) (mn (restR l (a1 + a3) a2) (spTo l l.length)) _ _ ok (by unfold mn; split <;> omega) (by unfold mn; split <;> omega) (by unfold mn; split <;> split <;> omega) (widR_pre l a1 a2) (widR_pre l (a1 + a3) a2) l.length 0 (by omega)
      simpa [loTo, pre_zero] using this
  · exact EvT.lit (g := fun k c => formelaw26_TableMore.j0 k l a1 a2 a3 true c) true (fun c hc => EvT.succ (fun k => rfl) (EvT.ifp hc (EvT.now rfl)))) (fun _ => EvT.lit (g := fun k c => formelaw26_TableMore.j0 k l a1 a2 a3 true c) true (fun c hc => EvT.succ (fun k => rfl) (EvT.ifp hc (EvT.now rfl))))))))
end Go.Proofs.Ytclfimdafmoafaa.Pure
