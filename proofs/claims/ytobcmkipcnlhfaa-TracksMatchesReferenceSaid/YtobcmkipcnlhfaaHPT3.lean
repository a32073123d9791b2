import Derived.Test.YtobcmkipcnlhfaaHPT2
set_option linter.unusedVariables false
set_option linter.unusedSimpArgs false
namespace Go.Proofs.Ytobcmkipcnlhfaa.Pure
open Go.RowKit Go.Proofs.Ytobcmkipcnlhfaa.P Go.Proofs.YtobcmkipcnlhfaaW.PrintWords Go.Proofs.YtobcmkipcnlhfaaW.PrintLast

def fr (t : S36) : S36 := ⟨t.f0, t.f1, 0⟩
def free (l : List S36) : List S36 := l.map fr
theorem free_length (l : List S36) : (free l).length = l.length := by simp [free]
theorem free_tk (l : List S36) (i : Nat) (h : i < l.length) : tk (free l) i = fr (tk l i) := by
  simp [tk, rd_T36, free, List.getD_eq_getElem?_getD, List.getElem?_eq_getElem h]
theorem free_ok {l : List S36} (ok : OkL l) : OkL (free l) where
  n1 := by rw [free_length]; exact ok.n1
  n64 := by rw [free_length]; exact ok.n64
  bd i hi := by
    rw [free_length] at hi
    have := ok.bd i hi
    rw [free_tk l i hi]
    exact ⟨this.1, this.2.1, this.2.2.1, this.2.2.2.1, .inl rfl⟩
theorem okV_of {l : List S36} (ok : OkL l) : okV l = true := by
  have h1 := ok.n1
  have h2 := ok.n64
  have h3 : l.any wrongW = false := List.any_eq_false.2 (fun t ht => by
    obtain ⟨i, hi, e⟩ := List.getElem_of_mem ht
    have e2 : tk l i = l[i] := by simp [tk, rd_T36, List.getD_eq_getElem?_getD, List.getElem?_eq_getElem hi]
    rw [← e, ← e2, (wrongW_iff _).2 (ok.bd i hi)]
    decide)
  simp [okV, h3, inside]
  omega
/-- What a share among tracks without a Max is. -/
theorem free_share {l : List S36} (ok : OkL l) (a1 a2 : Int) (h1 : 0 ≤ a1 ∧ a1 ≤ 1000000) (h2 : 0 ≤ a2 ∧ a2 ≤ 100000) (op : Nat → Bool) (hop : op = fun i => decide (i < (free l).length) && decide (0 < (tk (free l) i).f1)) :
    ∃ res, formelaw23_share.f (free l) a1 a2 = some (tab l.length res, true) ∧ (∀ i, i < l.length → res i = (tk l i).f0 + P.part (free l) op (leftN (free l) a1 a2) (grown (free l) op l.length) i) ∧ ∀ i, i < l.length → 0 ≤ res i ∧ res i ≤ 2000000 := by
  have okf := free_ok ok
  obtain ⟨res, hS, hF⟩ := Share_spec (free l) okf a1 a2 h1 h2
  obtain ⟨res2, hS2, he⟩ := Share_free (free l) okf (fun i hi => by rw [free_length] at hi; rw [free_tk l i hi]; rfl) a1 a2 h1 h2 op hop
  obtain rfl : res = res2 := Option.some.inj (hS.symm.trans hS2)
  have hN := leftN_bd (free l) okf a1 a2 h1 h2
  refine ⟨res, ?_, fun i hi => ?_, fun i hi => ?_⟩
  · have := share_f hS (okV_of okf) (by simp [inside]; omega) (by simp [inside]; omega)
    rwa [free_length] at this
  · have := he i (by rw [free_length]; exact hi)
    rw [free_tk l i hi, free_length] at this
    exact this
  · have := fin_bd okf hN.2 hF i (by rw [free_length]; exact hi)
    omega
theorem sumTo_part {l : List S36} (op : Nat → Bool) (number all : Int) (res : Nat → Int) (h : ∀ i, i < l.length → res i = (tk l i).f0 + P.part (free l) op number all i) : ∀ i, i ≤ l.length → sumTo res i = sumTo (fun i => (tk l i).f0) i + quo (free l) op number all i
  | 0, _ => by simp [sumTo, quo_zero]
  | i + 1, hi => by
    have IH := sumTo_part op number all res h i (by omega)
    have hp : P.part (free l) op number all i = quo (free l) op number all (i + 1) - quo (free l) op number all i := rfl
    have := h i (by omega)
    simp only [sumTo]
    omega
theorem take_free (l : List S36) (i : Nat) (h : i < l.length) : (l.take i).map fr ++ [(⟨(rd_T36 l (i : Int)).f0, (rd_T36 l (i : Int)).f1, 0⟩ : S36)] = (l.take (i + 1)).map fr := by
  rw [List.take_succ_eq_append_getElem h, List.map_append]
  have : rd_T36 l (i : Int) = l[i] := by simp [rd_T36, List.getD_eq_getElem?_getD, List.getElem?_eq_getElem h]
  rw [this]
  rfl
end Go.Proofs.Ytobcmkipcnlhfaa.Pure
