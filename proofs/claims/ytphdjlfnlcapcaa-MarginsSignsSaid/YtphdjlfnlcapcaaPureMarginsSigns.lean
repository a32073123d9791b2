/- For any margins: those that are at least 0 are joined to the greatest one, or 0; those that are at most 0 to the least one, or 0; all of them to the sum of both. Conditions: none beyond the statement (it speaks of up to 1000 margins). -/
import Derived.Test.YtphdjlfnlcapcaaPx6
import Derived.Test.YtphdjlfnlcapcaaHPures
namespace Go.Proofs.Ytphdjlfnlcapcaa.Pure
open Go.RowKit Go.Proofs.Ytphdjlfnlcapcaa.P Go.Proofs.YtphdjlfnlcapcaaW.PrintWords Go.Proofs.YtphdjlfnlcapcaaW.PrintLast Go.Proofs.YtphdjlfnlcapcaaW.PrintMore

def hs (l : List Int) : List Int := l.filter fun x => decide (x ≥ 0)
def ls (l : List Int) : List Int := l.filter fun x => !decide (x ≥ 0)
theorem hs_snoc (l : List Int) (i : Nat) (h : i < l.length) : hs (l.take (i + 1)) = hs (l.take i) ++ (if rd l (i : Int) ≥ 0 then [rd l (i : Int)] else []) := by
  rw [rd_nat l i h, List.take_succ_eq_append_getElem h]; unfold hs; rw [List.filter_append]
  by_cases h0 : l[i] ≥ 0 <;> simp [h0]
theorem ls_snoc (l : List Int) (i : Nat) (h : i < l.length) : ls (l.take (i + 1)) = ls (l.take i) ++ (if rd l (i : Int) ≥ 0 then [] else [rd l (i : Int)]) := by
  rw [rd_nat l i h, List.take_succ_eq_append_getElem h]; unfold ls; rw [List.filter_append]
  by_cases h0 : l[i] ≥ 0 <;> simp [h0]
theorem hs_all (l : List Int) (h : l.all inM = true) : (hs l).all inM = true := by
  unfold hs; rw [List.all_eq_true] at h ⊢; intro x hx; exact h x (List.mem_filter.1 hx).1
theorem ls_all (l : List Int) (h : l.all inM = true) : (ls l).all inM = true := by
  unfold ls; rw [List.all_eq_true] at h ⊢; intro x hx; exact h x (List.mem_filter.1 hx).1
theorem hs_len (l : List Int) : (hs l).length ≤ l.length := List.length_filter_le _ _
theorem ls_len (l : List Int) : (ls l).length ≤ l.length := List.length_filter_le _ _
theorem lo_pos : ∀ (l : List Int) (a : Int), a ≤ 0 → (∀ x ∈ l, 0 ≤ x) → l.foldl mn a = a
  | [], a, _, _ => rfl
  | x :: l, a, ha, h => by
    have hx := h x (by simp)
    rw [List.foldl_cons, show mn a x = a from by unfold mn; rw [if_neg (by omega)]]
    exact lo_pos l a ha (fun y hy => h y (by simp [hy]))
theorem hi_neg : ∀ (l : List Int) (a : Int), 0 ≤ a → (∀ x ∈ l, x ≤ 0) → l.foldl mx a = a
  | [], a, _, _ => rfl
  | x :: l, a, ha, h => by
    have hx := h x (by simp)
    rw [List.foldl_cons, show mx a x = a from by unfold mx; rw [if_neg (by omega)]]
    exact hi_neg l a ha (fun y hy => h y (by simp [hy]))
theorem hi_hs : ∀ (l : List Int) (a : Int), 0 ≤ a → (hs l).foldl mx a = l.foldl mx a
  | [], a, _ => rfl
  | x :: l, a, ha => by
    by_cases h0 : x ≥ 0
    · rw [show hs (x :: l) = x :: hs l from by simp [hs, h0], List.foldl_cons, List.foldl_cons]
      exact hi_hs l _ (by unfold mx; split <;> omega)
    · rw [show hs (x :: l) = hs l from by simp [hs, h0], List.foldl_cons, show mx a x = a from by unfold mx; rw [if_neg (by omega)]]
      exact hi_hs l a ha
theorem lo_ls : ∀ (l : List Int) (a : Int), a ≤ 0 → (ls l).foldl mn a = l.foldl mn a
  | [], a, _ => rfl
  | x :: l, a, ha => by
    by_cases h0 : x ≥ 0
    · rw [show ls (x :: l) = ls l from by simp [ls, h0], List.foldl_cons, show mn a x = a from by unfold mn; rw [if_neg (by omega)]]
      exact lo_ls l a ha
    · rw [show ls (x :: l) = x :: ls l from by simp [ls, h0], List.foldl_cons, List.foldl_cons]
      exact lo_ls l _ (by unfold mn; split <;> omega)
theorem lo_hs (l : List Int) : lo (hs l) = 0 := lo_pos _ 0 (by omega) (fun x hx => by have := (List.mem_filter.1 hx).2; simpa using this)
theorem hi_ls (l : List Int) : hi (ls l) = 0 := hi_neg _ 0 (by omega) (fun x hx => by have := (List.mem_filter.1 hx).2; simp at this; omega)

theorem signs_loop (l : List Int) (hl : l.length ≤ 1000) (hm : l.all inM = true) : ∀ (d i : Nat), i + d = l.length →
    Ev (fun k => formelaw18_MarginsSigns.l0 k l true (hs (l.take i)) (ls (l.take i)) (hi (hs (l.take i))) (lo (ls (l.take i))) l (l.length : Int) (i : Int)) true
  | 0, i, h => by
    obtain rfl : i = l.length := by omega
    rw [List.take_length]
    have a1 := hs_all l hm
    have a2 := ls_all l hm
    have l1 := hs_len l
    have l2 := ls_len l
    refine EvT.succ (fun k => rfl) (EvT.ifn (by omega) (EvT.bindc (join_some _ a1 (by omega)) (EvT.bindc (join_some _ a2 (by omega)) (EvT.bindc (join_some _ hm (by omega)) (EvT.ifp rfl (EvT.ifp rfl (EvT.ifp rfl (EvT.ifp rfl (EvT.ifp ?_ (EvT.ifp ?_ (EvT.now ?_)))))))))))
    · rw [lo_hs]; omega
    · rw [hi_ls]; omega
    · have r1 := hi_range l hm
      have r2 := lo_range l hm
      have e1 : hi (hs l) = hi l := hi_hs l 0 (by omega)
      have e2 : lo (ls l) = lo l := lo_ls l 0 (by omega)
      rw [lo_hs, hi_ls, e1, e2, EvT.w64 (by omega) (by omega)]
      congr 1
      rw [beq_iff_eq]
      omega
  | d + 1, i, h => by
    have hi' : i < l.length := by omega
    have hl' : (hs (l.take i)).length ≤ 1000 := by have := hs_len (l.take i); have := List.length_take_le i l; omega
    have hl2 : (ls (l.take i)).length ≤ 1000 := by have := ls_len (l.take i); have := List.length_take_le i l; omega
    have ih := signs_loop l hl hm d (i + 1) (by omega)
    refine EvT.succ (fun k => rfl) (EvT.ifp (by omega) (EvT.ifp (by omega) (EvT.ifp (by omega) (EvT.ite (fun hc => ?_) (fun hc => ?_)))))
    · rw [hs_snoc l i hi', ls_snoc l i hi', if_pos hc, if_pos hc, List.append_nil] at ih
      refine EvT.ifp (by omega) ?_
      rw [EvT.w64 (by omega) (by omega)]
      have e : hi (hs (l.take i) ++ [rd l (i : Int)]) = mx (hi (hs (l.take i))) (rd l (i : Int)) := by unfold hi; rw [List.foldl_append]; rfl
      rw [e] at ih
      simpa using ih
    · rw [hs_snoc l i hi', ls_snoc l i hi', if_neg hc, if_neg hc, List.append_nil] at ih
      refine EvT.ifp (by omega) ?_
      rw [EvT.w64 (by omega) (by omega)]
      have e : lo (ls (l.take i) ++ [rd l (i : Int)]) = mn (lo (ls (l.take i))) (rd l (i : Int)) := by unfold lo; rw [List.foldl_append]; rfl
      rw [e] at ih
      simpa using ih

theorem MarginsSigns : formelaw18_MarginsSigns.Pure := by
  intro l hml hl8 _
  refine Ev.rounds (g := fun k => formelaw18_MarginsSigns.f k l) ?_
  refine Ev.bind head_ev (EvT.ifp rfl (Ev.bind (right_ev l (by omega)) (EvT.ite (fun hc => ?_) (fun _ => EvT.now rfl))))
  simp only [Bool.and_eq_true, decide_eq_true_eq] at hc
  exact signs_loop l hc.2 hc.1 l.length 0 (by omega)
end Go.Proofs.Ytphdjlfnlcapcaa.Pure
