import Derived.Test.YtclfimdafmoafaaHTabQ
import Derived.Test.YtclfimdafmoafaaHNeeds
import Derived.Test.YtclfimdafmoafaaPx5
set_option linter.unusedVariables false
set_option linter.unusedSimpArgs false
namespace Go.Proofs.Ytclfimdafmoafaa.PureN
open Go.RowKit Go.Proofs.Ytclfimdafmoafaa.P Go.Proofs.Ytclfimdafmoafaa.Pure Go.Proofs.YtclfimdafmoafaaW.PrintWords Go.Proofs.YtclfimdafmoafaaW.PrintLast Go.Proofs.YtclfimdafmoafaaW.PrintMore
def rw_ (rows : List (List S29)) (i : Nat) : List S29 := rd_L2 rows (i : Int)
theorem rw_eq (rows : List (List S29)) (i : Nat) (h : i < rows.length) : rw_ rows i = rows[i] := by simp [rw_, rd_L2, List.getD_eq_getElem?_getD, List.getElem?_eq_getElem h]
theorem t_eq (row : List S29) (j : Nat) (h : j < row.length) : rd_T29 row (j : Int) = row[j] := by simp [rd_T29, List.getD_eq_getElem?_getD, List.getElem?_eq_getElem h]
def badN (r : List S29) : Bool := decide (64 < r.length) || badR r
theorem gmax_ge : ∀ (xs : List Int) (a : Int), a ≤ xs.foldl mx a ∧ ∀ x ∈ xs, x ≤ xs.foldl mx a
  | [], a => ⟨Int.le_refl _, by simp⟩
  | x :: xs, a => by
    obtain ⟨h1, h2⟩ := gmax_ge xs (mx a x)
    have h3 : a ≤ mx a x ∧ x ≤ mx a x := by unfold mx; split <;> omega
    exact ⟨Int.le_trans h3.1 h1, fun y hy => (List.mem_cons.1 hy).elim (fun e => by subst e; exact Int.le_trans h3.2 h1) (fun hy => h2 y hy)⟩
theorem gmax_le (B : Int) : ∀ (xs : List Int) (a : Int), a ≤ B → (∀ x ∈ xs, x ≤ B) → xs.foldl mx a ≤ B
  | [], a, h, _ => h
  | x :: xs, a, h, hx => by
    have h1 := hx x (by simp)
    exact gmax_le B xs (mx a x) (by unfold mx; split <;> omega) (fun y hy => hx y (by simp [hy]))
theorem cols_ge (rows : List (List S29)) (i : Nat) (h : i < rows.length) : ((rw_ rows i).length : Int) ≤ colsOf rows := by
  rw [rw_eq _ _ h]
  exact (gmax_ge _ 0).2 _ (List.mem_map.2 ⟨_, List.getElem_mem h, rfl⟩)
theorem cols_nn (rows : List (List S29)) : 0 ≤ colsOf rows := (gmax_ge _ 0).1
/-- A need that is wrong, in row i. -/
theorem n_wrong (rows : List (List S29)) (i : Nat) (hi : i < rows.length) (hl : (rw_ rows i).length ≤ 64) (x4 : Int) : ∀ (d j : Nat), j + d = (rw_ rows i).length → ((rw_ rows i).drop j).any wrongR = true →
    Ev (fun k => formeref26_Needs.l1 k rows x4 (i : Int) (j : Int)) ([], 1)
  | 0, j, e, h => by
    rw [List.drop_eq_nil_of_le (by omega)] at h
    cases h
  | d + 1, j, e, h => by
    have hj : j < (rw_ rows i).length := by omega
    rw [List.drop_eq_getElem_cons hj, List.any_cons, ← t_eq _ _ hj] at h
    refine EvT.succ (fun k => rfl) (EvT.ifp (by omega) (EvT.ifp (by omega) (EvT.ifp (by show (j : Int) < ((rw_ rows i).length : Int); omega) (EvT.ifp (by omega) (EvT.bindc (need_f _) ?_)))))
    rw [show rd_L2 rows (i : Int) = rw_ rows i from rfl]
    cases hw : wrongR (rd_T29 (rw_ rows i) (j : Int))
    · rw [hw, Bool.false_or] at h
      refine EvT.ifp rfl ?_
      rw [w1 j (by omega)]
      exact n_wrong rows i hi hl x4 d (j + 1) (by omega) h
    · exact EvT.ifn (by decide) (EvT.now rfl)
theorem n_right (rows : List (List S29)) (i : Nat) (hi : i < rows.length) (hi2 : i ≤ 1000) (hl : (rw_ rows i).length ≤ 64) (hno : (rw_ rows i).any wrongR = false) (x4 : Int) (r : List S29 × Int)
    (hnext : Ev (fun k => formeref26_Needs.l0 k rows x4 ((i + 1 : Nat) : Int)) r) : ∀ (d j : Nat), j + d = (rw_ rows i).length →
    Ev (fun k => formeref26_Needs.l1 k rows x4 (i : Int) (j : Int)) r
  | 0, j, e => by
    refine EvT.succ (fun k => rfl) (EvT.ifp (by omega) (EvT.ifp (by omega) (EvT.ifn (by show ¬ (j : Int) < ((rw_ rows i).length : Int); omega) ?_)))
    rw [w1 i (by omega)]
    exact hnext
  | d + 1, j, e => by
    have hj : j < (rw_ rows i).length := by omega
    have hw : wrongR (rd_T29 (rw_ rows i) (j : Int)) = false := by
      rw [t_eq _ _ hj]
      simpa using List.any_eq_false.1 hno _ (List.getElem_mem hj)
    refine EvT.succ (fun k => rfl) (EvT.ifp (by omega) (EvT.ifp (by omega) (EvT.ifp (by show (j : Int) < ((rw_ rows i).length : Int); omega) (EvT.ifp (by omega) (EvT.bindc (need_f _) ?_)))))
    rw [show rd_L2 rows (i : Int) = rw_ rows i from rfl, hw]
    refine EvT.ifp rfl ?_
    rw [w1 j (by omega)]
    exact n_right rows i hi hi2 hl hno x4 r hnext d (j + 1) (by omega)
theorem n_bad (rows : List (List S29)) (hr : rows.length ≤ 40) : ∀ (d i : Nat) (x4 : Int), i + d = rows.length → (rows.drop i).any badN = true →
    Ev (fun k => formeref26_Needs.l0 k rows x4 (i : Int)) ([], 1)
  | 0, i, x4, e, h => by
    rw [List.drop_eq_nil_of_le (by omega)] at h
    cases h
  | d + 1, i, x4, e, h => by
    have hi : i < rows.length := by omega
    rw [List.drop_eq_getElem_cons hi, List.any_cons, ← rw_eq rows i hi] at h
    refine EvT.succ (fun k => rfl) (EvT.ifp (by omega) (EvT.ifp (by omega) ?_))
    rw [show rd_L2 rows (i : Int) = rw_ rows i from rfl]
    refine EvT.ite (fun hl => EvT.now rfl) (fun hl => ?_)
    cases hw : (rw_ rows i).any wrongR
    · have hb : badN (rw_ rows i) = false := by simp only [badN, badR, hw, Bool.or_false]; simp; omega
      rw [hb, Bool.false_or] at h
      exact n_right rows i hi (by omega) (by omega) hw _ _ (n_bad rows hr d (i + 1) _ (by omega) h) (rw_ rows i).length 0 (by omega)
    · exact n_wrong rows i hi (by omega) _ (rw_ rows i).length 0 (by omega) (by simpa using hw)
theorem take_map (rows : List (List S29)) (i : Nat) (h : i < rows.length) : (rows.take (i + 1)).map (fun r => (r.length : Int)) = (rows.take i).map (fun r => (r.length : Int)) ++ [((rw_ rows i).length : Int)] := by
  rw [List.take_succ_eq_append_getElem h, List.map_append, rw_eq _ _ h]
  rfl
theorem n_good (rows : List (List S29)) (hr : rows.length ≤ 40) (ok : rows.any badN = false) (r : List S29 × Int)
    (hend : Ev (fun k => formeref26_Needs.l0 k rows (colsOf rows) (rows.length : Int)) r) : ∀ (d i : Nat), i + d = rows.length →
    Ev (fun k => formeref26_Needs.l0 k rows (colsOf (rows.take i)) (i : Int)) r
  | 0, i, e => by
    obtain rfl : i = rows.length := by omega
    rw [List.take_length]
    exact hend
  | d + 1, i, e => by
    have hi : i < rows.length := by omega
    have hb := List.any_eq_false.1 ok _ (List.getElem_mem hi)
    rw [← rw_eq rows i hi] at hb
    simp only [badN, badR, Bool.not_eq_true, Bool.or_eq_false_iff, decide_eq_false_iff_not] at hb
    have IH := n_good rows hr ok r hend d (i + 1) (by omega)
    unfold colsOf at IH
    rw [take_map _ _ hi, gmax_snoc] at IH
    refine EvT.succ (fun k => rfl) (EvT.ifp (by omega) (EvT.ifp (by omega) ?_))
    rw [show rd_L2 rows (i : Int) = rw_ rows i from rfl]
    exact EvT.ifn (by omega) (n_right rows i hi (by omega) (by omega) hb.2 _ _ IH (rw_ rows i).length 0 (by omega))
/-! The table's columns, one need at a time. -/
def tabS (n : Nat) (F : Nat → S29) : List S29 := (List.range n).map F
theorem tabS_length (n : Nat) (F : Nat → S29) : (tabS n F).length = n := by simp [tabS]
theorem tabS_rd (n : Nat) (F : Nat → S29) (i : Nat) (h : i < n) : rd_T29 (tabS n F) (i : Int) = F i := by simp [rd_T29, tabS, List.getD_eq_getElem?_getD, h]
theorem tabS_congr {n : Nat} {F G : Nat → S29} (h : ∀ i, i < n → F i = G i) : tabS n F = tabS n G := List.map_congr_left fun i hi => h i (List.mem_range.1 hi)
theorem tabS_set (n : Nat) (F : Nat → S29) (i : Nat) (v : S29) (h : i < n) : (tabS n F).set i v = tabS n (fun j => if j = i then v else F j) := by
  apply List.ext_getElem?
  intro j
  rw [List.getElem?_set]
  by_cases hj : j < n
  · by_cases e : i = j
    · subst e
      simp [tabS, h]
    · simp [tabS, hj, e, Ne.symm e]
  · by_cases e : i = j
    · omega
    · simp [tabS, hj, e]
def stp (rows : List (List S29)) (i j : Nat) (c : Nat) : S29 := if c < j then needOf (rows.take (i + 1)) c else needOf (rows.take i) c
theorem need_next (rows : List (List S29)) (i c : Nat) (hi : i < rows.length) (hc : c < (rw_ rows i).length) : needOf (rows.take (i + 1)) c = ⟨mx (needOf (rows.take i) c).f0 (rd_T29 (rw_ rows i) (c : Int)).f0, mx (needOf (rows.take i) c).f1 (rd_T29 (rw_ rows i) (c : Int)).f1⟩ := by
  unfold needOf
  have h : rows[i]? = some (rw_ rows i) := by rw [rw_eq _ _ hi]; exact List.getElem?_eq_getElem hi
  rw [col_snoc rows c i _ h, List.getElem?_eq_getElem hc, t_eq _ _ hc]
  simp only [Option.toList_some, List.map_append, List.map_cons, List.map_nil, gmax_snoc]
theorem need_stay (rows : List (List S29)) (i c : Nat) (hi : i < rows.length) (hc : (rw_ rows i).length ≤ c) : needOf (rows.take (i + 1)) c = needOf (rows.take i) c := by
  unfold needOf
  have h : rows[i]? = some (rw_ rows i) := by rw [rw_eq _ _ hi]; exact List.getElem?_eq_getElem hi
  rw [col_snoc rows c i _ h, List.getElem?_eq_none hc]
  simp
theorem c_row (rows : List (List S29)) (n : Nat) (i : Nat) (hi : i < rows.length) (hi2 : i ≤ 1000) (hn : (rw_ rows i).length ≤ n) (hn2 : n ≤ 64) (r : List S29 × Int)
    (hnext : Ev (fun k => formeref26_Needs.l2 k rows (tabS n (needOf (rows.take (i + 1)))) ((i + 1 : Nat) : Int)) r) : ∀ (d j : Nat), j + d = (rw_ rows i).length →
    Ev (fun k => formeref26_Needs.l3 k rows (tabS n (stp rows i j)) (i : Int) (j : Int)) r
  | 0, j, e => by
    refine EvT.succ (fun k => rfl) (EvT.ifp (by omega) (EvT.ifp (by omega) (EvT.ifn (by show ¬ (j : Int) < ((rw_ rows i).length : Int); omega) ?_)))
    rw [w1 i (by omega), tabS_congr (G := needOf (rows.take (i + 1))) (fun c hc => by
      unfold stp
      split
      · rfl
      · exact (need_stay rows i c hi (by omega)).symm)]
    exact hnext
  | d + 1, j, e => by
    have hj : j < (rw_ rows i).length := by omega
    have IH := c_row rows n i hi hi2 hn hn2 r hnext d (j + 1) (by omega)
    refine EvT.succ (fun k => rfl) (EvT.ifp (by omega) (EvT.ifp (by omega) (EvT.ifp (by show (j : Int) < ((rw_ rows i).length : Int); omega) (EvT.ifp (by omega) (EvT.ifp (by rw [tabS_length]; omega) (EvT.bindc rfl ?_))))))
    rw [show rd_L2 rows (i : Int) = rw_ rows i from rfl, w1 j (by omega), Int.toNat_natCast, tabS_rd _ _ _ (by omega), tabS_set _ _ _ _ (by omega), tabS_rd _ _ _ (by omega), tabS_set _ _ _ _ (by omega)]
    rw [tabS_congr (G := stp rows i (j + 1)) (fun c hc => by
      by_cases e : c = j
      · subst e
        simp only [if_true, stp, Nat.lt_irrefl, if_false, Nat.lt_succ_self]
        rw [need_next rows i c hi hj]
      · simp only [if_neg e, stp]
        by_cases h : c < j
        · rw [if_pos h, if_pos (by omega)]
        · rw [if_neg h, if_neg (by omega)])]
    exact IH
theorem c_rows (rows : List (List S29)) (hr : rows.length ≤ 40) (n : Nat) (hn : ∀ i, i < rows.length → (rw_ rows i).length ≤ n) (hn2 : n ≤ 64) : ∀ (d i : Nat), i + d = rows.length →
    Ev (fun k => formeref26_Needs.l2 k rows (tabS n (needOf (rows.take i))) (i : Int)) (needList rows n, 0)
  | 0, i, e => by
    obtain rfl : i = rows.length := by omega
    refine EvT.succ (fun k => rfl) (EvT.ifn (by omega) (EvT.now ?_))
    rw [List.take_length]
    rfl
  | d + 1, i, e => by
    have hi : i < rows.length := by omega
    refine EvT.succ (fun k => rfl) (EvT.ifp (by omega) ?_)
    have := c_row rows n i hi (by omega) (hn i hi) hn2 _ (c_rows rows hr n hn hn2 d (i + 1) (by omega)) (rw_ rows i).length 0 (by omega)
    rw [tabS_congr (G := needOf (rows.take i)) (fun c _ => by unfold stp; rw [if_neg (by omega)])] at this
    exact this
/-- What Needs gives. -/
def needsR (rows : List (List S29)) : List S29 × Int :=
  if rows.length ≤ 4000 ∧ inside (colsOf rows) 1 64 = true ∧ rows.any badR = false then (needList rows (colsOf rows).toNat, 0) else ([], 1)
theorem needs_f (rows : List (List S29)) : table_Needs.f rows = some (needsR rows) := by
  unfold table_Needs.f needsR
  split <;> rfl
/-- The reference's Needs gives the same. -/
theorem needs_same (rows : List (List S29)) (hr : rows.length ≤ 40) : Ev (fun k => formeref26_Needs.f k rows) (needsR rows) := by
  have c0 := cols_nn rows
  cases hb : rows.any badN
  · have hrow : ∀ i, i < rows.length → (rw_ rows i).length ≤ 64 ∧ badR (rw_ rows i) = false := fun i hi => by
      have h := List.any_eq_false.1 hb _ (List.getElem_mem hi)
      rw [← rw_eq rows i hi] at h
      simp only [badN, Bool.not_eq_true, Bool.or_eq_false_iff, decide_eq_false_iff_not] at h
      exact ⟨by omega, h.2⟩
    have hno : rows.any badR = false := List.any_eq_false.2 fun x hx => by
      obtain ⟨i, hi, rfl⟩ := List.mem_iff_getElem.1 hx
      rw [← rw_eq rows i hi, (hrow i hi).2]
      decide
    have hc64 : colsOf rows ≤ 64 := gmax_le 64 _ 0 (by omega) fun x hx => by
      obtain ⟨y, hy, rfl⟩ := List.mem_map.1 hx
      obtain ⟨i, hi, rfl⟩ := List.mem_iff_getElem.1 hy
      have := (hrow i hi).1
      rw [rw_eq rows i hi] at this
      omega
    have := n_good rows hr hb (needsR rows) ?_ rows.length 0 (by omega)
    · exact this
    · unfold needsR
      refine EvT.succ (fun k => rfl) (EvT.ifn (by omega) (EvT.ifn (by omega) ?_))
      by_cases hz : colsOf rows = 0
      · rw [if_neg (fun h => by have := h.2.1; rw [hz] at this; exact absurd this (by decide)), hz]
        exact EvT.lit (g := fun k c => formeref26_Needs.j2 k rows 0 c) true (fun c hc => EvT.succ (fun k => rfl) (EvT.ifp hc (EvT.now rfl)))
      · rw [if_pos ⟨by omega, by simp [inside]; omega, hno⟩, show (colsOf rows == 0) = false by simpa using hz]
        refine EvT.lit (g := fun k c => formeref26_Needs.j2 k rows (colsOf rows) c) false (fun c hc => EvT.succ (fun k => rfl) (EvT.ifn (by rw [hc]; decide) (EvT.ifp c0 (EvT.ifp (by omega) ?_))))
        have h2 := c_rows rows hr (colsOf rows).toNat (fun i hi => by have := cols_ge rows i hi; omega) (by omega) rows.length 0 (by omega)
        have e0 : tabS (colsOf rows).toNat (needOf (rows.take 0)) = List.replicate (colsOf rows).toNat z29 := by
          generalize (colsOf rows).toNat = n
          induction n with
          | zero => rfl
          | succ n ih => rw [List.replicate_succ', ← ih]; simp [tabS, List.range_succ]; rfl
        rw [e0] at h2
        exact h2
  · have hn : needsR rows = ([], 1) := by
      unfold needsR
      refine if_neg fun h => ?_
      obtain ⟨x, hx, hbx⟩ := List.any_eq_true.1 hb
      obtain ⟨i, hi, rfl⟩ := List.mem_iff_getElem.1 hx
      simp only [badN, Bool.or_eq_true, decide_eq_true_eq] at hbx
      rcases hbx with hbx | hbx
      · have := cols_ge rows i hi
        rw [rw_eq rows i hi] at this
        have := h.2.1
        simp [inside] at this
        omega
      · exact absurd hbx (List.any_eq_false.1 h.2.2 _ (List.getElem_mem hi))
    rw [hn]
    exact n_bad rows hr rows.length 0 0 (by omega) hb
theorem needsR_length (rows : List (List S29)) : (needsR rows).1.length ≤ 64 := by
  unfold needsR
  split
  · rename_i h
    have := h.2.1
    rw [needList_length]
    simp [inside] at this
    omega
  · simp
theorem need_self (l : List S29) (hl : l.length ≤ 1000) : ∀ (d i : Nat), i + d = l.length → Ev (fun k => formeref26_SameNeeds.l0 k l l (i : Int)) true
  | 0, i, h => EvT.succ (fun k => rfl) (EvT.ifn (by omega) (EvT.now rfl))
  | d + 1, i, h => by
    refine EvT.succ (fun k => rfl) (EvT.ifp (by omega) (EvT.ifp (by omega) (EvT.ifp (by omega) (EvT.ifn (by simp) ?_))))
    rw [w1 i (by omega)]
    exact need_self l hl d (i + 1) (by omega)
theorem needs_self (l : List S29) (hl : l.length ≤ 1000) : Ev (fun k => formeref26_SameNeeds.f k l l) true := EvT.ifp rfl (need_self l hl l.length 0 (by omega))
theorem int_self (l : List Int) (hl : l.length ≤ 1000) : ∀ (d i : Nat), i + d = l.length → Ev (fun k => formeref02_SameInts.l0 k l l (i : Int)) true
  | 0, i, h => EvT.succ (fun k => rfl) (EvT.ifn (by omega) (EvT.now rfl))
  | d + 1, i, h => by
    refine EvT.succ (fun k => rfl) (EvT.ifp (by omega) (EvT.ifp (by omega) (EvT.ifp (by omega) (EvT.ifp rfl ?_))))
    rw [w1 i (by omega)]
    exact int_self l hl d (i + 1) (by omega)
theorem ints_self (l : List Int) (hl : l.length ≤ 1000) : Ev (fun k => formeref02_SameInts.f k l l) true := EvT.ifp rfl (int_self l hl l.length 0 (by omega))
/-- few ran to its end; true only if there are few rows. -/
theorem few_loop (l : List (List S29)) : ∀ (d i : Nat), i + d = min l.length 50 → ∃ b, Ev (fun k => api_Range_10.l0 k l (i : Int)) b ∧ (b = true → l.length ≤ 40)
  | 0, i, e => by
    have hend : Ev (fun k => api_Range_10.j1 k l (i : Int) false) (decide ((l.length : Int) ≤ 40)) :=
      EvT.lit (g := fun k c => api_Range_10.j1 k l (i : Int) c) false (fun c hc => EvT.succ (fun k => rfl) (EvT.ifn (by rw [hc]; decide) (EvT.now rfl)))
    refine ⟨_, EvT.succ (fun k => rfl) (EvT.ite (fun hi => ?_) (fun hi => hend)), fun h => by have := of_decide_eq_true h; omega⟩
    rw [show decide ((i : Int) < 50) = false from decide_eq_false (by omega)]
    exact hend
  | d + 1, i, e => by
    have hi : i < l.length := by omega
    by_cases hb : ((rd_L2 l (i : Int)).length : Int) > 70
    · refine ⟨false, EvT.succ (fun k => rfl) (EvT.ifp (by omega) ?_), fun h => by cases h⟩
      rw [show decide ((i : Int) < 50) = true from decide_eq_true (by omega)]
      exact EvT.lit (g := fun k c => api_Range_10.j1 k l (i : Int) c) true (fun c hc => EvT.succ (fun k => rfl) (EvT.ifp hc (EvT.ifp (by omega) (EvT.ifp (by omega) (EvT.ifp hb (EvT.now rfl))))))
    · obtain ⟨b, hE, hb2⟩ := few_loop l d (i + 1) (by omega)
      refine ⟨b, EvT.succ (fun k => rfl) (EvT.ifp (by omega) ?_), hb2⟩
      rw [show decide ((i : Int) < 50) = true from decide_eq_true (by omega)]
      refine EvT.lit (g := fun k c => api_Range_10.j1 k l (i : Int) c) true (fun c hc => EvT.succ (fun k => rfl) (EvT.ifp hc (EvT.ifp (by omega) (EvT.ifp (by omega) (EvT.ifn hb ?_)))))
      rw [w1 i (by omega)]
      exact hE
theorem few_ev (l : List (List S29)) : ∃ b, Ev (fun k => api_Range_10.f k l) b ∧ (b = true → l.length ≤ 40) := few_loop l (min l.length 50) 0 (by omega)
end Go.Proofs.Ytclfimdafmoafaa.PureN
