/- The need of a column is not less than that of any of its cells, and each of its ends is that of one of them; in the opposite order rows have the same needs (package table alone; up to 40 rows with 70 cells each). Conditions: those of the statement alone. -/
import Derived.Test.YtclfimdafmoafaaPx15
import Derived.Test.YtclfimdafmoafaaHTabR3
set_option linter.unusedVariables false
set_option linter.unusedSimpArgs false
namespace Go.Proofs.Ytclfimdafmoafaa.PureN
open Go.RowKit Go.Proofs.Ytclfimdafmoafaa.P Go.Proofs.Ytclfimdafmoafaa.Pure Go.Proofs.YtclfimdafmoafaaW.PrintWords Go.Proofs.YtclfimdafmoafaaW.PrintLast Go.Proofs.YtclfimdafmoafaaW.PrintMore
theorem gmax_sub {xs ys : List Int} (h : ∀ x ∈ xs, x ∈ ys) : gmax xs ≤ gmax ys := gmax_le _ _ _ (gmax_ge ys 0).1 fun x hx => (gmax_ge ys 0).2 x (h x hx)
theorem gmax_rev (xs : List Int) : gmax xs.reverse = gmax xs := by
  have h1 := gmax_sub (xs := xs.reverse) (ys := xs) (by simp)
  have h2 := gmax_sub (xs := xs) (ys := xs.reverse) (by simp)
  omega
theorem gmax_mem : ∀ (xs : List Int) (a : Int), xs.foldl mx a = a ∨ xs.foldl mx a ∈ xs
  | [], a => .inl rfl
  | x :: xs, a => by
    have h3 : mx a x = a ∨ mx a x = x := by unfold mx; split <;> simp
    rcases gmax_mem xs (mx a x) with h | h
    · rcases h3 with h4 | h4
      · exact .inl (by show xs.foldl mx (mx a x) = a; rw [h, h4])
      · exact .inr (by show xs.foldl mx (mx a x) ∈ x :: xs; rw [h, h4]; simp)
    · exact .inr (List.mem_cons_of_mem _ h)
theorem cols_rev (rows : List (List S29)) : colsOf rows.reverse = colsOf rows := by
  unfold colsOf
  rw [List.map_reverse, gmax_rev]
theorem need_rev (rows : List (List S29)) (k : Nat) : needOf rows.reverse k = needOf rows k := by
  unfold needOf col
  rw [List.filterMap_reverse, List.map_reverse, List.map_reverse, gmax_rev, gmax_rev]
theorem needs_rev (rows : List (List S29)) : needsR rows.reverse = needsR rows := by
  unfold needsR
  rw [cols_rev, List.length_reverse, List.any_reverse]
  have : needList rows.reverse (colsOf rows).toNat = needList rows (colsOf rows).toNat := List.map_congr_left fun k _ => need_rev rows k
  rw [this]
theorem w0m (m : Nat) (h : m ≤ 1000000) : wrap64 ((m : Int) - 1) = (m : Int) - 1 := EvT.w64 (by omega) (by omega)
theorem back_loop (rows : List (List S29)) (hr : rows.length ≤ 40) (x4 : List S29) (x5 : Int) (hend : Ev (fun k => formelaw26_TableNeeds.l0 k rows true x4 x5 rows.reverse (-1)) true) : ∀ m : Nat, m ≤ rows.length →
    Ev (fun k => formelaw26_TableNeeds.l0 k rows true x4 x5 (rows.drop m).reverse ((m : Int) - 1)) true
  | 0, _ => by
    rw [List.drop_zero]
    exact hend
  | m + 1, h => by
    have hm : m < rows.length := by omega
    have IH := back_loop rows hr x4 x5 hend m (by omega)
    rw [List.drop_eq_getElem_cons hm, List.reverse_cons, ← rw_eq rows m hm] at IH
    rw [show ((m + 1 : Nat) : Int) - 1 = (m : Int) by omega]
    refine EvT.succ (fun k => rfl) (EvT.ifp (by omega) (EvT.ifp (by omega) (EvT.ifp (by omega) (EvT.ifp (by simp; omega) ?_))))
    rw [w0m m (by omega)]
    exact IH
/-! One column. -/
def has (rows : List (List S29)) (c : Nat) (f : S29 → Int) (v : Int) : Bool := rows.any fun r => decide (c < r.length) && (f (rd_T29 r (c : Int)) == v)
theorem has_snoc (rows : List (List S29)) (c i : Nat) (f : S29 → Int) (v : Int) (hi : i < rows.length) : has (rows.take (i + 1)) c f v = (has (rows.take i) c f v || (decide (c < (rw_ rows i).length) && (f (rd_T29 (rw_ rows i) (c : Int)) == v))) := by
  unfold has
  rw [List.take_succ_eq_append_getElem hi, List.any_append, rw_eq rows i hi]
  simp
theorem col_mem {rows : List (List S29)} {c : Nat} {x : S29} (h : x ∈ col rows c) : ∃ r ∈ rows, ∃ hc : c < r.length, x = rd_T29 r (c : Int) := by
  unfold col at h
  obtain ⟨r, hr, he⟩ := List.mem_filterMap.1 h
  obtain ⟨hc, rfl⟩ := List.getElem?_eq_some_iff.1 he
  exact ⟨r, hr, hc, (t_eq _ _ hc).symm⟩
theorem mem_col {rows : List (List S29)} {c i : Nat} (hi : i < rows.length) (hc : c < (rw_ rows i).length) : rd_T29 (rw_ rows i) (c : Int) ∈ col rows c := by
  unfold col
  refine List.mem_filterMap.2 ⟨rw_ rows i, by rw [rw_eq rows i hi]; exact List.getElem_mem hi, ?_⟩
  rw [t_eq _ _ hc]
  exact List.getElem?_eq_getElem hc
theorem has_all (rows : List (List S29)) (hno : rows.any badR = false) (c : Nat) (hc : (c : Int) < colsOf rows) (f : S29 → Int) (hf : ∀ x, wrongR x = false → 0 ≤ f x) : has rows c f (gmax ((col rows c).map f)) = true := by
  have hnn : ∀ x ∈ col rows c, 0 ≤ f x := fun x hx => by
    obtain ⟨r, hr, hl, rfl⟩ := col_mem hx
    have h1 := List.any_eq_false.1 hno r hr
    simp only [badR, Bool.not_eq_true] at h1
    have h2 := List.any_eq_false.1 h1 r[c] (List.getElem_mem hl)
    rw [t_eq _ _ hl]
    exact hf _ (by simpa using h2)
  have hne : ∃ x, x ∈ col rows c := by
    rcases gmax_mem (rows.map fun r => (r.length : Int)) 0 with h | h
    · have : colsOf rows = 0 := h
      omega
    · obtain ⟨r, hr, he⟩ := List.mem_map.1 h
      have he' : (r.length : Int) = colsOf rows := he
      have hl : c < r.length := by omega
      exact ⟨r[c], List.mem_filterMap.2 ⟨r, hr, List.getElem?_eq_getElem hl⟩⟩
  have key : ∃ x ∈ col rows c, f x = gmax ((col rows c).map f) := by
    rcases gmax_mem ((col rows c).map f) 0 with h | h
    · obtain ⟨x, hx⟩ := hne
      have h1 := hnn x hx
      have h2 := (gmax_ge ((col rows c).map f) 0).2 (f x) (List.mem_map.2 ⟨x, hx, rfl⟩)
      have h3 : gmax ((col rows c).map f) = 0 := h
      have h4 : f x ≤ gmax ((col rows c).map f) := h2
      exact ⟨x, hx, by omega⟩
    · obtain ⟨x, hx, he⟩ := List.mem_map.1 h
      exact ⟨x, hx, he⟩
  obtain ⟨x, hx, he⟩ := key
  obtain ⟨r, hr, hl, rfl⟩ := col_mem hx
  unfold has
  refine List.any_eq_true.2 ⟨r, hr, ?_⟩
  rw [he]
  simp [hl]
theorem needList_rd (rows : List (List S29)) (n c : Nat) (h : c < n) : rd_T29 (needList rows n) (c : Int) = needOf rows c := tabS_rd n (needOf rows) c h
theorem column (rows : List (List S29)) (hr : rows.length ≤ 40) (n : Nat) (x8 : List S29) (x9 : Int) (c : Nat) (hc : c < n) (hcn : c ≤ 1000) (hlo : has rows c (·.f0) (needOf rows c).f0 = true) (hhi : has rows c (·.f1) (needOf rows c).f1 = true)
    (hnext : Ev (fun k => formelaw26_TableNeeds.l1 k rows true (needList rows n) x8 x9 ((c + 1 : Nat) : Int)) true) : ∀ (d i : Nat), i + d = rows.length →
    Ev (fun k => formelaw26_TableNeeds.l2 k rows true (needList rows n) x8 x9 (c : Int) (has (rows.take i) c (·.f0) (needOf rows c).f0) (has (rows.take i) c (·.f1) (needOf rows c).f1) (i : Int)) true
  | 0, i, e => by
    obtain rfl : i = rows.length := by omega
    rw [List.take_length]
    refine EvT.succ (fun k => rfl) (EvT.ifn (by omega) (EvT.ifp hlo (EvT.ifp hhi ?_)))
    rw [w1 c (by omega)]
    exact hnext
  | d + 1, i, e => by
    have hi : i < rows.length := by omega
    have IH := column rows hr n x8 x9 c hc hcn hlo hhi hnext d (i + 1) (by omega)
    rw [has_snoc rows c i _ _ hi, has_snoc rows c i _ _ hi] at IH
    refine EvT.succ (fun k => rfl) (EvT.ifp (by omega) (EvT.ifp (by omega) ?_))
    rw [show rd_L2 rows (i : Int) = rw_ rows i from rfl, w1 i (by omega), needList_rd _ _ _ hc]
    refine EvT.ite (fun hl => ?_) (fun hl => EvT.ifp (by omega) (EvT.ifp (by omega) (EvT.ifp (by rw [needList_length]; omega) ?_)))
    · have : decide (c < (rw_ rows i).length) = false := decide_eq_false (by omega)
      rw [this, Bool.false_and, Bool.or_false, Bool.false_and, Bool.or_false] at IH
      exact IH
    · have hcl : c < (rw_ rows i).length := by omega
      have hm := mem_col hi hcl
      have g0 : (rd_T29 (rw_ rows i) (c : Int)).f0 ≤ (needOf rows c).f0 := (gmax_ge _ 0).2 _ (List.mem_map.2 ⟨_, hm, rfl⟩)
      have g1 : (rd_T29 (rw_ rows i) (c : Int)).f1 ≤ (needOf rows c).f1 := (gmax_ge _ 0).2 _ (List.mem_map.2 ⟨_, hm, rfl⟩)
      rw [decide_eq_true hcl, Bool.true_and, Bool.true_and] at IH
      refine EvT.ifn (by omega) (EvT.ifn (by omega) (EvT.ite (fun h1 => EvT.ite (fun h2 => ?_) (fun h2 => ?_)) (fun h1 => EvT.ite (fun h2 => ?_) (fun h2 => ?_))))
      · rw [h1, h2] at IH
        simpa using IH
      · rw [h1, Bool.eq_false_iff.2 h2] at IH
        simpa using IH
      · rw [Bool.eq_false_iff.2 h1, h2] at IH
        simpa using IH
      · rw [Bool.eq_false_iff.2 h1, Bool.eq_false_iff.2 h2] at IH
        simpa using IH
theorem widths_fit (rows : List (List S29)) (hr : rows.length ≤ 40) (n : Nat) (hn : ∀ i, i < rows.length → (rw_ rows i).length ≤ n) (hn64 : n ≤ 64) : ∀ (d i : Nat), i + d = rows.length →
    Ev (fun k => formelaw26_TableNeeds.l3 k rows true (needList rows n) (needList rows n) 0 (i : Int)) true
  | 0, i, e => EvT.succ (fun k => rfl) (EvT.ifn (by omega) (EvT.ifp rfl (EvT.ifp rfl (Ev.bind (needs_self _ (by rw [needList_length]; omega)) (Ev.now _)))))
  | d + 1, i, e => by
    have hi : i < rows.length := by omega
    have h1 := hn i hi
    refine EvT.succ (fun k => rfl) (EvT.ifp (by omega) (EvT.ifp (by omega) ?_))
    rw [show rd_L2 rows (i : Int) = rw_ rows i from rfl, w1 i (by omega), needList_length]
    exact EvT.ifn (by omega) (widths_fit rows hr n hn hn64 d (i + 1) (by omega))
theorem columns (rows : List (List S29)) (hr : rows.length ≤ 40) (n : Nat) (hn : ∀ i, i < rows.length → (rw_ rows i).length ≤ n) (hn64 : n ≤ 64) (hlo : ∀ c, c < n → has rows c (·.f0) (needOf rows c).f0 = true) (hhi : ∀ c, c < n → has rows c (·.f1) (needOf rows c).f1 = true) : ∀ (d c : Nat), c + d = n →
    Ev (fun k => formelaw26_TableNeeds.l1 k rows true (needList rows n) (needList rows n) 0 (c : Int)) true
  | 0, c, e => EvT.succ (fun k => rfl) (EvT.ifn (by rw [needList_length]; omega) (widths_fit rows hr n hn hn64 rows.length 0 (by omega)))
  | d + 1, c, e => EvT.succ (fun k => rfl) (EvT.ifp (by rw [needList_length]; omega) (column rows hr n _ 0 c (by omega) (by omega) (hlo c (by omega)) (hhi c (by omega)) (columns rows hr n hn hn64 hlo hhi d (c + 1) (by omega)) rows.length 0 (by omega)))
theorem TableNeeds (l0 : List (List S29)) : ∃ k, formelaw26_TableNeeds.f k l0 = some true := Ev.rounds (Ev.bind head_ev (EvT.ifp rfl (by
  obtain ⟨b1, hE1, hf1⟩ := few_ev l0
  refine Ev.bind hE1 (EvT.ite (fun hb1 => EvT.bindc (needs_f l0) ?_) (fun _ => Ev.now _))
  have hl := hf1 hb1
  have hstart := back_loop l0 hl (needsR l0).1 (needsR l0).2 ?_ l0.length (Nat.le_refl _)
  · rw [List.drop_length] at hstart
    rw [w0m _ (by omega)]
    exact hstart
  · refine EvT.succ (fun k => rfl) (EvT.ifn (by decide) (EvT.bindc ((needs_f l0.reverse).trans (by rw [needs_rev])) ?_))
    by_cases h : l0.length ≤ 4000 ∧ inside (colsOf l0) 1 64 = true ∧ l0.any badR = false
    · have hn : needsR l0 = (needList l0 (colsOf l0).toNat, 0) := if_pos h
      rw [hn]
      have hc := h.2.1
      simp only [inside, Bool.and_eq_true, decide_eq_true_eq] at hc
      refine EvT.ifp rfl ?_
      have wf : ∀ x : S29, wrongR x = false → 0 ≤ x.f0 ∧ 0 ≤ x.f1 := fun x hx => by
        simp [wrongR, inside] at hx
        omega
      exact columns l0 hl _ (fun i hi => by have := cols_ge l0 i hi; omega) (by omega) (fun c hc' => has_all l0 h.2.2 c (by omega) (·.f0) (fun x hx => (wf x hx).1)) (fun c hc' => has_all l0 h.2.2 c (by omega) (·.f1) (fun x hx => (wf x hx).2)) (colsOf l0).toNat 0 (by omega)
    · have hn : needsR l0 = ([], 1) := if_neg h
      rw [hn]
      exact EvT.ifn (show ¬ (1 : Int) = 0 by decide) (EvT.ifp rfl (EvT.ifp rfl (EvT.ifp rfl (EvT.now rfl)))))))
end Go.Proofs.Ytclfimdafmoafaa.PureN
