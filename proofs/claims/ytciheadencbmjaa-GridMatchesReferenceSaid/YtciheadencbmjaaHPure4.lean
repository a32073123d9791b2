import Derived.Test.YtciheadencbmjaaHPure3
set_option linter.unusedVariables false
set_option linter.unusedSimpArgs false
namespace Go.Proofs.Ytciheadencbmjaa.P
open Go.RowKit Go.Proofs.YtciheadencbmjaaW.PrintWords
/-- The rows' heights behind i items. -/
def Pre (cols : Int) (l hs : List Int) (i : Nat) : Int → Int := rowsP hs ((walkL cols l).take i)
def rowOf (cols : Int) (l : List Int) (i : Nat) : Int := (cellAt cols l i).f0
theorem pre_zero (cols : Int) (l hs : List Int) (j : Int) : Pre cols l hs 0 j = 0 := by simp [Pre, rowsP]
theorem pre_full (cols : Int) (l hs : List Int) : Pre cols l hs l.length = rowsP hs (walkL cols l) := by
  unfold Pre
  rw [List.take_of_length_le (by rw [walkL_length]; exact Nat.le_refl _)]
theorem pre_succ (cols : Int) (l hs : List Int) (i : Nat) (h : i < l.length) (j : Int) : Pre cols l hs (i + 1) j = if j = rowOf cols l i then mx (Pre cols l hs i (rowOf cols l i)) (rd hs (i : Int)) else Pre cols l hs i j := by
  have h2 : i < (walkL cols l).length := by rw [walkL_length]; exact h
  have h3 : (walkL cols l)[i] = ((i : Int), cellAt cols l i) := by
    have := walkL_get cols l i h
    rw [List.getElem?_eq_getElem h2] at this
    exact Option.some.inj this
  unfold Pre
  rw [List.take_succ_eq_append_getElem h2, h3, rowsP_snoc]
  rfl
theorem pre_none {cols : Int} {l hs : List Int} {j : Int} : ∀ i, i ≤ l.length → (∀ k, k < i → rowOf cols l k ≠ j) → Pre cols l hs i j = 0
  | 0, _, _ => pre_zero cols l hs j
  | i + 1, hi, h => by
    rw [pre_succ cols l hs i (by omega), if_neg (fun e => h i (by omega) e.symm)]
    exact pre_none i (by omega) (fun k hk => h k (by omega))
theorem pre_stay {cols : Int} {l hs : List Int} {j : Int} : ∀ d i, i + d ≤ l.length → (∀ k, i ≤ k → k < i + d → rowOf cols l k ≠ j) → Pre cols l hs (i + d) j = Pre cols l hs i j
  | 0, i, _, _ => rfl
  | d + 1, i, hi, h => by
    rw [← Nat.add_assoc, pre_succ cols l hs (i + d) (by omega), if_neg (fun e => h (i + d) (by omega) (by omega) e.symm)]
    exact pre_stay d i (by omega) (fun k h1 h2 => h k h1 (by omega))
theorem row_step (cols : Int) (l : List Int) (i : Nat) (h : i + 1 < l.length) : rowOf cols l (i + 1) = rowOf cols l i ∨ rowOf cols l (i + 1) = rowOf cols l i + 1 := by
  unfold rowOf
  rw [cell_succ cols l i h]
  unfold nextC
  split
  · exact .inr rfl
  · exact .inl rfl
theorem row_mono (cols : Int) (l : List Int) : ∀ d i, i + d < l.length → rowOf cols l i ≤ rowOf cols l (i + d)
  | 0, i, _ => Int.le_refl _
  | d + 1, i, h => by
    have h1 := row_mono cols l d i (by omega)
    have h2 := row_step cols l (i + d) (by omega)
    rw [← Nat.add_assoc]
    omega
theorem row_le {cols : Int} {l : List Int} {i j : Nat} (h : i ≤ j) (hj : j < l.length) : rowOf cols l i ≤ rowOf cols l j := by
  obtain ⟨d, rfl⟩ : ∃ d, j = i + d := ⟨j - i, by omega⟩
  exact row_mono cols l d i hj
theorem last_row {cols : Int} {l : List Int} {n : Nat} (h : l.length = n + 1) : lastP (walkL cols l) = rowOf cols l n := by
  have h1 : (walkL cols l) = (walkL cols l).take n ++ [((n : Int), cellAt cols l n)] := by
    have h2 : n < (walkL cols l).length := by rw [walkL_length]; omega
    have h3 := walkL_get cols l n (by omega)
    rw [List.getElem?_eq_getElem h2] at h3
    have h4 : (walkL cols l)[n] = ((n : Int), cellAt cols l n) := Option.some.inj h3
    rw [← h4, ← List.take_succ_eq_append_getElem h2, List.take_of_length_le (by rw [walkL_length]; omega)]
  rw [h1, lastP_snoc]
  rfl
/-- The row of item i is whole when the next item stands in another. -/
theorem row_whole {cols : Int} {l hs : List Int} {i : Nat} (h : i + 1 < l.length) (hr : rowOf cols l (i + 1) = rowOf cols l i + 1) : rowsP hs (walkL cols l) (rowOf cols l i) = Pre cols l hs (i + 1) (rowOf cols l i) := by
  rw [← pre_full]
  obtain ⟨d, hd⟩ : ∃ d, l.length = (i + 1) + d := ⟨l.length - (i + 1), by omega⟩
  rw [hd]
  refine pre_stay d (i + 1) (by omega) (fun k h1 h2 => ?_)
  have := row_le (cols := cols) (l := l) h1 (by omega)
  omega
theorem row_new {cols : Int} {l hs : List Int} {i : Nat} (h : i + 1 < l.length) (hr : rowOf cols l (i + 1) = rowOf cols l i + 1) : Pre cols l hs (i + 1) (rowOf cols l (i + 1)) = 0 := by
  refine pre_none (i + 1) (by omega) (fun k hk => ?_)
  have := row_le (cols := cols) (l := l) (i := k) (j := i) (by omega) (by omega)
  omega
theorem begP_succ (gap : Int) (p : Int → Int) (k : Nat) : begP gap p (k + 1) = begP gap p k + p (k : Int) + gap := by
  unfold begP
  rw [if_pos (by omega)]
  rfl
theorem endP_succ (gap : Int) (p : Int → Int) (k : Nat) : endP gap p (k + 1) = begP gap p k + p (k : Int) := rfl
theorem begP_zero (gap : Int) (p : Int → Int) : begP gap p 0 = 0 := rfl
theorem begP_bd {gap : Int} {p : Int → Int} (hg : 0 ≤ gap ∧ gap ≤ 100000) (hp : Low p) (k : Nat) : 0 ≤ begP gap p k ∧ begP gap p k ≤ 1100000 * (k : Int) + 100000 := by
  have := endP_bd hg hp k
  unfold begP
  split <;> omega
end Go.Proofs.Ytciheadencbmjaa.P
