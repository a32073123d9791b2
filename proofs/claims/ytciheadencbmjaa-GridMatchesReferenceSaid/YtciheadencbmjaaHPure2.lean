import Derived.Test.YtciheadencbmjaaHPure1
set_option linter.unusedVariables false
set_option linter.unusedSimpArgs false
namespace Go.Proofs.Ytciheadencbmjaa.P
open Go.RowKit Go.Proofs.YtciheadencbmjaaW.PrintWords
def firstC (cols r c n : Int) : S39 := if c + mn n cols > cols then ⟨r + 1, 0⟩ else ⟨r, c⟩
def nextC (cols : Int) (p : S39) (n m : Int) : S39 := if p.f1 + mn n cols + mn m cols > cols then ⟨p.f0 + 1, 0⟩ else ⟨p.f0, p.f1 + mn n cols⟩
theorem walkG_cons (cols : Int) (i : Nat) (r c n : Int) (l : List Int) : walkG cols i r c (n :: l) = ((i : Int), firstC cols r c n) :: walkG cols (i + 1) (firstC cols r c n).f0 ((firstC cols r c n).f1 + mn n cols) l := by
  rw [walkG]
  unfold firstC
  split
  · simp
  · rfl
theorem walkG_next (cols : Int) : ∀ (j i : Nat) (r c : Int) (l : List Int), j + 1 < l.length →
    ((walkG cols i r c l).map (·.2)).getD (j + 1) z39 = nextC cols (((walkG cols i r c l).map (·.2)).getD j z39) (l.getD j 0) (l.getD (j + 1) 0)
  | _, _, _, _, [], h => by simp at h
  | 0, i, r, c, [n], h => by simp at h
  | 0, i, r, c, n :: m :: l, h => by
    rw [walkG_cons, walkG_cons]
    simp [firstC, nextC]
  | j + 1, i, r, c, n :: l, h => by
    rw [walkG_cons]
    have := walkG_next cols j (i + 1) (firstC cols r c n).f0 ((firstC cols r c n).f1 + mn n cols) l (by simpa using h)
    simpa using this
theorem walkG_fst (cols : Int) : ∀ (j i : Nat) (r c : Int) (l : List Int) (h : j < (walkG cols i r c l).length), (walkG cols i r c l)[j].1 = ((i + j : Nat) : Int)
  | _, _, _, _, [], h => by simp [walkG] at h
  | 0, i, r, c, n :: l, h => by simp [walkG_cons]
  | j + 1, i, r, c, n :: l, h => by
    have e := walkG_cons cols i r c n l
    have h2 : j < (walkG cols (i + 1) (firstC cols r c n).f0 ((firstC cols r c n).f1 + mn n cols) l).length := by rw [e] at h; simpa using h
    have := walkG_fst cols j (i + 1) _ _ l h2
    simp only [e, List.getElem_cons_succ]
    rw [this]
    congr 1
    omega
theorem cellsL_length (cols : Int) (l : List Int) : (cellsL cols l).length = l.length := by unfold cellsL; rw [List.length_map, walkL_length]
def cellAt (cols : Int) (l : List Int) (i : Nat) : S39 := (cellsL cols l).getD i z39
theorem rd_cell (cols : Int) (l : List Int) (i : Nat) : rd_T39 (cellsL cols l) (i : Int) = cellAt cols l i := by simp [rd_T39, cellAt]
theorem rd_getD (l : List Int) (i : Nat) : rd l (i : Int) = l.getD i 0 := by simp [rd]
theorem cell_succ (cols : Int) (l : List Int) (i : Nat) (h : i + 1 < l.length) : cellAt cols l (i + 1) = nextC cols (cellAt cols l i) (rd l (i : Int)) (rd l ((i + 1 : Nat) : Int)) := by
  rw [rd_getD, rd_getD]
  exact walkG_next cols i 0 0 0 l h
theorem cell_zero {cols : Int} {l : List Int} (hc : 1 ≤ cols ∧ cols ≤ 64) (hl : ∀ x ∈ l, 1 ≤ x ∧ x ≤ 64) (h : 0 < l.length) : cellAt cols l 0 = ⟨0, 0⟩ := by
  cases l with
  | nil => simp at h
  | cons n l =>
    have := mn_bd (hl n (by simp)) hc
    unfold cellAt cellsL walkL
    rw [walkG_cons]
    simp [firstC]
    omega
theorem walkL_at (cols : Int) (l : List Int) (i : Nat) (h : i < l.length) : ((i : Int), cellAt cols l i) ∈ walkL cols l := by
  have h2 : i < (walkL cols l).length := by rw [walkL_length]; exact h
  have h3 : (walkL cols l)[i] = ((i : Int), cellAt cols l i) := by
    refine Prod.ext ?_ ?_
    · rw [show (walkL cols l)[i].1 = ((0 + i : Nat) : Int) from walkG_fst cols i 0 0 0 l h2]; simp
    · simp [cellAt, cellsL, List.getD_eq_getElem?_getD, List.getElem?_eq_getElem h2]
  rw [← h3]
  exact List.getElem_mem h2
theorem cell_bd {cols : Int} {l : List Int} (hc : 1 ≤ cols ∧ cols ≤ 64) (hl : ∀ x ∈ l, 1 ≤ x ∧ x ≤ 64) (i : Nat) (h : i < l.length) :
    0 ≤ (cellAt cols l i).f1 ∧ (cellAt cols l i).f1 + mn (rd l (i : Int)) cols ≤ cols ∧ 0 ≤ (cellAt cols l i).f0 ∧ (cellAt cols l i).f0 ≤ i + 1 ∧ 1 ≤ mn (rd l (i : Int)) cols ∧ mn (rd l (i : Int)) cols ≤ cols := by
  obtain ⟨k, hk, e1, e2, e3, e4, e5⟩ := walkL_mem hc hl (walkL_at cols l i h)
  have e1 : (i : Int) = (k : Int) := e1
  have : i = k := by omega
  subst this
  have hr := rd_nat l i hk
  rw [← hr] at e3
  have hb := mn_bd (hl _ (List.getElem_mem hk)) hc
  rw [← hr] at hb
  exact ⟨e2, e3, e4, e5, hb.1, hb.2.1⟩
end Go.Proofs.Ytciheadencbmjaa.P
