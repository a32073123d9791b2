import Derived.Test.YtphdjlfnlcapcaaHPures
set_option linter.unusedVariables false
set_option linter.unusedSimpArgs false
namespace Go.Proofs.Ytphdjlfnlcapcaa.Pure
open Go.RowKit Go.Proofs.Ytphdjlfnlcapcaa.P Go.Proofs.YtphdjlfnlcapcaaW.PrintWords Go.Proofs.YtphdjlfnlcapcaaW.PrintLast Go.Proofs.YtphdjlfnlcapcaaW.PrintMore

theorem mx_comm2 (a x y : Int) : mx (mx a x) y = mx (mx a y) x := by unfold mx; (repeat' split) <;> omega
theorem mn_comm2 (a x y : Int) : mn (mn a x) y = mn (mn a y) x := by unfold mn; (repeat' split) <;> omega
theorem hi_perm : ∀ {l m : List Int}, l.Perm m → ∀ a, l.foldl mx a = m.foldl mx a := by
  intro l m h
  induction h with
  | nil => intro a; rfl
  | cons x _ ih => intro a; exact ih _
  | swap x y l => intro a; show l.foldl mx (mx (mx a y) x) = l.foldl mx (mx (mx a x) y); rw [mx_comm2]
  | trans _ _ ih1 ih2 => intro a; rw [ih1, ih2]
theorem lo_perm : ∀ {l m : List Int}, l.Perm m → ∀ a, l.foldl mn a = m.foldl mn a := by
  intro l m h
  induction h with
  | nil => intro a; rfl
  | cons x _ ih => intro a; exact ih _
  | swap x y l => intro a; show l.foldl mn (mn (mn a y) x) = l.foldl mn (mn (mn a x) y); rw [mn_comm2]
  | trans _ _ ih1 ih2 => intro a; rw [ih1, ih2]
/-- What meets at place i. -/
def at_ (l : List S39) (i : Nat) : List Int := (if 0 < i then [(rd_T39 l ((i : Int) - 1)).f1] else []) ++ (if i < l.length then [(rd_T39 l (i : Int)).f0] else [])
theorem jl_drop (l : List S39) : ∀ (d i : Nat), i + d = l.length → jl (if 0 < i then [(rd_T39 l ((i : Int) - 1)).f1] else []) (l.drop i) = (List.range' i (d + 1)).map (at_ l)
  | 0, i, h => by
    obtain rfl : i = l.length := by omega
    rw [List.drop_length]
    simp [jl, at_]
  | d + 1, i, h => by
    have hi' : i < l.length := by omega
    rw [List.drop_eq_getElem_cons hi', List.range'_succ, List.map_cons, ← jl_drop l d (i + 1) (by omega)]
    simp only [jl]
    congr 1
    · rw [at_, if_pos hi', rd_nat39 l i hi']
    · rw [if_pos (Nat.succ_pos i), show (((i + 1 : Nat) : Int) - 1) = (i : Int) from by omega, rd_nat39 l i hi']
theorem gaps_eq (l : List S39) : gaps l = (List.range' 0 (l.length + 1)).map fun i => hi (at_ l i) + lo (at_ l i) := by
  have h := jl_drop l l.length 0 (by omega)
  simp only [Nat.lt_irrefl, if_false, List.drop_zero] at h
  unfold gaps
  rw [h, List.map_map]
  rfl
theorem at_ok (l : List S39) (ha : l.all okItem = true) (i : Nat) (hi' : i ≤ l.length) : (at_ l i).all inM = true ∧ (at_ l i).length ≤ 2 := by
  have hall : ∀ x ∈ l, okItem x = true := List.all_eq_true.1 ha
  have h0 : ∀ j : Nat, j < l.length → inM (rd_T39 l (j : Int)).f0 = true ∧ inM (rd_T39 l (j : Int)).f1 = true := by
    intro j hj
    rw [rd_nat39 l j hj]
    have := hall _ (List.getElem_mem hj)
    unfold okItem at this
    simp only [Bool.and_eq_true] at this
    exact ⟨this.1.1.1, this.1.1.2⟩
  unfold at_
  refine ⟨?_, by split <;> split <;> simp⟩
  rw [List.all_append, Bool.and_eq_true]
  constructor
  · split
    · rename_i hp
      have := (h0 (i - 1) (by omega)).2
      rw [show (((i - 1 : Nat)) : Int) = (i : Int) - 1 from by omega] at this
      simp [this]
    · rfl
  · split
    · rename_i hp
      simp [(h0 i hp).1]
    · rfl
theorem gaps_length (l : List S39) : (gaps l).length = l.length + 1 := by rw [gaps_eq]; simp
end Go.Proofs.Ytphdjlfnlcapcaa.Pure
