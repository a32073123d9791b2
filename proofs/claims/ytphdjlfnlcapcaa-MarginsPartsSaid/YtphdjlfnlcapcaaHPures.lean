import Derived.Test.YtphdjlfnlcapcaaPx3
import Derived.Test.YtphdjlfnlcapcaaPx2
import Derived.Test.YtphdjlfnlcapcaaHEv
set_option linter.unusedVariables false
set_option linter.unusedSimpArgs false
namespace Go.Proofs.Ytphdjlfnlcapcaa.Pure
open Go.RowKit Go.Proofs.Ytphdjlfnlcapcaa.P Go.Proofs.YtphdjlfnlcapcaaW.PrintWords Go.Proofs.YtphdjlfnlcapcaaW.PrintLast Go.Proofs.YtphdjlfnlcapcaaW.PrintMore

theorem head_ev : Ev (fun k => formelaw18_head.f k) true := Ev.of (fun k => formelaw18_head.mono k) (k := 10) (by decide +kernel)

theorem margin_eq (n : Int) : formeref18_Margin.f n = some (inM n) := by
  unfold formeref18_Margin.f inM
  by_cases h : n ≥ -1000000000
  · rw [if_pos h, decide_eq_true (show -1000000000 ≤ n from h)]; rfl
  · rw [if_neg h, decide_eq_false (show ¬ -1000000000 ≤ n from h)]; rfl

theorem right_loop (l : List Int) (hl : l.length ≤ 100000000000000) : ∀ (d i : Nat), i + d = l.length → (l.take i).all inM = true →
    Ev (fun k => formelaw18_right.l0 k l l (l.length : Int) (i : Int)) (l.all inM && decide (l.length ≤ 1000))
  | 0, i, h, ha => by
    obtain rfl : i = l.length := by omega
    rw [List.take_length] at ha
    refine EvT.succ (fun k => rfl) (EvT.ifn (by omega) (EvT.now ?_))
    rw [ha, Bool.true_and]
    congr 1
    rw [decide_eq_decide]
    omega
  | d + 1, i, h, ha => by
    have hi : i < l.length := by omega
    refine EvT.succ (fun k => rfl) (EvT.ifp (by omega) (EvT.ifp (by omega) (EvT.ifp (by omega) (EvT.bindc (margin_eq _) (EvT.ite (fun hm => ?_) (fun hm => ?_))))))
    · rw [EvT.w64 (by omega) (by omega)]
      have := right_loop l hl d (i + 1) (by omega) (by rw [all_snoc l i hi, ha, hm]; rfl)
      simpa using this
    · refine EvT.now ?_
      rw [all_miss l i hi hm]
      rfl
theorem right_ev (l : List Int) (hl : l.length ≤ 100000000000000) : Ev (fun k => formelaw18_right.f k l) (l.all inM && decide (l.length ≤ 1000)) :=
  right_loop l hl l.length 0 (by omega) (by simp)

theorem join_some (l : List Int) (h1 : l.all inM = true) (h2 : l.length ≤ 4000) : margins_Join.f l = some (hi l + lo l, 0) := by
  unfold margins_Join.f
  rw [if_neg (by omega), if_pos h1]
theorem hi_app (a b : List Int) : ∀ x, (a ++ b).foldl mx x = b.foldl mx (a.foldl mx x) := fun x => List.foldl_append
theorem hi_range (l : List Int) (h : l.all inM = true) : 0 ≤ hi l ∧ hi l ≤ 1000000000 := hi_bd l 0 (by omega) (by omega) h
theorem lo_range (l : List Int) (h : l.all inM = true) : -1000000000 ≤ lo l ∧ lo l ≤ 0 := lo_bd l 0 (by omega) (by omega) h
end Go.Proofs.Ytphdjlfnlcapcaa.Pure
