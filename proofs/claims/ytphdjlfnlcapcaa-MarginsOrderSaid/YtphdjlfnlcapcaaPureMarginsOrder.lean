/- For any margins: in the opposite order, with one of them once more, and with 0, they are joined to the same (up to 1000). Conditions: those of the statement alone. -/
import Derived.Test.YtphdjlfnlcapcaaPx5
import Derived.Test.YtphdjlfnlcapcaaHPures
namespace Go.Proofs.Ytphdjlfnlcapcaa.Pure
open Go.RowKit Go.Proofs.Ytphdjlfnlcapcaa.P Go.Proofs.YtphdjlfnlcapcaaW.PrintWords Go.Proofs.YtphdjlfnlcapcaaW.PrintLast Go.Proofs.YtphdjlfnlcapcaaW.PrintMore

theorem mx_comm2 (a x y : Int) : mx (mx a x) y = mx (mx a y) x := by unfold mx; (repeat' split) <;> omega
theorem mn_comm2 (a x y : Int) : mn (mn a x) y = mn (mn a y) x := by unfold mn; (repeat' split) <;> omega
theorem hi_perm : ∀ {l m : List Int}, l.Perm m → ∀ a, l.foldl mx a = m.foldl mx a := by
  intro l m h
  induction h with
  | nil => intro a; rfl
  | cons x _ ih => intro a; exact ih _
  | swap x y l => intro a; show l.foldl mx (mx (mx a y) x) = l.foldl mx (mx (mx a x) y); rw [mx_comm2]
  | trans _ _ ih1 ih2 => intro a; rw [ih1, ih2]
theorem lo_perm : ∀ {l m : List Int}, l.Perm m → ∀ a, l.foldl mn a = m.foldl mn a := by
  intro l m h
  induction h with
  | nil => intro a; rfl
  | cons x _ ih => intro a; exact ih _
  | swap x y l => intro a; show l.foldl mn (mn (mn a y) x) = l.foldl mn (mn (mn a x) y); rw [mn_comm2]
  | trans _ _ ih1 ih2 => intro a; rw [ih1, ih2]
theorem hi_ge : ∀ (l : List Int) (a : Int), a ≤ l.foldl mx a ∧ ∀ x ∈ l, x ≤ l.foldl mx a
  | [], a => ⟨Int.le_refl _, by simp⟩
  | y :: l, a => by
    have h := hi_ge l (mx a y)
    have h1 : a ≤ mx a y ∧ y ≤ mx a y := by unfold mx; split <;> omega
    exact ⟨by have := h.1; show a ≤ l.foldl mx (mx a y); omega, fun x hx => by
      rcases List.mem_cons.1 hx with rfl | hx
      · have := h.1; show x ≤ l.foldl mx (mx a x); omega
      · exact h.2 x hx⟩
theorem lo_le : ∀ (l : List Int) (a : Int), l.foldl mn a ≤ a ∧ ∀ x ∈ l, l.foldl mn a ≤ x
  | [], a => ⟨Int.le_refl _, by simp⟩
  | y :: l, a => by
    have h := lo_le l (mn a y)
    have h1 : mn a y ≤ a ∧ mn a y ≤ y := by unfold mn; split <;> omega
    exact ⟨by have := h.1; show l.foldl mn (mn a y) ≤ a; omega, fun x hx => by
      rcases List.mem_cons.1 hx with rfl | hx
      · have := h.1; show l.foldl mn (mn a x) ≤ x; omega
      · exact h.2 x hx⟩
/-- The list behind: 0, the list turned round, one more of its members. -/
theorem hi_back (l : List Int) (x : Int) (hx : x ∈ l) : hi (0 :: l.reverse ++ [x]) = hi l := by
  unfold hi
  rw [List.foldl_append]
  show mx (l.reverse.foldl mx (mx 0 0)) x = _
  rw [show mx 0 0 = 0 from rfl, hi_perm (List.reverse_perm l)]
  have := (hi_ge l 0).2 x hx
  unfold mx at *
  rw [if_neg (by omega)]
theorem lo_back (l : List Int) (x : Int) (hx : x ∈ l) : lo (0 :: l.reverse ++ [x]) = lo l := by
  unfold lo
  rw [List.foldl_append]
  show mn (l.reverse.foldl mn (mn 0 0)) x = _
  rw [show mn 0 0 = 0 from rfl, lo_perm (List.reverse_perm l)]
  have := (lo_le l 0).2 x hx
  unfold mn at *
  rw [if_neg (by omega)]

theorem order_loop (l : List Int) (w : Int) (hw0 : 0 ≤ w) (hw1 : w ≤ 255) (hl : l.length ≤ 1000) (hm : l.all inM = true) : ∀ (n : Nat), n ≤ l.length →
    Ev (fun k => formelaw18_MarginsOrder.l0 k l w true (0 :: (l.drop n).reverse) ((n : Int) - 1)) true
  | 0, hn => by
    rw [List.drop_zero]
    have hall : ∀ x ∈ l, inM x = true := List.all_eq_true.1 hm
    refine EvT.succ (fun k => rfl) (EvT.ifn (by omega) (EvT.ite (fun hp => ?_) (fun hp => ?_)))
    · rw [EvT.w64 (by omega) (by omega), Int.tmod_eq_emod_of_nonneg hw0]
      have h0 := Int.emod_nonneg w (show (l.length : Int) ≠ 0 by omega)
      have h1 := Int.emod_lt_of_pos w (show (0 : Int) < l.length by omega)
      obtain ⟨q, hq⟩ : ∃ q : Nat, w % (l.length : Int) = (q : Int) := ⟨(w % (l.length : Int)).toNat, by omega⟩
      rw [hq]
      rw [hq] at h0 h1
      have hql : q < l.length := by omega
      have hx : rd l (q : Int) ∈ l := by rw [rd_nat l q hql]; exact List.getElem_mem hql
      have hbm : (0 :: l.reverse ++ [rd l (q : Int)]).all inM = true := by
        rw [List.all_eq_true]
        intro y hy
        simp only [List.cons_append, List.mem_cons, List.mem_append, List.mem_reverse, List.not_mem_nil, or_false] at hy
        rcases hy with rfl | hy | rfl
        · decide
        · exact hall y hy
        · exact hall _ hx
      refine EvT.ifn (by omega) (EvT.ifp h0 (EvT.ifp h1 (EvT.ifp (by simp; omega) (EvT.bindc (join_some l hm (by omega)) (EvT.bindc (join_some _ hbm (by simp; omega)) (EvT.ifp rfl (EvT.ifp rfl (EvT.ifp rfl (EvT.now ?_)))))))))
      rw [hi_back l _ hx, lo_back l _ hx]
      simp
    · obtain rfl : l = [] := List.eq_nil_of_length_eq_zero (by omega)
      exact EvT.bindc (join_some [] hm (by simp)) (EvT.bindc (join_some _ (by decide) (by simp)) (EvT.ifp rfl (EvT.ifp rfl (EvT.ifp rfl (EvT.now (by decide))))))
  | n + 1, hn => by
    have ih := order_loop l w hw0 hw1 hl hm n (by omega)
    have e : ((n + 1 : Nat) : Int) - 1 = (n : Int) := by omega
    rw [e]
    refine EvT.succ (fun k => rfl) (EvT.ifp (by omega) (EvT.ifp (by omega) (EvT.ifp (by omega) (EvT.ifp (by simp; omega) ?_))))
    rw [EvT.w64 (by omega) (by omega), rd_nat l n (by omega)]
    rw [List.drop_eq_getElem_cons (show n < l.length by omega), List.reverse_cons] at ih
    exact ih

theorem MarginsOrder : formelaw18_MarginsOrder.Pure := by
  intro l w hml hl8 _ hw
  have hw' : 0 ≤ w ∧ w ≤ 255 := by
    have h1 : IntKind.u8.min = 0 := rfl
    have h2 : IntKind.u8.max = 255 := rfl
    simp only [Lit.wf, Bool.and_eq_true, decide_eq_true_eq] at hw
    omega
  refine Ev.rounds (g := fun k => formelaw18_MarginsOrder.f k l w) ?_
  refine Ev.bind head_ev (EvT.ifp rfl (Ev.bind (right_ev l (by omega)) (EvT.ite (fun hc => ?_) (fun _ => EvT.now rfl))))
  simp only [Bool.and_eq_true, decide_eq_true_eq] at hc
  have h := order_loop l w hw'.1 hw'.2 hc.2 hc.1 l.length (Nat.le_refl _)
  rw [List.drop_length] at h
  rw [EvT.w64 (by omega) (by omega)]
  exact h
end Go.Proofs.Ytphdjlfnlcapcaa.Pure
