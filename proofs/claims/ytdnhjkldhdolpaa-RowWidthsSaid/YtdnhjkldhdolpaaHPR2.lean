import Derived.Test.YtdnhjkldhdolpaaHPR
import Derived.Test.YtdnhjkldhdolpaaHEv
import Derived.Test.YtdnhjkldhdolpaaPx2
import Derived.Test.YtdnhjkldhdolpaaPx3
set_option linter.unusedVariables false
set_option linter.unusedSimpArgs false
namespace Go.Proofs.Ytdnhjkldhdolpaa.Pure
open Go.RowKit Go.Proofs.Ytdnhjkldhdolpaa.P Go.Proofs.YtdnhjkldhdolpaaW.PrintWords Go.Proofs.YtdnhjkldhdolpaaW.PrintLast Go.Proofs.YtdnhjkldhdolpaaW.PrintMore

theorem _root_.Go.Proofs.Ytdnhjkldhdolpaa.EvT.lit {α : Type} {g : Nat → Bool → Option α} {r : α} (b : Bool) (h : ∀ c, c = b → Ev (fun k => g k c) r) : Ev (fun k => g k b) r := h b rfl
theorem in_eq (n lo hi : Int) : formeref23_in.f n lo hi = some (inside n lo hi) := by
  unfold formeref23_in.f inside
  by_cases h : lo ≤ n
  · rw [if_pos h, decide_eq_true h]; rfl
  · rw [if_neg h, decide_eq_false h]; rfl
def okV (l : List S47) : Bool := inside (l.length : Int) 1 64 && !l.any wrongW
theorem drop_tk (l : List S47) (i : Nat) (h : i < l.length) : l.drop i = tk l i :: l.drop (i + 1) := by
  rw [List.drop_eq_getElem_cons h]
  congr 1
  simp [tk, rd_T47, List.getD_eq_getElem?_getD, List.getElem?_eq_getElem h]
theorem valid_loop (l : List S47) (hl : l.length ≤ 1000) : ∀ (d i : Nat), i + d = l.length → Ev (fun k => formeref23_Valid.l0 k l (i : Int)) (inside (l.length : Int) 1 64 && !(l.drop i).any wrongW)
  | 0, i, h => by
    refine Ev.step (fun k => rfl) (EvT.ifn (by omega) ?_)
    rw [List.drop_eq_nil_of_le (by omega)]
    simp only [List.any_nil, Bool.not_false, Bool.and_true, inside]
    refine EvT.ite (fun h1 => EvT.now ?_) (fun h1 => EvT.now ?_)
    · rw [decide_eq_true (show (1 : Int) ≤ l.length from h1)]; rfl
    · rw [decide_eq_false (show ¬ (1 : Int) ≤ l.length from h1)]; rfl
  | d + 1, i, h => by
    have hi : i < l.length := by omega
    have IH := valid_loop l hl d (i + 1) (by omega)
    rw [drop_tk l i hi, List.any_cons]
    refine Ev.step (fun k => rfl) (EvT.ifp (by omega) (EvT.ifp (by omega) (EvT.bindc (in_eq _ _ _) (EvT.bindc (in_eq _ _ _) (EvT.bindc (in_eq _ _ _) ?_)))))
    rw [show rd_T47 l (i : Int) = tk l i from rfl, show wrap64 ((i : Int) + 1) = ((i + 1 : Nat) : Int) from EvT.w64 (by omega) (by omega)]
    have bad : wrongW (tk l i) = true → (inside (l.length : Int) 1 64 && !(wrongW (tk l i) || (l.drop (i + 1)).any wrongW)) = false := fun h => by rw [h]; simp
    have good : wrongW (tk l i) = false → (inside (l.length : Int) 1 64 && !(wrongW (tk l i) || (l.drop (i + 1)).any wrongW)) = (inside (l.length : Int) 1 64 && !(l.drop (i + 1)).any wrongW) := fun h => by rw [h]; simp
    refine EvT.ite (fun h1 => EvT.ite (fun h2 => EvT.ite (fun h3 => ?_) (fun h3 => EvT.ite (fun h4 => ?_) (fun h4 => EvT.now ?_))) (fun h2 => EvT.now ?_)) (fun h1 => EvT.now ?_)
    · rw [good (by simp [wrongW, h1, h2, h3])]; exact IH
    · rw [good (by simp [wrongW, h1, h2, h4])]; exact IH
    · rw [bad (by simp [wrongW, h1, h2, h3, h4])]
    · rw [bad (by simp [wrongW, h1, h2])]
    · rw [bad (by simp [wrongW, h1])]
theorem valid_ev (l : List S47) (hl : l.length ≤ 1000) : Ev (fun k => formeref23_Valid.f k l) (okV l) := by
  have := valid_loop l hl l.length 0 (by omega)
  rw [List.drop_zero] at this
  exact this
theorem Share_f {l : List S47} {a1 a2 : Int} {res : Nat → Int} (h : Share l a1 a2 = some res) (h1 : okV l = true) (h2 : inside a1 0 1000000 = true) (h3 : inside a2 0 100000 = true) : tracks_Share.f l a1 a2 = some (tab l.length res, 0) := by
  unfold tracks_Share.f
  rw [if_pos ⟨h1, h2, h3⟩, h]
  rfl
theorem leftN_eq (l : List S47) (a1 a2 : Int) : leftN l a1 a2 = mx 0 (a1 - (a2 * ((l.length : Int) - 1) + sumTo (fun i => (tk l i).f0) l.length)) := by
  unfold leftN
  rw [sum_tk, Int.sub_sub]
theorem fin_bd {l : List S47} (ok : OkL l) {N0 : Int} {res : Nat → Int} (hN : N0 ≤ 1000000) (h : Fin l N0 res) (i : Nat) (hi : i < l.length) : 0 ≤ res i ∧ res i ≤ 2000000 ∧ (tk l i).f0 ≤ res i := by
  have h1 := sumTo_le (w := fun i => res i - (tk l i).f0) l.length i hi (fun i hi => by have := (h.lim i hi).1; omega)
  have h2 := h.sumle
  have h3 := ok.bd i hi
  have h4 := (h.lim i hi).1
  have h5 : res i - (tk l i).f0 ≤ sumTo (fun i => res i - (tk l i).f0) l.length := h1
  omega
theorem sumTo_bd {w : Nat → Int} (B : Int) (hB : 0 ≤ B) : ∀ n : Nat, (∀ i, i < n → 0 ≤ w i ∧ w i ≤ B) → n ≤ 64 → 0 ≤ sumTo w n ∧ sumTo w n ≤ 64 * B
  | 0, _, _ => by simp [sumTo]; omega
  | n + 1, h, hn => by
    have key : ∀ m, m ≤ n + 1 → 0 ≤ sumTo w m ∧ sumTo w m ≤ m * B := fun m => by
      induction m with
      | zero => intro _; simp [sumTo]
      | succ m ih =>
        intro hm
        have h1 := ih (by omega)
        have h2 := h m (by omega)
        simp only [sumTo]
        rw [Int.natCast_add, Int.add_mul]
        omega
    have h1 := key (n + 1) (Nat.le_refl _)
    have h2 : ((n + 1 : Nat) : Int) * B ≤ 64 * B := Int.mul_le_mul_of_nonneg_right (by omega) hB
    omega

end Go.Proofs.Ytdnhjkldhdolpaa.Pure
