import Derived.Test.YtbllpiboodlepaaPx3
import Derived.Test.YtbllpiboodlepaaPx5
import Derived.Test.YtbllpiboodlepaaHEv
set_option linter.unusedVariables false
set_option linter.unusedSimpArgs false
namespace Go.Proofs.Ytbllpiboodlepaa.Pure
open Go.RowKit Go.Proofs.Ytbllpiboodlepaa.P Go.Proofs.YtbllpiboodlepaaW.PrintWords Go.Proofs.YtbllpiboodlepaaW.PrintLast Go.Proofs.YtbllpiboodlepaaW.PrintMore

theorem _root_.Go.Proofs.Ytbllpiboodlepaa.EvT.lit {α : Type} {g : Nat → Bool → Option α} {r : α} (b : Bool) (h : ∀ c, c = b → Ev (fun k => g k c) r) : Ev (fun k => g k b) r := h b rfl
def okf (i : Nat) (f : S29) : Prop := f.f0 = ((i / 2 : Nat) : Int) + 1 ∧ f.f1 = decide (i % 2 = 1) ∧ 0 ≤ f.f2 ∧ f.f2 ≤ 500 ∧ 0 ≤ f.f3 ∧ f.f3 ≤ 500
instance (i : Nat) (f : S29) : Decidable (okf i f) := by unfold okf; infer_instance
def outs (l : List S29) : List Int := l.map fun f => if f.f1 = true then f.f2 else f.f3
def behs (l : List S29) : List Int := l.map fun f => if f.f1 = true then f.f3 else f.f2
theorem take_rd (l : List S29) (i : Nat) (h : i < l.length) : l.take (i + 1) = l.take i ++ [rd_T29 l (i : Int)] := by
  rw [List.take_succ_eq_append_getElem h]
  simp [rd_T29, List.getD_eq_getElem?_getD, List.getElem?_eq_getElem h]
theorem rd_get (l : List Int) (i : Nat) (h : i < l.length) : rd l (i : Int) = l[i] := by
  simp [rd, List.getD_eq_getElem?_getD, List.getElem?_eq_getElem h]
theorem quo2 (i : Nat) : Int.tdiv (i : Int) 2 = ((i / 2 : Nat) : Int) := by rw [Int.tdiv_eq_ediv_of_nonneg (by omega)]; omega
theorem mod2 (i : Nat) : Int.tmod (i : Int) 2 = ((i % 2 : Nat) : Int) := by rw [Int.tmod_eq_emod_of_nonneg (by omega)]; omega

/-- Order: the second loop. -/
theorem order_back (x4 b : List Int) (hb : b.length ≤ 300) (hx : x4.length ≤ 300) : ∀ (d i : Nat), i + d = b.length →
    Ev (fun k => impose_Order.l1 k (x4 ++ b.reverse.take i) b (b.length : Int) (i : Int)) (x4 ++ b.reverse, 0)
  | 0, i, h => Ev.step (fun k => rfl) (EvT.ifn (by omega) (EvT.now (by rw [List.take_of_length_le (by rw [List.length_reverse]; omega)])))
  | d + 1, i, h => by
    have e1 : wrap64 ((b.length : Int) - 1) = (b.length : Int) - 1 := EvT.w64 (by omega) (by omega)
    have e2 : wrap64 (wrap64 ((b.length : Int) - 1) - (i : Int)) = ((b.length - 1 - i : Nat) : Int) := by rw [e1, EvT.w64 (by omega) (by omega)]; omega
    have e3 : wrap64 ((i : Int) + 1) = ((i + 1 : Nat) : Int) := EvT.w64 (by omega) (by omega)
    refine Ev.step (fun k => rfl) (EvT.ifp (by omega) ?_)
    rw [e2, e3]
    refine EvT.ifp (by omega) (EvT.ifp (by omega) (EvT.bindc rfl (EvT.ifp (by simp only [List.length_append, List.length_take, List.length_reverse, List.length_cons, List.length_nil]; omega) ?_)))
    have e4 : (x4 ++ b.reverse.take i) ++ [rd b ((b.length - 1 - i : Nat) : Int)] = x4 ++ b.reverse.take (i + 1) := by
      rw [List.append_assoc, List.take_succ_eq_append_getElem (by rw [List.length_reverse]; omega), List.getElem_reverse, rd_get b _ (by omega)]
    rw [e4]
    exact order_back x4 b hb hx d (i + 1) (by omega)

theorem order_loop (l : List S29) (hl : l.length ≤ 300) (r : List Int × Int) : ∀ (d i : Nat), i + d = l.length →
    ((∀ j, i ≤ j → j < l.length → okf j (rd_T29 l (j : Int))) → r = (outs l ++ (behs l).reverse, 0)) → (∀ j, i ≤ j → j < l.length → ¬ okf j (rd_T29 l (j : Int)) → r = ([], 1)) →
    Ev (fun k => impose_Order.l0 k (outs (l.take i)) (behs (l.take i)) l (l.length : Int) (i : Int)) r
  | 0, i, h, hg, hb => by
    rw [hg (fun j h1 h2 => by omega)]
    have e1 : l.take i = l := List.take_of_length_le (by omega)
    rw [e1]
    refine Ev.step (fun k => rfl) (EvT.ifn (by omega) ?_)
    have := order_back (outs l) (behs l) (by simp [behs]; omega) (by simp [outs]; omega) (behs l).length 0 (by omega)
    simpa using this
  | d + 1, i, h, hg, hb => by
    have e3 : wrap64 ((i : Int) + 1) = ((i + 1 : Nat) : Int) := EvT.w64 (by omega) (by omega)
    have e4 : wrap64 (wrap64 (Int.tdiv (i : Int) 2) + 1) = ((i / 2 : Nat) : Int) + 1 := by rw [quo2, EvT.w64 (x := ((i / 2 : Nat) : Int)) (by omega) (by omega), EvT.w64 (by omega) (by omega)]
    refine Ev.step (fun k => rfl) (EvT.ifp (by omega) (EvT.ifp (by omega) (EvT.ifp (by omega) ?_)))
    rw [e4, mod2]
    have bad : (r = ([], 1)) → Ev (fun k => impose_Order.j2 k (outs (l.take i)) (behs (l.take i)) l (l.length : Int) (i : Int) true ((rd_T29 l (i : Int)).f0) ((rd_T29 l (i : Int)).f1) ((rd_T29 l (i : Int)).f2) ((rd_T29 l (i : Int)).f3)) r := fun hr => by
      rw [hr]; exact Ev.step (fun k => rfl) (Ev.now _)
    refine EvT.ite (fun h1 => bad ?_) (fun h1 => ?_)
    · refine hb i (Nat.le_refl _) (by omega) (fun ho => ?_)
      obtain ⟨a, b, _⟩ := ho
      rw [a, b] at h1
      rcases Nat.mod_two_eq_zero_or_one i with hm | hm <;> rw [hm] at h1 <;> simp at h1
    have h1' : (rd_T29 l (i : Int)).f0 = ((i / 2 : Nat) : Int) + 1 ∧ (rd_T29 l (i : Int)).f1 = decide (i % 2 = 1) := by
      simp only [Bool.or_eq_true, Bool.not_eq_true', not_or, Bool.not_eq_false, beq_iff_eq] at h1
      refine ⟨h1.1, ?_⟩
      rw [h1.2]
      rcases Nat.mod_two_eq_zero_or_one i with hm | hm <;> rw [hm] <;> rfl
    refine EvT.ite (fun h2 => bad ?_) (fun h2 => ?_)
    · refine hb i (Nat.le_refl _) (by omega) (fun ho => ?_)
      obtain ⟨_, _, c, _, e, _⟩ := ho
      unfold mn at h2
      split at h2 <;> omega
    by_cases h5 : mx (rd_T29 l (i : Int)).f2 (rd_T29 l (i : Int)).f3 > 500
    · rw [decide_eq_true h5]
      refine bad (hb i (Nat.le_refl _) (by omega) (fun ho => ?_))
      obtain ⟨_, _, _, c, _, e⟩ := ho
      unfold mx at h5
      split at h5 <;> omega
    · rw [decide_eq_false h5]
      have hok : okf i (rd_T29 l (i : Int)) := by
        refine ⟨h1'.1, h1'.2, ?_⟩
        unfold mx at h5
        unfold mn at h2
        split at h5 <;> split at h2 <;> omega
      have IH := order_loop l hl r d (i + 1) (by omega) (fun hx => hg (fun j h6 h7 => by
        by_cases hj : j = i
        · subst hj; exact hok
        · exact hx j (by omega) h7)) (fun j h6 h7 h8 => hb j (by omega) h7 h8)
      rw [take_rd l i (by omega)] at IH
      simp only [outs, behs, List.map_append, List.map_cons, List.map_nil] at IH
      have ln1 : (outs (l.take i)).length ≤ 300 := by simp only [outs, List.length_map, List.length_take]; omega
      have ln2 : (behs (l.take i)).length ≤ 300 := by simp only [behs, List.length_map, List.length_take]; omega
      refine EvT.lit (g := fun k c => impose_Order.j2 k (outs (l.take i)) (behs (l.take i)) l (l.length : Int) (i : Int) c ((rd_T29 l (i : Int)).f0) ((rd_T29 l (i : Int)).f1) ((rd_T29 l (i : Int)).f2) ((rd_T29 l (i : Int)).f3)) false (fun c hc => ?_)
      refine Ev.step (fun k => rfl) (EvT.ifn (by rw [hc]; decide) ?_)
      rw [e3]
      refine EvT.ite (fun h9 => EvT.bindc rfl (EvT.ifp (by simp only [List.length_cons, List.length_nil]; omega) (EvT.bindc rfl (EvT.ifp (by simp only [List.length_cons, List.length_nil]; omega) ?_)))) (fun h9 => EvT.bindc rfl (EvT.ifp (by simp only [List.length_cons, List.length_nil]; omega) (EvT.bindc rfl (EvT.ifp (by simp only [List.length_cons, List.length_nil]; omega) ?_))))
      · rw [h9] at IH; exact IH
      · rw [Bool.not_eq_true] at h9; rw [h9] at IH; exact IH
/-- Order, of any faces. -/
theorem order_ev (l : List S29) (hl : l.length ≤ 300) (r : List Int × Int)
    (hg : l.length % 2 = 0 → l.length ≤ 250 → (∀ j, j < l.length → okf j (rd_T29 l (j : Int))) → r = (outs l ++ (behs l).reverse, 0))
    (hb : (l.length % 2 = 1 ∨ 250 < l.length ∨ ∃ j, j < l.length ∧ ¬ okf j (rd_T29 l (j : Int))) → r = ([], 1)) : Ev (fun k => impose_Order.f k l) r := by
  have bad : (r = ([], 1)) → Ev (fun k => impose_Order.j0 k l true) r := fun hr => by rw [hr]; exact Ev.step (fun k => rfl) (Ev.now _)
  refine EvT.ite (fun h => ?_) (fun h => bad (hb (.inl (by omega))))
  by_cases h2 : (l.length : Int) > 250
  · rw [decide_eq_true h2]; exact bad (hb (.inr (.inl (by omega))))
  · rw [decide_eq_false h2]
    refine Ev.step (fun k => rfl) ?_
    have := order_loop l hl r l.length 0 (by omega) (fun hx => hg (by omega) (by omega) (fun j hj => hx j (by omega) hj)) (fun j _ h4 h5 => hb (.inr (.inr ⟨j, h4, h5⟩)))
    exact (show Ev (fun k => impose_Order.l0 k [] [] l (l.length : Int) 0) r by simpa [outs, behs] using this)
end Go.Proofs.Ytbllpiboodlepaa.Pure
