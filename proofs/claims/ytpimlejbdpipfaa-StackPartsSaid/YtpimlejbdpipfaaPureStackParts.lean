/- The items of two lists, one behind the other, are placed as those of the first one, and those of the second one from where its first item begins, less its own margin (packages margins and stack; the reference implementation says which items can be placed; up to 30 items each). Conditions: those of the statement alone. -/
import Derived.Test.YtpimlejbdpipfaaPx7
import Derived.Test.YtpimlejbdpipfaaHPures3
set_option linter.unusedVariables false
set_option linter.unusedSimpArgs false
namespace Go.Proofs.Ytpimlejbdpipfaa.Pure
open Go.RowKit Go.Proofs.Ytpimlejbdpipfaa.P Go.Proofs.YtpimlejbdpipfaaW.PrintWords Go.Proofs.YtpimlejbdpipfaaW.PrintLast Go.Proofs.YtpimlejbdpipfaaW.PrintMore

theorem rd_app_l (a b : List S39) (i : Nat) (h : i < a.length) : rd_T39 (a ++ b) (i : Int) = rd_T39 a (i : Int) := by
  simp only [rd_T39, List.getD_eq_getElem?_getD, Int.toNat_natCast]
  rw [List.getElem?_append_left h]
theorem rd_app_r (a b : List S39) (i : Nat) : rd_T39 (a ++ b) ((a.length + i : Nat) : Int) = rd_T39 b (i : Int) := by
  simp only [rd_T39, List.getD_eq_getElem?_getD, Int.toNat_natCast]
  rw [List.getElem?_append_right (by omega), Nat.add_sub_cancel_left]
theorem at_app_l (a b : List S39) (i : Nat) (h : i < a.length) : at_ (a ++ b) i = at_ a i := by
  unfold at_
  rw [rd_app_l a b i h, if_pos (show i < (a ++ b).length by simp; omega), if_pos h]
  by_cases hi : 0 < i
  · rw [if_pos hi, if_pos hi, show ((i : Int) - 1) = ((i - 1 : Nat) : Int) by omega, rd_app_l a b (i - 1) (by omega)]
  · rw [if_neg hi, if_neg hi]
theorem at_app_r (a b : List S39) (j : Nat) (h : 0 < j) : at_ (a ++ b) (a.length + j) = at_ b j := by
  unfold at_
  rw [rd_app_r a b j, if_pos (show 0 < a.length + j by omega), if_pos h, show (((a.length + j : Nat) : Int) - 1) = ((a.length + (j - 1) : Nat) : Int) by omega, rd_app_r a b (j - 1), show ((j : Int) - 1) = ((j - 1 : Nat) : Int) by omega]
  by_cases hj : j < b.length
  · rw [if_pos (show a.length + j < (a ++ b).length by simp; omega), if_pos hj]
  · rw [if_neg (show ¬ a.length + j < (a ++ b).length by simp; omega), if_neg hj]
theorem G_app_l (a b : List S39) (i : Nat) (h : i < a.length) : G (a ++ b) i = G a i := by
  rw [G_eq _ i (by simp; omega), G_eq _ i (by omega), at_app_l a b i h]
theorem G_app_r (a b : List S39) (j : Nat) (h : 0 < j) (hj : j ≤ b.length) : G (a ++ b) (a.length + j) = G b j := by
  rw [G_eq _ _ (by simp; omega), G_eq _ j hj, at_app_r a b j h]
theorem H_app_l (a b : List S39) (i : Nat) (h : i < a.length) : H (a ++ b) i = H a i := by unfold H; rw [rd_app_l a b i h]
theorem H_app_r (a b : List S39) (j : Nat) : H (a ++ b) (a.length + j) = H b j := by unfold H; rw [rd_app_r]
theorem pos_app_l (s : Int) (a b : List S39) : ∀ n, n ≤ a.length → pos s (a ++ b) n = pos s a n
  | 0, _ => rfl
  | n + 1, h => by simp only [pos, pos_app_l s a b n (by omega), G_app_l a b n (by omega), H_app_l a b n (by omega)]
theorem hilo_one (x : Int) : hi [x] + lo [x] = x := by simp only [hi, lo, List.foldl, mx, mn]; split <;> split <;> omega
theorem G_first (l : List S39) (h : 0 < l.length) : G l 0 = (rd_T39 l 0).f0 := by
  rw [G_eq l 0 (by omega)]
  have : at_ l 0 = [(rd_T39 l 0).f0] := by simp [at_, h]
  rw [this, hilo_one]
theorem pos_app_r (s t : Int) (a b : List S39) (ht : t + G b 0 = pos s a a.length + G (a ++ b) a.length) : ∀ j, j < b.length → pos t b (j + 1) = pos s (a ++ b) (a.length + j + 1)
  | 0, h => by
    have h1 := H_app_r a b 0
    have h2 := pos_app_l s a b a.length (Nat.le_refl _)
    simp only [Nat.add_zero] at h1 ⊢
    simp only [pos, h1, h2]
    omega
  | j + 1, h => by
    have ih := pos_app_r s t a b ht j (by omega)
    have hg := G_app_r a b (j + 1) (by omega) (by omega)
    have hh := H_app_r a b (j + 1)
    have e1 : pos t b (j + 1 + 1) = pos t b (j + 1) + G b (j + 1) + H b (j + 1) := rfl
    have e2 : pos s (a ++ b) (a.length + (j + 1) + 1) = pos s (a ++ b) (a.length + (j + 1)) + G (a ++ b) (a.length + (j + 1)) + H (a ++ b) (a.length + (j + 1)) := rfl
    rw [e1, e2, ih, hg, hh]
    rfl
theorem top_app_r (s t : Int) (a b : List S39) (hb : 0 < b.length) (ht : t + G b 0 = pos s a a.length + G (a ++ b) a.length) (j : Nat) (hj : j ≤ b.length) : pos t b j + G b j = pos s (a ++ b) (a.length + j) + G (a ++ b) (a.length + j) := by
  cases j with
  | zero => rw [Nat.add_zero, pos_app_l s a b a.length (Nat.le_refl _)]; exact ht
  | succ j => rw [pos_app_r s t a b ht j (by omega), G_app_r a b (j + 1) (by omega) hj]; rfl
theorem StackParts : formelaw19_StackParts.Pure := fun a0 l1 l2 w0 _ _ _ _ _ _ => by
  have fin : Ev (fun k => formelaw19_StackParts.j0 k a0 l1 l2 true true) true := Ev.step (fun k => rfl) (Ev.now _)
  refine Ev.rounds (Ev.bind head_ev (EvT.ifp rfl (EvT.ite (fun _ => fin) (fun h1 => EvT.ite (fun _ => fin) (fun h2 => EvT.ite (fun _ => fin) (fun h3 => ?_))))))
  by_cases h4 : (l2.length : Int) = 0
  · rw [show ((l2.length : Int) == 0) = true by simpa using h4]; exact fin
  rw [show ((l2.length : Int) == 0) = false by simpa using h4]
  refine EvT.lit (g := fun k c => formelaw19_StackParts.j0 k a0 l1 l2 true c) false (fun c hcc => Ev.step (fun k => rfl) (EvT.ifn (by rw [hcc]; decide) (EvT.bindc rfl (EvT.ifp (by simp; omega) (EvT.bindc rfl (EvT.ifp (by simp; omega) (EvT.bindc rfl ?_)))))))
  rw [List.nil_append]
  have fin1 : ∀ y, Ev (fun k => formelaw19_StackParts.j1 k a0 l1 l2 true y true) true := fun y => Ev.step (fun k => rfl) (Ev.now _)
  refine Ev.bind (right_ev a0 (l1 ++ l2)) (EvT.ite (fun hr => Ev.bind (right_ev a0 l1) ?_) (fun _ => fin1 _))
  obtain ⟨hl, g12⟩ := right_yes a0 _ hr
  cases hr1 : (decide (l1.length ≤ 60) && ((sp a0 l1).2.2 == 0))
  · exact fin1 _
  obtain ⟨hl1, g1⟩ := right_yes a0 _ hr1
  have hlen : (l1 ++ l2).length = l1.length + l2.length := List.length_append
  refine EvT.lit (g := fun k c => formelaw19_StackParts.j1 k a0 l1 l2 true (l1 ++ l2) c) false (fun c hcc => Ev.step (fun k => rfl) (EvT.ifn (by rw [hcc]; decide) (Ev.bind (placed_good a0 l1 hl1 g1) (Ev.bind (placed_good a0 _ hl g12) (EvT.ifp rfl ?_)))))
  have tn := tops_get a0 (l1 ++ l2) (l1 ++ l2).length l1.length (by omega)
  have hb := (isC_iff _).1 (g12.2.2.1 l1.length (by omega)).1
  have gf := G_first l2 (by omega)
  have hok2 : l2.all okItem = true := by have := g12.1; rw [List.all_append, Bool.and_eq_true] at this; exact this.2
  have gb := G_bd l2 hok2 0 (by omega)
  have hp1 := pos_app_l a0 l1 l2 l1.length (Nat.le_refl _)
  have ef : wrap64 (rd (tops a0 (l1 ++ l2) (l1 ++ l2).length) (l1.length : Int) - (rd_T39 l2 0).f0) = pos a0 (l1 ++ l2) l1.length + G (l1 ++ l2) l1.length - G l2 0 := by rw [tn, ← gf, EvT.w64 (by omega) (by omega)]
  obtain ⟨t, ht⟩ : ∃ t, pos a0 (l1 ++ l2) l1.length + G (l1 ++ l2) l1.length - G l2 0 = t := ⟨_, rfl⟩
  have ht2 : t + G l2 0 = pos a0 l1 l1.length + G (l1 ++ l2) l1.length := by omega
  refine EvT.lit (g := fun k c => formelaw19_StackParts.j2 k l1 l2 true (tops a0 l1 l1.length) (tops a0 (l1 ++ l2) (l1 ++ l2).length) (pos a0 (l1 ++ l2) (l1 ++ l2).length + G (l1 ++ l2) (l1 ++ l2).length) c) false (fun c hcc => Ev.step (fun k => rfl) (EvT.ifn (by rw [hcc]; decide) (EvT.ifp (by omega) (EvT.ifp (by rw [tops_length]; omega) (EvT.ifp (by omega) ?_)))))
  rw [ef, ht]
  refine Ev.bind (right_ev t l2) (EvT.ite (fun hr2 => ?_) (fun _ => Ev.now _))
  obtain ⟨hl2, g2⟩ := right_yes t l2 hr2
  refine Ev.bind (placed_good t l2 hl2 g2) (EvT.ifp rfl (EvT.ifp rfl (EvT.ifp (by rw [tops_length]; omega) (Ev.bind (same_eq _ _ ?_ (by simp [tops]; omega)) (EvT.ifp rfl (Ev.bind (same_eq _ _ ?_ (by simp [tops]; omega)) (EvT.ifp rfl (EvT.now ?_))))))))
  · rw [Int.toNat_natCast]
    apply List.ext_getElem
    · simp [tops]
    · intro i h5 h6
      simp only [tops, List.length_map, List.length_range] at h6
      simp only [tops, List.getElem_take, List.getElem_map, List.getElem_range]
      rw [pos_app_l a0 l1 l2 i (by omega), G_app_l l1 l2 i h6]
  · rw [Int.toNat_natCast]
    apply List.ext_getElem
    · simp [tops]
    · intro i h5 h6
      simp only [tops, List.length_map, List.length_range] at h6
      simp only [tops, List.getElem_drop, List.getElem_map, List.getElem_range]
      exact (top_app_r a0 t l1 l2 (by omega) ht2 i (by omega)).symm
  · have := top_app_r a0 t l1 l2 (by omega) ht2 l2.length (Nat.le_refl _)
    rw [hlen]
    congr 1
    rw [beq_iff_eq]
    exact this.symm
end Go.Proofs.Ytpimlejbdpipfaa.Pure
