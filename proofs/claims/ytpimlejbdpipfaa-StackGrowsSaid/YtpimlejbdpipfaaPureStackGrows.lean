/- If an item is higher by some number, the items below it, and the end, are lower by this number; all others stay (package stack; the reference implementation says which items can be placed; up to 60 items). Conditions: those of the statement alone. -/
import Derived.Test.YtpimlejbdpipfaaPx8
import Derived.Test.YtpimlejbdpipfaaHPures3
set_option linter.unusedVariables false
set_option linter.unusedSimpArgs false
namespace Go.Proofs.Ytpimlejbdpipfaa.Pure
open Go.RowKit Go.Proofs.Ytpimlejbdpipfaa.P Go.Proofs.YtpimlejbdpipfaaW.PrintWords Go.Proofs.YtpimlejbdpipfaaW.PrintLast Go.Proofs.YtpimlejbdpipfaaW.PrintMore

/-- The list with an item that is higher. -/
def grown (l : List S39) (p : Nat) (d : Int) : List S39 := l.set p ⟨(rd_T39 l (p : Int)).f0, (rd_T39 l (p : Int)).f1, (rd_T39 l (p : Int)).f2 + d⟩
theorem grown_length (l : List S39) (p : Nat) (d : Int) : (grown l p d).length = l.length := by simp [grown]
theorem grown_rd (l : List S39) (p : Nat) (d : Int) (hp : p < l.length) (j : Nat) : rd_T39 (grown l p d) (j : Int) = if j = p then ⟨(rd_T39 l (p : Int)).f0, (rd_T39 l (p : Int)).f1, (rd_T39 l (p : Int)).f2 + d⟩ else rd_T39 l (j : Int) := by
  by_cases h : j = p
  · subst h
    rw [if_pos rfl]
    simp [rd_T39, grown, List.getD_eq_getElem?_getD, hp]
  · rw [if_neg h]
    simp only [rd_T39, grown, List.getD_eq_getElem?_getD, Int.toNat_natCast]
    rw [List.getElem?_set_ne (Ne.symm h)]
theorem grown_at (l : List S39) (p : Nat) (d : Int) (hp : p < l.length) (i : Nat) : at_ (grown l p d) i = at_ l i := by
  have f0 : ∀ j : Nat, (rd_T39 (grown l p d) (j : Int)).f0 = (rd_T39 l (j : Int)).f0 := fun j => by rw [grown_rd l p d hp j]; by_cases h : j = p <;> simp [h]
  have f1 : ∀ j : Nat, (rd_T39 (grown l p d) (j : Int)).f1 = (rd_T39 l (j : Int)).f1 := fun j => by rw [grown_rd l p d hp j]; by_cases h : j = p <;> simp [h]
  unfold at_
  rw [grown_length, f0]
  by_cases hi : 0 < i
  · rw [if_pos hi, if_pos hi, show ((i : Int) - 1) = ((i - 1 : Nat) : Int) by omega, f1]
  · rw [if_neg hi, if_neg hi]
theorem grown_G (l : List S39) (p : Nat) (d : Int) (hp : p < l.length) (i : Nat) (hi : i ≤ l.length) : G (grown l p d) i = G l i := by
  rw [G_eq _ i (by rw [grown_length]; exact hi), G_eq _ i hi, grown_at l p d hp]
theorem grown_H (l : List S39) (p : Nat) (d : Int) (hp : p < l.length) (i : Nat) : H (grown l p d) i = H l i + (if i = p then d else 0) := by
  unfold H
  rw [grown_rd l p d hp]
  by_cases h : i = p
  · subst h; simp
  · simp [h]
theorem grown_pos (a : Int) (l : List S39) (p : Nat) (d : Int) (hp : p < l.length) : ∀ n, n ≤ l.length → pos a (grown l p d) n = pos a l n + (if p < n then d else 0)
  | 0, _ => by simp [pos]
  | n + 1, h => by
    have ih := grown_pos a l p d hp n (by omega)
    have hg := grown_G l p d hp n (by omega)
    have hh := grown_H l p d hp n
    simp only [pos, ih, hg, hh]
    (repeat' split) <;> omega
theorem grows_loop (a : Int) (l : List S39) (p : Nat) (d : Int) (hd : 0 ≤ d ∧ d ≤ 100000) (hp : p < l.length) (hl : l.length ≤ 60) (h1 : good a l) (h2 : good a (grown l p d)) (hw3 : wrap64 d = d) : ∀ (m i : Nat), i + m = l.length →
    Ev (fun k => formelaw19_StackGrows.l0 k d true (p : Int) (tops a l l.length) (pos a l l.length + G l l.length) (tops a (grown l p d) (grown l p d).length) (pos a (grown l p d) (grown l p d).length + G (grown l p d) (grown l p d).length) ((tops a l l.length).length : Int) (i : Int)) true
  | 0, i, h => by
    have hm := grown_pos a l p d hp l.length (Nat.le_refl _)
    have hg := grown_G l p d hp l.length (Nat.le_refl _)
    have hb := (isC_iff _).1 h1.2.2.2
    refine Ev.step (fun k => rfl) (EvT.ifn (by rw [tops_length]; omega) (EvT.ifp rfl (EvT.now ?_)))
    rw [hw3, EvT.w64 (by omega) (by omega), grown_length, hm, hg, if_pos hp]
    congr 1
    rw [beq_iff_eq]
    omega
  | m + 1, i, h => by
    have hgl := grown_length l p d
    have hw : wrap64 ((i : Int) + 1) = ((i + 1 : Nat) : Int) := EvT.w64 (by omega) (by omega)
    have hm := grown_pos a l p d hp i (by omega)
    have hg := grown_G l p d hp i (by omega)
    have hb := (isC_iff _).1 (h1.2.2.1 i (by omega)).1
    have ti := tops_get a l l.length i (by omega)
    have tj := tops_get a (grown l p d) (grown l p d).length i (by omega)
    have IH := grows_loop a l p d hd hp hl h1 h2 hw3 m (i + 1) (by omega)
    refine Ev.step (fun k => rfl) (EvT.ifp (by rw [tops_length]; omega) (EvT.ifp (by omega) (EvT.ifp (by rw [tops_length]; omega) ?_)))
    rw [hw, hw3, ti, tj, hm, hg]
    refine EvT.ite (fun h3 => EvT.ifp rfl (EvT.ifp (by rw [tops_length]; omega) ?_)) (fun h3 => EvT.ifp rfl (EvT.ifp (by rw [tops_length]; omega) ?_))
    · rw [if_pos (by omega), show (pos a l i + d + G l i == wrap64 (pos a l i + G l i + d)) = true by rw [EvT.w64 (by omega) (by omega), beq_iff_eq]; omega]
      exact IH
    · rw [if_neg (by omega), show (pos a l i + 0 + G l i == pos a l i + G l i) = true by rw [beq_iff_eq]; omega]
      exact IH
theorem StackGrows : formelaw19_StackGrows.Pure := fun a0 l1 a2 a3 w0 _ _ _ w2 w3 => by
  have n2 : 0 ≤ a2 ∧ a2 ≤ 255 := by
    have m1 : IntKind.u8.min = 0 := by decide +kernel
    have m2 : IntKind.u8.max = 255 := by decide +kernel
    simp [Lit.wf, m1, m2] at w2; omega
  have n3 : 0 ≤ a3 ∧ a3 ≤ 65535 := by
    have m1 : IntKind.u16.min = 0 := by decide +kernel
    have m2 : IntKind.u16.max = 65535 := by decide +kernel
    simp [Lit.wf, m1, m2] at w3; omega
  have e3 : wrap64 a3 = a3 := EvT.w64 (by omega) (by omega)
  have fin : Ev (fun k => formelaw19_StackGrows.j0 k a0 l1 a2 a3 true true) true := Ev.step (fun k => rfl) (Ev.now _)
  refine Ev.rounds (Ev.bind head_ev (EvT.ifp rfl (EvT.ite (fun _ => fin) (fun h0 => Ev.bind (right_ev a0 l1) ?_))))
  cases h1 : (decide (l1.length ≤ 60) && ((sp a0 l1).2.2 == 0))
  · exact fin
  obtain ⟨hl, g1⟩ := right_yes a0 l1 h1
  obtain ⟨p, hp⟩ : ∃ p : Nat, Int.tmod (wrap64 a2) (l1.length : Int) = (p : Int) := by
    rw [EvT.w64 (by omega) (by omega), Int.tmod_eq_emod_of_nonneg n2.1]
    exact ⟨(a2 % (l1.length : Int)).toNat, by have := Int.emod_nonneg a2 (show (l1.length : Int) ≠ 0 by omega); omega⟩
  have hpl : p < l1.length := by
    have := Int.emod_lt_of_pos a2 (show (0 : Int) < l1.length by omega)
    rw [EvT.w64 (by omega) (by omega), Int.tmod_eq_emod_of_nonneg n2.1] at hp
    omega
  have hH := H_bd l1 g1.1 p hpl
  have hset : ∀ y : List S39, y = l1 → y.set ((p : Int)).toNat (⟨(rd_T39 y (p : Int)).f0, (rd_T39 y (p : Int)).f1, wrap64 ((rd_T39 y (p : Int)).f2 + wrap64 a3)⟩ : S39) = grown l1 p a3 := by
    rintro y rfl
    have : wrap64 ((rd_T39 y (p : Int)).f2 + wrap64 a3) = (rd_T39 y (p : Int)).f2 + a3 := by rw [e3]; show wrap64 (H y p + a3) = H y p + a3; exact EvT.w64 (by omega) (by omega)
    rw [this, Int.toNat_natCast]
    rfl
  refine EvT.lit (g := fun k c => formelaw19_StackGrows.j0 k a0 l1 a2 a3 true c) false (fun c hcc => Ev.step (fun k => rfl) (EvT.ifn (by rw [hcc]; decide) (EvT.ifn (by omega) (EvT.bindc rfl (EvT.ifp (by simp; omega) (EvT.bindc rfl ?_))))))
  rw [List.nil_append, hp]
  refine EvT.ifp (by omega) (EvT.ifp (by omega) (EvT.bindc rfl ?_))
  rw [hset l1 rfl]
  refine Ev.bind (right_ev a0 (grown l1 p a3)) (EvT.ite (fun h2 => ?_) (fun _ => Ev.now _))
  obtain ⟨hl2, g2⟩ := right_yes a0 _ h2
  refine Ev.bind (placed_good a0 l1 hl g1) (Ev.bind (placed_good a0 _ hl2 g2) (EvT.ifp rfl ?_))
  exact Ev.step (fun k => rfl) (grows_loop a0 l1 p a3 (by omega) hpl hl g1 g2 e3 l1.length 0 (by omega))
end Go.Proofs.Ytpimlejbdpipfaa.Pure
