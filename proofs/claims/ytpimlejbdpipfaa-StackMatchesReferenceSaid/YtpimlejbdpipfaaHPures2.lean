import Derived.Test.YtpimlejbdpipfaaHPures
set_option linter.unusedVariables false
set_option linter.unusedSimpArgs false
namespace Go.Proofs.Ytpimlejbdpipfaa.Pure
open Go.RowKit Go.Proofs.Ytpimlejbdpipfaa.P Go.Proofs.YtpimlejbdpipfaaW.PrintWords Go.Proofs.YtpimlejbdpipfaaW.PrintLast Go.Proofs.YtpimlejbdpipfaaW.PrintMore

def G (l : List S39) (i : Nat) : Int := rd (gaps l) (i : Int)
def H (l : List S39) (i : Nat) : Int := (rd_T39 l (i : Int)).f2
/-- Where the item before the i-th one ends. -/
def pos (a : Int) (l : List S39) : Nat → Int
  | 0 => a
  | i + 1 => pos a l i + G l i + H l i
def fitsTo (a : Int) (l : List S39) (n : Nat) : Prop := ∀ i, i < n → isC (pos a l i + G l i) = true ∧ isC (pos a l (i + 1)) = true
def good (a : Int) (l : List S39) : Prop := l.all okItem = true ∧ isC a = true ∧ fitsTo a l l.length ∧ isC (pos a l l.length + G l l.length) = true
def tops (a : Int) (l : List S39) (n : Nat) : List Int := (List.range n).map fun i => pos a l i + G l i
theorem isC_iff (n : Int) : isC n = true ↔ -1000000000 ≤ n ∧ n ≤ 1000000000 := by unfold isC; simp
theorem G_eq (l : List S39) (i : Nat) (h : i ≤ l.length) : G l i = hi (at_ l i) + lo (at_ l i) := by
  unfold G
  rw [gaps_eq]
  simp [rd, List.getD_eq_getElem?_getD, List.getElem?_eq_getElem (show i < ((List.range' 0 (l.length + 1)).map fun i => hi (at_ l i) + lo (at_ l i)).length by simp; omega)]
theorem G_bd (l : List S39) (ha : l.all okItem = true) (i : Nat) (h : i ≤ l.length) : -1000000000 ≤ G l i ∧ G l i ≤ 1000000000 := by
  rw [G_eq l i h]
  have h1 := hi_range _ (at_ok l ha i h).1
  have h2 := lo_range _ (at_ok l ha i h).1
  omega
theorem H_bd (l : List S39) (ha : l.all okItem = true) (i : Nat) (h : i < l.length) : 0 ≤ H l i ∧ H l i ≤ 1000000000 := by
  have := List.all_eq_true.1 ha l[i] (List.getElem_mem h)
  simp only [okItem, Bool.and_eq_true, decide_eq_true_eq] at this
  unfold H
  rw [rd_nat39 l i h]
  exact ⟨this.1.2, this.2⟩
/-- The program's own reckoning, as long as all fits. -/
theorem plc_good (a : Int) (l : List S39) (ha : l.all okItem = true) (hc : isC a = true) : ∀ n, n ≤ l.length → fitsTo a l n → plc a (gaps l) l n = (tops a l n, pos a l n, true)
  | 0, _, _ => rfl
  | n + 1, hn, hf => by
    have ih := plc_good a l ha hc n (by omega) (fun i hi => hf i (by omega))
    have hg := G_bd l ha n (by omega)
    have hh := H_bd l ha n (by omega)
    obtain ⟨f1, f2⟩ := hf n (by omega)
    have f1' := (isC_iff _).1 f1
    have f2' := (isC_iff _).1 f2
    have e1 : wrap64 (pos a l n + rd (gaps l) (n : Int)) = pos a l n + G l n := by show wrap64 (pos a l n + G l n) = _; exact EvT.w64 (by omega) (by omega)
    have e2 : wrap64 (pos a l n + G l n + (rd_T39 l (n : Int)).f2) = pos a l (n + 1) := by show wrap64 (pos a l (n + 1)) = _; exact EvT.w64 (by omega) (by omega)
    simp only [plc, ih, e1, e2, f1, f2, Bool.and_self]
    simp [tops, List.range_succ]
theorem plc_bad (a : Int) (g : List Int) (l : List S39) : ∀ (d n : Nat), (plc a g l n).2.2 = false → (plc a g l (n + d)).2.2 = false
  | 0, n, h => h
  | d + 1, n, h => by
    have ih := plc_bad a g l d n h
    show (plc a g l (n + d + 1)).2.2 = false
    simp [plc, ih]
theorem pos_bd (a : Int) (l : List S39) (hc : isC a = true) (n : Nat) (hf : fitsTo a l n) : isC (pos a l n) = true := by
  cases n with
  | zero => exact hc
  | succ n => exact (hf n (by omega)).2
/-- Where it does not fit, the program sees it. -/
theorem plc_fits (a : Int) (l : List S39) (ha : l.all okItem = true) (hc : isC a = true) : ∀ n, n ≤ l.length → (plc a (gaps l) l n).2.2 = true → fitsTo a l n
  | 0, _, _ => fun i hi => by omega
  | n + 1, hn, h => by
    have h0 : (plc a (gaps l) l n).2.2 = true := by
      cases h0 : (plc a (gaps l) l n).2.2
      · have := plc_bad a (gaps l) l 1 n h0; rw [this] at h; cases h
      · rfl
    have ih := plc_fits a l ha hc n (by omega) h0
    have hp := plc_good a l ha hc n (by omega) ih
    have hb := (isC_iff _).1 (pos_bd a l hc n ih)
    have hg := G_bd l ha n (by omega)
    have hh := H_bd l ha n (by omega)
    have e1 : wrap64 (pos a l n + rd (gaps l) (n : Int)) = pos a l n + G l n := by show wrap64 (pos a l n + G l n) = _; exact EvT.w64 (by omega) (by omega)
    have e2 : wrap64 (pos a l n + G l n + (rd_T39 l (n : Int)).f2) = pos a l (n + 1) := by
      show wrap64 (pos a l n + G l n + H l n) = _
      exact EvT.w64 (by omega) (by omega)
    simp only [plc, hp, e1, e2, Bool.true_and, Bool.and_eq_true] at h
    intro i hi
    by_cases hin : i = n
    · subst hin; exact h
    · exact ih i (by omega)
/-- What Place says. -/
def sp (a : Int) (l : List S39) : List Int × Int × Int :=
  if l.all okItem = true ∧ isC a = true then
    (if (plc a (gaps l) l l.length).2.2 = true ∧ isC (wrap64 ((plc a (gaps l) l l.length).2.1 + G l l.length)) = true then ((plc a (gaps l) l l.length).1, wrap64 ((plc a (gaps l) l l.length).2.1 + G l l.length), 0) else ([], 0, 3)) else ([], 0, 1)
theorem sp_good (a : Int) (l : List S39) (h : good a l) : sp a l = (tops a l l.length, pos a l l.length + G l l.length, 0) := by
  obtain ⟨h1, h2, h3, h4⟩ := h
  have hb := (isC_iff _).1 (pos_bd a l h2 _ h3)
  have hg := G_bd l h1 l.length (Nat.le_refl _)
  unfold sp
  rw [if_pos ⟨h1, h2⟩, plc_good a l h1 h2 _ (Nat.le_refl _) h3]
  have e : wrap64 (pos a l l.length + G l l.length) = pos a l l.length + G l l.length := EvT.w64 (by omega) (by omega)
  simp only [e, h4, and_self, if_true]
theorem sp_bad (a : Int) (l : List S39) (h : (sp a l).2.2 = 0) : good a l := by
  unfold sp at h
  split at h
  · rename_i h12
    split at h
    · rename_i h34
      have h3 := plc_fits a l h12.1 h12.2 _ (Nat.le_refl _) h34.1
      refine ⟨h12.1, h12.2, h3, ?_⟩
      have hb := (isC_iff _).1 (pos_bd a l h12.2 _ h3)
      have hg := G_bd l h12.1 l.length (Nat.le_refl _)
      have h4 := h34.2
      rw [plc_good a l h12.1 h12.2 _ (Nat.le_refl _) h3] at h4
      have e : wrap64 (pos a l l.length + G l l.length) = pos a l l.length + G l l.length := EvT.w64 (by omega) (by omega)
      rwa [e] at h4
    · cases h
  · cases h
theorem place_some (a : Int) (l : List S39) (hl : l.length ≤ 4000) : stack_Place.f a l = some (sp a l) := by
  unfold stack_Place.f margins_Between.f sp G
  rw [if_neg (by omega)]
  by_cases h : l.all okItem = true
  · rw [if_pos h]
    simp only [Option.bind_some, if_true, h, true_and, gaps_length]
    cases hc : isC a
    · simp
    · simp only [if_true, hl, and_self]
      show (if _ then _ else _) = _
      split
      · rfl
      · rfl
  · rw [if_neg h]
    simp [h]
theorem coord_eq (n : Int) : formeref19_Coord.f n = some (isC n) := by
  unfold formeref19_Coord.f isC
  by_cases h : n ≥ -1000000000
  · rw [if_pos h, decide_eq_true (show -1000000000 ≤ n from h)]; rfl
  · rw [if_neg h, decide_eq_false (show ¬ -1000000000 ≤ n from h)]; rfl
theorem refPlace_loop (a : Int) (l : List S39) (hl : l.length ≤ 4000) (ha : l.all okItem = true) (hc : isC a = true) : ∀ (d i : Nat), i + d = l.length → (plc a (gaps l) l i).2.2 = true →
    Ev (fun k => formeref19_Place.l0 k l (gaps l) (plc a (gaps l) l i).1 (plc a (gaps l) l i).2.1 (i : Int)) (sp a l)
  | 0, i, h, hf => by
    obtain rfl : i = l.length := by omega
    have hgl := gaps_length l
    refine Ev.step (fun k => rfl) (EvT.ifn (by omega) (EvT.ifp (by omega) (EvT.ifp (by omega) (EvT.bindc (coord_eq _) ?_))))
    have hs : sp a l = (if (plc a (gaps l) l l.length).2.2 = true ∧ isC (wrap64 ((plc a (gaps l) l l.length).2.1 + G l l.length)) = true then ((plc a (gaps l) l l.length).1, wrap64 ((plc a (gaps l) l l.length).2.1 + G l l.length), 0) else ([], 0, 3)) := by unfold sp; rw [if_pos ⟨ha, hc⟩]
    refine EvT.ite (fun h2 => ?_) (fun h2 => ?_)
    · rw [hs, if_pos ⟨hf, h2⟩]; exact Ev.now _
    · rw [hs, if_neg (fun h3 => h2 h3.2)]; exact Ev.now _
  | d + 1, i, h, hf => by
    have hgl := gaps_length l
    have hw : wrap64 ((i : Int) + 1) = ((i + 1 : Nat) : Int) := EvT.w64 (by omega) (by omega)
    have bad : (plc a (gaps l) l (i + 1)).2.2 = false → sp a l = ([], 0, 3) := fun hb => by
      have := plc_bad a (gaps l) l (l.length - (i + 1)) (i + 1) hb
      rw [show i + 1 + (l.length - (i + 1)) = l.length by omega] at this
      unfold sp
      rw [if_pos ⟨ha, hc⟩, if_neg (by simp [this])]
    refine Ev.step (fun k => rfl) (EvT.ifp (by omega) (EvT.ifp (by omega) (EvT.ifp (by omega) (EvT.bindc (coord_eq _) ?_))))
    refine EvT.ite (fun h2 => EvT.bindc (coord_eq _) (EvT.ite (fun h3 => EvT.ifp (by rw [plc_length]; omega) ?_) (fun h3 => ?_))) (fun h2 => ?_)
    · rw [hw]
      have IH := refPlace_loop a l hl ha hc d (i + 1) (by omega) (by simp only [plc, hf, Bool.true_and, Bool.and_eq_true]; exact ⟨h2, h3⟩)
      exact IH
    · rw [bad (by simp only [plc, hf, Bool.true_and, h2]; simpa using h3)]; exact Ev.now _
    · rw [bad (by simp only [plc, hf, Bool.true_and]; simp [h2])]; exact Ev.now _
theorem refPlace_ev (a : Int) (l : List S39) (hl : l.length ≤ 4000) : Ev (fun k => formeref19_Place.f k a l) (sp a l) := by
  obtain ⟨r, hr, hev⟩ := rbet_ev l (by omega)
  refine Ev.bind hev ?_
  unfold margins_Between.f at hr
  rw [if_neg (by omega)] at hr
  by_cases ha : l.all okItem = true
  · rw [if_pos ha] at hr
    obtain rfl := Option.some.inj hr
    refine EvT.ifn (show ¬ ((0 : Int) = 2) by decide) (EvT.ifp rfl (EvT.bindc (coord_eq a) ?_))
    by_cases hc : isC a = true
    · rw [hc]
      exact Ev.step (fun k => rfl) (refPlace_loop a l hl ha hc l.length 0 (by omega) rfl)
    · rw [Bool.not_eq_true] at hc
      rw [hc]
      unfold sp
      rw [if_neg (by simp [hc])]
      exact Ev.step (fun k => rfl) (Ev.now _)
  · rw [if_neg ha] at hr
    obtain rfl := Option.some.inj hr
    unfold sp
    rw [if_neg (by simp [ha])]
    exact EvT.ifn (by decide) (EvT.ifn (by decide) (Ev.step (fun k => rfl) (Ev.now _)))
theorem right_ev (a : Int) (l : List S39) : Ev (fun k => formelaw19_right.f k a l) (decide (l.length ≤ 60) && ((sp a l).2.2 == 0)) := by
  by_cases h : l.length ≤ 60
  · rw [decide_eq_true h, Bool.true_and]
    exact EvT.ifn (by omega) (Ev.bind (refPlace_ev a l (by omega)) (Ev.now _))
  · rw [decide_eq_false h, Bool.false_and]
    exact EvT.ifp (by omega) (Ev.now _)
theorem right_yes (a : Int) (l : List S39) (h : (decide (l.length ≤ 60) && ((sp a l).2.2 == 0)) = true) : l.length ≤ 60 ∧ good a l := by
  simp only [Bool.and_eq_true, decide_eq_true_eq, beq_iff_eq] at h
  exact ⟨h.1, sp_bad a l h.2⟩
end Go.Proofs.Ytpimlejbdpipfaa.Pure
