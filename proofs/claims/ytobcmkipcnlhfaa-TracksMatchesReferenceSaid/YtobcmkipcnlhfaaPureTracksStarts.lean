/- Tracks begin one behind the other, with the gap between each two, from 0 on (package tracks alone; up to 64 widths). Conditions: those of the statement alone. -/
import Derived.Test.YtobcmkipcnlhfaaPx11
import Derived.Test.YtobcmkipcnlhfaaHPT2
set_option linter.unusedVariables false
set_option linter.unusedSimpArgs false
namespace Go.Proofs.Ytobcmkipcnlhfaa.Pure
open Go.RowKit Go.Proofs.Ytobcmkipcnlhfaa.P Go.Proofs.YtobcmkipcnlhfaaW.PrintWords Go.Proofs.YtobcmkipcnlhfaaW.PrintLast

/-- Where tracks begin. -/
def begins (l : List Int) (gap : Int) : Nat → Int
  | 0 => 0
  | i + 1 => begins l gap i + rd l (i : Int) + gap
theorem far_bd {l : List Int} (h : l.any farW = false) (i : Nat) (hi : i < l.length) : 0 ≤ rd l (i : Int) ∧ rd l (i : Int) ≤ 1000000 := by
  have h1 := List.any_eq_false.1 h l[i] (List.getElem_mem hi)
  have h2 : rd l (i : Int) = l[i] := by simp [rd, List.getD_eq_getElem?_getD, List.getElem?_eq_getElem hi]
  rw [h2]
  simpa [farW, inside] using h1
theorem begins_bd {l : List Int} {gap : Int} (hl : l.length ≤ 64) (hf : l.any farW = false) (hg : 0 ≤ gap ∧ gap ≤ 100000) : ∀ i, i ≤ l.length → 0 ≤ begins l gap i ∧ begins l gap i ≤ 1100000 * i
  | 0, _ => by simp [begins]
  | i + 1, hi => by
    have IH := begins_bd hl hf hg i (by omega)
    have := far_bd hf i (by omega)
    simp only [begins]
    push_cast
    omega
theorem outS_get {l : List Int} {gap : Int} (hl : l.length ≤ 64) (hf : l.any farW = false) (hg : 0 ≤ gap ∧ gap ≤ 100000) : ∀ i, i < l.length → outS l gap i = tab l.length (fun j => if j ≤ i then begins l gap j else 0)
  | 0, _ => by
    rw [outS, ← tab_zero]
    refine tab_congr fun j _ => ?_
    by_cases e : j ≤ 0
    · obtain rfl : j = 0 := by omega
      rfl
    · rw [if_neg e]
  | i + 1, hi => by
    have IH := outS_get hl hf hg i (by omega)
    have b := begins_bd hl hf hg i (by omega)
    have f := far_bd hf i (by omega)
    rw [outS, IH, tab_rd _ _ _ (by omega), if_pos (Nat.le_refl i), EvT.w64 (x := begins l gap i + rd l (i : Int)) (by omega) (by omega), EvT.w64 (by omega) (by omega), tab_set _ _ _ _ hi]
    refine tab_congr fun j hj => ?_
    by_cases e : j = i + 1
    · subst e; rw [if_pos rfl, if_pos (Nat.le_refl _)]; rfl
    · rw [if_neg e]
      by_cases e2 : j ≤ i
      · rw [if_pos e2, if_pos (by omega)]
      · rw [if_neg e2, if_neg (by omega)]
def okS (l : List Int) (gap : Int) : Bool := inside (l.length : Int) 1 64 && inside gap 0 100000 && !l.any farW
theorem okS_yes {l : List Int} {gap : Int} (h : okS l gap = true) : (1 ≤ l.length ∧ l.length ≤ 64) ∧ (0 ≤ gap ∧ gap ≤ 100000) ∧ l.any farW = false := by
  simp only [okS, Bool.and_eq_true, Bool.not_eq_true', inside, decide_eq_true_eq] at h
  exact ⟨by omega, by omega, h.2⟩
theorem starts_f (l : List Int) (gap : Int) (hl : l.length ≤ 1000000) : tracks_Starts.f l gap = some (if okS l gap = true then (tab l.length (begins l gap), 0) else ([], 1)) := by
  unfold tracks_Starts.f
  rw [if_pos hl]
  by_cases h : okS l gap = true
  · obtain ⟨h1, h2, h3⟩ := okS_yes h
    rw [if_pos h, if_pos ⟨by simp [inside]; omega, by simp [inside]; omega, h3⟩, outS_get h1.2 h3 h2 _ (by omega)]
    rw [show tab l.length (fun j => if j ≤ l.length - 1 then begins l gap j else 0) = tab l.length (begins l gap) from tab_congr fun j hj => by rw [if_pos (by omega)]]
  · rw [if_neg h, if_neg (fun hh => h (by simp [okS, hh.1, hh.2.1, hh.2.2]))]
theorem starts_big (l : List Int) (gap : Int) (hl : ¬ l.length ≤ 1000000) : tracks_Starts.f l gap = some ([], 1) := by
  unfold tracks_Starts.f
  rw [if_neg hl]
theorem starts_loop (l : List Int) (gap : Int) (h : okS l gap = true) : ∀ (d i : Nat), i + d = l.length → 1 ≤ i →
    Ev (fun k => formelaw23_TracksStarts.l0 k l gap true (tab l.length (begins l gap)) (i : Int)) true
  | 0, i, e, _ => Ev.step (fun k => rfl) (EvT.ifn (by rw [tab_length]; omega) (Ev.now _))
  | d + 1, i, e, hi1 => by
    obtain ⟨h1, h2, h3⟩ := okS_yes h
    obtain ⟨j, rfl⟩ : ∃ j, i = j + 1 := ⟨i - 1, by omega⟩
    have IH := starts_loop l gap h d (j + 1 + 1) (by omega) (by omega)
    have b := begins_bd h1.2 h3 h2 j (by omega)
    have f := far_bd h3 j (by omega)
    have e1 : wrap64 (((j + 1 : Nat) : Int) - 1) = (j : Int) := by rw [EvT.w64 (by omega) (by omega)]; omega
    have e2 : wrap64 (((j + 1 : Nat) : Int) + 1) = ((j + 1 + 1 : Nat) : Int) := by rw [EvT.w64 (by omega) (by omega)]; omega
    refine Ev.step (fun k => rfl) (EvT.ifp (by rw [tab_length]; omega) (EvT.ifp (by omega) (EvT.ifp (by rw [e1]; omega) (EvT.ifp (by rw [e1, tab_length]; omega) (EvT.ifp (by rw [e1]; omega) (EvT.ifp ?_ ?_))))))
    · rw [e1, tab_rd _ _ _ (by omega), tab_rd _ _ _ (by omega)]
      simp only [begins]
      rw [EvT.w64 (x := rd l (j : Int) + gap) (by omega) (by omega), EvT.w64 (by omega) (by omega)]
      omega
    · rw [e2]; exact IH
theorem TracksStarts : formelaw23_TracksStarts.Pure := fun l gap _ _ _ _ => Ev.rounds (Ev.bind head_ev (EvT.ifp rfl (by
  by_cases hl : l.length ≤ 1000000
  · refine EvT.bindc (starts_f l gap hl) ?_
    by_cases h : okS l gap = true
    · obtain ⟨h1, h2, h3⟩ := okS_yes h
      rw [if_pos h]
      refine EvT.ifp rfl (EvT.ifp (by rw [tab_length]) (EvT.ifn (by rw [tab_length]; omega) (EvT.ifp (by rw [tab_length]; omega) ?_)))
      have e0 : rd (tab l.length (begins l gap)) (0 : Int) = 0 := tab_rd l.length (begins l gap) 0 (by omega)
      rw [e0]
      refine EvT.lit (g := fun k c => formelaw23_TracksStarts.j0 k l gap true (tab l.length (begins l gap)) c) false (fun c hc => Ev.step (fun k => rfl) (EvT.ifn (by rw [hc]; decide) (starts_loop l gap h (l.length - 1) 1 (by omega) (by omega))))
    · rw [if_neg h]
      exact EvT.ifn (by decide) (EvT.ifp rfl (Ev.now _))
  · exact EvT.bindc (starts_big l gap hl) (EvT.ifn (by decide) (EvT.ifp rfl (Ev.now _))))))
end Go.Proofs.Ytobcmkipcnlhfaa.Pure
