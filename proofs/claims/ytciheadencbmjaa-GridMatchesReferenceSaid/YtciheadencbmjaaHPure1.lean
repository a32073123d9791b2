import Derived.Test.YtciheadencbmjaaPx8
import Derived.Test.YtciheadencbmjaaPx9
import Derived.Test.YtciheadencbmjaaHEv
set_option linter.unusedVariables false
set_option linter.unusedSimpArgs false
namespace Go.Proofs.Ytciheadencbmjaa.P
open Go.RowKit Go.Proofs.YtciheadencbmjaaW.PrintWords
theorem head_ev : Ev (fun k => formelaw24_head.f k) true := Ev.of (fun k => formelaw24_head.mono k) (k := 60) (by kernel_rfl)
theorem rd43_nat (l : List S43) (i : Nat) (h : i < l.length) : rd_T43 l (i : Int) = l[i] := by simp [rd_T43, List.getD_eq_getElem?_getD, List.getElem?_eq_getElem h]
theorem w_succ (i n : Nat) (h : i < n) (hn : n ≤ 1000000000) : wrap64 ((i : Int) + 1) = ((i + 1 : Nat) : Int) := EvT.w64 (by omega) (by omega)
theorem same_loop (l : List S43) (hl : l.length ≤ 1000000) : ∀ (d i : Nat), i + d = l.length → Ev (fun k => formeref24_Same.l0 k l l (i : Int)) true
  | 0, i, h => Ev.step (fun k => rfl) (EvT.ifn (by omega) (Ev.now _))
  | d + 1, i, h => Ev.step (fun k => rfl) (EvT.ifp (by omega) (EvT.ifp (by omega) (EvT.ifp (by omega) (EvT.ifp rfl (EvT.ifp rfl (EvT.ifp rfl (EvT.ifp rfl (by
      rw [w_succ i l.length (by omega) (by omega)]; exact same_loop l hl d (i + 1) (by omega)))))))))
theorem Same_ev (l : List S43) (hl : l.length ≤ 1000000) : Ev (fun k => formeref24_Same.f k l l) true := by
  unfold formeref24_Same.f
  exact EvT.ifp rfl (same_loop l hl l.length 0 (by omega))
theorem samei_loop (l : List Int) (hl : l.length ≤ 1000000) : ∀ (d i : Nat), i + d = l.length → Ev (fun k => formeref24_SameInts.l0 k l l (i : Int)) true
  | 0, i, h => Ev.step (fun k => rfl) (EvT.ifn (by omega) (Ev.now _))
  | d + 1, i, h => Ev.step (fun k => rfl) (EvT.ifp (by omega) (EvT.ifp (by omega) (EvT.ifp (by omega) (EvT.ifp rfl (by
      rw [w_succ i l.length (by omega) (by omega)]; exact samei_loop l hl d (i + 1) (by omega))))))
theorem SameInts_ev (l : List Int) (hl : l.length ≤ 1000000) : Ev (fun k => formeref24_SameInts.f k l l) true := by
  unfold formeref24_SameInts.f
  exact EvT.ifp rfl (samei_loop l hl l.length 0 (by omega))
theorem samec_loop (l : List S39) (hl : l.length ≤ 1000000) : ∀ (d i : Nat), i + d = l.length → Ev (fun k => formeref24_SameCells.l0 k l l (i : Int)) true
  | 0, i, h => Ev.step (fun k => rfl) (EvT.ifn (by omega) (Ev.now _))
  | d + 1, i, h => Ev.step (fun k => rfl) (EvT.ifp (by omega) (EvT.ifp (by omega) (EvT.ifp (by omega) (EvT.ifn (by simp) (by
      rw [w_succ i l.length (by omega) (by omega)]; exact samec_loop l hl d (i + 1) (by omega))))))
theorem SameCells_ev (l : List S39) (hl : l.length ≤ 1000000) : Ev (fun k => formeref24_SameCells.f k l l) true := by
  unfold formeref24_SameCells.f
  exact EvT.ifp rfl (samec_loop l hl l.length 0 (by omega))
theorem bare_loop (l : List S43) (hl : l.length ≤ 1000000) (hb : ∀ x ∈ l, x.f0 = 0 ∧ x.f5 = false ∧ x.f6 = []) : ∀ (d i : Nat), i + d = l.length → Ev (fun k => formeref24_Bare.l0 k l (i : Int)) true
  | 0, i, h => Ev.step (fun k => rfl) (EvT.ifn (by omega) (Ev.now _))
  | d + 1, i, h => by
    have hx := hb l[i] (List.getElem_mem (by omega))
    rw [← rd43_nat l i (by omega)] at hx
    refine Ev.step (fun k => rfl) (EvT.ifp (by omega) (EvT.ifp (by omega) (EvT.ifp hx.1 (EvT.ifn (by rw [hx.2.1]; decide) (EvT.ifn (by rw [hx.2.2]; decide) ?_)))))
    rw [w_succ i l.length (by omega) (by omega)]
    exact bare_loop l hl hb d (i + 1) (by omega)
theorem Bare_ev (l : List S43) (hl : l.length ≤ 1000000) (hb : ∀ x ∈ l, x.f0 = 0 ∧ x.f5 = false ∧ x.f6 = []) : Ev (fun k => formeref24_Bare.f k l) true := by
  unfold formeref24_Bare.f
  exact bare_loop l hl hb l.length 0 (by omega)
theorem cells_loop {cols : Int} (hc : 1 ≤ cols ∧ cols ≤ 64) (l : List Int) (hl : l.length ≤ 4000) : ∀ (d i : Nat) (r c : Int) (pre : List S39), i + d = l.length → 0 ≤ r → r ≤ i → 0 ≤ c → c ≤ 64 → pre.length = i →
    Ev (fun k => formeref24_Cells.l0 k cols l pre r c (i : Int)) (if (l.drop i).any badS then ([], 1) else (pre ++ (walkG cols i r c (l.drop i)).map (·.2), 0))
  | 0, i, r, c, pre, h, h1, h2, h3, h4, h5 => by
    rw [List.drop_of_length_le (by omega)]
    refine Ev.step (fun k => rfl) (EvT.ifn (by omega) ?_)
    simp only [walkG, List.map_nil, List.append_nil, List.any_nil]
    exact Ev.now _
  | d + 1, i, r, c, pre, h, h1, h2, h3, h4, h5 => by
    have hi : i < l.length := by omega
    have hd : l.drop i = l[i] :: l.drop (i + 1) := List.drop_eq_getElem_cons hi
    have hr := rd_nat l i hi
    obtain ⟨n, hn⟩ : ∃ n, l[i] = n := ⟨_, rfl⟩
    rw [hn] at hd hr
    rw [hd]
    by_cases hb : badS n = true
    · have he : (if (n :: l.drop (i + 1)).any badS then (([], 1) : List S39 × Int) else (pre ++ (walkG cols i r c (n :: l.drop (i + 1))).map (·.2), 0)) = ([], 1) := by
        rw [if_pos (by simp [hb])]
      rw [he]
      have hb' : n < 1 ∨ n > 64 := by unfold badS at hb; simpa using hb
      refine Ev.step (fun k => rfl) (EvT.ifp (by omega) (EvT.ifp (by omega) ?_))
      rw [hr]
      by_cases h6 : n < 1
      · exact EvT.ifp h6 (Ev.step (f := fun _ => some ([], 1)) (fun k => rfl) (Ev.now _))
      · exact EvT.ifn h6 (Ev.step (fun k => rfl) (EvT.ifp (by simp; omega) (Ev.now _)))
    · have hb' : ¬ n < 1 ∧ ¬ n > 64 := by unfold badS at hb; simp at hb; omega
      have hb2 : badS n = false := by simpa using hb
      have hm := mn_bd (n := n) (by omega) hc
      have he : (n :: l.drop (i + 1)).any badS = (l.drop (i + 1)).any badS := by simp [hb2]
      rw [he]
      refine Ev.step (fun k => rfl) (EvT.ifp (by omega) (EvT.ifp (by omega) ?_))
      rw [hr]
      refine EvT.ifn hb'.1 (Ev.step (fun k => rfl) (EvT.ifn (by simp; omega) (EvT.ifp (by omega) (EvT.ifp (by omega) ?_))))
      rw [hr, EvT.w64 (x := c + mn n cols) (by omega) (by omega), w_succ i l.length (by omega) (by omega)]
      unfold walkG
      by_cases h7 : c + mn n cols > cols
      · rw [if_pos h7]
        refine EvT.ifp h7 (EvT.ifp (by omega) ?_)
        rw [EvT.w64 (x := r + 1) (by omega) (by omega), EvT.w64 (x := 0 + mn n cols) (by omega) (by omega), Int.zero_add]
        have := cells_loop hc l hl d (i + 1) (r + 1) (mn n cols) (pre ++ [⟨r + 1, 0⟩]) (by omega) (by omega) (by push_cast; omega) (by omega) (by omega) (by simp; omega)
        rw [List.map_cons]
        simpa using this
      · rw [if_neg h7]
        refine EvT.ifn h7 (EvT.ifp (by omega) ?_)
        have := cells_loop hc l hl d (i + 1) r (c + mn n cols) (pre ++ [⟨r, c⟩]) (by omega) (by omega) (by push_cast; omega) (by omega) (by omega) (by simp; omega)
        rw [List.map_cons]
        simpa using this
theorem Cells_ev (cols : Int) (l : List Int) : Ev (fun k => formeref24_Cells.f k cols l) (if checkE cols l = 0 then (cellsL cols l, 0) else ([], checkE cols l)) := by
  unfold formeref24_Cells.f checkE
  by_cases h1 : 4000 < l.length
  · rw [if_pos h1, if_neg (by decide)]
    exact EvT.ifp (by omega) (Ev.now _)
  · rw [if_neg h1]
    refine EvT.ifn (by omega) ?_
    by_cases h2 : badS cols = true
    · rw [if_pos h2, if_neg (by decide)]
      have h2' : cols < 1 ∨ cols > 64 := by unfold badS at h2; simpa using h2
      by_cases h3 : cols < 1
      · exact EvT.ifp h3 (Ev.step (f := fun _ => some ([], 1)) (fun k => rfl) (Ev.now _))
      · exact EvT.ifn h3 (Ev.step (fun k => rfl) (EvT.ifp (by simp; omega) (Ev.now _)))
    · rw [if_neg h2]
      have h2' : ¬ cols < 1 ∧ ¬ cols > 64 := by unfold badS at h2; simp at h2; omega
      refine EvT.ifn h2'.1 (Ev.step (fun k => rfl) (EvT.ifn (by simp; omega) ?_))
      have h3 := cells_loop (cols := cols) (by omega) l (by omega) l.length 0 0 0 [] (by omega) (by omega) (by omega) (by omega) (by omega) rfl
      rw [List.drop_zero, List.nil_append] at h3
      by_cases h4 : l.any badS = true
      · rw [if_pos h4] at h3 ⊢
        rw [if_neg (by decide)]
        exact h3
      · rw [if_neg h4] at h3 ⊢
        rw [if_pos rfl]
        exact h3
def usableB (cols : Int) (l : List Int) : Bool := decide (l.length ≤ 100) && (checkE cols l == 0)
theorem usable_ev (cols : Int) (l : List Int) : Ev (fun k => formelaw24_usable.f k cols l) (usableB cols l) := by
  unfold formelaw24_usable.f usableB
  by_cases h : l.length ≤ 100
  · rw [decide_eq_true h, Bool.true_and]
    refine EvT.ifp (by omega) (Ev.bind (a := (checkE cols l == 0)) ?_ (Ev.now _))
    unfold formeref24_Spans.f
    refine Ev.bind (Cells_ev cols l) ?_
    by_cases h2 : checkE cols l = 0
    · rw [if_pos h2, h2]; exact Ev.now _
    · rw [if_neg h2]; exact Ev.now _
  · rw [decide_eq_false h, Bool.false_and]
    exact EvT.ifn (by omega) (Ev.now _)
theorem usable_true {cols : Int} {l : List Int} (h : usableB cols l = true) : l.length ≤ 100 ∧ checkE cols l = 0 := by
  unfold usableB at h
  simpa using h
end Go.Proofs.Ytciheadencbmjaa.P
