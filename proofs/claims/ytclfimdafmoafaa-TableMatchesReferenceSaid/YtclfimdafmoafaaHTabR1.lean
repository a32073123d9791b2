import Derived.Test.YtclfimdafmoafaaHTabP
import Derived.Test.YtclfimdafmoafaaPx8
import Derived.Test.YtclfimdafmoafaaHWidths
set_option linter.unusedVariables false
set_option linter.unusedSimpArgs false
namespace Go.Proofs.Ytclfimdafmoafaa.PureP
open Go.RowKit Go.Proofs.Ytclfimdafmoafaa.P Go.Proofs.YtclfimdafmoafaaW.PrintWords Go.Proofs.YtclfimdafmoafaaW.PrintLast Go.Proofs.YtclfimdafmoafaaW.PrintMore
theorem tab_rd (n : Nat) (w : Nat → Int) (i : Nat) (h : i < n) : rd (tabW n w) (i : Int) = w i := by simp [rd, tabW, List.getD_eq_getElem?_getD, h]
theorem tab_congr {n : Nat} {w w' : Nat → Int} (h : ∀ i, i < n → w i = w' i) : tabW n w = tabW n w' := List.map_congr_left fun i hi => h i (List.mem_range.1 hi)
theorem tab_set (n : Nat) (w : Nat → Int) (i : Nat) (v : Int) (h : i < n) : (tabW n w).set i v = tabW n (fun j => if j = i then v else w j) := by
  apply List.ext_getElem?
  intro j
  rw [List.getElem?_set]
  by_cases hj : j < n
  · by_cases e : i = j
    · subst e
      simp [tabW, h]
    · simp [tabW, hj, e, Ne.symm e]
  · by_cases e : i = j
    · omega
    · simp [tabW, hj, e]
theorem tab_zero (n : Nat) : tabW n (fun _ => 0) = List.replicate n 0 := by
  induction n with
  | zero => rfl
  | succ n ih => rw [tabW_succ, ih, List.replicate_succ']
theorem tab_snoc (n : Nat) (w : Nat → Int) : tabW n w ++ [w n] = tabW (n + 1) w := (tabW_succ n w).symm
def begins (l : List Int) (gap : Int) : Nat → Int
  | 0 => 0
  | i + 1 => begins l gap i + rd l (i : Int) + gap
theorem far_bd {l : List Int} (h : l.any farW = false) (i : Nat) (hi : i < l.length) : 0 ≤ rd l (i : Int) ∧ rd l (i : Int) ≤ 1000000 := by
  have h1 := List.any_eq_false.1 h l[i] (List.getElem_mem hi)
  have h2 : rd l (i : Int) = l[i] := by simp [rd, List.getD_eq_getElem?_getD, List.getElem?_eq_getElem hi]
  rw [h2]
  simpa [farW, inside] using h1
theorem begins_bd {l : List Int} {gap : Int} (hl : l.length ≤ 64) (hf : l.any farW = false) (hg : 0 ≤ gap ∧ gap ≤ 100000) : ∀ i, i ≤ l.length → 0 ≤ begins l gap i ∧ begins l gap i ≤ 1100000 * i
  | 0, _ => by simp [begins]
  | i + 1, hi => by
    have IH := begins_bd hl hf hg i (by omega)
    have := far_bd hf i (by omega)
    simp only [begins]
    push_cast
    omega
theorem outS_get {l : List Int} {gap : Int} (hl : l.length ≤ 64) (hf : l.any farW = false) (hg : 0 ≤ gap ∧ gap ≤ 100000) : ∀ i, i < l.length → outS l gap i = tabW l.length (fun j => if j ≤ i then begins l gap j else 0)
  | 0, _ => by
    rw [outS, ← tab_zero]
    refine tab_congr fun j _ => ?_
    by_cases e : j ≤ 0
    · obtain rfl : j = 0 := by omega
      rfl
    · rw [if_neg e]
  | i + 1, hi => by
    have IH := outS_get hl hf hg i (by omega)
    have b := begins_bd hl hf hg i (by omega)
    have f := far_bd hf i (by omega)
    rw [outS, IH, tab_rd _ _ _ (by omega), if_pos (Nat.le_refl i), EvT.w64 (x := begins l gap i + rd l (i : Int)) (by omega) (by omega), EvT.w64 (by omega) (by omega), tab_set _ _ _ _ hi]
    refine tab_congr fun j hj => ?_
    by_cases e : j = i + 1
    · subst e; rw [if_pos rfl, if_pos (Nat.le_refl _)]; rfl
    · rw [if_neg e]
      by_cases e2 : j ≤ i
      · rw [if_pos e2, if_pos (by omega)]
      · rw [if_neg e2, if_neg (by omega)]
theorem in_eq (a lo hi : Int) : formeref23_in.f a lo hi = some (inside a lo hi) := by
  unfold formeref23_in.f inside
  by_cases h1 : lo ≤ a <;> by_cases h2 : a ≤ hi <;> simp [h1, h2]
theorem drop_rd (l : List Int) (i : Nat) (h : i < l.length) : l.drop i = rd l (i : Int) :: l.drop (i + 1) := by
  rw [List.drop_eq_getElem_cons h]
  congr 1
  simp [rd, List.getD_eq_getElem?_getD, List.getElem?_eq_getElem h]
theorem starts_ref (l : List Int) (gap : Int) (hl : l.length ≤ 64) (hg : 0 ≤ gap ∧ gap ≤ 100000) : ∀ (d i : Nat), i + d = l.length → 0 ≤ begins l gap i ∧ begins l gap i ≤ 1100000 * i →
    Ev (fun k => formeref23_Starts.l0 k l gap (tabW i (begins l gap)) (begins l gap i) (i : Int)) (if (l.drop i).any farW = true then ([], 1) else (tabW l.length (begins l gap), 0))
  | 0, i, e, _ => by
    obtain rfl : i = l.length := by omega
    refine Ev.step (fun k => rfl) (EvT.ifn (by omega) (EvT.now ?_))
    rw [List.drop_eq_nil_of_le (by omega)]
    rfl
  | d + 1, i, e, hb => by
    have hi : i < l.length := by omega
    refine Ev.step (fun k => rfl) (EvT.ifp (by omega) (EvT.ifp (by omega) (EvT.bindc (in_eq _ _ _) (EvT.ite (fun h => EvT.ifp (by rw [tabW_length]; omega) ?_) (fun h => EvT.now ?_)))))
    · have hb2 : 0 ≤ rd l (i : Int) ∧ rd l (i : Int) ≤ 1000000 := by simpa [inside] using h
      have e2 : begins l gap (i + 1) = begins l gap i + rd l (i : Int) + gap := rfl
      have IH := starts_ref l gap hl hg d (i + 1) (by omega) (by rw [e2]; push_cast; omega)
      rw [tab_snoc, w1 i (by omega), EvT.w64 (x := begins l gap i + rd l (i : Int)) (by omega) (by omega), EvT.w64 (by omega) (by omega), drop_rd l i hi, List.any_cons,
        show farW (rd l (i : Int)) = false by rw [farW, h]; rfl, Bool.false_or]
      exact IH
    · rw [drop_rd l i hi, List.any_cons, show farW (rd l (i : Int)) = true by rw [farW, Bool.eq_false_iff.2 h]; rfl]
      rfl
/-- The reference's Starts gives the same. -/
theorem starts_same (l : List Int) (gap : Int) : Ev (fun k => formeref23_Starts.f k l gap) (if startsOk l gap = true then (outS l gap (l.length - 1), 0) else ([], 1)) := by
  have bad : Ev (fun k => formeref23_Starts.j0 k l gap true) ([], 1) := Ev.step (fun k => rfl) (Ev.now _)
  refine EvT.bindc (in_eq _ _ _) ?_
  by_cases h2 : inside gap 0 100000 = true
  · rw [h2]
    have hg : 0 ≤ gap ∧ gap ≤ 100000 := by simpa [inside] using h2
    refine EvT.ifp rfl (EvT.ite (fun h => ?_) (fun h => ?_))
    · rw [if_neg (fun hk => by have := (startsOk_bd hk).1; omega)]; exact bad
    · by_cases h4 : (l.length : Int) > 64
      · rw [decide_eq_true h4, if_neg (fun hk => by have := (startsOk_bd hk).1; omega)]; exact bad
      · refine lit (g := fun k c => formeref23_Starts.j0 k l gap c) (decide ((l.length : Int) > 64)) (fun c hc => Ev.step (fun k => rfl) (EvT.ifn (by rw [hc, decide_eq_false h4]; decide) ?_))
        have := starts_ref l gap (by omega) hg l.length 0 (by omega) (by simp [begins])
        have e1 : (if startsOk l gap = true then (outS l gap (l.length - 1), (0 : Int)) else ([], 1)) = if (l.drop 0).any farW = true then ([], 1) else (tabW l.length (begins l gap), 0) := by
          rw [List.drop_zero]
          have h5 : inside (l.length : Int) 1 64 = true := by simp [inside]; omega
          cases h6 : l.any farW
          · rw [if_pos (by simp [startsOk, h5, h2, h6]), if_neg (by decide), outS_get (by omega) h6 hg _ (by omega)]
            congr 1
            exact tab_congr fun j hj => by rw [if_pos (by omega)]
          · rw [if_neg (by simp [startsOk, h6]), if_pos rfl]
        rw [e1]
        exact this
  · rw [if_neg (fun hk => h2 (by simp only [startsOk, Bool.and_eq_true] at hk; exact hk.1.2))]
    exact EvT.ifn h2 bad
theorem len_eq (a : Int) : formeref26_length.f a = some (!farW a) := by
  unfold formeref26_length.f farW inside
  by_cases h1 : a ≥ 0 <;> by_cases h2 : a ≤ 1000000 <;> simp [h1, h2] <;> omega
/-- A row of heights with one that is too far: status 1. -/
theorem place_far (ws : List Int) (hs : List (List Int)) (gap : Int) (st : List Int) (x11 : List (List S50)) (x12 : Int) (i : Nat) (hi : i < hs.length) (hl : (hk hs i).length ≤ 64) : ∀ (d j : Nat) (x14 : Int), j + d = (hk hs i).length → ((hk hs i).drop j).any farW = true →
    Ev (fun k => formeref26_Place.l1 k ws hs gap st x11 x12 (i : Int) x14 (j : Int)) ([], 0, 1)
  | 0, j, x14, e, h => by
    rw [List.drop_eq_nil_of_le (by omega)] at h
    cases h
  | d + 1, j, x14, e, h => by
    have hj : j < (hk hs i).length := by omega
    rw [drop_rd _ j hj, List.any_cons] at h
    refine EvT.succ (fun k => rfl) (EvT.ifp (by omega) (EvT.ifp (by omega) (EvT.ifp (by show (j : Int) < ((hk hs i).length : Int); omega) (EvT.ifp (by omega) (EvT.bindc (len_eq _) ?_)))))
    rw [show rd_L4 hs (i : Int) = hk hs i from rfl]
    cases hf : farW (rd (hk hs i) (j : Int))
    · rw [hf, Bool.false_or] at h
      refine EvT.ifp rfl ?_
      rw [w1 j (by omega)]
      exact place_far ws hs gap st x11 x12 i hi hl d (j + 1) _ (by omega) h
    · exact EvT.ifn (by decide) (EvT.now rfl)
theorem take_snoc (l : List Int) (j : Nat) (h : j < l.length) : l.take (j + 1) = l.take j ++ [rd l (j : Int)] := by
  rw [List.take_succ_eq_append_getElem h]
  congr 2
  simp [rd, List.getD_eq_getElem?_getD, List.getElem?_eq_getElem h]
theorem place_fine (ws : List Int) (hs : List (List Int)) (gap : Int) (st : List Int) (x11 : List (List S50)) (x12 : Int) (i : Nat) (hi : i < hs.length) (hl : (hk hs i).length ≤ 64) (hf : (hk hs i).any farW = false) (r : List (List S50) × Int × Int)
    (hnext : Ev (fun k => formeref26_Place.l2 k ws hs gap st x11 x12 (i : Int) (gmax (hk hs i)) [] 0) r) : ∀ (d j : Nat), j + d = (hk hs i).length →
    Ev (fun k => formeref26_Place.l1 k ws hs gap st x11 x12 (i : Int) (gmax ((hk hs i).take j)) (j : Int)) r
  | 0, j, e => by
    refine EvT.succ (fun k => rfl) (EvT.ifp (by omega) (EvT.ifp (by omega) (EvT.ifn (by show ¬ (j : Int) < ((hk hs i).length : Int); omega) ?_)))
    rw [List.take_of_length_le (by omega)]
    exact hnext
  | d + 1, j, e => by
    have hj : j < (hk hs i).length := by omega
    have hb := far_bd hf j hj
    refine EvT.succ (fun k => rfl) (EvT.ifp (by omega) (EvT.ifp (by omega) (EvT.ifp (by show (j : Int) < ((hk hs i).length : Int); omega) (EvT.ifp (by omega) (EvT.bindc (len_eq _) ?_)))))
    rw [show rd_L4 hs (i : Int) = hk hs i from rfl, show farW (rd (hk hs i) (j : Int)) = false by simp [farW, inside]; omega]
    refine EvT.ifp rfl ?_
    rw [w1 j (by omega), ← gmax_snoc, ← take_snoc _ j hj]
    exact place_fine ws hs gap st x11 x12 i hi hl hf r hnext d (j + 1) (by omega)
theorem place_row (ws : List Int) (hs : List (List Int)) (gap : Int) (st : List Int) (x11 : List (List S50)) (x12 g : Int) (i : Nat) (hi : i < hs.length) (hi2 : i ≤ 1000) (hl : (hk hs i).length ≤ ws.length) (hws : ws.length ≤ 64) (hst : st.length = ws.length) (h11 : x11.length ≤ 1000) (r : List (List S50) × Int × Int)
    (hnext : Ev (fun k => formeref26_Place.l0 k ws hs gap st (x11 ++ [rowB ws st g x12 (hk hs i).length]) (wrap64 (wrap64 (x12 + g) + gap)) ((i + 1 : Nat) : Int)) r) : ∀ (d j : Nat), j + d = (hk hs i).length →
    Ev (fun k => formeref26_Place.l2 k ws hs gap st x11 x12 (i : Int) g (rowB ws st g x12 j) (j : Int)) r
  | 0, j, e => by
    refine EvT.succ (fun k => rfl) (EvT.ifp (by omega) (EvT.ifp (by omega) (EvT.ifn (by show ¬ (j : Int) < ((hk hs i).length : Int); omega) (EvT.ifp (by omega) ?_))))
    rw [w1 i (by omega)]
    obtain rfl : j = (hk hs i).length := by omega
    exact hnext
  | d + 1, j, e => by
    have hj : j < (hk hs i).length := by omega
    have IH := place_row ws hs gap st x11 x12 g i hi hi2 hl hws hst h11 r hnext d (j + 1) (by omega)
    refine EvT.succ (fun k => rfl) (EvT.ifp (by omega) (EvT.ifp (by omega) (EvT.ifp (by show (j : Int) < ((hk hs i).length : Int); omega) (EvT.ifp (by omega) (EvT.ifp (by omega) (EvT.ifp (by omega) (EvT.ifp (by rw [rowB_length]; omega) ?_)))))))
    rw [w1 j (by omega)]
    rw [rowB_succ] at IH
    exact IH
/-- A bad row at or behind i: status 1. -/
theorem place_bad (ws : List Int) (hs : List (List Int)) (hh : hs.length ≤ 40) (gap : Int) (st : List Int) (hws : ws.length ≤ 64) (hst : st.length = ws.length) : ∀ (d i : Nat) (x11 : List (List S50)) (x12 : Int), i + d = hs.length → x11.length = i → (hs.drop i).any (badI ws.length) = true →
    Ev (fun k => formeref26_Place.l0 k ws hs gap st x11 x12 (i : Int)) ([], 0, 1)
  | 0, i, x11, x12, e, e2, h => by
    rw [List.drop_eq_nil_of_le (by omega)] at h
    cases h
  | d + 1, i, x11, x12, e, e2, h => by
    have hi : i < hs.length := by omega
    rw [List.drop_eq_getElem_cons hi, List.any_cons, ← hk_eq hs i hi] at h
    refine EvT.succ (fun k => rfl) (EvT.ifp (by omega) (EvT.ifp (by omega) ?_))
    rw [show rd_L4 hs (i : Int) = hk hs i from rfl]
    by_cases hlen : ws.length < (hk hs i).length
    · exact EvT.ifp (by omega) (EvT.now rfl)
    · refine EvT.ifn (by omega) ?_
      cases hf : (hk hs i).any farW
      · have hb : badI ws.length (hk hs i) = false := by simp only [badI, hf, Bool.or_false]; simpa using hlen
        rw [hb, Bool.false_or] at h
        have IH := fun x12 => place_bad ws hs hh gap st hws hst d (i + 1) (x11 ++ [rowB ws st (gmax (hk hs i)) x12 (hk hs i).length]) (wrap64 (wrap64 (x12 + gmax (hk hs i)) + gap)) (by omega) (by simp [e2]) h
        have := place_fine ws hs gap st x11 x12 i hi (by omega) hf _ (place_row ws hs gap st x11 x12 _ i hi (by omega) (by omega) hws hst (by omega) _ (IH x12) (hk hs i).length 0 (by omega)) (hk hs i).length 0 (by omega)
        exact this
      · exact place_far ws hs gap st x11 x12 i hi (by omega) (hk hs i).length 0 0 (by omega) (by simpa using hf)
/-- No bad row: the rows. -/
theorem place_good (ws : List Int) (hs : List (List Int)) (hh : hs.length ≤ 40) (gap : Int) (st : List Int) (hws : ws.length ≤ 64) (hst : st.length = ws.length) (ok : hs.any (badI ws.length) = false) (r : List (List S50) × Int × Int)
    (hend : Ev (fun k => formeref26_Place.l0 k ws hs gap st (rowsT ws st hs gap hs.length) (wrap64 (yTo hs gap hs.length + gap)) (hs.length : Int)) r) : ∀ (d i : Nat), i + d = hs.length →
    Ev (fun k => formeref26_Place.l0 k ws hs gap st (rowsT ws st hs gap i) (wrap64 (yTo hs gap i + gap)) (i : Int)) r
  | 0, i, e => by
    obtain rfl : i = hs.length := by omega
    exact hend
  | d + 1, i, e => by
    have hi : i < hs.length := by omega
    have hb := List.any_eq_false.1 ok _ (List.getElem_mem hi)
    rw [← hk_eq hs i hi] at hb
    simp only [badI, Bool.not_eq_true, Bool.or_eq_false_iff, decide_eq_false_iff_not] at hb
    have IH := place_good ws hs hh gap st hws hst ok r hend d (i + 1) (by omega)
    rw [rowsT_succ] at IH
    refine EvT.succ (fun k => rfl) (EvT.ifp (by omega) (EvT.ifp (by omega) ?_))
    rw [show rd_L4 hs (i : Int) = hk hs i from rfl]
    refine EvT.ifn (by omega) ?_
    exact place_fine ws hs gap st _ _ i hi (by omega) hb.2 _ (place_row ws hs gap st _ _ _ i hi (by omega) (by omega) hws hst (by rw [rowsT_length]; omega) _ IH (hk hs i).length 0 (by omega)) (hk hs i).length 0 (by omega)
/-- The reference's Place gives the same. -/
theorem place_same (ws : List Int) (hs : List (List Int)) (hh : hs.length ≤ 40) (gap : Int) : Ev (fun k => formeref26_Place.f k ws hs gap) (placeR ws hs gap) := by
  refine Ev.bind (starts_same ws gap) ?_
  unfold placeR placeOk
  cases h : startsOk ws gap
  · refine EvT.ifn (show ¬ (1 : Int) = 0 by decide) ?_
    exact lit (g := fun k c => formeref26_Place.j0 k ws hs gap _ c) true (fun c hc => EvT.succ (fun k => rfl) (EvT.ifp hc (EvT.now (by simp))))
  · obtain ⟨⟨n1, n64⟩, g0, g1⟩ := startsOk_bd h
    refine EvT.ifp rfl ?_
    simp only [if_true, Bool.true_and]
    have hst := outS_length ws gap (ws.length - 1)
    generalize outS ws gap (ws.length - 1) = st at hst ⊢
    rw [show decide ((hs.length : Int) > 4000) = false from decide_eq_false (by omega), show decide (hs.length ≤ 4000) = true from decide_eq_true (by omega), Bool.true_and]
    refine lit (g := fun k c => formeref26_Place.j0 k ws hs gap st c) false (fun c hc => EvT.succ (fun k => rfl) (EvT.ifn (by rw [hc]; decide) ?_))
    cases hb : hs.any (badI ws.length)
    · have H := Hs.of (by omega) hb
      have yb := yTo_bd H ⟨g0, g1⟩ hs.length (Nat.le_refl _)
      simp only [Bool.not_false, if_true]
      have z : wrap64 (yTo hs gap 0 + gap) = 0 := by rw [yTo_zero ⟨g0, g1⟩, EvT.w64 (by omega) (by omega)]; omega
      have := place_good ws hs hh gap st n64 hst hb (if yEnd hs gap > 1000000000 then ([], 0, 3) else (rowsT ws st hs gap hs.length, yEnd hs gap, 0)) ?_ hs.length 0 (by omega)
      · rw [z] at this
        exact this
      · refine EvT.succ (fun k => rfl) (EvT.ifn (by omega) ?_)
        have hw : wrap64 (wrap64 (yTo hs gap hs.length + gap) - gap) = yTo hs gap hs.length := by rw [EvT.w64 (x := yTo hs gap hs.length + gap) (by omega) (by omega), EvT.w64 (by omega) (by omega)]; omega
        unfold yEnd
        refine EvT.ite (fun h => ?_) (fun h => ?_)
        · have hy : (if hs.length = 0 then (0 : Int) else yTo hs gap hs.length) = yTo hs gap hs.length := if_neg (by omega)
          rw [hw, hy]
          exact EvT.ite (fun h => EvT.now (by rw [if_pos h])) (fun h => EvT.now (by rw [if_neg h]))
        · have h0 : hs.length = 0 := by omega
          rw [h0, z]
          exact EvT.ifn (by decide) (EvT.now rfl)
    · simp only [Bool.not_true, Bool.false_eq_true, if_false]
      exact place_bad ws hs hh gap st n64 hst hs.length 0 [] 0 (by omega) rfl hb
end Go.Proofs.Ytclfimdafmoafaa.PureP
