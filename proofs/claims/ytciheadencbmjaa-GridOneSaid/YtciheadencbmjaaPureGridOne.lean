/- For any items: in one column they stand one below the other, each as wide as the space; spans that are greater than the number of columns are treated like it (up to 100 items). Conditions: those of the statement alone. -/
import Derived.Test.YtciheadencbmjaaPx15
import Derived.Test.YtciheadencbmjaaHPure4
set_option linter.unusedVariables false
set_option linter.unusedSimpArgs false
namespace Go.Proofs.Ytciheadencbmjaa.Pure
open Go.RowKit Go.Proofs.Ytciheadencbmjaa.P Go.Proofs.YtciheadencbmjaaW.PrintWords Go.Proofs.YtciheadencbmjaaW.PrintLast
theorem walkG_clip (cols : Int) : ∀ (i : Nat) (r c : Int) (l : List Int), walkG cols i r c (l.map fun n => mn n cols) = walkG cols i r c l
  | _, _, _, [] => rfl
  | i, r, c, n :: l => by
    rw [List.map_cons, walkG_cons, walkG_cons, mn_mn]
    have : firstC cols r c (mn n cols) = firstC cols r c n := by unfold firstC; rw [mn_mn]
    rw [this, walkG_clip cols (i + 1) _ _ l]
theorem walkL_clip (cols : Int) (l : List Int) : walkL cols (l.map fun n => mn n cols) = walkL cols l := walkG_clip cols 0 0 0 l
theorem check_clip {cols : Int} {l : List Int} (h : checkE cols l = 0) : checkE cols (l.map fun n => mn n cols) = 0 := by
  obtain ⟨hn, hc, hl⟩ := checkE_zero h
  unfold checkE
  rw [List.length_map, if_neg (by omega), if_neg (by unfold badS; simp; omega), if_neg]
  rw [Bool.not_eq_true, List.any_eq_false]
  intro x hx
  obtain ⟨y, hy, rfl⟩ := List.mem_map.1 hx
  have := mn_bd (hl y hy) hc
  unfold badS
  simp
  omega
theorem widthsL_clip {cols : Int} {l : List Int} (h : checkE cols l = 0) (ws ss : List Int) : widthsL cols (l.map fun n => mn n cols) ws ss = widthsL cols l ws ss := by
  obtain ⟨hn, hc, hl⟩ := checkE_zero h
  unfold widthsL
  rw [walkL_clip]
  refine List.map_congr_left fun x hx => ?_
  obtain ⟨k, hk, e1, _⟩ := walkL_mem hc hl hx
  rw [e1, rd_nat _ k (by rw [List.length_map]; exact hk), rd_nat _ k hk, List.getElem_map, mn_mn]
theorem place_clip {cols : Int} {l : List Int} (h : checkE cols l = 0) (hs : List Int) (space gap : Int) : grid_Place.f cols (l.map fun n => mn n cols) hs space gap = grid_Place.f cols l hs space gap := by
  unfold grid_Place.f grid_Widths.f placeBody
  rw [if_pos h, if_pos (check_clip h), walkL_clip, List.length_map]
  simp only [widthsL_clip h]
theorem ones_check (n : Nat) (hn : n ≤ 100) : checkE 1 (List.replicate n 1) = 0 := by
  unfold checkE
  rw [List.length_replicate, if_neg (by omega), if_neg (by decide), if_neg]
  rw [Bool.not_eq_true, List.any_eq_false]
  intro x hx
  rw [List.eq_of_mem_replicate hx]
  decide
theorem rd_ones (n i : Nat) (h : i < n) : rd (List.replicate n 1) (i : Int) = 1 := by simp [rd, List.getD_eq_getElem?_getD, h]
theorem cell_ones (n : Nat) : ∀ i, i < n → cellAt 1 (List.replicate n 1) i = ⟨(i : Int), 0⟩
  | 0, h => cell_zero (by decide) (fun x hx => by rw [List.eq_of_mem_replicate hx]; decide) (by rw [List.length_replicate]; exact h)
  | i + 1, h => by
    rw [cell_succ _ _ _ (by rw [List.length_replicate]; exact h), cell_ones n i (by omega), rd_ones n i (by omega), rd_ones n (i + 1) h]
    simp [nextC, mn]
theorem rows_ones {n : Nat} {hs : List Int} (hb : hs.any badH = false) (i : Nat) (h : i < n) : rowsP hs (walkL 1 (List.replicate n 1)) (i : Int) = rd hs (i : Int) := by
  have hrow : ∀ k, k < n → rowOf 1 (List.replicate n 1) k = (k : Int) := fun k hk => by unfold rowOf; rw [cell_ones n k hk]
  obtain ⟨d, hd⟩ : ∃ d, n = (i + 1) + d := ⟨n - (i + 1), by omega⟩
  have hlen : (List.replicate n (1 : Int)).length = n := List.length_replicate
  rw [← pre_full, hlen]
  have h1 : Pre 1 (List.replicate n 1) hs n (i : Int) = Pre 1 (List.replicate n 1) hs (i + 1) (i : Int) := by
    have := pre_stay (cols := 1) (l := List.replicate n 1) (hs := hs) (j := (i : Int)) d (i + 1) (by rw [hlen]; omega) (fun k h1 h2 => by rw [hrow k (by omega)]; omega)
    rw [← hd] at this
    exact this
  rw [h1, pre_succ _ _ _ _ (by rw [hlen]; exact h), hrow i h, if_pos rfl, pre_none i (by rw [hlen]; omega) (fun k hk => by rw [hrow k (by omega)]; omega)]
  have := rd_bd hb (i : Int)
  unfold mx
  split <;> omega
theorem one1 {n : Nat} {hs : List Int} {space gap : Int} {ws ss : List Int} (hn : n ≤ 100) (hl : hs.length = n) (hb : hs.any badH = false) (hg : GoodP space gap) (C : Cols 1 space gap ws ss) : ∀ (d i : Nat) (q : Bool) (x : Int), i + d = n → q = true → x = begP gap (rowsP hs (walkL 1 (List.replicate n 1))) i →
    Ev (fun k => formelaw24_GridOne.l1 k hs space gap q x (boxesL 1 (List.replicate n 1) hs ws ss gap) (((boxesL 1 (List.replicate n 1) hs ws ss gap).length : Nat) : Int) (i : Int)) true
  | 0, i, q, x, h, hq, hx => Ev.step (fun k => rfl) (EvT.ifn (by rw [boxesL_length, List.length_replicate]; omega) (by rw [hq]; exact Ev.now _))
  | d + 1, i, q, x, h, hq, hx => by
    have hlen : (boxesL 1 (List.replicate n 1) hs ws ss gap).length = n := by rw [boxesL_length, List.length_replicate]
    have hi : i < n := by omega
    have hbox := rd_box 1 (List.replicate n 1) hs ws ss gap i (by rw [List.length_replicate]; exact hi)
    rw [cell_ones n i hi, rd_ones n i hi] at hbox
    dsimp only at hbox
    have hs0 : rd ss 0 = 0 := by have := C.at_ 0 (by decide); simpa [sumW, sumTo] using this
    have hmn : mn (1 : Int) 1 = 1 := by decide
    have hw : spanW ws ss 0 1 = space := by
      have := span_at C hg (by decide) (a := 0) (m := 1) (by decide) (by decide)
      have h2 := C.sum
      have h3 : gap * (((1 : Nat) : Int) - 1) = 0 := by simp
      rw [h3, Int.sub_zero] at h2
      have h4 : mx 0 space = space := by have := hg.1.1; unfold mx; split <;> omega
      rw [h4] at h2
      rw [h3] at this
      have h5 : sumW ws 0 = 0 := rfl
      simp only [Nat.zero_add] at this
      rw [show ((0 : Nat) : Int) = 0 from rfl, show ((1 : Nat) : Int) = 1 from rfl] at this
      omega
    rw [hmn, hw, hs0] at hbox
    have hp := rd_bd hb (i : Int)
    have hbg := begP_bd hg.2 (rowsP_low hb (walkL 1 (List.replicate n 1))) i
    have hg2 := hg.2
    have ih := one1 hn hl hb hg C d (i + 1) (((rd_T43 (boxesL 1 (List.replicate n 1) hs ws ss gap) (i : Int)).f2) == x) (wrap64 (x + wrap64 (rd hs (i : Int) + gap))) (by omega) (by rw [hbox, hx]; simp) (by
      rw [EvT.w64 (x := rd hs (i : Int) + gap) (by omega) (by omega), EvT.w64 (by omega) (by omega), begP_succ, rows_ones hb i hi, hx]; omega)
    refine Ev.step (fun k => rfl) (EvT.ifp (by omega) (EvT.ifp (by omega) (EvT.ifp (by omega) (EvT.ifp hq (EvT.ifp ?_ (EvT.ifp ?_ (EvT.ifp (by omega) ?_)))))))
    · rw [hbox]; simp
    · rw [hbox]
    · rw [w_succ i n hi (by omega)]
      exact ih
theorem one0 {cols : Int} {l hs : List Int} {space gap : Int} (h : checkE cols l = 0) (hn : l.length ≤ 100) (hl : hs.length = l.length) : ∀ (d i : Nat) (a b : List Int), i + d = l.length → a = (l.take i).map (fun n => mn n cols) → b = List.replicate i 1 →
    Ev (fun k => formelaw24_GridOne.l0 k cols l hs space gap true a b l (l.length : Int) (i : Int)) true
  | 0, i, a, b, hi, ha, hb => by
    have hil : i = l.length := by omega
    subst hil
    rw [List.take_length] at ha
    subst ha hb
    refine Ev.step (fun k => rfl) (EvT.ifn (by omega) ?_)
    rw [place_clip h]
    by_cases hx : GoodP space gap ∧ hs.length = l.length ∧ hs.any badH = false
    · obtain ⟨hg, _, hb⟩ := hx
      obtain ⟨hn2, hc, hsp⟩ := checkE_zero h
      obtain ⟨ws, ss, C⟩ := cols_facts (n := cols.toNat) (by omega) hg
      have hp := place_ok h C hl hb (endL_small h hn hg.2 hb)
      obtain ⟨ws1, ss1, C1⟩ := cols_facts (n := 1) (by decide) hg
      have h1 := ones_check l.length hn
      have hp1 := place_ok h1 C1 (by rw [List.length_replicate]; exact hl) hb (endL_small h1 (by rw [List.length_replicate]; exact hn) hg.2 hb)
      refine EvT.bindc hp (EvT.bindc hp (EvT.ifp rfl (EvT.ifp rfl (Ev.bind (Same_ev _ (by rw [boxesL_length]; omega)) (EvT.ifp rfl (EvT.bindc hp1 (EvT.ifp rfl (EvT.ifp (by rw [boxesL_length, List.length_replicate]) ?_))))))))
      exact one1 hn hl hb hg C1 l.length 0 true 0 (by omega) rfl rfl
    · have hp := place_err (cols := cols) (l := l) h hx
      have h1 := ones_check l.length hn
      have hp1 := place_err (cols := 1) (l := List.replicate l.length 1) (hs := hs) (space := space) (gap := gap) h1 (by rw [List.length_replicate]; exact hx)
      exact EvT.bindc hp (EvT.bindc hp (EvT.ifp rfl (EvT.ifp rfl (Ev.bind (Same_ev [] (by decide)) (EvT.ifp rfl (EvT.bindc hp1 (EvT.ifn (by decide) (Ev.now _))))))))
  | d + 1, i, a, b, hi, ha, hb => by
    have hil : i < l.length := by omega
    have ih := one0 (space := space) (gap := gap) h hn hl d (i + 1) (a ++ [mn (rd l (i : Int)) cols]) (b ++ [1]) (by omega) (by rw [List.take_succ_eq_append_getElem hil, List.map_append, ha, rd_nat l i hil]; rfl) (by rw [hb, ← List.replicate_succ'])
    have hla : a.length ≤ 100 := by rw [ha, List.length_map, List.length_take]; omega
    have hlb : b.length ≤ 100 := by rw [hb, List.length_replicate]; omega
    refine Ev.step (fun k => rfl) (EvT.ifp (by omega) (EvT.ifp (by omega) (EvT.ifp (by omega) (EvT.ifp (by omega) (EvT.ifp (by omega) ?_)))))
    rw [w_succ i l.length hil (by omega)]
    exact ih
theorem GridOne : formelaw24_GridOne.Pure := by
  intro a0 l1 l2 a3 a4 _ _ _ _ _ _ _ _ _
  suffices h : Ev (fun k => formelaw24_GridOne.f k a0 l1 l2 a3 a4) true from let ⟨k, hk⟩ := h; ⟨k, hk k (Nat.le_refl _)⟩
  have hT : ∀ q, q = true → Ev (fun k => formelaw24_GridOne.j0 k a0 l1 l2 a3 a4 true q) true := fun q hq => Ev.step (fun k => rfl) (EvT.ifp hq (Ev.now _))
  unfold formelaw24_GridOne.f
  refine Ev.bind head_ev (EvT.ifp rfl (Ev.bind (usable_ev a0 l1) ?_))
  by_cases hu : usableB a0 l1 = true
  · obtain ⟨hlen, hck⟩ := usable_true hu
    rw [hu]
    refine EvT.ifp rfl ?_
    by_cases hl : l2.length = l1.length
    · have hq : ((l2.length : Int) != (l1.length : Int)) = false := by rw [hl]; simp
      have hF : ∀ q, q = false → Ev (fun k => formelaw24_GridOne.j0 k a0 l1 l2 a3 a4 true q) true := fun q hq => Ev.step (fun k => rfl) (EvT.ifn (by rw [hq]; decide) (one0 hck hlen hl l1.length 0 [] [] (by omega) rfl rfl))
      exact hF _ hq
    · exact hT _ (bne_iff_ne.2 (by omega))
  · rw [Bool.not_eq_true] at hu
    rw [hu]
    exact EvT.ifn (by decide) (hT _ rfl)
end Go.Proofs.Ytciheadencbmjaa.Pure
