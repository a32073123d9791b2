/- For any items: the cells, widths and boxes of the first ones are the same without the ones behind them (up to 100 items). Conditions: those of the statement alone. -/
import Derived.Test.YtciheadencbmjaaPx12
import Derived.Test.YtciheadencbmjaaHPure4
set_option linter.unusedVariables false
set_option linter.unusedSimpArgs false
namespace Go.Proofs.Ytciheadencbmjaa.Pure
open Go.RowKit Go.Proofs.Ytciheadencbmjaa.P Go.Proofs.YtciheadencbmjaaW.PrintWords Go.Proofs.YtciheadencbmjaaW.PrintLast
theorem walkG_take (cols : Int) : ∀ (m i : Nat) (r c : Int) (l : List Int), (walkG cols i r c l).take m = walkG cols i r c (l.take m)
  | 0, i, r, c, l => by simp [walkG]
  | m + 1, i, r, c, [] => by simp [walkG]
  | m + 1, i, r, c, n :: l => by
    rw [walkG_cons, List.take_succ_cons, List.take_succ_cons, walkG_cons, walkG_take cols m]
theorem walkL_take (cols : Int) (m : Nat) (l : List Int) : (walkL cols l).take m = walkL cols (l.take m) := walkG_take cols m 0 0 0 l
theorem check_take {cols : Int} {l : List Int} (m : Nat) (h : checkE cols l = 0) : checkE cols (l.take m) = 0 := by
  obtain ⟨hn, hc, hl⟩ := checkE_zero h
  unfold checkE
  rw [List.length_take, if_neg (by omega), if_neg (by unfold badS; simp; omega), if_neg]
  rw [Bool.not_eq_true, List.any_eq_false]
  intro x hx
  have := hl x (List.mem_of_mem_take hx)
  unfold badS
  simp
  omega
theorem cellsL_take (cols : Int) (m : Nat) (l : List Int) : (cellsL cols l).take m = cellsL cols (l.take m) := by
  unfold cellsL
  rw [← List.map_take, walkL_take]
theorem rd_take (l : List Int) (m k : Nat) (h : k < m) : rd (l.take m) (k : Int) = rd l (k : Int) := by
  simp [rd, List.getD_eq_getElem?_getD, List.getElem?_take, h]
theorem mem_take_lt {cols : Int} {l : List Int} (h : checkE cols l = 0) {m : Nat} {x : Int × S39} (hx : x ∈ walkL cols (l.take m)) : ∃ k : Nat, k < m ∧ k < l.length ∧ x.1 = (k : Int) := by
  obtain ⟨hn, hc, hl⟩ := checkE_zero (check_take m h)
  obtain ⟨k, hk, e1, _⟩ := walkL_mem hc hl hx
  rw [List.length_take] at hk
  exact ⟨k, by omega, by omega, e1⟩
theorem widthsL_take {cols : Int} {l : List Int} (h : checkE cols l = 0) (m : Nat) (ws ss : List Int) : (widthsL cols l ws ss).take m = widthsL cols (l.take m) ws ss := by
  unfold widthsL
  rw [← List.map_take, walkL_take]
  refine List.map_congr_left fun x hx => ?_
  obtain ⟨k, hk, _, e1⟩ := mem_take_lt h hx
  rw [e1, rd_take l m k hk]
theorem rowsP_congr {hs hs' : List Int} (l : List (Int × S39)) (h : ∀ x ∈ l, rd hs x.1 = rd hs' x.1) : rowsP hs l = rowsP hs' l := by
  have key : ∀ (l : List (Int × S39)) (p : Int → Int), (∀ x ∈ l, rd hs x.1 = rd hs' x.1) → l.foldl (fun p x => updI p x.2.f0 (mx (p x.2.f0) (rd hs x.1))) p = l.foldl (fun p x => updI p x.2.f0 (mx (p x.2.f0) (rd hs' x.1))) p := by
    intro l
    induction l with
    | nil => exact fun _ _ => rfl
    | cons x l ih =>
      intro p hp
      simp only [List.foldl_cons]
      rw [hp x (by simp)]
      exact ih _ (fun y hy => hp y (by simp [hy]))
  exact key l _ h
theorem endP_congr {gap : Int} {p p' : Int → Int} : ∀ k : Nat, (∀ j : Nat, j < k → p (j : Int) = p' (j : Int)) → endP gap p k = endP gap p' k
  | 0, _ => rfl
  | k + 1, h => by
    unfold endP
    rw [endP_congr k (fun j hj => h j (by omega)), h k (by omega)]
theorem begP_congr {gap : Int} {p p' : Int → Int} (k : Nat) (h : ∀ j : Nat, j < k → p (j : Int) = p' (j : Int)) : begP gap p k = begP gap p' k := by
  unfold begP
  rw [endP_congr k h]
theorem boxesL_take {cols : Int} {l hs : List Int} (h : checkE cols l = 0) {m : Nat} (hm : m ≤ l.length) (ws ss : List Int) (gap : Int) : (boxesL cols l hs ws ss gap).take m = boxesL cols (l.take m) (hs.take m) ws ss gap := by
  obtain ⟨hn, hc, hl⟩ := checkE_zero h
  have hrow0 := fun k (hk : k < l.length) => (cell_bd hc hl k hk).2.2.1
  unfold boxesL
  rw [← List.map_take, ← walkL_take]
  refine List.map_congr_left fun x hx => ?_
  rw [walkL_take] at hx
  obtain ⟨k, hk, hkl, e1⟩ := mem_take_lt h hx
  have hx2 : x = ((k : Int), cellAt cols l k) := by
    have h1 : x ∈ walkL cols l := by rw [← walkL_take] at hx; exact List.mem_of_mem_take hx
    obtain ⟨i, hi, e⟩ := List.getElem_of_mem h1
    have h2 := walkL_get cols l i (by rw [walkL_length] at hi; exact hi)
    rw [List.getElem?_eq_getElem hi, e] at h2
    have h3 := Option.some.inj h2
    rw [h3] at e1
    have : (i : Int) = (k : Int) := e1
    have : i = k := by omega
    subst this
    exact h3
  have hw : rd (widthsL cols l ws ss) x.1 = rd (widthsL cols (l.take m) ws ss) x.1 := by rw [e1, ← widthsL_take h, rd_take _ m k hk]
  have hh : rd hs x.1 = rd (hs.take m) x.1 := by rw [e1, rd_take _ m k hk]
  have hp : rowsP (hs.take m) ((walkL cols l).take m) = Pre cols l hs m := by
    unfold Pre
    refine rowsP_congr _ fun y hy => ?_
    rw [walkL_take] at hy
    obtain ⟨j, hj, _, e⟩ := mem_take_lt h hy
    rw [e, rd_take _ m j hj]
  have hb : begP gap (rowsP hs (walkL cols l)) x.2.f0.toNat = begP gap (rowsP (hs.take m) ((walkL cols l).take m)) x.2.f0.toNat := by
    refine begP_congr _ fun j hj => ?_
    have hxr : x.2.f0 = rowOf cols l k := by rw [hx2]; rfl
    have h0 := hrow0 k hkl
    have h0' : 0 ≤ rowOf cols l k := h0
    rw [hxr] at hj
    rw [hp, ← pre_full]
    obtain ⟨d, hd⟩ : ∃ d, l.length = m + d := ⟨l.length - m, by omega⟩
    have := pre_stay (cols := cols) (l := l) (hs := hs) (j := (j : Int)) d m (by omega) (fun k' h1 h2 => by
      have := row_le (cols := cols) (l := l) (i := k) (j := k') (by omega) (by omega)
      omega)
    rw [← hd] at this
    exact this
  unfold boxAt
  rw [hw, hh, hb]
theorem first1 {cols : Int} {l hs : List Int} {space gap : Int} (h : checkE cols l = 0) (hn : l.length ≤ 100) (hl : hs.length = l.length) {m : Nat} (hm : m ≤ l.length) (q : Bool) (hq : q = false) : Ev (fun k => formelaw24_GridFirst.j1 k cols l hs space gap true (m : Int) q) true := by
  refine Ev.step (fun k => rfl) (EvT.ifn (by rw [hq]; decide) ?_)
  by_cases hx : GoodP space gap ∧ hs.length = l.length ∧ hs.any badH = false
  · obtain ⟨hg, _, hb⟩ := hx
    obtain ⟨hn2, hc, hsp⟩ := checkE_zero h
    obtain ⟨ws, ss, C⟩ := cols_facts (n := cols.toNat) (by omega) hg
    have hb2 : (hs.take m).any badH = false := by
      rw [List.any_eq_false] at hb ⊢
      exact fun x hx => hb x (List.mem_of_mem_take hx)
    have hp := place_ok h C hl hb (endL_small h hn hg.2 hb)
    have hp2 := place_ok (check_take m h) C (hs := hs.take m) (by rw [List.length_take, List.length_take, hl]) hb2 (endL_small (check_take m h) (by rw [List.length_take]; omega) hg.2 hb2)
    refine EvT.bindc hp (EvT.ifp (by omega) (EvT.ifp (by omega) (EvT.ifp (by omega) (EvT.bindc (by rw [Int.toNat_natCast]; exact hp2) (EvT.ifp rfl (EvT.ifp rfl (EvT.ifp rfl (EvT.ifp (by rw [boxesL_length]) (EvT.ifp (by rw [boxesL_length]; omega) ?_)))))))))
    rw [Int.toNat_natCast, boxesL_take h hm]
    exact Ev.bind (Same_ev _ (by rw [boxesL_length, List.length_take]; omega)) (Ev.now _)
  · have hp := place_err (cols := cols) (l := l) h hx
    refine EvT.bindc hp (EvT.ifp (by omega) (EvT.ifp (by omega) (EvT.ifp (by omega) ?_)))
    by_cases hx2 : GoodP space gap ∧ (hs.take m).length = (l.take m).length ∧ (hs.take m).any badH = false
    · obtain ⟨hg, h3, hb⟩ := hx2
      obtain ⟨hn2, hc, hsp⟩ := checkE_zero h
      obtain ⟨ws, ss, C⟩ := cols_facts (n := cols.toNat) (by omega) hg
      have hp2 := place_ok (check_take m h) C (hs := hs.take m) h3 hb (endL_small (check_take m h) (by rw [List.length_take]; omega) hg.2 hb)
      exact EvT.bindc (by rw [Int.toNat_natCast]; exact hp2) (EvT.ifn (by decide) (Ev.now _))
    · have hp2 := place_err (cols := cols) (l := l.take m) (check_take m h) hx2
      exact EvT.bindc (by rw [Int.toNat_natCast]; exact hp2) (EvT.ifn (by decide) (Ev.now _))
theorem first0 {cols : Int} {l hs : List Int} {space gap a5 : Int} (h : checkE cols l = 0) (hn : l.length ≤ 100) (hl : hs.length = l.length) (h5 : 0 ≤ a5 ∧ a5 ≤ 255) (q : Bool) (hq : q = false) : Ev (fun k => formelaw24_GridFirst.j0 k cols l hs space gap a5 true q) true := by
  have e1 : wrap64 ((l.length : Int) + 1) = ((l.length + 1 : Nat) : Int) := EvT.w64 (by omega) (by omega)
  have e2 : wrap64 a5 = a5 := EvT.w64 (by omega) (by omega)
  obtain ⟨m, hm, hml⟩ : ∃ m : Nat, Int.tmod a5 ((l.length + 1 : Nat) : Int) = (m : Int) ∧ m ≤ l.length := by
    obtain ⟨b, rfl⟩ : ∃ b : Nat, a5 = (b : Int) := ⟨a5.toNat, by omega⟩
    refine ⟨b % (l.length + 1), ?_, by have := Nat.mod_lt b (show 0 < l.length + 1 by omega); omega⟩
    exact Int.ofNat_tmod b (l.length + 1)
  refine Ev.step (fun k => rfl) (EvT.ifn (by rw [hq]; decide) (EvT.ifn (by rw [e1]; omega) ?_))
  rw [e1, e2, hm]
  refine EvT.bindc (by unfold grid_Cells.f; rw [if_pos h]) (EvT.ifp (by omega) (EvT.ifp (by omega) (EvT.bindc (by unfold grid_Cells.f; rw [Int.toNat_natCast, if_pos (check_take m h)]) (EvT.ifp rfl (EvT.ifp rfl (EvT.ifp (by rw [cellsL_length]) (EvT.ifp (by rw [cellsL_length]; omega) ?_)))))))
  rw [Int.toNat_natCast, cellsL_take]
  refine Ev.bind (SameCells_ev _ (by rw [cellsL_length, List.length_take]; omega)) (EvT.ifp rfl ?_)
  by_cases hg : GoodP space gap
  · obtain ⟨hn2, hc, hsp⟩ := checkE_zero h
    obtain ⟨ws, ss, C⟩ := cols_facts (n := cols.toNat) (by omega) hg
    refine EvT.bindc (widths_ok h C) (EvT.bindc (widths_ok (check_take m h) C) (EvT.ifp rfl (EvT.ifp rfl (EvT.ifp (by rw [widthsL_length]) (EvT.ifp (by rw [widthsL_length]; omega) ?_)))))
    rw [widthsL_take h]
    exact Ev.bind (SameInts_ev _ (by rw [widthsL_length, List.length_take]; omega)) (first1 h hn hl hml _ rfl)
  · exact EvT.bindc (widths_bad h hg) (EvT.bindc (widths_bad (check_take m h) hg) (EvT.ifp rfl (EvT.ifn (by decide) (first1 h hn hl hml _ rfl))))
theorem GridFirst : formelaw24_GridFirst.Pure := by
  intro a0 l1 l2 a3 a4 a5 _ _ _ _ _ _ _ _ _ h5
  have h5' : 0 ≤ a5 ∧ a5 ≤ 255 := by
    have m1 : IntKind.u8.min = 0 := by decide +kernel
    have m2 : IntKind.u8.max = 255 := by decide +kernel
    simp [Lit.wf, m1, m2] at h5
    omega
  suffices h : Ev (fun k => formelaw24_GridFirst.f k a0 l1 l2 a3 a4 a5) true from let ⟨k, hk⟩ := h; ⟨k, hk k (Nat.le_refl _)⟩
  have hT : ∀ q, q = true → Ev (fun k => formelaw24_GridFirst.j0 k a0 l1 l2 a3 a4 a5 true q) true := fun q hq => Ev.step (fun k => rfl) (EvT.ifp hq (Ev.now _))
  unfold formelaw24_GridFirst.f
  refine Ev.bind head_ev (EvT.ifp rfl (Ev.bind (usable_ev a0 l1) ?_))
  by_cases hu : usableB a0 l1 = true
  · obtain ⟨hlen, hck⟩ := usable_true hu
    rw [hu]
    refine EvT.ifp rfl (EvT.ite (fun hl => ?_) (fun hl => hT _ rfl))
    cases hq : ((l1.length : Int) == 0)
    · exact first0 hck hlen (by omega) h5' _ rfl
    · exact hT _ rfl
  · rw [Bool.not_eq_true] at hu
    rw [hu]
    exact EvT.ifn (by decide) (hT _ rfl)
end Go.Proofs.Ytciheadencbmjaa.Pure
