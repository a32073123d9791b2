/- For any items: each one has its height; all items of a row begin at one height, the next row begins the gap below the end of the highest one; and what ends last ends where it is told (up to 100 items). Conditions: those of the statement alone. -/
import Derived.Test.YtciheadencbmjaaPx14
import Derived.Test.YtciheadencbmjaaHPure4
set_option linter.unusedVariables false
set_option linter.unusedSimpArgs false
namespace Go.Proofs.Ytciheadencbmjaa.Pure
open Go.RowKit Go.Proofs.Ytciheadencbmjaa.P Go.Proofs.YtciheadencbmjaaW.PrintWords Go.Proofs.YtciheadencbmjaaW.PrintLast
theorem nat_of {z : Int} (h : 0 ≤ z) : ∃ r : Nat, z = (r : Int) := ⟨z.toNat, by omega⟩
theorem w64_small {z : Int} (h : 0 ≤ z ∧ z ≤ 1000000000) : wrap64 z = z := EvT.w64 (by omega) (by omega)
theorem w64_add {z y : Int} (h : 0 ≤ z ∧ z ≤ 112000000) (h2 : 0 ≤ y ∧ y ≤ 1000000) : wrap64 (z + y) = z + y := EvT.w64 (by omega) (by omega)
theorem toNat_succ (r : Nat) : ((r : Int) + 1).toNat = r + 1 := by omega
theorem mx_add (t a b : Int) : mx (t + a) (t + b) = t + mx a b := by unfold mx; split <;> split <;> omega
/-- Where the row stands behind i items, and where it ends so far. -/
def topAt (gap : Int) (p : Int → Int) (cols : Int) (l : List Int) : Nat → Int
  | 0 => 0
  | j + 1 => begP gap p (rowOf cols l j).toNat
def botAt (gap : Int) (p : Int → Int) (cols : Int) (l hs : List Int) : Nat → Int
  | 0 => 0
  | j + 1 => begP gap p (rowOf cols l j).toNat + Pre cols l hs (j + 1) (rowOf cols l j)
theorem endL_nil (cols : Int) (hs : List Int) (gap : Int) : endL cols [] hs gap = 0 := rfl
attribute [local irreducible] begP endP rowsP walkL Pre boxesL cellsL endL cellAt
theorem rows1 {cols : Int} {l hs : List Int} {space gap : Int} {ws ss : List Int} (h : checkE cols l = 0) (hn : l.length ≤ 100) (hl : hs.length = l.length) (hb : hs.any badH = false) (hg : 0 ≤ gap ∧ gap ≤ 100000) : ∀ (d i : Nat) (q : Bool) (t b : Int), i + d = l.length → q = true →
    t = topAt gap (rowsP hs (walkL cols l)) cols l i → b = botAt gap (rowsP hs (walkL cols l)) cols l hs i →
    Ev (fun k => formelaw24_GridRows.l0 k hs gap q (endL cols l hs gap) (cellsL cols l) t b (boxesL cols l hs ws ss gap) (((boxesL cols l hs ws ss gap).length : Nat) : Int) (i : Int)) true
  | 0, i, q, t, b, hi, hq, ht, hbt => by
    refine Ev.step (fun k => rfl) (EvT.ifn (by rw [boxesL_length]; omega) (EvT.ifp hq (EvT.now ?_)))
    have : endL cols l hs gap = b := by
      rw [hbt]
      cases i with
      | zero =>
        have : l = [] := List.length_eq_zero_iff.1 (by omega)
        subst this
        exact endL_nil _ _ _
      | succ j =>
        obtain ⟨hn2, hc, hsp⟩ := checkE_zero h
        have h0 : 0 ≤ rowOf cols l j := (cell_bd hc hsp j (by omega)).2.2.1
        obtain ⟨r, hr⟩ : ∃ r : Nat, rowOf cols l j = (r : Int) := ⟨(rowOf cols l j).toNat, by omega⟩
        unfold endL
        rw [last_row (n := j) (by omega), hr]
        show _ = begP gap (rowsP hs (walkL cols l)) (rowOf cols l j).toNat + Pre cols l hs (j + 1) (rowOf cols l j)
        rw [hr, Int.toNat_natCast, show ((r : Int) + 1).toNat = r + 1 by omega, endP_succ, ← pre_full, show l.length = j + 1 by omega]
    rw [this]
    simp
  | d + 1, i, q, t, b, hi, hq, ht, hbt => by
    have hil : i < l.length := by omega
    have k0 : 0 ≤ (i : Int) := by omega
    have k1 : (i : Int) < (((boxesL cols l hs ws ss gap).length : Nat) : Int) := by rw [boxesL_length]; omega
    have k2 : (i : Int) < (((cellsL cols l).length : Nat) : Int) := by rw [cellsL_length]; omega
    have k3 : (i : Int) < (hs.length : Int) := by omega
    have kj : ∀ j, i = j + 1 → (0 ≤ (j : Int) ∧ (j : Int) < (((cellsL cols l).length : Nat) : Int) ∧ (i : Int) > 0 ∧ wrap64 (((j + 1 : Nat) : Int) - 1) = (j : Int)) := fun j hj => by
      rw [cellsL_length, EvT.w64 (by omega) (by omega)]; omega
    obtain ⟨hn2, hc, hsp⟩ := checkE_zero h
    have hh := rd_bd hb (i : Int)
    obtain ⟨hi0, hhi⟩ : ∃ x, rd hs (i : Int) = x := ⟨_, rfl⟩
    have hlow := rowsP_low hb (walkL cols l)
    have hpl : ∀ m, Low (Pre cols l hs m) := fun m => by unfold Pre; exact rowsP_low hb _
    have hbox := rd_box cols l hs ws ss gap i hil
    have f2 : (rd_T43 (boxesL cols l hs ws ss gap) (i : Int)).f2 = begP gap (rowsP hs (walkL cols l)) (rowOf cols l i).toNat := by rw [hbox]; rfl
    have f4 : ((rd_T43 (boxesL cols l hs ws ss gap) (i : Int)).f4 == rd hs (i : Int)) = true := by rw [hbox]; simp
    clear hbox
    have hps := pre_succ cols l hs i hil (rowOf cols l i)
    rw [if_pos rfl] at hps
    have hrowb : ∀ j, j < l.length → 0 ≤ rowOf cols l j ∧ (rowOf cols l j).toNat ≤ 101 := fun j hj => by
      obtain ⟨_, _, r0, r1, _⟩ := cell_bd hc hsp j hj
      have r0 : 0 ≤ rowOf cols l j := r0
      have r1 : rowOf cols l j ≤ (j : Int) + 1 := r1
      omega
    have hbeg : ∀ k, k ≤ 101 → 0 ≤ begP gap (rowsP hs (walkL cols l)) k ∧ begP gap (rowsP hs (walkL cols l)) k ≤ 112000000 := fun k hk => by
      obtain ⟨b0, b1⟩ := begP_bd hg hlow k
      generalize begP gap (rowsP hs (walkL cols l)) k = z at b0 b1 ⊢
      omega
    have hnb : botAt gap (rowsP hs (walkL cols l)) cols l hs (i + 1) = begP gap (rowsP hs (walkL cols l)) (rowOf cols l i).toNat + mx (Pre cols l hs i (rowOf cols l i)) (rd hs (i : Int)) := by
      show begP gap _ _ + Pre cols l hs (i + 1) (rowOf cols l i) = _
      rw [hps]
    have ih := fun (t b : Int) (h1 : t = begP gap (rowsP hs (walkL cols l)) (rowOf cols l i).toNat) (h2 : b = begP gap (rowsP hs (walkL cols l)) (rowOf cols l i).toNat + mx (Pre cols l hs i (rowOf cols l i)) (rd hs (i : Int))) =>
      rows1 (space := space) (ws := ws) (ss := ss) h hn hl hb hg d (i + 1) _ t b (by omega) f4 h1 (by rw [hnb]; exact h2)
    have hw := w_succ i l.length hil (by omega)
    rw [← hw] at ih
    clear hw hnb hps
    refine Ev.step (fun k => rfl) (EvT.ifp k1 (EvT.ifp k0 (EvT.ifp k1 ?_)))
    cases i with
    | zero =>
      have hr0 : rowOf cols l 0 = 0 := by unfold rowOf; rw [cell_zero hc hsp hil]
      have ht0 : t = 0 := ht
      have hb0 : b = 0 := hbt
      have hbg0 : begP gap (rowsP hs (walkL cols l)) (rowOf cols l 0).toNat = 0 := by rw [hr0]; exact begP_zero _ _
      have hz := pre_zero cols l hs (rowOf cols l 0)
      refine EvT.ifn (Int.lt_irrefl 0) (EvT.ifp k3 (EvT.ifp hq (EvT.ifp (by rw [f2, hbg0, ht0]) (ih _ _ (by rw [hbg0, ht0]) ?_))))
      rw [hbg0, hz, ht0, hb0, Int.zero_add, Int.zero_add]
      rw [w64_small ⟨hh.1, Int.le_trans hh.2 (by decide)⟩]
    | succ j =>
      obtain ⟨j0, j2, j3, hw1⟩ := kj j rfl
      have ht0 : t = begP gap (rowsP hs (walkL cols l)) (rowOf cols l j).toNat := ht
      have hb0 : b = begP gap (rowsP hs (walkL cols l)) (rowOf cols l j).toNat + Pre cols l hs (j + 1) (rowOf cols l j) := hbt
      rw [hw1, rd_cell, rd_cell]
      refine EvT.ifp j3 (EvT.ifp k2 (EvT.ifp j0 (EvT.ifp j2 ?_)))
      by_cases hr : rowOf cols l (j + 1) = rowOf cols l j
      · refine EvT.ifp hr (EvT.ifp k3 (EvT.ifp hq (EvT.ifp (by rw [f2, hr, ht0]) (ih _ _ (by rw [hr, ht0]) ?_))))
        have hbb := hbeg _ (hrowb j (Nat.lt_of_succ_lt hil)).2
        rw [hb0, ht0, hr]
        clear ih f2 f4
        generalize begP gap (rowsP hs (walkL cols l)) (rowOf cols l j).toNat = z at hbb ⊢
        generalize rd hs ((j + 1 : Nat) : Int) = y at hh ⊢
        rw [w64_add hbb hh, mx_add]
      · have hst := row_step cols l j hil
        have hr1 : rowOf cols l (j + 1) = rowOf cols l j + 1 := by rcases hst with e | e; exact absurd e hr; exact e
        have hr0 := hrowb j (Nat.lt_of_succ_lt hil)
        have hnew : begP gap (rowsP hs (walkL cols l)) (rowOf cols l (j + 1)).toNat = b + gap := by
          have hwh := row_whole (hs := hs) hil hr1
          obtain ⟨r, hrr⟩ : ∃ r : Nat, rowOf cols l j = (r : Int) := nat_of hr0.1
          rw [hb0, ← hwh, hr1, hrr, Int.toNat_natCast, toNat_succ, begP_succ]
        have hz := row_new (hs := hs) hil hr1
        have hbb := hbeg _ (hrowb (j + 1) hil).2
        rw [hnew] at hbb
        have hwb : wrap64 (b + gap) = b + gap := w64_small ⟨hbb.1, Int.le_trans hbb.2 (by decide)⟩
        rw [hwb]
        refine EvT.ifn hr (EvT.ifp k3 (EvT.ifp hq (EvT.ifp (by rw [f2, hnew]) (ih _ _ (by rw [hnew]) ?_))))
        rw [hnew, hz]
        generalize rd hs ((j + 1 : Nat) : Int) = y at hh ⊢
        have hm := mx_add (b + gap) 0 y
        rw [Int.add_zero] at hm
        rw [← hm]
        rw [w64_add hbb hh]
theorem rows0 {cols : Int} {l hs : List Int} {space gap : Int} (h : checkE cols l = 0) (hn : l.length ≤ 100) (hl : hs.length = l.length) (q : Bool) (hq : q = false) : Ev (fun k => formelaw24_GridRows.j0 k cols l hs space gap true q) true := by
  refine Ev.step (fun k => rfl) (EvT.ifn (by rw [hq]; decide) ?_)
  by_cases hx : GoodP space gap ∧ hs.length = l.length ∧ hs.any badH = false
  · obtain ⟨hg, _, hb⟩ := hx
    obtain ⟨hn2, hc, hsp⟩ := checkE_zero h
    obtain ⟨ws, ss, C⟩ := cols_facts (n := cols.toNat) (by omega) hg
    have hp := place_ok h C hl hb (endL_small h hn hg.2 hb)
    refine EvT.bindc hp (EvT.bindc (by unfold grid_Cells.f; rw [if_pos h]) (EvT.ifp rfl (EvT.ifp rfl (EvT.ifp (by rw [boxesL_length]) (EvT.ifp (by rw [cellsL_length]) ?_)))))
    exact rows1 (space := space) h hn hl hb hg.2 l.length 0 true 0 0 (by omega) rfl rfl rfl
  · have hp := place_err (cols := cols) (l := l) h hx
    exact EvT.bindc hp (EvT.bindc (by unfold grid_Cells.f; rw [if_pos h]) (EvT.ifn (by decide) (EvT.ifp rfl (Ev.now _))))
theorem GridRows : formelaw24_GridRows.Pure := by
  intro a0 l1 l2 a3 a4 _ _ _ _ _ _ _ _ _
  suffices h : Ev (fun k => formelaw24_GridRows.f k a0 l1 l2 a3 a4) true from let ⟨k, hk⟩ := h; ⟨k, hk k (Nat.le_refl _)⟩
  have hT : ∀ q, q = true → Ev (fun k => formelaw24_GridRows.j0 k a0 l1 l2 a3 a4 true q) true := fun q hq => Ev.step (fun k => rfl) (EvT.ifp hq (Ev.now _))
  unfold formelaw24_GridRows.f
  refine Ev.bind head_ev (EvT.ifp rfl (Ev.bind (usable_ev a0 l1) ?_))
  by_cases hu : usableB a0 l1 = true
  · obtain ⟨hlen, hck⟩ := usable_true hu
    rw [hu]
    refine EvT.ifp rfl ?_
    by_cases hl : l2.length = l1.length
    · have hq : ((l2.length : Int) != (l1.length : Int)) = false := by rw [hl]; simp
      exact rows0 hck hlen hl _ hq
    · exact hT _ (bne_iff_ne.2 (by omega))
  · rw [Bool.not_eq_true] at hu
    rw [hu]
    exact EvT.ifn (by decide) (hT _ rfl)
end Go.Proofs.Ytciheadencbmjaa.Pure
