/- For any numbers and lists, all functions return what the reference implementation returns (up to 100 items, or more than 4000). Conditions: those of the statement alone. -/
import Derived.Test.YtciheadencbmjaaPx10
import Derived.Test.YtciheadencbmjaaHPure4
import Derived.Test.YtciheadencbmjaaHRefs
set_option linter.unusedVariables false
set_option linter.unusedSimpArgs false
namespace Go.Proofs.Ytciheadencbmjaa.Pure
open Go.RowKit Go.Proofs.Ytciheadencbmjaa.P Go.Proofs.YtciheadencbmjaaW.PrintWords Go.Proofs.YtciheadencbmjaaW.PrintLast
theorem nat_of {z : Int} (h : 0 ≤ z) : ∃ r : Nat, z = (r : Int) := ⟨z.toNat, by omega⟩
theorem w64_small {z : Int} (h : 0 ≤ z ∧ z ≤ 1000000000) : wrap64 z = z := EvT.w64 (by omega) (by omega)
theorem w64_add {z y : Int} (h : 0 ≤ z ∧ z ≤ 112000000) (h2 : 0 ≤ y ∧ y ≤ 1000000) : wrap64 (z + y) = z + y := EvT.w64 (by omega) (by omega)
theorem toNat_succ (r : Nat) : ((r : Int) + 1).toNat = r + 1 := by omega
theorem mx_add (t a b : Int) : mx (t + a) (t + b) = t + mx a b := by unfold mx; split <;> split <;> omega
theorem cols_loop {N : Nat} (hN : N ≤ 64) {space gap : Int} {r : List Int × List Int × Int} (hr : Ev (fun k => (formeref23_Share.f k (tr1 N) space gap).bind fun bt259 => (if bt259.2 = 0 then ((formeref23_Starts.f k bt259.1 gap).bind fun bt263 => (some (bt259.1, bt263.1, bt263.2))) else (some (([] : List Int), ([] : List Int), bt259.2)))) r) :
    ∀ (d i : Nat), i + d = N → Ev (fun k => formeref24_columns.l0 k (N : Int) space gap (List.replicate i (⟨0, 1, 0⟩ : S64)) (i : Int)) r
  | 0, i, h => by
    have : i = N := by omega
    subst this
    exact Ev.step (fun k => rfl) (EvT.ifn (by omega) hr)
  | d + 1, i, h => by
    have ih := cols_loop hN hr d (i + 1) (by omega)
    refine Ev.step (fun k => rfl) (EvT.ifp (by omega) (EvT.ifp (by rw [List.length_replicate]; omega) ?_))
    rw [w_succ i N (by omega) (by omega), ← List.replicate_succ']
    exact ih
theorem cols_good_ev {N : Nat} (hN : 1 ≤ N ∧ N ≤ 64) {space gap : Int} {ws ss : List Int} (C : Cols N space gap ws ss) : Ev (fun k => formeref24_columns.f k (N : Int) space gap) (ws, ss, 0) := by
  unfold formeref24_columns.f
  refine cols_loop hN.2 ?_ N 0 (by omega)
  obtain ⟨r, _, h1, h2⟩ := share_same (tr1 N) (by rw [tr1_length]; omega) space gap
  rw [C.share] at h1
  obtain rfl := Option.some.inj h1
  obtain ⟨r2, _, h3, h4⟩ := starts_same ws (by rw [C.wlen]; omega) gap
  rw [C.starts] at h3
  obtain rfl := Option.some.inj h3
  exact Ev.bind h2 (EvT.ifp rfl (Ev.bind h4 (Ev.now _)))
theorem cols_bad_ev {N : Nat} (hN : 1 ≤ N ∧ N ≤ 64) {space gap : Int} (hg : ¬ GoodP space gap) : Ev (fun k => formeref24_columns.f k (N : Int) space gap) ([], [], 1) := by
  unfold formeref24_columns.f
  refine cols_loop hN.2 ?_ N 0 (by omega)
  obtain ⟨r, _, h1, h2⟩ := share_same (tr1 N) (by rw [tr1_length]; omega) space gap
  rw [share_bad hg] at h1
  obtain rfl := Option.some.inj h1
  exact Ev.bind h2 (EvT.ifn (by decide) (Ev.now _))
theorem span_raw {ws ss : List Int} (h1 : ws.length = ss.length) (h2 : ws.length ≤ 64) {a n : Int} (ha : 0 ≤ a) (hn : 1 ≤ n) (h : a + n ≤ ws.length) : spanW ws ss a n = wrap64 (wrap64 (rd ss (a + n - 1) + rd ws (a + n - 1)) - rd ss a) := by
  unfold spanW grid_columns_span.f
  have e1 : wrap64 (a + n) = a + n := EvT.w64 (by omega) (by omega)
  have e2 : mn (a + n) (ws.length : Int) = a + n := by unfold mn; split <;> omega
  have e3 : wrap64 (a + n - 1) = a + n - 1 := EvT.w64 (by omega) (by omega)
  rw [e1, e2, e3, if_pos (by omega), if_pos (by omega), if_pos (by omega), if_pos (by omega), if_pos (by omega)]
  rfl
theorem span_facts {ws ss : List Int} {N : Nat} (hw : ws.length = N) (hs : ss.length = N) (hN : N ≤ 64) {a n : Int} (ha : 0 ≤ a) (hn : 1 ≤ n) (h : a + n ≤ (N : Int)) :
    wrap64 (a + n) = a + n ∧ wrap64 (a + n - 1) = a + n - 1 ∧ 0 ≤ a + n - 1 ∧ a + n - 1 < (ss.length : Int) ∧ a + n - 1 < (ws.length : Int) ∧ a < (ss.length : Int) ∧ spanW ws ss a n = wrap64 (wrap64 (rd ss (a + n - 1) + rd ws (a + n - 1)) - rd ss a) :=
  ⟨EvT.w64 (by omega) (by omega), EvT.w64 (by omega) (by omega), by omega, by omega, by omega, by omega, span_raw (by omega) (by omega) ha hn (by omega)⟩
theorem widths_loop {cols : Int} {l : List Int} {space gap : Int} {ws ss : List Int} {N : Nat} (hN : cols = (N : Int)) (h : checkE cols l = 0) (C : Cols N space gap ws ss) : ∀ (d i : Nat) (x : List Int), i + d = l.length → x = (widthsL cols l ws ss).take i →
    Ev (fun k => formeref24_Widths.l0 k cols l (cellsL cols l) ws ss x (i : Int)) (widthsL cols l ws ss, 0)
  | 0, i, x, hi, hx => by
    refine Ev.step (fun k => rfl) (EvT.ifn (by omega) (EvT.now ?_))
    rw [hx, List.take_of_length_le (by rw [widthsL_length]; omega)]
  | d + 1, i, x, hi, hx => by
    have hil : i < l.length := by omega
    have k0 : 0 ≤ (i : Int) := by omega
    have k1 : (i : Int) < (l.length : Int) := by omega
    have k2 : (i : Int) < (((cellsL cols l).length : Nat) : Int) := by rw [cellsL_length]; omega
    have hxl : x.length < 17592186044416 := by
      have hn := (checkE_zero h).1
      rw [hx, List.length_take]
      omega
    obtain ⟨hn, hc, hl⟩ := checkE_zero h
    have hw := w_succ i l.length hil (by omega)
    have hnext : x ++ [spanW ws ss (cellAt cols l i).f1 (mn (rd l (i : Int)) cols)] = (widthsL cols l ws ss).take (i + 1) := by
      rw [List.take_succ_eq_append_getElem (by rw [widthsL_length]; exact hil), hx]
      congr 2
      have := rd_width cols l ws ss i hil
      rw [rd_nat _ i (by rw [widthsL_length]; exact hil)] at this
      exact this.symm
    have ih := widths_loop hN h C d (i + 1) _ (by omega) hnext
    rw [← hw] at ih
    clear hw hnext
    obtain ⟨b0, b1, _, _, b4, b5⟩ := cell_bd hc hl i hil
    have hwl := C.wlen
    have hsl := C.slen
    refine Ev.step (fun k => rfl) (EvT.ifp k1 (EvT.ifp k0 (EvT.ifp k2 ?_)))
    rw [rd_cell]
    obtain ⟨e1, e2, f1, f2, f3, f4, hraw⟩ := span_facts (ws := ws) (ss := ss) (N := N) hwl hsl (by omega) b0 b4 (Int.le_trans b1 (Int.le_of_eq hN))
    rw [hraw] at ih
    rw [e1, e2]
    exact EvT.ifp f1 (EvT.ifp f2 (EvT.ifp f3 (EvT.ifp b0 (EvT.ifp f4 (EvT.ifp hxl ih)))))
theorem Widths_ev (cols : Int) (l : List Int) (space gap : Int) : ∃ r, grid_Widths.f cols l space gap = some r ∧ r.1.length ≤ 4000 ∧ Ev (fun k => formeref24_Widths.f k cols l space gap) r := by
  unfold formeref24_Widths.f
  by_cases h : checkE cols l = 0
  · obtain ⟨hn, hc, hl⟩ := checkE_zero h
    obtain ⟨N, hN⟩ := nat_of (show 0 ≤ cols by omega)
    have hce := Cells_ev cols l
    rw [if_pos h] at hce
    have hcn : cols.toNat = N := by omega
    by_cases hg : GoodP space gap
    · obtain ⟨ws, ss, C⟩ := cols_facts (n := N) (by omega) hg
      have C' : Cols cols.toNat space gap ws ss := by rw [hcn]; exact C
      refine ⟨_, widths_ok h C', by rw [widthsL_length]; exact hn, Ev.bind hce (EvT.ifp rfl ?_)⟩
      have hco := cols_good_ev (by omega) C
      rw [← hN] at hco
      exact Ev.bind hco (EvT.ifp rfl (widths_loop hN h C l.length 0 [] (by omega) rfl))
    · refine ⟨_, widths_bad h hg, by simp, Ev.bind hce (EvT.ifp rfl ?_)⟩
      have hco := cols_bad_ev (N := N) (by omega) hg
      rw [← hN] at hco
      exact Ev.bind hco (EvT.ifn (by decide) (Ev.now _))
  · have hce := Cells_ev cols l
    rw [if_neg h] at hce
    exact ⟨_, widths_err h, by simp, Ev.bind hce (EvT.ifn h (Ev.now _))⟩
def topAt (gap : Int) (p : Int → Int) (cols : Int) (l : List Int) : Nat → Int
  | 0 => 0
  | j + 1 => begP gap p (rowOf cols l j).toNat
def botAt (gap : Int) (p : Int → Int) (cols : Int) (l hs : List Int) : Nat → Int
  | 0 => 0
  | j + 1 => begP gap p (rowOf cols l j).toNat + Pre cols l hs (j + 1) (rowOf cols l j)
theorem endL_nil (cols : Int) (hs : List Int) (gap : Int) : endL cols [] hs gap = 0 := rfl
theorem endL_bot {cols : Int} {l hs : List Int} {gap : Int} (h : checkE cols l = 0) : endL cols l hs gap = botAt gap (rowsP hs (walkL cols l)) cols l hs l.length := by
  obtain ⟨n, hn⟩ : ∃ n, l.length = n := ⟨_, rfl⟩
  rw [hn]
  cases n with
  | zero =>
    have : l = [] := List.length_eq_zero_iff.1 hn
    subst this
    exact endL_nil _ _ _
  | succ j =>
    obtain ⟨hn2, hc, hsp⟩ := checkE_zero h
    have h0 : 0 ≤ rowOf cols l j := (cell_bd hc hsp j (by omega)).2.2.1
    obtain ⟨r, hr⟩ := nat_of h0
    unfold endL
    rw [last_row (n := j) hn, hr]
    show _ = begP gap (rowsP hs (walkL cols l)) (rowOf cols l j).toNat + Pre cols l hs (j + 1) (rowOf cols l j)
    rw [hr, Int.toNat_natCast, toNat_succ, endP_succ, ← pre_full, hn]
attribute [local irreducible] begP endP rowsP walkL Pre boxesL cellsL endL cellAt widthsL sumW spanW
theorem place_loop {cols : Int} {l hs : List Int} {space gap : Int} {ws ss : List Int} {N : Nat} (hN : cols = (N : Int)) (h : checkE cols l = 0) (hn : l.length ≤ 100) (hl : hs.length = l.length) (hb : hs.any badH = false) (hg : 0 ≤ gap ∧ gap ≤ 100000) (C : Cols N space gap ws ss) : ∀ (d i : Nat) (x : List S43) (t b : Int), i + d = l.length →
    x = (boxesL cols l hs ws ss gap).take i → t = topAt gap (rowsP hs (walkL cols l)) cols l i → b = botAt gap (rowsP hs (walkL cols l)) cols l hs i →
    Ev (fun k => formeref24_Place.l1 k l hs gap (widthsL cols l ws ss) (cellsL cols l) ss x t b (i : Int)) (boxesL cols l hs ws ss gap, endL cols l hs gap, 0)
  | 0, i, x, t, b, hi, hx, ht, hbt => by
    have hil : i = l.length := by omega
    subst hil
    have he := endL_small h hn hg hb
    have hbe : b = endL cols l hs gap := by rw [hbt, endL_bot h]
    rw [← hbe] at he
    refine Ev.step (fun k => rfl) (EvT.ifn (Int.lt_irrefl _) (EvT.ifn (by omega) (EvT.now ?_)))
    rw [hx, List.take_of_length_le (by rw [boxesL_length]; exact Nat.le_refl _), hbe]
  | d + 1, i, x, t, b, hi, hx, ht, hbt => by
    have hil : i < l.length := by omega
    have k0 : 0 ≤ (i : Int) := by omega
    have k1 : (i : Int) < (l.length : Int) := by omega
    have k2 : (i : Int) < (((cellsL cols l).length : Nat) : Int) := by rw [cellsL_length]; omega
    have k3 : (i : Int) < (hs.length : Int) := by omega
    have k4 : (i : Int) < (((widthsL cols l ws ss).length : Nat) : Int) := by rw [widthsL_length]; omega
    have k5 : x.length < 1954687338268 := by rw [hx, List.length_take, boxesL_length]; omega
    have kj : ∀ j, i = j + 1 → (0 ≤ (j : Int) ∧ (j : Int) < (((cellsL cols l).length : Nat) : Int) ∧ (i : Int) > 0 ∧ wrap64 (((j + 1 : Nat) : Int) - 1) = (j : Int)) := fun j hj => by
      rw [cellsL_length, EvT.w64 (by omega) (by omega)]; omega
    obtain ⟨hn2, hc, hsp⟩ := checkE_zero h
    have hcell : 0 ≤ (cellAt cols l i).f1 ∧ (cellAt cols l i).f1 < (ss.length : Int) := by
      obtain ⟨c0, c1, _, _, c4, _⟩ := cell_bd hc hsp i hil
      have := C.slen
      generalize (cellAt cols l i).f1 = z at *
      generalize mn (rd l (i : Int)) cols = y at *
      omega
    have hss0 : rd ss 0 = 0 := by
      have := C.at_ 0 (by omega)
      have hz : sumW ws 0 = 0 := by unfold sumW; rfl
      simpa [hz] using this
    have hh := rd_bd hb (i : Int)
    have hlow := rowsP_low hb (walkL cols l)
    have hbox := rd_box cols l hs ws ss gap i hil
    rw [← rd_width cols l ws ss i hil] at hbox
    have hleft : (if (cellAt cols l i).f0 = 0 ∧ (cellAt cols l i).f1 = 0 then 0 else rd ss (cellAt cols l i).f1) = rd ss (cellAt cols l i).f1 := by
      by_cases h0 : (cellAt cols l i).f0 = 0 ∧ (cellAt cols l i).f1 = 0
      · rw [if_pos h0, h0.2, hss0]
      · rw [if_neg h0]
    rw [hleft] at hbox
    have hbox2 : rd_T43 (boxesL cols l hs ws ss gap) (i : Int) = ⟨0, rd ss (cellAt cols l i).f1, begP gap (rowsP hs (walkL cols l)) (rowOf cols l i).toNat, rd (widthsL cols l ws ss) (i : Int), rd hs (i : Int), false, []⟩ := hbox
    have hnext : x ++ [(⟨0, rd ss (cellAt cols l i).f1, begP gap (rowsP hs (walkL cols l)) (rowOf cols l i).toNat, rd (widthsL cols l ws ss) (i : Int), rd hs (i : Int), false, []⟩ : S43)] = (boxesL cols l hs ws ss gap).take (i + 1) := by
      rw [List.take_succ_eq_append_getElem (by rw [boxesL_length]; exact hil), hx, ← hbox2, rd43_nat _ i (by rw [boxesL_length]; exact hil)]
    clear hbox hbox2 hleft
    have hps := pre_succ cols l hs i hil (rowOf cols l i)
    rw [if_pos rfl] at hps
    have hrowb : ∀ j, j < l.length → 0 ≤ rowOf cols l j ∧ (rowOf cols l j).toNat ≤ 101 := fun j hj => by
      obtain ⟨_, _, r0, r1, _⟩ := cell_bd hc hsp j hj
      have r0 : 0 ≤ rowOf cols l j := r0
      have r1 : rowOf cols l j ≤ (j : Int) + 1 := r1
      omega
    have hbeg : ∀ k, k ≤ 101 → 0 ≤ begP gap (rowsP hs (walkL cols l)) k ∧ begP gap (rowsP hs (walkL cols l)) k ≤ 112000000 := fun k hk => by
      obtain ⟨b0, b1⟩ := begP_bd hg hlow k
      generalize begP gap (rowsP hs (walkL cols l)) k = z at b0 b1 ⊢
      omega
    have hnb : botAt gap (rowsP hs (walkL cols l)) cols l hs (i + 1) = begP gap (rowsP hs (walkL cols l)) (rowOf cols l i).toNat + mx (Pre cols l hs i (rowOf cols l i)) (rd hs (i : Int)) := by
      show begP gap _ _ + Pre cols l hs (i + 1) (rowOf cols l i) = _
      rw [hps]
    have ih := fun (t b : Int) (x' : List S43) (h0 : x' = x ++ [(⟨0, rd ss (cellAt cols l i).f1, begP gap (rowsP hs (walkL cols l)) (rowOf cols l i).toNat, rd (widthsL cols l ws ss) (i : Int), rd hs (i : Int), false, []⟩ : S43)]) (h1 : t = begP gap (rowsP hs (walkL cols l)) (rowOf cols l i).toNat) (h2 : b = begP gap (rowsP hs (walkL cols l)) (rowOf cols l i).toNat + mx (Pre cols l hs i (rowOf cols l i)) (rd hs (i : Int))) =>
      place_loop hN h hn hl hb hg C d (i + 1) x' t b (by omega) (by rw [h0]; exact hnext) h1 (by rw [hnb]; exact h2)
    have hw := w_succ i l.length hil (by omega)
    rw [← hw] at ih
    clear hw hnb hps hnext
    refine Ev.step (fun k => rfl) (EvT.ifp k1 ?_)
    rw [rd_cell]
    cases i with
    | zero =>
      have hr0 : rowOf cols l 0 = 0 := by unfold rowOf; rw [cell_zero hc hsp hil]
      have ht0 : t = 0 := ht
      have hb0 : b = 0 := hbt
      have hbg0 : begP gap (rowsP hs (walkL cols l)) (rowOf cols l 0).toNat = 0 := by rw [hr0]; exact begP_zero _ _
      have hz := pre_zero cols l hs (rowOf cols l 0)
      refine EvT.ifn (Int.lt_irrefl 0) (EvT.ifp k0 (EvT.ifp k2 (EvT.ifp hcell.1 (EvT.ifp hcell.2 (EvT.ifp k4 (EvT.ifp k3 (EvT.ifp k5 (ih _ _ _ (by rw [hbg0, ht0]) (by rw [hbg0, ht0]) ?_))))))))
      rw [hbg0, hz, ht0, hb0, Int.zero_add, Int.zero_add]
      rw [w64_small ⟨hh.1, Int.le_trans hh.2 (by decide)⟩]
    | succ j =>
      obtain ⟨j0, j2, j3, hw1⟩ := kj j rfl
      have ht0 : t = begP gap (rowsP hs (walkL cols l)) (rowOf cols l j).toNat := ht
      have hb0 : b = begP gap (rowsP hs (walkL cols l)) (rowOf cols l j).toNat + Pre cols l hs (j + 1) (rowOf cols l j) := hbt
      have hst := row_step cols l j hil
      rw [hw1, rd_cell]
      refine EvT.ifp j3 (EvT.ifp k0 (EvT.ifp k2 (EvT.ifp j0 (EvT.ifp j2 ?_))))
      by_cases hr : rowOf cols l (j + 1) = rowOf cols l j
      · have hng : ¬ (cellAt cols l (j + 1)).f0 > (cellAt cols l j).f0 := by
          show ¬ rowOf cols l (j + 1) > rowOf cols l j
          rw [hr]
          exact Int.lt_irrefl _
        refine EvT.ifn hng (EvT.ifp hcell.1 (EvT.ifp hcell.2 (EvT.ifp k4 (EvT.ifp k3 (EvT.ifp k5 (ih _ _ _ (by rw [hr, ht0]) (by rw [hr, ht0]) ?_))))))
        have hbb := hbeg _ (hrowb j (Nat.lt_of_succ_lt hil)).2
        rw [hb0, ht0, hr]
        clear ih
        generalize begP gap (rowsP hs (walkL cols l)) (rowOf cols l j).toNat = z at hbb ⊢
        generalize rd hs ((j + 1 : Nat) : Int) = y at hh ⊢
        rw [w64_add hbb hh, mx_add]
      · have hr1 : rowOf cols l (j + 1) = rowOf cols l j + 1 := by rcases hst with e | e; exact absurd e hr; exact e
        have hgt : (cellAt cols l (j + 1)).f0 > (cellAt cols l j).f0 := by
          show rowOf cols l (j + 1) > rowOf cols l j
          rw [hr1]
          exact Int.lt_succ _
        have hr0 := hrowb j (Nat.lt_of_succ_lt hil)
        have hnew : begP gap (rowsP hs (walkL cols l)) (rowOf cols l (j + 1)).toNat = b + gap := by
          have hwh := row_whole (hs := hs) hil hr1
          obtain ⟨r, hrr⟩ := nat_of hr0.1
          rw [hb0, ← hwh, hr1, hrr, Int.toNat_natCast, toNat_succ, begP_succ]
        have hz := row_new (hs := hs) hil hr1
        have hbb := hbeg _ (hrowb (j + 1) hil).2
        rw [hnew] at hbb
        have hwb : wrap64 (b + gap) = b + gap := w64_small ⟨hbb.1, Int.le_trans hbb.2 (by decide)⟩
        rw [hwb]
        refine EvT.ifp hgt (EvT.ifp hcell.1 (EvT.ifp hcell.2 (EvT.ifp k4 (EvT.ifp k3 (EvT.ifp k5 (ih _ _ _ (by rw [hnew]) (by rw [hnew]) ?_))))))
        rw [hnew, hz]
        generalize rd hs ((j + 1 : Nat) : Int) = y at hh ⊢
        have hm := mx_add (b + gap) 0 y
        rw [Int.add_zero] at hm
        rw [← hm]
        rw [w64_add hbb hh]
theorem heights_loop {cols : Int} {l hs : List Int} {space gap : Int} {wd : List Int} (hn : hs.length ≤ 4000) {r : List S43 × Int × Int}
    (hgood : hs.any badH = false → Ev (fun k => (formeref24_Cells.f k cols l).bind fun bt292 => ((formeref24_columns.f k cols space gap).bind fun bt296 => (formeref24_Place.l1 k l hs gap wd bt292.1 bt296.2.1 ([] : List (S43)) 0 0 0))) r) (hbad : hs.any badH = true → r = ([], 0, 1)) :
    ∀ (d i : Nat), i + d = hs.length → (hs.take i).any badH = false → Ev (fun k => formeref24_Place.l0 k cols l hs space gap wd (i : Int)) r
  | 0, i, h, ht => by
    rw [List.take_of_length_le (by omega)] at ht
    exact Ev.step (fun k => rfl) (EvT.ifn (by omega) (hgood ht))
  | d + 1, i, h, ht => by
    have hi : i < hs.length := by omega
    have hr := rd_nat hs i hi
    have ih := fun ht => heights_loop hn hgood hbad d (i + 1) (by omega) ht
    refine Ev.step (fun k => rfl) (EvT.ifp (by omega) (EvT.ifp (by omega) ?_))
    have hmem : ∀ x, hs[i] = x → badH x = true → r = ([], 0, 1) := fun x hx hb => hbad (List.any_eq_true.2 ⟨hs[i], List.getElem_mem hi, by rw [hx]; exact hb⟩)
    rw [hr, w_succ i hs.length hi (by omega)]
    refine EvT.ite (fun h1 => ?_) (fun h1 => EvT.ite (fun h2 => ?_) (fun h2 => ?_))
    · rw [hmem _ rfl (by unfold badH; simp [h1])]; exact Ev.now _
    · rw [hmem _ rfl (by unfold badH; simp [h2])]; exact Ev.now _
    · refine ih ?_
      rw [List.take_succ_eq_append_getElem hi, List.any_append, ht]
      simp [badH]
      omega
theorem Place_ev {cols : Int} {l hs : List Int} {space gap : Int} (hn : checkE cols l = 0 → l.length ≤ 100) : ∃ r, grid_Place.f cols l hs space gap = some r ∧ r.1.length ≤ 4000 ∧ (∀ x ∈ r.1, x.f0 = 0 ∧ x.f5 = false ∧ x.f6 = []) ∧ Ev (fun k => formeref24_Place.f k cols l hs space gap) r := by
  unfold formeref24_Place.f
  obtain ⟨rw_, hw1, _, hw2⟩ := Widths_ev cols l space gap
  by_cases h : checkE cols l = 0
  · obtain ⟨hn2, hc, hsp⟩ := checkE_zero h
    have hn := hn h
    obtain ⟨N, hN⟩ := nat_of (show 0 ≤ cols by omega)
    have hcn : cols.toNat = N := by omega
    have hce := Cells_ev cols l
    rw [if_pos h] at hce
    by_cases hg : GoodP space gap
    · obtain ⟨ws, ss, C⟩ := cols_facts (n := N) (by omega) hg
      have C' : Cols cols.toNat space gap ws ss := by rw [hcn]; exact C
      have hco := cols_good_ev (by omega) C
      rw [← hN] at hco
      rw [widths_ok h C'] at hw1
      obtain rfl := Option.some.inj hw1
      by_cases hl : hs.length = l.length
      · cases hb : hs.any badH
        · refine ⟨_, place_ok h C' hl hb (endL_small h hn hg.2 hb), by rw [boxesL_length]; omega, fun x hx => ?_, Ev.bind hw2 (EvT.ifp rfl (EvT.ifp (by omega) ?_))⟩
          · unfold boxesL at hx
            obtain ⟨y, _, rfl⟩ := List.mem_map.1 hx
            exact ⟨rfl, rfl, rfl⟩
          · refine heights_loop (by omega) (fun _ => ?_) (fun hb2 => by rw [hb] at hb2; cases hb2) hs.length 0 (by omega) (by simp)
            exact Ev.bind hce (Ev.bind hco (place_loop hN h hn hl hb hg.2 C l.length 0 [] 0 0 (by omega) (by simp) rfl rfl))
        · refine ⟨_, place_err (hs := hs) h (fun h2 => by rw [hb] at h2; cases h2.2.2), by simp, fun x hx => by simp at hx, Ev.bind hw2 (EvT.ifp rfl (EvT.ifp (by omega) ?_))⟩
          exact heights_loop (by omega) (fun h2 => by rw [hb] at h2; cases h2) (fun _ => rfl) hs.length 0 (by omega) (by simp)
      · exact ⟨_, place_err (hs := hs) h (fun h2 => hl h2.2.1), by simp, fun x hx => by simp at hx, Ev.bind hw2 (EvT.ifp rfl (EvT.ifn (by omega) (Ev.now _)))⟩
    · rw [widths_bad h hg] at hw1
      obtain rfl := Option.some.inj hw1
      exact ⟨_, place_err (hs := hs) h (fun h2 => hg h2.1), by simp, fun x hx => by simp at hx, Ev.bind hw2 (EvT.ifn (by decide) (Ev.now _))⟩
  · rw [widths_err h] at hw1
    obtain rfl := Option.some.inj hw1
    refine ⟨([], 0, checkE cols l), ?_, by simp, fun x hx => by simp at hx, Ev.bind hw2 (EvT.ifn h (Ev.now _))⟩
    unfold grid_Place.f
    rw [widths_err h, Option.bind_some, if_neg h]
theorem match0 {cols : Int} {l hs : List Int} {space gap : Int} (hn : checkE cols l = 0 → l.length ≤ 100) (q : Bool) (hq : q = false) : Ev (fun k => formelaw24_GridMatchesReference.j0 k cols l hs space gap true q) true := by
  obtain ⟨rw_, w1, w2, w3⟩ := Widths_ev cols l space gap
  obtain ⟨rp, p1, p2, p3, p4⟩ := Place_ev (hs := hs) (space := space) (gap := gap) hn
  have hce := Cells_ev cols l
  have hcl : ((if checkE cols l = 0 then (cellsL cols l, 0) else ([], checkE cols l) : List S39 × Int)).1.length ≤ 1000000 := by
    by_cases h : checkE cols l = 0
    · rw [if_pos h]; have := cellsL_length cols l; have := hn h; show (cellsL cols l).length ≤ _; omega
    · rw [if_neg h]; exact Nat.zero_le _
  have hcf : grid_Cells.f cols l = some (if checkE cols l = 0 then (cellsL cols l, 0) else ([], checkE cols l)) := rfl
  generalize (if checkE cols l = 0 then (cellsL cols l, 0) else ([], checkE cols l) : List S39 × Int) = rc at hce hcl hcf
  refine Ev.step (fun k => rfl) (EvT.ifn (by rw [hq]; decide) (EvT.bindc hcf (Ev.bind hce (EvT.ifp rfl (Ev.bind (SameCells_ev _ hcl) (EvT.ifp rfl (EvT.bindc w1 (Ev.bind w3 (EvT.ifp rfl (Ev.bind (SameInts_ev _ (by omega)) (EvT.ifp rfl (EvT.bindc p1 (Ev.bind p4 (EvT.ifp rfl (Ev.bind (Same_ev _ (by omega)) (EvT.ifp rfl (Ev.bind (Bare_ev _ (by omega) p3) (EvT.ifp rfl (EvT.ifp rfl (EvT.now (by simp)))))))))))))))))))))
theorem GridMatchesReference : formelaw24_GridMatchesReference.Pure := by
  intro a0 l1 l2 a3 a4 _ _ _ _ _ _ _ _ _
  suffices h : Ev (fun k => formelaw24_GridMatchesReference.f k a0 l1 l2 a3 a4) true from let ⟨k, hk⟩ := h; ⟨k, hk k (Nat.le_refl _)⟩
  have hT : ∀ q, q = true → Ev (fun k => formelaw24_GridMatchesReference.j0 k a0 l1 l2 a3 a4 true q) true := fun q hq => Ev.step (fun k => rfl) (EvT.ifp hq (Ev.now _))
  have hQ : (checkE a0 l1 = 0 → l1.length ≤ 100) → ∀ q : Bool, Ev (fun k => formelaw24_GridMatchesReference.j0 k a0 l1 l2 a3 a4 true q) true := fun hn q => by
    cases q
    · exact match0 hn _ rfl
    · exact hT _ rfl
  unfold formelaw24_GridMatchesReference.f
  refine Ev.bind head_ev (EvT.ifp rfl (EvT.ite (fun h1 => EvT.ite (fun h2 => hT _ rfl) (fun h2 => hQ ?_ _)) (fun h1 => hQ ?_ _)))
  · intro hck
    have := (checkE_zero hck).1
    omega
  · intro _
    omega
end Go.Proofs.Ytciheadencbmjaa.Pure
