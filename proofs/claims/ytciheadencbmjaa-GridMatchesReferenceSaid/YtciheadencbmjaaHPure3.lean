import Derived.Test.YtciheadencbmjaaHPure2
import Derived.Test.YtciheadencbmjaaHPT
set_option linter.unusedVariables false
set_option linter.unusedSimpArgs false
namespace Go.Proofs.Ytciheadencbmjaa.P
open Go.RowKit Go.Proofs.YtciheadencbmjaaW.PrintWords
theorem tk_tr1 (n i : Nat) (h : i < n) : tk (tr1 n) i = ⟨0, 1, 0⟩ := by simp [tk, rd_T64, tr1, List.getD_eq_getElem?_getD, h]
theorem ok_tr1 {n : Nat} (hn : 1 ≤ n ∧ n ≤ 64) : OkL (tr1 n) where
  n1 := by rw [tr1_length]; exact hn.1
  n64 := by rw [tr1_length]; exact hn.2
  bd i hi := by rw [tr1_length] at hi; rw [tk_tr1 n i hi]; decide
theorem wrong_tr1 (n : Nat) : (tr1 n).any wrongW = false := by
  rw [List.any_eq_false]
  intro x hx
  rw [show x = ⟨0, 1, 0⟩ from List.eq_of_mem_replicate hx]
  decide
def GoodP (space gap : Int) : Prop := (0 ≤ space ∧ space ≤ 1000000) ∧ 0 ≤ gap ∧ gap ≤ 100000
instance (space gap : Int) : Decidable (GoodP space gap) := by unfold GoodP; infer_instance
theorem inside_iff (n lo hi : Int) : inside n lo hi = true ↔ lo ≤ n ∧ n ≤ hi := by unfold inside; simp
theorem share_bad {n : Nat} {space gap : Int} (h : ¬ GoodP space gap) : tracks_Share.f (tr1 n) space gap = some ([], 1) := by
  unfold tracks_Share.f
  rw [if_neg]
  intro ⟨_, h2, h3⟩
  rw [inside_iff] at h2 h3
  exact h ⟨h2, h3⟩
def sumW (ws : List Int) (n : Nat) : Int := sumTo (fun j => rd ws (j : Int)) n
theorem sumTo_mono {w : Nat → Int} {n : Nat} (h : ∀ i, i < n → 0 ≤ w i) : ∀ m, m ≤ n → sumTo w m ≤ sumTo w n := by
  induction n with
  | zero =>
    intro m hm
    have : m = 0 := by omega
    subst this
    exact Int.le_refl _
  | succ n ih =>
    intro m hm
    by_cases e : m = n + 1
    · subst e
      exact Int.le_refl _
    · have := ih (fun i hi => h i (by omega)) m (by omega)
      have := h n (by omega)
      simp only [sumTo]
      omega
theorem rd_set (l : List Int) (i j : Nat) (v : Int) (h : i < l.length) : rd (l.set i v) (j : Int) = if j = i then v else rd l (j : Int) := by
  simp only [rd, Int.toNat_natCast, List.getD_eq_getElem?_getD, List.getElem?_set]
  by_cases e : i = j
  · subst e; simp [h]
  · rw [if_neg e, if_neg (fun h => e h.symm)]
theorem gap_mul {gap : Int} (hg : 0 ≤ gap ∧ gap ≤ 100000) {i : Nat} (h : i ≤ 64) : 0 ≤ gap * (i : Int) ∧ gap * (i : Int) ≤ 6400000 := by
  refine ⟨Int.mul_nonneg hg.1 (by omega), ?_⟩
  have := Int.mul_le_mul hg.2 (show (i : Int) ≤ 64 by omega) (by omega) (by omega)
  omega
theorem outS_at {l : List Int} {gap : Int} (hg : 0 ≤ gap ∧ gap ≤ 100000) (hn : l.length ≤ 64) (hp : ∀ i, i < l.length → 0 ≤ rd l (i : Int)) (hs : sumW l l.length ≤ 1000000) : ∀ (i : Nat), i + 1 ≤ l.length → ∀ j, j ≤ i → rd (outS l gap i) (j : Int) = sumW l j + gap * (j : Int)
  | 0, _, j, hj => by
    have : j = 0 := by omega
    subst this
    simp [outS, sumW, sumTo, rd, List.getD_eq_getElem?_getD]
    by_cases h : 0 < l.length <;> simp [h]
  | i + 1, hi, j, hj => by
    have ih := outS_at hg hn hp hs i (by omega)
    unfold outS
    rw [rd_set _ _ _ _ (by rw [outS_length]; omega)]
    by_cases e : j = i + 1
    · subst e
      rw [if_pos rfl, ih i (Nat.le_refl _)]
      have h1 := sumTo_mono hp (i + 1) (by omega)
      have h0 := sumTo_nonneg (w := fun j => rd l (j : Int)) i (fun k hk => hp k (by omega))
      have h2 := hp i (by omega)
      have h3 := gap_mul hg (i := i) (by omega)
      have h4 : sumW l (i + 1) = sumW l i + rd l (i : Int) := rfl
      have h5 : gap * ((i + 1 : Nat) : Int) = gap * (i : Int) + gap := by push_cast; rw [Int.mul_add, Int.mul_one]
      have h1 : sumW l (i + 1) ≤ sumW l l.length := h1
      have h0 : 0 ≤ sumW l i := h0
      rw [EvT.w64 (x := sumW l i + gap * (i : Int) + rd l (i : Int)) (by omega) (by omega), EvT.w64 (by omega) (by omega)]
      omega
    · rw [if_neg e]
      exact ih j (by omega)
structure Cols (n : Nat) (space gap : Int) (ws ss : List Int) : Prop where
  share : tracks_Share.f (tr1 n) space gap = some (ws, 0)
  starts : tracks_Starts.f ws gap = some (ss, 0)
  wlen : ws.length = n
  slen : ss.length = n
  pos : ∀ i, i < n → 0 ≤ rd ws (i : Int)
  at_ : ∀ i, i < n → rd ss (i : Int) = sumW ws i + gap * (i : Int)
  sum : sumW ws n = mx 0 (space - gap * ((n : Int) - 1))
theorem cols_facts {n : Nat} {space gap : Int} (hn : 1 ≤ n ∧ n ≤ 64) (hg : GoodP space gap) : ∃ ws ss, Cols n space gap ws ss := by
  obtain ⟨res, hres, F⟩ := Share_spec (tr1 n) (ok_tr1 hn) space gap hg.1 hg.2
  have hpos : ∀ i, i < n → 0 ≤ res i := fun i hi => by have := (F.lim i (by rw [tr1_length]; exact hi)).1; rw [tk_tr1 n i hi] at this; exact this
  have hsum : sumTo res n = mx 0 (space - gap * ((n : Int) - 1)) := by
    have h1 := F.sumeq ⟨0, by rw [tr1_length]; omega, by rw [tk_tr1 n 0 (by omega)]; decide, .inl (by rw [tk_tr1 n 0 (by omega)])⟩
    rw [tr1_length] at h1
    rw [← sumTo_congr (w := fun i => res i - (tk (tr1 n) i).f0) n (fun i hi => by rw [tk_tr1 n i hi]; exact Int.sub_zero _), h1]
    unfold leftN
    rw [tr1_length, show ((tr1 n).map (·.f0)).sum = 0 by unfold tr1; rw [List.map_replicate]; simp, Int.sub_zero]
  have hws : ∀ i, i < n → rd (tab n res) (i : Int) = res i := fun i hi => tab_rd n res i hi
  have hsw : sumW (tab n res) n = mx 0 (space - gap * ((n : Int) - 1)) := by rw [← hsum]; exact sumTo_congr n hws
  have hb : mx 0 (space - gap * ((n : Int) - 1)) ≤ 1000000 := by
    have := Int.mul_nonneg hg.2.1 (show (0 : Int) ≤ (n : Int) - 1 by omega)
    have := hg.1.2
    unfold mx; split <;> omega
  have hshare : tracks_Share.f (tr1 n) space gap = some (tab n res, 0) := by
    unfold tracks_Share.f
    rw [if_pos ⟨by rw [tr1_length, wrong_tr1, (inside_iff _ _ _).2 (by omega)]; rfl, (inside_iff _ _ _).2 hg.1, (inside_iff _ _ _).2 hg.2⟩, hres, Option.map_some, tr1_length]
  have hlen : (tab n res).length = n := tab_length n res
  have hfar : (tab n res).any farW = false := by
    rw [List.any_eq_false]
    intro x hx
    obtain ⟨i, hi, rfl⟩ := List.mem_map.1 hx
    have hi := List.mem_range.1 hi
    have h1 := hpos i hi
    have h2 := sumTo_le n i hi hpos
    unfold farW
    rw [(inside_iff _ _ _).2 (by omega)]
    decide
  have hstarts : tracks_Starts.f (tab n res) gap = some (outS (tab n res) gap (n - 1), 0) := by
    unfold tracks_Starts.f
    rw [if_pos (by omega), if_pos ⟨by rw [(inside_iff _ _ _).2 (by omega)], (inside_iff _ _ _).2 hg.2, hfar⟩, hlen]
  refine ⟨_, _, hshare, hstarts, hlen, by rw [outS_length, hlen], fun i hi => by rw [hws i hi]; exact hpos i hi, fun i hi => ?_, hsw⟩
  exact outS_at hg.2 (by omega) (fun i hi => by rw [hlen] at hi; rw [hws i hi]; exact hpos i hi) (by rw [hlen, hsw]; exact hb) (n - 1) (by omega) i (by omega)
theorem sumW_bd {n : Nat} {space gap : Int} {ws ss : List Int} (C : Cols n space gap ws ss) (hg : GoodP space gap) (hn : 1 ≤ n) {i : Nat} (hi : i ≤ n) : 0 ≤ sumW ws i ∧ sumW ws i ≤ sumW ws n ∧ sumW ws n ≤ 1000000 := by
  refine ⟨sumTo_nonneg i (fun k hk => C.pos k (by omega)), sumTo_mono C.pos i hi, ?_⟩
  rw [C.sum]
  have := Int.mul_nonneg hg.2.1 (show (0 : Int) ≤ (n : Int) - 1 by omega)
  have := hg.1.2
  unfold mx; split <;> omega
/-- How wide n columns are from column a on. -/
theorem span_at {n : Nat} {space gap : Int} {ws ss : List Int} (C : Cols n space gap ws ss) (hg : GoodP space gap) (hn : 1 ≤ n ∧ n ≤ 64) {a m : Nat} (hm : 1 ≤ m) (h : a + m ≤ n) :
    spanW ws ss (a : Int) (m : Int) = sumW ws (a + m) - sumW ws a + gap * ((m : Int) - 1) := by
  have e1 : wrap64 ((a : Int) + (m : Int)) = (a : Int) + m := EvT.w64 (by omega) (by omega)
  have e2 : mn ((a : Int) + m) (ws.length : Int) = (a : Int) + m := by have := C.wlen; unfold mn; split <;> omega
  have e3 : wrap64 ((a : Int) + m - 1) = ((a + m - 1 : Nat) : Int) := by rw [EvT.w64 (by omega) (by omega)]; omega
  have hw := C.wlen
  have hs := C.slen
  have b1 := sumW_bd C hg hn.1 (i := a) (by omega)
  have b2 := sumW_bd C hg hn.1 (i := a + m - 1) (by omega)
  have b3 := sumW_bd C hg hn.1 (i := a + m) (by omega)
  have h4 : sumW ws (a + m) = sumW ws (a + m - 1) + rd ws ((a + m - 1 : Nat) : Int) := by
    obtain ⟨k, hk⟩ : ∃ k, a + m = k + 1 := ⟨a + m - 1, by omega⟩
    rw [hk]; rfl
  have g1 := gap_mul hg.2 (i := a) (by omega)
  have g2 := gap_mul hg.2 (i := a + m - 1) (by omega)
  have g3 : gap * ((a + m - 1 : Nat) : Int) = gap * (a : Int) + gap * ((m : Int) - 1) := by
    rw [← Int.mul_add]; congr 1; omega
  have hp := C.pos (a + m - 1) (by omega)
  unfold spanW grid_columns_span.f
  rw [e1, e2, e3, if_pos (by omega), if_pos (by omega), if_pos (by omega), if_pos (by omega), if_pos (by omega), C.at_ _ (by omega), C.at_ _ (by omega), EvT.w64 (x := sumW ws (a + m - 1) + _ + _) (by omega) (by omega), EvT.w64 (by omega) (by omega), Option.getD_some]
  omega
theorem widths_ok {cols : Int} {l : List Int} {space gap : Int} {ws ss : List Int} (h : checkE cols l = 0) (C : Cols cols.toNat space gap ws ss) : grid_Widths.f cols l space gap = some (widthsL cols l ws ss, 0) := by
  unfold grid_Widths.f
  rw [if_pos h, C.share, Option.bind_some, if_pos rfl, C.starts, Option.bind_some, if_pos rfl]
theorem widths_bad {cols : Int} {l : List Int} {space gap : Int} (h : checkE cols l = 0) (hg : ¬ GoodP space gap) : grid_Widths.f cols l space gap = some ([], 1) := by
  unfold grid_Widths.f
  rw [if_pos h, share_bad hg, Option.bind_some, if_neg (by decide)]
theorem widths_err {cols : Int} {l : List Int} {space gap : Int} (h : checkE cols l ≠ 0) : grid_Widths.f cols l space gap = some ([], checkE cols l) := by
  unfold grid_Widths.f
  rw [if_neg h]
def boxesL (cols : Int) (l hs ws ss : List Int) (gap : Int) : List S43 := (walkL cols l).map (boxAt gap (rowsP hs (walkL cols l)) ss (widthsL cols l ws ss) hs)
def endL (cols : Int) (l hs : List Int) (gap : Int) : Int := endP gap (rowsP hs (walkL cols l)) (lastP (walkL cols l) + 1).toNat
theorem place_ok {cols : Int} {l hs : List Int} {space gap : Int} {ws ss : List Int} (h : checkE cols l = 0) (C : Cols cols.toNat space gap ws ss) (hl : hs.length = l.length) (hb : hs.any badH = false) (he : endL cols l hs gap ≤ 1000000000) :
    grid_Place.f cols l hs space gap = some (boxesL cols l hs ws ss gap, endL cols l hs gap, 0) := by
  unfold grid_Place.f
  rw [widths_ok h C, Option.bind_some, if_pos rfl]
  unfold placeBody
  rw [if_pos ⟨hl, hb⟩, if_neg (by unfold endL at he; omega), C.share, Option.bind_some, C.starts, Option.map_some]
  rfl
theorem last_bd {cols : Int} {l : List Int} (hc : 1 ≤ cols ∧ cols ≤ 64) (hl : ∀ x ∈ l, 1 ≤ x ∧ x ≤ 64) : -1 ≤ lastP (walkL cols l) ∧ lastP (walkL cols l) ≤ l.length := by
  rcases lastP_mem (walkL cols l) with e | ⟨x, hx, e⟩
  · omega
  · obtain ⟨k, hk, _, _, _, e4, e5⟩ := walkL_mem hc hl hx
    omega
theorem endL_small {cols : Int} {l hs : List Int} {gap : Int} (h : checkE cols l = 0) (hn : l.length ≤ 100) (hg : 0 ≤ gap ∧ gap ≤ 100000) (hb : hs.any badH = false) : endL cols l hs gap ≤ 1000000000 := by
  obtain ⟨_, hc, hl⟩ := checkE_zero h
  have h1 := last_bd hc hl
  have h2 := endP_bd hg (rowsP_low hb (walkL cols l)) (lastP (walkL cols l) + 1).toNat
  unfold endL
  omega
theorem place_err {cols : Int} {l hs : List Int} {space gap : Int} (h : checkE cols l = 0) (hx : ¬ (GoodP space gap ∧ hs.length = l.length ∧ hs.any badH = false)) : grid_Place.f cols l hs space gap = some ([], 0, 1) := by
  unfold grid_Place.f
  by_cases hg : GoodP space gap
  · obtain ⟨_, hc, hl⟩ := checkE_zero h
    obtain ⟨ws, ss, C⟩ := cols_facts (n := cols.toNat) (by omega) hg
    rw [widths_ok h C, Option.bind_some, if_pos rfl]
    unfold placeBody
    rw [if_neg (fun h2 => hx ⟨hg, h2⟩)]
  · rw [widths_bad h hg, Option.bind_some, if_neg (by decide)]
theorem boxesL_length (cols : Int) (l hs ws ss : List Int) (gap : Int) : (boxesL cols l hs ws ss gap).length = l.length := by unfold boxesL; rw [List.length_map, walkL_length]
theorem widthsL_length (cols : Int) (l ws ss : List Int) : (widthsL cols l ws ss).length = l.length := by unfold widthsL; rw [List.length_map, walkL_length]
theorem walkL_get (cols : Int) (l : List Int) (i : Nat) (h : i < l.length) : (walkL cols l)[i]? = some ((i : Int), cellAt cols l i) := by
  have h2 : i < (walkL cols l).length := by rw [walkL_length]; exact h
  have h3 : (walkL cols l)[i] = ((i : Int), cellAt cols l i) := by
    refine Prod.ext ?_ ?_
    · rw [show (walkL cols l)[i].1 = ((0 + i : Nat) : Int) from walkG_fst cols i 0 0 0 l h2]; simp
    · simp [cellAt, cellsL, List.getD_eq_getElem?_getD, List.getElem?_eq_getElem h2]
  rw [List.getElem?_eq_getElem h2, h3]
theorem rd_width (cols : Int) (l ws ss : List Int) (i : Nat) (h : i < l.length) : rd (widthsL cols l ws ss) (i : Int) = spanW ws ss (cellAt cols l i).f1 (mn (rd l (i : Int)) cols) := by
  simp [rd, widthsL, List.getD_eq_getElem?_getD, walkL_get cols l i h]
theorem rd_box (cols : Int) (l hs ws ss : List Int) (gap : Int) (i : Nat) (h : i < l.length) : rd_T43 (boxesL cols l hs ws ss gap) (i : Int) =
    ⟨0, if (cellAt cols l i).f0 = 0 ∧ (cellAt cols l i).f1 = 0 then 0 else rd ss (cellAt cols l i).f1, begP gap (rowsP hs (walkL cols l)) (cellAt cols l i).f0.toNat, spanW ws ss (cellAt cols l i).f1 (mn (rd l (i : Int)) cols), rd hs (i : Int), false, []⟩ := by
  simp only [rd_T43, boxesL, Int.toNat_natCast, List.getD_eq_getElem?_getD, List.getElem?_map, walkL_get cols l i h, Option.map_some, Option.getD_some, boxAt]
  rw [rd_width cols l ws ss i h]
end Go.Proofs.Ytciheadencbmjaa.P
