/- No two cells overlap; those of a row begin at the same height and are equally high, those of a column begin where their track does and are as wide; each one is at least as high as it has to be, and one of a row is exactly so high; all of them are within the whole height (packages tracks and table; up to 12 rows). Conditions: those of the statement alone. -/
import Derived.Test.YtclfimdafmoafaaHTabP
import Derived.Test.YtclfimdafmoafaaPx10
import Derived.BigQuiet
set_option linter.unusedVariables false
set_option linter.unusedSimpArgs false
namespace Go.Proofs.Ytclfimdafmoafaa.PureC
open Go.RowKit Go.Proofs.Ytclfimdafmoafaa.P Go.Proofs.Ytclfimdafmoafaa.PureP Go.Proofs.YtclfimdafmoafaaW.PrintWords Go.Proofs.YtclfimdafmoafaaW.PrintLast Go.Proofs.YtclfimdafmoafaaW.PrintMore
theorem head_ev : ∃ k, formelaw26_head.f k = some true := ⟨20, by decide +kernel⟩
theorem gmax_mem : ∀ (xs : List Int) (a : Int), xs.foldl mx a = a ∨ xs.foldl mx a ∈ xs
  | [], a => .inl rfl
  | x :: xs, a => by
    have h3 : mx a x = a ∨ mx a x = x := by unfold mx; split <;> simp
    rcases gmax_mem xs (mx a x) with h | h
    · rcases h3 with h4 | h4
      · exact .inl (by show xs.foldl mx (mx a x) = a; rw [h, h4])
      · exact .inr (by show xs.foldl mx (mx a x) ∈ x :: xs; rw [h, h4]; simp)
    · exact .inr (List.mem_cons_of_mem _ h)
theorem gmax_ge : ∀ (xs : List Int) (a : Int), a ≤ xs.foldl mx a ∧ ∀ x ∈ xs, x ≤ xs.foldl mx a
  | [], a => ⟨Int.le_refl _, by simp⟩
  | x :: xs, a => by
    obtain ⟨h1, h2⟩ := gmax_ge xs (mx a x)
    have h3 : a ≤ mx a x ∧ x ≤ mx a x := by unfold mx; split <;> omega
    exact ⟨Int.le_trans h3.1 h1, fun y hy => (List.mem_cons.1 hy).elim (fun e => by subst e; exact Int.le_trans h3.2 h1) (fun hy => h2 y hy)⟩
/-- Some height of the row is the row's. -/
def ex (row : List Int) (j : Nat) : Bool := decide (row.length = 0) || (row.take j).any fun x => x == gmax row
theorem ex_all {row : List Int} (h : ∀ x ∈ row, 0 ≤ x) : ex row row.length = true := by
  unfold ex
  rw [List.take_length]
  by_cases h0 : row.length = 0
  · simp [h0]
  · have : ∃ x ∈ row, x = gmax row := by
      rcases gmax_mem row 0 with h1 | h1
      · obtain ⟨x, hx⟩ : ∃ x, x ∈ row := ⟨row[0]'(by omega), List.getElem_mem _⟩
        have h2 := (gmax_ge row 0).2 x hx
        have h3 := h x hx
        have h4 : gmax row = 0 := h1
        have h5 : x ≤ gmax row := h2
        exact ⟨x, hx, by omega⟩
      · exact ⟨_, h1, rfl⟩
    obtain ⟨x, hx, he⟩ := this
    simp only [Bool.or_eq_true, List.any_eq_true]
    exact .inr ⟨x, hx, by simp [he]⟩
theorem ex_succ (row : List Int) (j : Nat) (h : j < row.length) : ex row (j + 1) = (ex row j || (gmax row == rd row (j : Int))) := by
  unfold ex
  have hr : rd row (j : Int) = row[j] := by simp [rd, List.getD_eq_getElem?_getD, List.getElem?_eq_getElem h]
  rw [List.take_succ_eq_append_getElem h, List.any_append, hr, Bool.or_assoc]
  congr 2
  simp [Bool.beq_comm, eq_comm]
theorem ex_zero (row : List Int) : ((row.length : Int) == 0) = ex row 0 := by
  unfold ex
  by_cases h : row.length = 0
  · simp [h]
  · have : ((row.length : Int) == 0) = false := beq_eq_false_iff_ne.2 (by omega)
    rw [this, decide_eq_false h]
    rfl
def vr (row : List Int) (j : Nat) : Int := if j = 0 then 0 else gmax row
theorem vr_all (row : List Int) : vr row row.length = gmax row := by
  unfold vr
  split
  · have : row = [] := List.eq_nil_of_length_eq_zero (by assumption)
    subst this
    rfl
  · rfl
def yI (hs : List (List Int)) (gap : Int) (i : Nat) : Int := if i < hs.length then yTo hs gap i + gap else yEnd hs gap
theorem yI_zero {hs : List (List Int)} {gap : Int} (hg : 0 ≤ gap ∧ gap ≤ 100000) : yI hs gap 0 = 0 := by
  unfold yI
  split
  · rw [yTo_zero hg]; omega
  · unfold yEnd
    rw [if_pos (by omega)]
theorem yI_more {n : Nat} {hs : List (List Int)} (H : Hs n hs) {gap : Int} (hg : 0 ≤ gap ∧ gap ≤ 100000) (i : Nat) (hi : i + 1 < hs.length) : yI hs gap (i + 1) = yI hs gap i + gmax (hk hs i) + gap := by
  unfold yI
  rw [if_pos hi, if_pos (by omega), yTo_succ H hg i (by omega)]
theorem yI_last {n : Nat} {hs : List (List Int)} (H : Hs n hs) {gap : Int} (hg : 0 ≤ gap ∧ gap ≤ 100000) (i : Nat) (hi : i + 1 = hs.length) : yI hs gap (i + 1) = yI hs gap i + gmax (hk hs i) := by
  unfold yI
  rw [if_neg (by omega), if_pos (by omega)]
  unfold yEnd
  rw [if_neg (by omega), ← hi, yTo_succ H hg i (by omega)]
set_option maxRecDepth 100000 in
set_option maxHeartbeats 8000000 in
theorem TableCells (A0 : Option Addr) (c0 : Nat) (l0 : List Int) (A1 : Option Addr) (c1 : Nat) (l1 : List (List Int)) (a2 : Int) (w : World) (hr0 : Kd.C (Kd.int .i64) w A0 l0.length l0) (hc0 : l0.length ≤ c0) (hr1 : Kd.C (Kd.slice 3 (Kd.int .i64)) w A1 l1.length l1) (hc1 : l1.length ≤ c1) :
    Calls Try.prog 7 #[.slice A0 l0.length c0, .slice A1 l1.length c1, .int .i64 a2] w fun e w' => e = .returned (.bool true) ∧ Below w.heap.size w w' := by
  have HR0 := Aside0.mk hr0
  have HR1 := Aside0.mk hr1
  have HC0 := Aside0.mk hc0
  have HC1 := Aside0.mk hc1
  clear hr0 hc0 hr1 hc1
  obtain ⟨kh, hkh⟩ := head_ev
  have hhead : Calls Try.prog 9 #[] w fun e w' => e = .returned (.bool true) ∧ Below w.heap.size w w' := formelaw26_head.calls kh true w hkh
  clear hkh
  have hfew : ∀ b k, formelaw26_few_int.f k l1 = some b → ∀ w1, Below w.heap.size w w1 → Calls Try.prog 11 #[.slice A1 l1.length c1] w1 fun e w' => e = .returned (.bool b) ∧ Below w.heap.size w w' := fun b k h w1 h1 => by
    refine (formelaw26_few_int.calls k A1 c1 l1 b w1 (Kd.C_below HR1.out h1) HC1.out h).mono ?_
    rintro e w' ⟨rfl, hd⟩
    exact ⟨rfl, h1.trans (hd.below.mono h1.size)⟩
  by_cases h12 : l1.length > 12
  · have d1 : decide ((l1.length : Int) > 12) = true := decide_eq_true (by omega)
    clear hfew
    go_enter Try.func7, Try.ntmps7
    go_wp2_with (first | (go_at_call 9; (with_reducible refine hhead.mono ?_); rintro e w1 ⟨rfl, hb⟩; have HB1 := Aside0.mk hb; clear hb))
    go_ret
    exact ⟨rfl, HB1.out⟩
  have d1 : decide ((l1.length : Int) > 12) = false := decide_eq_false (by omega)
  obtain ⟨b1, ⟨kf, hkf⟩, hf1⟩ := few_ev l1
  have hfew := hfew b1 kf (hkf kf (Nat.le_refl _))
  clear hkf hf1
  cases b1
  · go_enter Try.func7, Try.ntmps7
    go_wp2_with (first | (go_at_call 9; (with_reducible refine hhead.mono ?_); rintro e w1 ⟨rfl, hb⟩; have HB1 := Aside0.mk hb; clear hb) | (go_at_call 11; (with_reducible refine (hfew _ HB1.out).mono ?_); rintro e w2 ⟨rfl, hb⟩; have HB2 := Aside0.mk hb; clear hb))
    go_ret
    exact ⟨rfl, HB2.out⟩
  obtain ⟨st, hstl⟩ : ∃ st, outS l0 a2 (l0.length - 1) = st := ⟨_, rfl⟩
  have hsl : st.length = l0.length := by rw [← hstl, outS_length]
  have hplace : ∀ p h e, placeR l0 l1 a2 = (p, h, e) → ∀ w1, Below w.heap.size w w1 → Calls Try.prog 18 #[.slice A0 l0.length c0, .slice A1 l1.length c1, .int .i64 a2] w1 fun e1 w' => ∃ (A : Option Addr) (c : Nat), e1 = .returned (.tuple #[.slice A p.length c, .int .i64 h, .int .i64 e]) ∧ Kd.C (Kd.slice 50 k50) w' A p.length p ∧ Below w.heap.size w w' := fun p h e hp w1 h1 => by
    refine (table_Place.calls A0 c0 l0 A1 c1 l1 a2 p h e w1 (Kd.C_below HR0.out h1) HC0.out (Kd.C_below HR1.out h1) HC1.out (by unfold table_Place.f; rw [hp])).mono ?_
    rintro e1 w' ⟨v, rfl, hR, hb⟩
    obtain ⟨A, c, rfl, hl, hC⟩ := Kd.R_reads hR
    exact ⟨A, c, rfl, hC, h1.trans (hb.mono h1.size)⟩
  have hstarts : startsOk l0 a2 = true → ∀ w1, Below w.heap.size w w1 → Calls Try.prog 22 #[.slice A0 l0.length c0, .int .i64 a2] w1 fun e w' => ∃ (A : Option Addr) (c : Nat), e = .returned (.tuple #[.slice A l0.length c, .int .i64 0]) ∧ Kd.C (Kd.int .i64) w' A l0.length st ∧ Below w.heap.size w w' ∧ Below w1.heap.size w1 w' := fun h w1 h1 => by
    refine (startsC A0 c0 l0 a2 w1 (Kd.C_below HR0.out h1) HC0.out true h).mono ?_
    rintro e w' ⟨A, n, c, rfl, hA, hb⟩
    obtain ⟨rfl, hC⟩ := hA.out rfl
    rw [hstl] at hC
    exact ⟨A, c, rfl, hC, h1.trans (hb.mono h1.size), hb⟩
  obtain ⟨ph, ye⟩ : ∃ x : List (List S50) × Int × Int, placeR l0 l1 a2 = x := ⟨_, rfl⟩
  have hcase : (∃ e, placeR l0 l1 a2 = ([], 0, e) ∧ e ≠ 0) ∨ (placeOk l0 l1 a2 = true ∧ placeR l0 l1 a2 = (rowsT l0 st l1 a2 l1.length, yEnd l1 a2, 0)) := by
    unfold placeR
    rw [hstl]
    by_cases h1 : placeOk l0 l1 a2 = true
    · by_cases h2 : yEnd l1 a2 > 1000000000
      · exact .inl ⟨3, by rw [if_pos h1, if_pos h2], by decide⟩
      · exact .inr ⟨h1, by rw [if_pos h1, if_neg h2]⟩
    · exact .inl ⟨1, by rw [if_neg h1], by decide⟩
  clear ye ph hstl
  rcases hcase with ⟨e, hp, he⟩ | ⟨hok, hp⟩
  · have hplace := hplace _ _ _ hp
    have e1 : decide (e ≠ 0) = true := decide_eq_true he
    have e2 : (e != 0) = true := by simpa using he
    have e3 : decide (e = 0) = false := decide_eq_false he
    have e4 : (e == 0) = false := by simpa using he
    clear hp he hstarts
    go_enter Try.func7, Try.ntmps7
    go_wp2_with (first | (go_at_call 9; (with_reducible refine hhead.mono ?_); rintro e w1 ⟨rfl, hb⟩; have HB1 := Aside0.mk hb; clear hb) | (go_at_call 11; (with_reducible refine (hfew _ HB1.out).mono ?_); rintro e w2 ⟨rfl, hb⟩; have HB2 := Aside0.mk hb; clear hb) | (go_at_call 18; (with_reducible refine (hplace _ HB2.out).mono ?_); rintro e w3 ⟨A2, c2, rfl, hC, hb⟩; have HB3 := Aside0.mk hb; clear hb hC))
    go_ret
    exact ⟨rfl, HB3.out⟩
  have hplace := hplace _ _ _ hp
  clear hp
  simp only [placeOk, Bool.and_eq_true, Bool.not_eq_true', decide_eq_true_eq] at hok
  have hstarts := hstarts hok.1.1
  have hst := startsOk_bd hok.1.1
  have H := Hs.of (by omega) hok.2
  have HYtclfimdafmoafaa : Aside0 (∀ i, i < l1.length → ∀ x ∈ hk l1 i, 0 ≤ x) := ⟨fun i hi x hx => by
    have h1 := List.any_eq_false.1 hok.2 _ (List.getElem_mem hi)
    rw [← hk_eq l1 i hi] at h1
    simp only [badI, Bool.not_eq_true, Bool.or_eq_false_iff] at h1
    have := List.any_eq_false.1 h1.2 x hx
    simp [farW, inside] at this
    omega⟩
  have HST := Aside0.mk hst
  have HH := Aside0.mk H
  have HSL := Aside0.mk hsl
  have H12 : Aside0 (l1.length ≤ 12) := ⟨by omega⟩
  have hrl : (rowsT l0 st l1 a2 l1.length).length = l1.length := rowsT_length _ _ _ _ _
  clear hok hst H hsl h12
  go_enter Try.func7, Try.ntmps7
  go_wp2_with (first | (go_at_call 9; (with_reducible refine hhead.mono ?_); rintro e w1 ⟨rfl, hb⟩; have HB1 := Aside0.mk hb; clear hb) | (go_at_call 11; (with_reducible refine (hfew _ HB1.out).mono ?_); rintro e w2 ⟨rfl, hb⟩; have HB2 := Aside0.mk hb; clear hb) | (go_at_call 18; (with_reducible refine (hplace _ HB2.out).mono ?_); rintro e w3 ⟨A2, c2, rfl, hC, hb⟩; rw [hrl] at hC ⊢; have HB3 := Aside0.mk hb; have HP3 := Aside0.mk hC; clear hb hC) | (go_at_call 22; (with_reducible refine (hstarts _ HB3.out).mono ?_); rintro e w4 ⟨A3, c3, rfl, hC, hb, hb2⟩; have HB4 := Aside0.mk hb; have HS4 := Aside0.mk hC; have HP4 := Aside0.mk (Kd.C_below HP3.out hb2); clear hb hC hb2))
  clear hhead hfew hplace hstarts hrl d1 HB1 HB2 HB3 HP3
  go_loopg [13, 14] l1.length (fun kq v13 v14 w' => ∃ i : Nat, v13 = .int .i64 (yI l1 a2 i) ∧ v14 = .int .i64 (i : Int) ∧ Aside0 (kq + i = l1.length) ∧ Aside0 (Below w4.heap.size w4 w'))
  case atStart => exact ⟨0, by rw [yI_zero HST.out.2], rfl, ⟨rfl⟩, ⟨Below.refl _ _⟩⟩
  case round =>
    obtain ⟨i, rfl, rfl, HK, HB⟩ := hrel
    cases gk with
    | zero =>
      have hil : i = l1.length := by have := HK.out; omega
      subst hil
      have c1b : decide ((l1.length : Int) < (l1.length : Int)) = false := by simp
      have hy : yI l1 a2 l1.length = yEnd l1 a2 := by unfold yI; rw [if_neg (by omega)]
      rw [hy]
      obtain ⟨Y, hY⟩ : ∃ Y, yEnd l1 a2 = Y := ⟨_, rfl⟩
      rw [hY]
      clear hy hY
      go_wp2
      go_ret
      exact ⟨by simp, HB4.out.trans (HB.out.mono HB4.out.size)⟩
    | succ k1 =>
      have hi : i < l1.length := by have := HK.out; omega
      have HBW := Aside0.mk (HB4.out.trans (HB.out.mono HB4.out.size))
      have p1 : 0 ≤ (i : Int) := by omega
      have q1 : (i : Int) < (l1.length : Int) := by omega
      have c1b : decide ((i : Int) < (l1.length : Int)) = true := decide_eq_true q1
      have c1c : decide (i < l1.length) = true := decide_eq_true hi
      have hsum : IntKind.i64.wrap ((i : Int) + 1) = ((i + 1 : Nat) : Int) := by have := H12.out; exact IntWalk.i64_in _ (by omega)
      have hsum2 : wrap64 ((i : Int) + 1) = ((i + 1 : Nat) : Int) := by have := H12.out; unfold wrap64; omega
      obtain ⟨ap, Ar, cr, eap, hxp, hcr, hCr⟩ := at_L11 (Kd.C_below HP4.out HB.out) (i : Int) p1 q1
      cases eap
      obtain ⟨ah, Ah, ch, eah, hxh, hch, hCh⟩ := at_L4 (Kd.C_below HR1.out HBW.out) (i : Int) p1 q1
      cases eah
      simp only [Int.toNat_natCast] at hxp hxh
      obtain ⟨x, hx⟩ : ∃ x, hk l1 i = x := ⟨_, rfl⟩
      obtain ⟨g, hg⟩ : ∃ g, gmax x = g := ⟨_, rfl⟩
      obtain ⟨y, hy⟩ : ∃ y, yI l1 a2 i = y := ⟨_, rfl⟩
      have hyw : wrap64 (yTo l1 a2 i + a2) = y := by rw [yW HH.out HST.out.2 i (by omega), ← hy]; unfold yI; rw [if_pos hi]
      have hrow : rd_L11 (rowsT l0 st l1 a2 l1.length) (i : Int) = rowB l0 st g y x.length := by
        rw [rowsT_get _ _ _ _ _ _ hi]
        unfold P.rowAt
        rw [hx, hg, hyw]
      have hhx : rd_L4 l1 (i : Int) = x := hx
      rw [hrow, rowB_length] at hxp hcr hCr
      rw [hhx] at hxh hch hCh
      have hm : x.length ≤ l0.length := by rw [← hx]; exact HH.out.w i hi
      have hnn : ∀ z ∈ x, 0 ≤ z := by rw [← hx]; exact HYtclfimdafmoafaa.out i hi
      have HEX := Aside0.mk (ex_all hnn)
      have hgb : 0 ≤ g ∧ g ≤ 1000000 := by rw [← hg, ← hx]; exact HH.out.bd i hi
      have hyb : 0 ≤ y ∧ y ≤ 20000000 := by
        have h1 := yTo_bd HH.out HST.out.2 i (by omega)
        have h2 := HST.out.2
        have h3 := H12.out
        have : y = yTo l1 a2 i + a2 := by rw [← hyw, yW HH.out HST.out.2 i (by omega)]
        omega
      have HYN : Aside0 (yI l1 a2 (i + 1) = if i + 1 < l1.length then y + g + a2 else y + g) := ⟨by
        split
        · rw [yI_more HH.out HST.out.2 i (by assumption), hy, hx, hg]
        · rw [yI_last HH.out HST.out.2 i (by omega), hy, hx, hg]⟩
      have HROW := Aside0.mk hrow
      have HHX := Aside0.mk hhx
      have HVR : Aside0 (vr x x.length = g) := ⟨by rw [vr_all, hg]⟩
      have HM := Aside0.mk hm
      have HGB := Aside0.mk hgb
      have HYB := Aside0.mk hyb
      have HG := Aside0.mk hg
      have HI := Aside0.mk hi
      have HCR := Aside0.mk hCr
      have HCH := Aside0.mk hCh
      have d2 : decide ((x.length : Int) > (l0.length : Int)) = false := decide_eq_false (by omega)
      have d3 : decide (x.length > l0.length) = false := decide_eq_false (by omega)
      replace p1 := eq_true p1
      replace q1 := eq_true q1
      rw [hy]
      clear hyw hrow hhx hm hnn hgb hyb hCr hCh hi hx hg hy hcr hch
      go_upto_region 14 with (fail)
      repeat (go_quiet (fail); try go_wp2_with (fail))
      go_loopg [15, 16, 17] x.length (fun kr v15 v16 v17 w' => ∃ j : Nat, v15 = .int .i64 (vr x j) ∧ v16 = .bool (ex x j) ∧ v17 = .int .i64 (j : Int) ∧ Aside0 (kr + j = x.length) ∧ Aside0 (Below w4.heap.size w4 w'))
      case atStart => exact ⟨0, rfl, by rw [ex_zero], rfl, ⟨rfl⟩, ⟨by repeat (first | exact HB.out | apply below_alloc | apply pw_below_drewN | apply below_drew1)⟩⟩
      case round =>
        clear HB HBW hxp hxh d2 d3
        obtain ⟨j, rfl, rfl, rfl, HK2, HB⟩ := hrel
        have HBW := Aside0.mk (HB4.out.trans (HB.out.mono HB4.out.size))
        obtain ⟨ap', Ar, cr, eap, hxp, hcr, hCr⟩ := at_L11 (Kd.C_below HP4.out HB.out) (i : Int) (of_eq_true p1) (of_eq_true q1)
        cases eap
        obtain ⟨ah', Ah, ch, eah, hxh, hch, hCh⟩ := at_L4 (Kd.C_below HR1.out HBW.out) (i : Int) (of_eq_true p1) (of_eq_true q1)
        cases eah
        simp only [Int.toNat_natCast] at hxp hxh
        rw [HROW.out, rowB_length] at hxp hcr hCr
        rw [HHX.out] at hxh hch hCh
        cases gk with
        | zero =>
          have hjl : j = x.length := by have := HK2.out; omega
          subst hjl
          have d5 : decide ((x.length : Int) < (x.length : Int)) = false := by simp
          rw [HEX.out, HVR.out]
          have z1 : wrap64 (y + g) = y + g := EvT.w64 (by have := HYB.out; have := HGB.out; omega) (by have := HYB.out; have := HGB.out; omega)
          have z2 : wrap64 (y + g + a2) = y + g + a2 := EvT.w64 (by have := HYB.out; have := HGB.out; have := HST.out.2; omega) (by have := HYB.out; have := HGB.out; have := HST.out.2; omega)
          have e6 : wrap64 ((l1.length : Int) - 1) = (l1.length : Int) - 1 := EvT.w64 (by have := H12.out; omega) (by have := H12.out; omega)
          have e5 : IntKind.i64.wrap ((l1.length : Int) - 1) = (l1.length : Int) - 1 := by rw [i64_w]; exact e6
          have HZ := Aside0.mk (And.intro z1 z2)
          clear z1 z2
          by_cases hlast : i + 1 < l1.length
          · have e7 : decide ((i : Int) < wrap64 ((l1.length : Int) - 1)) = true := by rw [e6]; exact decide_eq_true (by omega)
            have e8 : decide ((i : Int) < IntKind.i64.wrap ((l1.length : Int) - 1)) = true := by rw [e5]; exact decide_eq_true (by omega)
            clear e5 e6
            go_wp2
            go_roundg k1
            case measure => omega
            case rel => exact ⟨i + 1, by rw [HYN.out, if_pos hlast]; simp [i64_w, HZ.out.1, HZ.out.2], by first | rfl | simp [hsum, hsum2], ⟨by have := HK.out; omega⟩, HB⟩
          · have e7 : decide ((i : Int) < wrap64 ((l1.length : Int) - 1)) = false := by rw [e6]; exact decide_eq_false (by omega)
            have e8 : decide ((i : Int) < IntKind.i64.wrap ((l1.length : Int) - 1)) = false := by rw [e5]; exact decide_eq_false (by omega)
            clear e5 e6
            go_wp2
            go_roundg k1
            case measure => omega
            case rel => exact ⟨i + 1, by rw [HYN.out, if_neg hlast]; simp [i64_w, HZ.out.1], by first | rfl | simp [hsum, hsum2], ⟨by have := HK.out; omega⟩, HB⟩
        | succ k2 =>
          have hj : j < x.length := by have := HK2.out; omega
          have pj : 0 ≤ (j : Int) := by omega
          have qj : (j : Int) < (x.length : Int) := by omega
          have qw : (j : Int) < (l0.length : Int) := by have := HM.out; omega
          have d5 : decide ((j : Int) < (x.length : Int)) = true := decide_eq_true qj
          have d6 : decide (j < x.length) = true := decide_eq_true hj
          have hsum3 : IntKind.i64.wrap ((j : Int) + 1) = ((j + 1 : Nat) : Int) := by have := HST.out; have := HM.out; exact IntWalk.i64_in _ (by omega)
          have hsum4 : wrap64 ((j : Int) + 1) = ((j + 1 : Nat) : Int) := by have := HST.out; have := HM.out; unfold wrap64; omega
          obtain ⟨sv, hsv⟩ : ∃ v, rd st (j : Int) = v := ⟨_, rfl⟩
          obtain ⟨wv, hwv⟩ : ∃ v, rd l0 (j : Int) = v := ⟨_, rfl⟩
          obtain ⟨hv, hhv⟩ : ∃ v, rd x (j : Int) = v := ⟨_, rfl⟩
          obtain ⟨ar, A6, c6, ear, b0, b1, b2, b3, b4, b5, b6, b7⟩ := at_T50 hCr (j : Int) pj qj
          rw [rowB_get _ _ _ _ _ _ hj] at b0 b1 b2 b3 b4 b5 b6
          simp only [pcBox, hsv, hwv, Int.toNat_natCast] at b0 b1 b2 b3 b4 b5 b6
          cases ear
          replace pj := eq_true pj
          replace qj := eq_true qj
          replace qw := eq_true qw
          have HCR := Aside0.mk hCr
          have HCH := Aside0.mk hCh
          clear b7 hcr hch hCr hCh
          go_upto_region 21 with (first | ((with_reducible refine gate_dst (N := 18) rfl ?_); refine box_event ?hg (N := 18) ?hd (cs := #[.int .i64 0, .int .i64 0, .int .i64 0, .int .i64 0, .int .i64 0, .bool false, .slice none 0 0]) (t := 50) ?hr ?_; (case hd => rfl); (case hg => rfl); (case hr => first | (go_simp; done) | (go_simp; rfl)); intro gb hg w48 hbox hb; have HBK := Aside0.mk hbox; have HBB := Aside0.mk hb; have HGE := Aside0.mk hg; clear hb hg; have hcz0 : w48.cell? ⟨gb, 0, none⟩ = some (.int .i64 0) := (blk_cell HBK.out 0).trans rfl; have hfz0 := blk_frozen HBK.out 0; have hcz1 : w48.cell? ⟨gb, 1, none⟩ = some (.int .i64 0) := (blk_cell HBK.out 1).trans rfl; have hfz1 := blk_frozen HBK.out 1; have hcz2 : w48.cell? ⟨gb, 2, none⟩ = some (.int .i64 0) := (blk_cell HBK.out 2).trans rfl; have hfz2 := blk_frozen HBK.out 2; have hcz3 : w48.cell? ⟨gb, 3, none⟩ = some (.int .i64 0) := (blk_cell HBK.out 3).trans rfl; have hfz3 := blk_frozen HBK.out 3; have hcz4 : w48.cell? ⟨gb, 4, none⟩ = some (.int .i64 0) := (blk_cell HBK.out 4).trans rfl; have hfz4 := blk_frozen HBK.out 4; have hcz5 : w48.cell? ⟨gb, 5, none⟩ = some (.bool false) := (blk_cell HBK.out 5).trans rfl; have hfz5 := blk_frozen HBK.out 5; have hcz6 : w48.cell? ⟨gb, 6, none⟩ = some (.slice none 0 0) := (blk_cell HBK.out 6).trans rfl; have hfz6 := blk_frozen HBK.out 6))
          obtain ⟨W, hW⟩ : ∃ W, ((((((w48.setCell ⟨gb, 0, none⟩ (.int .i64 0)).setCell ⟨gb, 1, none⟩ (.int .i64 sv)).setCell ⟨gb, 2, none⟩ (.int .i64 y)).setCell ⟨gb, 3, none⟩ (.int .i64 wv)).setCell ⟨gb, 4, none⟩ (.int .i64 g)).setCell ⟨gb, 5, none⟩ (.bool false)).setCell ⟨gb, 6, none⟩ (.slice A6 0 c6) = W := ⟨_, rfl⟩
          rw [hW]
          have BX : Aside0 (W.heap[gb]? = some (.cells #[.int .i64 0, .int .i64 sv, .int .i64 y, .int .i64 wv, .int .i64 g, .bool false, .slice A6 0 c6] 50 (0, 0))) := ⟨by rw [← hW]; refine blk_put (cs := #[.int .i64 0, .int .i64 sv, .int .i64 y, .int .i64 wv, .int .i64 g, .bool false, .slice none 0 0]) ?_ 6 _ rfl; refine blk_put (cs := #[.int .i64 0, .int .i64 sv, .int .i64 y, .int .i64 wv, .int .i64 g, .bool false, .slice none 0 0]) ?_ 5 _ rfl; refine blk_put (cs := #[.int .i64 0, .int .i64 sv, .int .i64 y, .int .i64 wv, .int .i64 0, .bool false, .slice none 0 0]) ?_ 4 _ rfl; refine blk_put (cs := #[.int .i64 0, .int .i64 sv, .int .i64 y, .int .i64 0, .int .i64 0, .bool false, .slice none 0 0]) ?_ 3 _ rfl; refine blk_put (cs := #[.int .i64 0, .int .i64 sv, .int .i64 0, .int .i64 0, .int .i64 0, .bool false, .slice none 0 0]) ?_ 2 _ rfl; refine blk_put (cs := #[.int .i64 0, .int .i64 0, .int .i64 0, .int .i64 0, .int .i64 0, .bool false, .slice none 0 0]) ?_ 1 _ rfl; refine blk_put (cs := #[.int .i64 0, .int .i64 0, .int .i64 0, .int .i64 0, .int .i64 0, .bool false, .slice none 0 0]) ?_ 0 _ rfl; exact HBK.out⟩
          have hge : w4.heap.size ≤ gb := by rw [HGE.out]; exact HB.out.size
          have BL : Aside0 (Below w4.heap.size w4 W) := ⟨by rw [← hW]; exact below_set (below_set (below_set (below_set (below_set (below_set (below_set (HB.out.trans (HBB.out.mono HB.out.size)) hge) hge) hge) hge) hge) hge) hge⟩
          clear hW hge hxp hxh b0 b1 b2 b3 b4 b5 b6 hcz0 hcz1 hcz2 hcz3 hcz4 hcz5 hcz6 hfz0 hfz1 hfz2 hfz3 hfz4 hfz5 hfz6
          clear HBK HBB HGE HCR HCH
          have BLW := Aside0.mk (HB4.out.trans (BL.out.mono HB4.out.size))
          have x1 : W.cell? ⟨gb, 1, none⟩ = some (.int .i64 sv) := (blk_cell BX.out 1).trans rfl
          have x2 : W.cell? ⟨gb, 2, none⟩ = some (.int .i64 y) := (blk_cell BX.out 2).trans rfl
          have x3 : W.cell? ⟨gb, 3, none⟩ = some (.int .i64 wv) := (blk_cell BX.out 3).trans rfl
          have x4 : W.cell? ⟨gb, 4, none⟩ = some (.int .i64 g) := (blk_cell BX.out 4).trans rfl
          obtain ⟨ast, eas, hs0⟩ := Kd.at_int (Kd.C_below HS4.out BL.out) (j : Int) (of_eq_true pj) (of_eq_true qw)
          obtain ⟨aw, eaw, hw0⟩ := Kd.at_int (Kd.C_below HR0.out BLW.out) (j : Int) (of_eq_true pj) (of_eq_true qw)
          obtain ⟨ap2, Ar2, cr2, eap2, hxp, hcr2, hCr2⟩ := at_L11 (Kd.C_below HP4.out BL.out) (i : Int) (of_eq_true p1) (of_eq_true q1)
          obtain ⟨ah2, Ah2, ch2, eah2, hxh, hch2, hCh2⟩ := at_L4 (Kd.C_below HR1.out BLW.out) (i : Int) (of_eq_true p1) (of_eq_true q1)
          cases eas
          cases eaw
          cases eap2
          cases eah2
          simp only [Int.toNat_natCast] at hxp hxh hs0 hw0
          rw [HROW.out, rowB_length] at hxp hcr2 hCr2
          rw [HHX.out] at hxh hch2 hCh2
          rw [hsv] at hs0
          rw [hwv] at hw0
          obtain ⟨ah3, eah3, hh0⟩ := Kd.at_int hCh2 (j : Int) (of_eq_true pj) (of_eq_true qj)
          cases eah3
          rw [hhv] at hh0
          simp only [Int.toNat_natCast] at hh0
          have hx0 : 0 < x.length := by omega
          obtain ⟨ar3, A63, c63, ear3, _, _, _, _, y4, _, _, _⟩ := at_T50 hCr2 ((0 : Nat) : Int) (by omega) (by omega)
          cases ear3
          rw [rowB_get _ _ _ _ _ _ hx0] at y4
          simp only [pcBox, Int.toNat_natCast, Nat.zero_mul] at y4
          have y5 : W.cell? ⟨ar3.block, ar3.off + 4, none⟩ = some (.int .i64 g) := y4
          have y6 : W.cell? ⟨ar3.block, ar3.off + 0 + 4, none⟩ = some (.int .i64 g) := y4
          have y7 : W.cell? ⟨(ar3.add 0).block, (ar3.add 0).off + 4, none⟩ = some (.int .i64 g) := y4
          have q0 : decide ((0 : Int) < (x.length : Int)) = true := decide_eq_true (by omega)
          have q00 : ((0 : Int) < (x.length : Int)) = True := eq_true (by omega)
          have q01 : (0 < x.length) = True := eq_true hx0
          have q02 : decide (0 < x.length) = true := decide_eq_true hx0
          have q03 : (x = []) = False := eq_false (fun e => by rw [e] at hx0; exact absurd hx0 (by decide))
          have hle : hv ≤ g := by
            rw [← hhv, ← HG.out]
            refine (gmax_ge x 0).2 _ ?_
            simp [rd, List.getD_eq_getElem?_getD, List.getElem?_eq_getElem hj]
          have t1 : decide (g < hv) = false := decide_eq_false (by omega)
          have HE := Aside0.mk (ex_succ x j hj)
          rw [HG.out, hhv] at HE
          clear hcr2 hCr2 hch2 hCh2 hsv hwv hhv hx0 hle hj BLW
          cases hE : ex x j
          · skip
            repeat (go_quiet (fail); try go_wp2_with (fail))
            go_roundg k2
            case measure => omega
            case rel => exact ⟨j + 1, by unfold vr; rw [if_neg (by omega), HG.out], by rw [HE.out, hE]; first | rfl | simp, by first | rfl | simp [hsum3, hsum4], ⟨by have := HK2.out; omega⟩, ⟨by repeat (first | exact BL.out | apply below_alloc | apply pw_below_drewN | apply below_drew1)⟩⟩
          · skip
            repeat (go_quiet (fail); try go_wp2_with (fail))
            go_roundg k2
            case measure => omega
            case rel => exact ⟨j + 1, by unfold vr; rw [if_neg (by omega), HG.out], by rw [HE.out, hE]; first | rfl | simp, by first | rfl | simp [hsum3, hsum4], ⟨by have := HK2.out; omega⟩, ⟨by repeat (first | exact BL.out | apply below_alloc | apply pw_below_drewN | apply below_drew1)⟩⟩
end Go.Proofs.Ytclfimdafmoafaa.PureC
