/- For any items, if the gaps fit into the space: each item is within it, one over all columns is as wide as it, and two neighbours in a row have the gap between them (up to 100 items). Conditions: those of the statement alone. -/
import Derived.Test.YtciheadencbmjaaPx13
import Derived.Test.YtciheadencbmjaaHPure4
set_option linter.unusedVariables false
set_option linter.unusedSimpArgs false
namespace Go.Proofs.Ytciheadencbmjaa.Pure
open Go.RowKit Go.Proofs.Ytciheadencbmjaa.P Go.Proofs.YtciheadencbmjaaW.PrintWords Go.Proofs.YtciheadencbmjaaW.PrintLast
/-- What is known of box i: it begins at column c and is m columns wide. -/
theorem box_at {cols : Int} {l hs : List Int} {space gap : Int} {ws ss : List Int} {N : Nat} (hN : cols = (N : Int)) (h : checkE cols l = 0) (hg : GoodP space gap) (C : Cols N space gap ws ss) (hsp : gap * ((N : Int) - 1) ≤ space) (i : Nat) (hi : i < l.length) :
    ∃ c m : Nat, (cellAt cols l i).f1 = (c : Int) ∧ mn (rd l (i : Int)) cols = (m : Int) ∧ 1 ≤ m ∧ c + m ≤ N ∧
      (rd_T43 (boxesL cols l hs ws ss gap) (i : Int)).f1 = sumW ws c + gap * (c : Int) ∧
      (rd_T43 (boxesL cols l hs ws ss gap) (i : Int)).f3 = sumW ws (c + m) - sumW ws c + gap * (m : Int) - gap ∧
      0 ≤ sumW ws c ∧ sumW ws c ≤ sumW ws (c + m) ∧ sumW ws (c + m) ≤ sumW ws N ∧ sumW ws N = space - (gap * (N : Int) - gap) ∧
      0 ≤ gap * (c : Int) ∧ gap ≤ gap * (m : Int) ∧ gap * (c : Int) + gap * (m : Int) ≤ gap * (N : Int) ∧ gap * (N : Int) ≤ 6400000 ∧ (m = N → c = 0) := by
  obtain ⟨hn, hc, hl⟩ := checkE_zero h
  have hb := cell_bd hc hl i hi
  obtain ⟨c, hcc⟩ : ∃ c : Nat, (cellAt cols l i).f1 = (c : Int) := ⟨((cellAt cols l i).f1).toNat, by omega⟩
  obtain ⟨m, hm⟩ : ∃ m : Nat, mn (rd l (i : Int)) cols = (m : Int) := ⟨(mn (rd l (i : Int)) cols).toNat, by omega⟩
  rw [hcc, hm] at hb
  have hNb : 1 ≤ N ∧ N ≤ 64 := by omega
  have hcm : c + m ≤ N := by omega
  have hbox := rd_box cols l hs ws ss gap i hi
  have hat := C.at_ c (by omega)
  have hspan := span_at C hg hNb (a := c) (m := m) (by omega) hcm
  have hs1 := sumW_bd C hg hNb.1 (i := c) (by omega)
  have hs2 := sumW_bd C hg hNb.1 (i := c + m) hcm
  have hmono : sumW ws c ≤ sumW ws (c + m) := sumTo_mono (n := c + m) (fun k hk => C.pos k (by omega)) c (by omega)
  have hgc := gap_mul hg.2 (i := c) (by omega)
  have hgN := gap_mul hg.2 (i := N) (by omega)
  have hgm : gap ≤ gap * (m : Int) := by
    have := Int.mul_le_mul_of_nonneg_left (show (1 : Int) ≤ (m : Int) by omega) hg.2.1
    omega
  have hgcm : gap * (c : Int) + gap * (m : Int) ≤ gap * (N : Int) := by
    rw [← Int.mul_add]
    exact Int.mul_le_mul_of_nonneg_left (by omega) hg.2.1
  have hm1 : gap * ((m : Int) - 1) = gap * (m : Int) - gap := by rw [Int.mul_sub, Int.mul_one]
  have hN1 : gap * ((N : Int) - 1) = gap * (N : Int) - gap := by rw [Int.mul_sub, Int.mul_one]
  have hsum := C.sum
  rw [hN1] at hsum hsp
  have hmx : mx 0 (space - (gap * (N : Int) - gap)) = space - (gap * (N : Int) - gap) := by unfold mx; split <;> omega
  rw [hmx] at hsum
  rw [hcc, hm] at hbox
  refine ⟨c, m, hcc, hm, by omega, hcm, ?_, ?_, hs1.1, hmono, hs2.2.1, hsum, hgc.1, hgm, hgcm, hgN.2, by omega⟩
  · rw [hbox]
    dsimp only
    by_cases h0 : (cellAt cols l i).f0 = 0 ∧ (c : Int) = 0
    · rw [if_pos h0]
      have : c = 0 := by omega
      subst this
      simp [sumW, sumTo]
    · rw [if_neg h0, hat]
  · rw [hbox]
    dsimp only
    rw [hspan, hm1]
    omega
attribute [local irreducible] sumW boxesL cellsL cellAt walkL
theorem sumW_zero (ws : List Int) : sumW ws 0 = 0 := by unfold sumW; rfl
theorem space1 {cols : Int} {l hs : List Int} {space gap : Int} {ws ss : List Int} {N : Nat} (hN : cols = (N : Int)) (h : checkE cols l = 0) (hg : GoodP space gap) (C : Cols N space gap ws ss) (hsp : gap * ((N : Int) - 1) ≤ space) : ∀ (d i : Nat) (q : Bool), i + d = l.length → q = true →
    Ev (fun k => formelaw24_GridSpace.l0 k cols l space gap q (boxesL cols l hs ws ss gap) (cellsL cols l) (boxesL cols l hs ws ss gap) (((boxesL cols l hs ws ss gap).length : Nat) : Int) (i : Int)) true
  | 0, i, q, hi, hq => Ev.step (fun k => rfl) (EvT.ifn (by rw [boxesL_length]; omega) (by rw [hq]; exact Ev.now _))
  | d + 1, i, q, hi, hq => by
    have hil : i < l.length := by omega
    have k0 : 0 ≤ (i : Int) := by omega
    have k1 : (i : Int) < (((boxesL cols l hs ws ss gap).length : Nat) : Int) := by rw [boxesL_length]; omega
    have k2 : (i : Int) < (((cellsL cols l).length : Nat) : Int) := by rw [cellsL_length]; omega
    have k3 : (i : Int) < (l.length : Int) := by omega
    have kj : ∀ j, i = j + 1 → (0 ≤ (j : Int) ∧ (j : Int) < (((boxesL cols l hs ws ss gap).length : Nat) : Int) ∧ (j : Int) < (((cellsL cols l).length : Nat) : Int) ∧ (i : Int) > 0) := fun j hj => by
      rw [boxesL_length, cellsL_length]; omega
    obtain ⟨hn, hc, hl⟩ := checkE_zero h
    have ih := fun q hq => space1 (hs := hs) hN h hg C hsp d (i + 1) q (by omega) hq
    have hw := w_succ i l.length hil (by omega)
    rw [← hw] at ih
    clear hw
    obtain ⟨c, m, e1, e2, b1, b2, f1, f3, s1, s2, s3, s4, g1, g2, g3, g4, hmN⟩ := box_at (hs := hs) hN h hg C hsp i hil
    have hgg := hg.2
    have hss := hg.1
    have hf3 : ¬ rd l (i : Int) < cols → (rd_T43 (boxesL cols l hs ws ss gap) (i : Int)).f3 = space := fun hge => by
      have hmn : mn (rd l (i : Int)) cols = cols := by clear ih f1 f3 s1 s2 s3 s4 e1; unfold mn; split <;> omega
      have hmN' : m = N := by clear ih f1 f3 s1 s2 s3 s4 e1; omega
      have hc0 := hmN hmN'
      have hz := sumW_zero ws
      rw [f3, hc0, hmN', Nat.zero_add]
      clear ih f1 f3 e1 e2
      omega
    have a1 : (rd_T43 (boxesL cols l hs ws ss gap) (i : Int)).f1 ≥ 0 := by rw [f1]; clear ih hf3 f1 f3 e1 e2; omega
    have a2 : (rd_T43 (boxesL cols l hs ws ss gap) (i : Int)).f3 ≥ 0 := by rw [f3]; clear ih hf3 f1 f3 e1 e2; omega
    have a3 : wrap64 ((rd_T43 (boxesL cols l hs ws ss gap) (i : Int)).f1 + (rd_T43 (boxesL cols l hs ws ss gap) (i : Int)).f3) ≤ space := by
      rw [f1, f3]
      clear ih hf3 a1 a2 f1 f3 e1 e2
      rw [EvT.w64 (by omega) (by omega)]
      omega
    refine Ev.step (fun k => rfl) (EvT.ifp k1 (EvT.ifp k0 (EvT.ifp k1 (EvT.ifp hq (EvT.ifp a1 (EvT.ifp a2 (EvT.ifp a3 (EvT.ifp k3 ?_))))))))
    cases i with
    | zero =>
      refine EvT.ite (fun hlt => EvT.ifn (Int.lt_irrefl 0) (ih _ rfl)) (fun hge => EvT.ifn (Int.lt_irrefl 0) (ih _ ?_))
      rw [hf3 hge]; simp
    | succ j =>
      obtain ⟨j0, j1, j2, j3⟩ := kj j rfl
      have hw1 : wrap64 (((j + 1 : Nat) : Int) - 1) = (j : Int) := by clear ih hf3 a1 a2 a3 f1 f3 e1 e2 s1 s2 s3 s4 g1 g2 g3 g4; rw [EvT.w64 (by omega) (by omega)]; omega
      have hsame : (cellAt cols l (j + 1)).f0 = (cellAt cols l j).f0 → ((rd_T43 (boxesL cols l hs ws ss gap) ((j + 1 : Nat) : Int)).f1 == wrap64 (wrap64 ((rd_T43 (boxesL cols l hs ws ss gap) (j : Int)).f1 + (rd_T43 (boxesL cols l hs ws ss gap) (j : Int)).f3) + gap)) = true := fun hr => by
        obtain ⟨c', m', e1', e2', b1', b2', f1', f3', s1', s2', s3', s4', g1', g2', g3', g4', hmN'⟩ := box_at (hs := hs) hN h hg C hsp j (Nat.lt_of_succ_lt hil)
        have hcs := cell_succ cols l j hil
        clear ih hf3 a1 a2 a3 hw1 j0 j1 j2 j3 k0 k1 k2 k3 kj
        unfold nextC at hcs
        split at hcs
        · rw [hcs] at hr
          have hr' : (cellAt cols l j).f0 + 1 = (cellAt cols l j).f0 := hr
          clear f1 f3 f1' f3' e1 e2 e1' e2'
          omega
        · rw [hcs] at e1
          have e1'' : (cellAt cols l j).f1 + mn (rd l (j : Int)) cols = (c : Int) := e1
          rw [e1', e2'] at e1''
          have hcc : c = c' + m' := by clear f1 f3 f1' f3' e1 e2 e1' e2' hcs hr; omega
          rw [f1', f3', f1, hcc]
          have hgm : gap * ((c' + m' : Nat) : Int) = gap * (c' : Int) + gap * (m' : Int) := by rw [← Int.mul_add]; congr 1
          rw [hgm]
          clear f1 f3 f1' f3' e1 e2 e1' e2' hcs hr e1''
          rw [EvT.w64 (x := sumW ws c' + gap * (c' : Int) + _) (by omega) (by omega), EvT.w64 (by omega) (by omega), beq_iff_eq]
          omega
      rw [hw1, rd_cell, rd_cell]
      clear a1 a2 a3 f1 f3 e1 e2 s1 s2 s3 s4 g1 g2 g3 g4 hw1
      refine EvT.ite (fun hlt => ?_) (fun hge => ?_)
      · exact EvT.ifp j3 (EvT.ifp k2 (EvT.ifp j0 (EvT.ifp j2 (EvT.ite (fun hr => EvT.ifp j1 (ih _ (hsame hr))) (fun hr => ih _ rfl)))))
      · exact EvT.ifp j3 (EvT.ifp k2 (EvT.ifp j0 (EvT.ifp j2 (EvT.ite (fun hr => EvT.ifp (hf3 hge) (EvT.ifp j1 (ih _ (hsame hr)))) (fun hr => ih _ (by rw [hf3 hge]; simp))))))
theorem zeros_bad (n : Nat) : (List.replicate n (0 : Int)).any badH = false := by
  rw [List.any_eq_false]
  intro x hx
  rw [List.eq_of_mem_replicate hx]
  decide
theorem space0 {cols : Int} {l : List Int} {space gap : Int} (h : checkE cols l = 0) (hn : l.length ≤ 100) (hg : GoodP space gap) (hsp : (cols - 1) * gap ≤ space) (q : Bool) (hq : q = false) : Ev (fun k => formelaw24_GridSpace.j0 k cols l space gap true q) true := by
  obtain ⟨hn2, hc, hl⟩ := checkE_zero h
  obtain ⟨N, hN⟩ : ∃ N : Nat, cols = (N : Int) := ⟨cols.toNat, by omega⟩
  have hcn : cols.toNat = N := by omega
  obtain ⟨ws, ss, C⟩ := cols_facts (n := N) (by omega) hg
  have C' : Cols cols.toNat space gap ws ss := by rw [hcn]; exact C
  have hb := zeros_bad l.length
  have hp := place_ok h C' (hs := List.replicate l.length 0) List.length_replicate hb (endL_small h hn hg.2 hb)
  refine Ev.step (fun k => rfl) (EvT.ifn (by rw [hq]; decide) (EvT.ifp (by omega) (EvT.ifp (by omega) (EvT.bindc (by rw [Int.toNat_natCast]; exact hp) (EvT.bindc (by unfold grid_Cells.f; rw [if_pos h]) (EvT.ifp rfl (EvT.ifp rfl (EvT.ifp (by rw [boxesL_length]) (EvT.ifp (by rw [cellsL_length]) ?_)))))))))
  exact space1 hN h hg C (by rw [← hN, Int.mul_comm]; exact hsp) l.length 0 true (by omega) rfl
theorem GridSpace : formelaw24_GridSpace.Pure := by
  intro a0 l1 a2 a3 _ _ _ _ _ _
  suffices h : Ev (fun k => formelaw24_GridSpace.f k a0 l1 a2 a3) true from let ⟨k, hk⟩ := h; ⟨k, hk k (Nat.le_refl _)⟩
  have hT : ∀ q, q = true → Ev (fun k => formelaw24_GridSpace.j0 k a0 l1 a2 a3 true q) true := fun q hq => Ev.step (fun k => rfl) (EvT.ifp hq (Ev.now _))
  unfold formelaw24_GridSpace.f
  refine Ev.bind head_ev (EvT.ifp rfl (Ev.bind (usable_ev a0 l1) ?_))
  by_cases hu : usableB a0 l1 = true
  · obtain ⟨hlen, hck⟩ := usable_true hu
    obtain ⟨_, hc, _⟩ := checkE_zero hck
    rw [hu]
    refine EvT.ifp rfl (EvT.ite (fun _ => hT _ rfl) (fun h1 => EvT.ite (fun _ => hT _ rfl) (fun h2 => EvT.ite (fun _ => hT _ rfl) (fun h3 => EvT.ite (fun _ => hT _ rfl) (fun h4 => ?_)))))
    have hm : 0 ≤ (a0 - 1) * a3 ∧ (a0 - 1) * a3 ≤ 6300000 := by
      refine ⟨Int.mul_nonneg (by omega) (by omega), ?_⟩
      have := Int.mul_le_mul (show a0 - 1 ≤ 63 by omega) (show a3 ≤ 100000 by omega) (by omega) (by omega)
      omega
    rw [EvT.w64 (x := a0 - 1) (by omega) (by omega), EvT.w64 (by omega) (by omega)]
    by_cases hs : (a0 - 1) * a3 > a2
    · exact hT _ (decide_eq_true hs)
    · exact space0 hck hlen ⟨by omega, by omega⟩ (by omega) _ (decide_eq_false hs)
  · rw [Bool.not_eq_true] at hu
    rw [hu]
    exact EvT.ifn (by decide) (hT _ rfl)
end Go.Proofs.Ytciheadencbmjaa.Pure
