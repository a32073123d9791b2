import Derived.Test.YtclfimdafmoafaaHTabQ
import Derived.Test.YtclfimdafmoafaaPx6
set_option linter.unusedVariables false
set_option linter.unusedSimpArgs false
namespace Go.Proofs.Ytclfimdafmoafaa.Pure
open Go.RowKit Go.Proofs.Ytclfimdafmoafaa.P Go.Proofs.YtclfimdafmoafaaW.PrintWords Go.Proofs.YtclfimdafmoafaaW.PrintLast Go.Proofs.YtclfimdafmoafaaW.PrintMore
theorem len_eq (a : Int) : formeref26_length.f a = some (inside a 0 1000000) := by
  unfold formeref26_length.f inside
  by_cases h1 : a ≥ 0 <;> by_cases h2 : a ≤ 1000000 <;> simp [h1, h2] <;> omega
theorem rw_wrong (l : List S29) (hl : l.length ≤ 64) (a1 a2 : Int) : ∀ (d i : Nat) (x9 x10 : Int), i + d = l.length → (l.drop i).any wrongR = true →
    Ev (fun k => formeref26_Widths.l0 k l a1 a2 x9 x10 (i : Int)) ([], 1)
  | 0, i, x9, x10, e, h => by
    rw [List.drop_eq_nil_of_le (by omega)] at h
    cases h
  | d + 1, i, x9, x10, e, h => by
    have hi : i < l.length := by omega
    have hrd : rd_T29 l (i : Int) = l[i] := by simp [rd_T29, List.getD_eq_getElem?_getD, List.getElem?_eq_getElem hi]
    rw [List.drop_eq_getElem_cons hi, List.any_cons] at h
    refine EvT.succ (fun k => rfl) (EvT.ifp (by omega) (EvT.ifp (by omega) (EvT.bindc (need_f _) ?_)))
    rw [hrd]
    cases hw : wrongR l[i]
    · rw [hw, Bool.false_or] at h
      refine EvT.ifp rfl ?_
      rw [w1 i (by omega)]
      exact rw_wrong l hl a1 a2 d (i + 1) _ _ (by omega) h
    · exact EvT.ifn (by decide) (EvT.now rfl)
theorem rw_right (l : List S29) (ok : OkN l) (hno : l.any wrongR = false) (a1 a2 : Int) (r : List Int × Int)
    (hend : Ev (fun k => formeref26_Widths.l0 k l a1 a2 (loTo l l.length) (loTo l l.length + spTo l l.length) (l.length : Int)) r) : ∀ (d i : Nat), i + d = l.length →
    Ev (fun k => formeref26_Widths.l0 k l a1 a2 (loTo l i) (loTo l i + spTo l i) (i : Int)) r
  | 0, i, e => by
    obtain rfl : i = l.length := by omega
    exact hend
  | d + 1, i, e => by
    have hi : i < l.length := by omega
    have n64 := ok.n64
    have b := ok.bd i hi
    have lb := loTo_bd ok i (by omega)
    have sb := spTo_bd ok i (by omega)
    have hw : wrongR (tkr l i) = false := by
      have := List.any_eq_false.1 hno _ (tkr_mem l i hi)
      simpa using this
    have IH := rw_right l ok hno a1 a2 r hend d (i + 1) (by omega)
    refine EvT.succ (fun k => rfl) (EvT.ifp (by omega) (EvT.ifp (by omega) (EvT.bindc (need_f _) ?_)))
    rw [show rd_T29 l (i : Int) = tkr l i from rfl, hw]
    refine EvT.ifp rfl ?_
    rw [w1 i (by omega), EvT.w64 (x := loTo l i + (tkr l i).f0) (by omega) (by omega), EvT.w64 (x := loTo l i + spTo l i + (tkr l i).f1) (by omega) (by omega)]
    have e1 : loTo l i + (tkr l i).f0 = loTo l (i + 1) := rfl
    have e2 : loTo l i + spTo l i + (tkr l i).f1 = loTo l (i + 1) + spTo l (i + 1) := by simp only [loTo, spTo]; omega
    rw [e1, e2]
    exact IH
theorem mul_bd {P s : Int} (hP : 0 ≤ P ∧ P ≤ 1000000) (hs : 0 ≤ s ∧ s ≤ 64000000) : 0 ≤ P * s ∧ P * s ≤ 64000000000000 := by
  refine ⟨Int.mul_nonneg hP.1 hs.1, ?_⟩
  have h := Int.mul_le_mul hP.2 hs.2 hs.1 (by omega)
  omega
theorem rw_rows (l : List S29) (ok : OkN l) (room : Int) (w : Nat → Int) (hr : loTo l l.length ≤ room ∧ room ≤ 1000000)
    (hw : ∀ i, w i = (tkr l i).f0 + (pre l (mn (room - loTo l l.length) (spTo l l.length)) (i + 1) - pre l (mn (room - loTo l l.length) (spTo l l.length)) i)) : ∀ (d i : Nat), i + d = l.length →
    Ev (fun k => formeref26_Widths.l1 k l (loTo l l.length) (loTo l l.length + spTo l l.length) room (tabW i w) (spTo l i) (i : Int)) (tabW l.length w, 0)
  | 0, i, e => by
    obtain rfl : i = l.length := by omega
    exact EvT.succ (fun k => rfl) (EvT.ifn (by omega) (EvT.now rfl))
  | d + 1, i, e => by
    have hi : i < l.length := by omega
    have n64 := ok.n64
    have b := ok.bd i hi
    have lb := loTo_bd ok l.length (Nat.le_refl _)
    have sb := spTo_bd ok i (by omega)
    have sb' := spTo_bd ok (i + 1) (by omega)
    have sl := spTo_bd ok l.length (Nat.le_refl _)
    have IH := rw_rows l ok room w hr hw d (i + 1) (by omega)
    rw [tabW_succ] at IH
    have hwi := hw i
    have es : spTo l i + ((tkr l i).f1 - (tkr l i).f0) = spTo l (i + 1) := by simp only [spTo]; omega
    refine EvT.succ (fun k => rfl) (EvT.ifp (by omega) (EvT.ifp (by omega) ?_))
    rw [show rd_T29 l (i : Int) = tkr l i from rfl, w1 i (by omega), EvT.w64 (x := (tkr l i).f1 - (tkr l i).f0) (by omega) (by omega), EvT.w64 (x := spTo l i + ((tkr l i).f1 - (tkr l i).f0)) (by omega) (by omega), es]
    refine EvT.ite (fun h => EvT.ifp (by rw [tabW_length]; omega) ?_) (fun h => ?_)
    · have hm : mn (room - loTo l l.length) (spTo l l.length) = spTo l l.length := by unfold mn; split <;> omega
      rw [hm, pre_full ok _ (by omega), pre_full ok _ (by omega)] at hwi
      rw [show (tkr l i).f1 = w i by omega]
      exact IH
    · have hm : mn (room - loTo l l.length) (spTo l l.length) = room - loTo l l.length := by unfold mn; split <;> omega
      rw [hm] at hwi
      have hA : 0 < spTo l l.length := by omega
      have m1 := mul_bd (P := room - loTo l l.length) (s := spTo l i) (by omega) (by omega)
      have m2 := mul_bd (P := room - loTo l l.length) (s := spTo l (i + 1)) (by omega) (by omega)
      have p1 := pre_bd ok (P := room - loTo l l.length) (by omega) i (by omega)
      have p2 := pre_bd ok (P := room - loTo l l.length) (by omega) (i + 1) (by omega)
      have q1 : Int.tdiv ((room - loTo l l.length) * spTo l i) (spTo l l.length) = pre l (room - loTo l l.length) i := by unfold pre; rw [if_pos hA]
      have q2 : Int.tdiv ((room - loTo l l.length) * spTo l (i + 1)) (spTo l l.length) = pre l (room - loTo l l.length) (i + 1) := by unfold pre; rw [if_pos hA]
      have hd : wrap64 (loTo l l.length + spTo l l.length - loTo l l.length) = spTo l l.length := by rw [EvT.w64 (by omega) (by omega)]; omega
      rw [hd, EvT.w64 (x := room - loTo l l.length) (by omega) (by omega), EvT.w64 (x := (room - loTo l l.length) * spTo l i) (by omega) (by omega), EvT.w64 (x := (room - loTo l l.length) * spTo l (i + 1)) (by omega) (by omega), q1, q2,
        EvT.w64 (x := pre l (room - loTo l l.length) i) (by omega) (by omega), EvT.w64 (x := pre l (room - loTo l l.length) (i + 1)) (by omega) (by omega), EvT.w64 (x := (tkr l i).f0 + pre l (room - loTo l l.length) (i + 1)) (by omega) (by omega), EvT.w64 (x := (tkr l i).f0 + pre l (room - loTo l l.length) (i + 1) - pre l (room - loTo l l.length) i) (by omega) (by omega)]
      refine EvT.ifn (by omega) (EvT.ifp (by rw [tabW_length]; omega) ?_)
      rw [show (tkr l i).f0 + pre l (room - loTo l l.length) (i + 1) - pre l (room - loTo l l.length) i = w i by omega]
      exact IH
/-- What Widths gives. -/
def widthsR (l : List S29) (a1 a2 : Int) : List Int × Int := if okW l a1 a2 = true then (if restR l a1 a2 < 0 then ([], 22) else (tabW l.length (widR l a1 a2), 0)) else ([], 1)
theorem widths_f (l : List S29) (a1 a2 : Int) : table_Widths.f l a1 a2 = some (widthsR l a1 a2) := by
  unfold table_Widths.f widthsR
  split
  · split <;> rfl
  · rfl
/-- The reference's Widths gives the same. -/
theorem widths_same (l : List S29) (a1 a2 : Int) : Ev (fun k => formeref26_Widths.f k l a1 a2) (widthsR l a1 a2) := by
  have bad : okW l a1 a2 = false → Ev (fun k => formeref26_Widths.j0 k l a1 a2 true) (widthsR l a1 a2) := fun h => by
    unfold widthsR
    rw [h]
    exact EvT.lit (g := fun k c => formeref26_Widths.j0 k l a1 a2 c) true (fun c hc => EvT.succ (fun k => rfl) (EvT.ifp hc (EvT.now rfl)))
  refine EvT.bindc (len_eq a1) ?_
  cases h1 : inside a1 0 1000000
  · exact EvT.ifn (by decide) (bad (by simp [okW, h1]))
  · refine EvT.ifp rfl (EvT.ite (fun h => bad (by simp [okW, inside]; omega)) (fun h2 => EvT.ite (fun h => bad (by simp [okW, inside]; omega)) (fun h3 => EvT.ite (fun h => bad (by simp [okW, inside]; omega)) (fun h4 => ?_))))
    by_cases h5 : (l.length : Int) > 64
    · rw [decide_eq_true h5]
      exact bad (by simp [okW, inside]; omega)
    · refine EvT.lit (g := fun k c => formeref26_Widths.j0 k l a1 a2 c) (decide ((l.length : Int) > 64)) (fun c hc => EvT.succ (fun k => rfl) (EvT.ifn (by rw [hc, decide_eq_false h5]; decide) ?_))
      cases hno : l.any wrongR
      · have hok : okW l a1 a2 = true := by
          have i1 : inside (l.length : Int) 1 64 = true := by simp [inside]; omega
          have i2 : inside a2 0 100000 = true := by simp [inside]; omega
          simp [okW, i1, i2, h1, hno]
        obtain ⟨ok, b1, b2⟩ := OkN.of hok
        have n1 := ok.n1
        have n64 := ok.n64
        have rb := restR_bd ok b1 b2
        have lb := loTo_bd ok l.length (Nat.le_refl _)
        have hg : wrap64 (a2 * wrap64 ((l.length : Int) - 1)) = a2 * ((l.length : Int) - 1) := by rw [EvT.w64 (x := (l.length : Int) - 1) (by omega) (by omega), EvT.w64 (by omega) (by omega)]
        have hR : restR l a1 a2 = a1 - a2 * ((l.length : Int) - 1) - loTo l l.length := rfl
        have := rw_right l ok hno a1 a2 (widthsR l a1 a2) ?_ l.length 0 (by omega)
        · simpa [loTo, spTo] using this
        · unfold widthsR
          rw [hok]
          refine EvT.succ (fun k => rfl) (EvT.ifn (by omega) ?_)
          have hwp := widR_pre l a1 a2
          rw [hg]
          have hroom : wrap64 (a1 - a2 * ((l.length : Int) - 1)) = a1 - a2 * ((l.length : Int) - 1) := EvT.w64 (by omega) (by omega)
          rw [hroom]
          rw [hR] at hwp
          rw [hR]
          have hlo : a1 - a2 * ((l.length : Int) - 1) ≤ 1000000 := by omega
          generalize a1 - a2 * ((l.length : Int) - 1) = room at hwp hlo ⊢
          refine EvT.ite (fun h => EvT.now ?_) (fun h => ?_)
          · rw [if_pos rfl, if_pos (by omega)]
          · rw [if_pos rfl, if_neg (by omega)]
            exact rw_rows l ok room (widR l a1 a2) ⟨by omega, hlo⟩ hwp l.length 0 (by omega)
      · have hbad : okW l a1 a2 = false := by simp [okW, hno]
        unfold widthsR
        rw [hbad]
        exact rw_wrong l (by omega) a1 a2 l.length 0 0 0 (by omega) (by simpa using hno)
theorem widthsR_length (l : List S29) (a1 a2 : Int) (h : l.length ≤ 1000) : (widthsR l a1 a2).1.length ≤ 1000 := by
  unfold widthsR
  split
  · split
    · simp
    · rw [tabW_length]; exact h
  · simp
end Go.Proofs.Ytclfimdafmoafaa.Pure
