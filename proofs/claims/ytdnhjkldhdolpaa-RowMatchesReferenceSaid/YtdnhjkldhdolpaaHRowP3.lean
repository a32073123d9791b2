import Derived.Test.YtdnhjkldhdolpaaHRowP2
set_option linter.unusedVariables false
set_option linter.unusedSimpArgs false
namespace Go.Proofs.Ytdnhjkldhdolpaa.Pure
open Go.RowKit Go.Proofs.Ytdnhjkldhdolpaa.P Go.Proofs.YtdnhjkldhdolpaaW.PrintWords Go.Proofs.YtdnhjkldhdolpaaW.PrintLast

def mostTo (l : List Int) : Nat → Int
  | 0 => 0
  | i + 1 => mx (mostTo l i) (rd l (i : Int))
theorem mostTo_eq (l : List Int) (hb : ∀ i, i < l.length → 0 ≤ rd l (i : Int)) : ∀ i, i < l.length → mostTo l (i + 1) = maxTo l i
  | 0, h => by
    have := hb 0 h
    show mx 0 (rd l ((0 : Nat) : Int)) = rd l 0
    unfold mx
    split
    · rfl
    · have h0 : rd l ((0 : Nat) : Int) = rd l 0 := rfl
      omega
  | i + 1, h => by
    show mx (mostTo l (i + 1)) (rd l ((i + 1 : Nat) : Int)) = mx (maxTo l i) (rd l ((i + 1 : Nat) : Int))
    rw [mostTo_eq l hb i (by omega)]
theorem place_loop {l0 l1 : List Int} {a2 a3 a4 : Int} (g : Good l0 l1 a2 a3 a4) (X : Int) (hX : 0 ≤ X ∧ X ≤ 1000000) : ∀ (d i : Nat), i + d = l0.length →
    Ev (fun k => formeref25_Place.l0 k l0 l1 a2 (xAt X a2 l0 i) (mostTo l1 i) (boxList X a2 l0 l1 i) (i : Int)) (boxList X a2 l0 l1 l0.length, mostTo l1 l0.length, 0)
  | 0, i, e => by
    obtain rfl : i = l0.length := by omega
    exact EvT.succ (fun k => rfl) (EvT.ifn (by omega) (Ev.now _))
  | d + 1, i, e => by
    have hn := g.n
    have hs := g.same
    have hg := g.gap
    have hw := g.w i (by omega)
    have hx := xAt_eq hn.2 hX hg g.w i (by omega)
    refine EvT.succ (fun k => rfl) (EvT.ifp (by omega) (EvT.ifp (by omega) (EvT.ifp (by omega) (EvT.ifp (by rw [boxList_length]; omega) ?_))))
    have e1 : wrap64 (wrap64 (xAt X a2 l0 i + rd l0 (i : Int)) + a2) = xAt X a2 l0 (i + 1) := by
      simp only [xAt]
      rw [hx.1, EvT.w64 (x := X + begins l0 a2 i + rd l0 (i : Int)) (by omega) (by omega), EvT.w64 (x := rd l0 (i : Int) + a2) (by omega) (by omega)]
      congr 1
      omega
    rw [w1 i (by omega), e1, show boxList X a2 l0 l1 i ++ [(⟨0, xAt X a2 l0 i, 0, rd l0 (i : Int), rd l1 (i : Int), false, ([] : List S92)⟩ : S38)] = boxList X a2 l0 l1 (i + 1) from (boxList_succ _ _ _ _ _).symm]
    exact place_loop g X hX d (i + 1) (by omega)
theorem j0_bad (l0 l1 : List Int) (a2 a3 a4 : Int) : Ev (fun k => formeref25_Place.j0 k l0 l1 a2 a3 a4 true) (([] : List S38), 0, 1) :=
  EvT.lit (g := fun k c => formeref25_Place.j0 k l0 l1 a2 a3 a4 c) true (fun c hc => EvT.succ (fun k => rfl) (EvT.ifp hc (Ev.now _)))
theorem mul_bd {a b : Int} (n : Nat) (ha : 0 ≤ a ∧ a ≤ 100000) (hb : 0 ≤ b ∧ b ≤ 63) : 0 ≤ a * b ∧ a * b ≤ 6300000 := by
  have h1 := Int.mul_nonneg ha.1 hb.1
  have h2 := Int.mul_le_mul ha.2 hb.2 hb.1 (by omega : (0 : Int) ≤ 100000)
  omega
theorem j0_good {l0 l1 : List Int} {a2 a3 a4 : Int} (g : Good l0 l1 a2 a3 a4) : Ev (fun k => formeref25_Place.j0 k l0 l1 a2 a3 a4 false) (boxList (startX l0 a2 a3 a4) a2 l0 l1 l0.length, maxTo l1 (l1.length - 1), 0) := by
  have hn := g.n
  have hsame := g.same
  have hg := g.gap
  have hsp := g.sp
  have hm := mul_bd (a := a2) (b := (l0.length : Int) - 1) 0 hg ⟨by omega, by omega⟩
  have hov : Ev (fun k => formeref25_Over.f k l0 a2 a4) (ov l0 a2 a4) := by
    have := over_loop l0 hn.2 g.w l0.length 0 (a4 - a2 * ((l0.length : Int) - 1)) (by omega) (by omega) (by omega)
    rw [show sumTo (fun j => rd l0 (j : Int)) 0 = 0 from rfl, Int.sub_zero] at this
    show Ev (fun k => formeref25_Over.l0 k l0 (wrap64 (a4 - wrap64 (a2 * wrap64 ((l0.length : Int) - 1)))) 0) _
    rw [EvT.w64 (x := (l0.length : Int) - 1) (by omega) (by omega), EvT.w64 (x := a2 * ((l0.length : Int) - 1)) (by omega) (by omega), EvT.w64 (x := a4 - a2 * ((l0.length : Int) - 1)) (by omega) (by omega)]
    unfold ov
    rw [show a4 - (sumTo (fun j => rd l0 (j : Int)) l0.length + a2 * ((l0.length : Int) - 1)) = a4 - a2 * ((l0.length : Int) - 1) - sumTo (fun j => rd l0 (j : Int)) l0.length by omega]
    exact this
  have hX := startX_bd g
  have hob := ov_bd g
  refine EvT.lit (g := fun k c => formeref25_Place.j0 k l0 l1 a2 a3 a4 c) false (fun c hc => EvT.succ (fun k => rfl) (EvT.ifn (by rw [hc]; decide) (Ev.bind hov ?_)))
  rw [← hX.2.2.1]
  have := place_loop g (startX l0 a2 a3 a4) ⟨hX.1, by omega⟩ l0.length 0 (by omega)
  have e : mostTo l1 l0.length = maxTo l1 (l1.length - 1) := by
    rw [← mostTo_eq l1 (fun i hi => (g.h i hi).1) (l1.length - 1) (by omega), hsame, show l1.length - 1 + 1 = l1.length by omega]
  rw [e] at this
  exact this
theorem place_same (l0 l1 : List Int) (a2 a3 a4 : Int) (hl0 : l0.length ≤ 1000) (hl1 : l1.length ≤ 1000) : ∃ P, row_Place.f l0 l1 a2 a3 a4 = some P ∧ Ev (fun k => formeref25_Place.f k l0 l1 a2 a3 a4) P ∧ (∀ x ∈ P.1, x.f6 = []) ∧ P.1.length ≤ 1000 := by
  have s0 := sizes_ev l0 1000000 hl0
  have s1 := sizes_ev l1 1000000000 hl1
  have e0 : (l0.any fun x => outW x 1000000) = l0.any farW := by congr 1; funext x; exact outW_farW x
  have e1 : (l1.any fun x => outW x 1000000000) = l1.any highW := rfl
  rw [e0] at s0
  rw [e1] at s1
  unfold row_Place.f
  rw [if_pos ⟨by omega, by omega⟩]
  cases hp : placeOk l0 l1 a2 a3 a4
  · refine ⟨([], 0, 1), by simp, ?_, by simp, by simp⟩
    refine Ev.bind s0 (Ev.bind s1 ?_)
    refine EvT.ite (fun h0 => EvT.ite (fun h1 => EvT.ite (fun h2 => EvT.ite (fun _ => j0_bad _ _ _ _ _) (fun h3 => EvT.ite (fun _ => j0_bad _ _ _ _ _) (fun h4 => EvT.ite (fun _ => j0_bad _ _ _ _ _) (fun h5 => EvT.ite (fun _ => j0_bad _ _ _ _ _) (fun h6 => EvT.ite (fun _ => j0_bad _ _ _ _ _) (fun h7 => ?_)))))) (fun _ => j0_bad _ _ _ _ _)) (fun _ => j0_bad _ _ _ _ _)) (fun _ => j0_bad _ _ _ _ _)
    have h8 : decide (a4 > 1000000) = true := by
      refine Classical.byContradiction fun h8 => ?_
      have h8 : ¬ a4 > 1000000 := by simpa using h8
      simp only [Bool.and_eq_true, Bool.not_eq_true'] at h0 h1
      have : placeOk l0 l1 a2 a3 a4 = true := by
        simp only [placeOk, startsOk, h0.1, h0.2, h1.1]
        simp [inside, outW, h2]
        omega
      rw [this] at hp
      cases hp
    rw [h8]
    exact j0_bad _ _ _ _ _
  · have g := good_of hp
    refine ⟨_, by rw [if_pos rfl], ?_, boxList_f6 _ _ _ _ _, by rw [boxList_length]; omega⟩
    have hn := g.n
    have hs := g.same
    have hg := g.gap
    have hsp := g.sp
    have hh : l1.any highW = false := by simp only [placeOk, Bool.and_eq_true, Bool.not_eq_true'] at hp; exact hp.1.1.1.1.2
    have t0 : (!(l0.any farW) && inside (l0.length : Int) 1 64) = true := by rw [g.far]; simp [inside]; omega
    have t1 : (!(l1.any highW) && inside (l1.length : Int) 1 64) = true := by rw [hh]; simp [inside]; omega
    rw [t0] at s0
    rw [t1] at s1
    have ha := g.al
    have h8 : decide (a4 > 1000000) = false := decide_eq_false (by omega)
    refine Ev.bind s0 (Ev.bind s1 (EvT.ifp rfl (EvT.ifp rfl (EvT.ifp (by omega) (EvT.ifn (by omega) (EvT.ifn (by omega) (EvT.ifn (by omega) (EvT.ifn (by omega) (EvT.ifn (by omega) ?_)))))))))
    rw [h8]
    exact j0_good g
theorem boxes_loop (l : List S38) (hl : l.length ≤ 1000) (h6 : ∀ x ∈ l, x.f6 = []) : ∀ (d i : Nat), i + d = l.length → Ev (fun k => formeref25_Same.l0 k l l (i : Int)) true
  | 0, i, e => EvT.succ (fun k => rfl) (EvT.ifn (by omega) (Ev.now _))
  | d + 1, i, e => by
    have hi : i < l.length := by omega
    have hx : (rd_T38 l (i : Int)).f6 = [] := by
      have : rd_T38 l (i : Int) = l[i] := by simp [rd_T38, List.getD_eq_getElem?_getD, List.getElem?_eq_getElem hi]
      rw [this]; exact h6 _ (List.getElem_mem hi)
    refine EvT.succ (fun k => rfl) (EvT.ifp (by omega) (EvT.ifp (by omega) (EvT.ifp (by omega) (EvT.ifp rfl (EvT.ifp rfl (EvT.ifp rfl (EvT.ifp rfl (EvT.ifp rfl (EvT.ifn (by simp) (EvT.ifn (by rw [hx]; decide +kernel) ?_))))))))))
    rw [w1 i (by omega)]
    exact boxes_loop l hl h6 d (i + 1) (by omega)
theorem boxes_ev (l : List S38) (hl : l.length ≤ 1000) (h6 : ∀ x ∈ l, x.f6 = []) : Ev (fun k => formeref25_Same.f k l l) true :=
  EvT.ifp rfl (boxes_loop l hl h6 l.length 0 (by omega))
end Go.Proofs.Ytdnhjkldhdolpaa.Pure
