/- Boxes have the widths and heights that they were given, stand in their order, with exactly the gap between each two, and no other one above; no one is higher than the height that is returned, and one is as high (package row; up to 64 boxes). Conditions: those of the statement alone. -/
import Derived.Test.YtdnhjkldhdolpaaPx9
import Derived.Test.YtdnhjkldhdolpaaHRowQ
set_option linter.unusedVariables false
set_option linter.unusedSimpArgs false
namespace Go.Proofs.Ytdnhjkldhdolpaa.Pure
open Go.RowKit Go.Proofs.Ytdnhjkldhdolpaa.P Go.Proofs.YtdnhjkldhdolpaaW.PrintWords Go.Proofs.YtdnhjkldhdolpaaW.PrintLast

theorem maxTo_ge (l : List Int) : ∀ i j : Nat, j ≤ i → rd l (j : Int) ≤ maxTo l i
  | 0, j, h => by
    obtain rfl : j = 0 := by omega
    exact Int.le_refl _
  | i + 1, j, h => by
    show _ ≤ mx (maxTo l i) (rd l ((i + 1 : Nat) : Int))
    by_cases e : j = i + 1
    · subst e; unfold mx; split <;> omega
    · have := maxTo_ge l i j (by omega); unfold mx; split <;> omega
theorem maxTo_at (l : List Int) : ∀ i : Nat, ∃ j : Nat, j ≤ i ∧ rd l (j : Int) = maxTo l i
  | 0 => ⟨0, by omega, rfl⟩
  | i + 1 => by
    obtain ⟨j, h1, h2⟩ := maxTo_at l i
    show ∃ j : Nat, _ ∧ _ = mx (maxTo l i) (rd l ((i + 1 : Nat) : Int))
    unfold mx
    split
    · first | exact ⟨i + 1, by omega, rfl⟩ | exact ⟨j, by omega, h2⟩
    · first | exact ⟨j, by omega, h2⟩ | exact ⟨i + 1, by omega, rfl⟩
theorem boxList_rd (X gap : Int) (ws hs : List Int) (n i : Nat) (h : i < n) : rd_T38 (boxList X gap ws hs n) (i : Int) = bxAt X gap ws hs i := by
  simp [rd_T38, boxList, List.getD_eq_getElem?_getD, h]
theorem places_loop {l0 l1 : List Int} {a2 a3 a4 : Int} (g : Good l0 l1 a2 a3 a4) (X H : Int) (hX : 0 ≤ X ∧ X ≤ 1000000) (hH : H = maxTo l1 (l1.length - 1)) : ∀ (d i : Nat), i + d = l0.length →
    Ev (fun k => formelaw25_RowPlaces.l0 k l0 l1 a2 true (boxList X a2 l0 l1 l0.length) H (anyOf (fun j => rd l1 (j : Int) == H) i) (boxList X a2 l0 l1 l0.length) (l0.length : Int) (i : Int)) true
  | 0, i, e => by
    obtain rfl : i = l0.length := by omega
    have hn := g.n
    have hs := g.same
    obtain ⟨j, h1, h2⟩ := maxTo_at l1 (l1.length - 1)
    refine EvT.succ (fun k => rfl) (EvT.ifn (by omega) (EvT.ifp rfl (EvT.now ?_)))
    rw [anyOf_of (i := j) (by omega) (by rw [hH, h2]; simp)]
  | d + 1, i, e => by
    have hn := g.n
    have hs := g.same
    have hi : i < l0.length := by omega
    have hx := xAt_eq hn.2 hX g.gap g.w i (by omega)
    have hw := g.w i hi
    have hg := g.gap
    have IH := places_loop g X H hX hH d (i + 1) (by omega)
    have hle : rd l1 (i : Int) ≤ H := by rw [hH]; exact maxTo_ge l1 _ _ (by omega)
    refine EvT.succ (fun k => rfl) (EvT.ifp (by omega) (EvT.ifp (by omega) (EvT.ifp (by rw [boxList_length]; omega) ?_)))
    rw [boxList_rd _ _ _ _ _ _ hi, w1 i (by omega)]
    have step : ∀ u b : Bool, u = true → b = (anyOf (fun j => rd l1 (j : Int) == H) i || (rd l1 (i : Int) == H)) → Ev (fun k => formelaw25_RowPlaces.l0 k l0 l1 a2 u (boxList X a2 l0 l1 l0.length) H b (boxList X a2 l0 l1 l0.length) (l0.length : Int) ((i + 1 : Nat) : Int)) true := fun u b hu hb => by rw [hu, hb]; exact IH
    refine EvT.ifp rfl (EvT.ifp (by show xAt X a2 l0 i ≥ 0; omega) (EvT.ifp rfl (EvT.ifp (by omega) (EvT.ifp rfl (EvT.ifp (by omega) (EvT.ifp rfl (EvT.ifp hle ?_)))))))
    refine EvT.ite (fun h0 => EvT.ite (fun h1 => step _ _ rfl (by rw [h1]; rfl)) (fun h1 => step _ _ rfl (by rw [Bool.eq_false_iff.2 h1]; rfl))) (fun h0 => ?_)
    obtain ⟨j, rfl⟩ : ∃ j, i = j + 1 := ⟨i - 1, by omega⟩
    have hj := g.w j (by omega)
    have hxj := xAt_eq hn.2 hX g.gap g.w j (by omega)
    have e1 : wrap64 (((j + 1 : Nat) : Int) - 1) = (j : Int) := by rw [EvT.w64 (by omega) (by omega)]; omega
    have e2 : (xAt X a2 l0 (j + 1) == wrap64 (wrap64 (xAt X a2 l0 j + rd l0 (j : Int)) + a2)) = true := by
      rw [show xAt X a2 l0 (j + 1) = wrap64 (wrap64 (xAt X a2 l0 j + rd l0 (j : Int)) + a2) by
        simp only [xAt]
        rw [hxj.1, EvT.w64 (x := X + begins l0 a2 j + rd l0 (j : Int)) (by omega) (by omega), EvT.w64 (x := rd l0 (j : Int) + a2) (by omega) (by omega)]
        congr 1
        omega]
      simp
    refine EvT.ifp (by rw [e1]; omega) (EvT.ifp (by rw [e1, boxList_length]; omega) ?_)
    rw [e1, boxList_rd _ _ _ _ _ _ (show j < l0.length by omega)]
    exact EvT.ite (fun h1 => step _ _ e2 (by rw [h1]; rfl)) (fun h1 => step _ _ e2 (by rw [Bool.eq_false_iff.2 h1]; rfl))
theorem RowPlaces : formelaw25_RowPlaces.Pure := fun l0 l1 a2 a3 a4 _ _ _ _ _ _ _ _ _ => Ev.rounds (Ev.bind head_ev (EvT.ifp rfl (Ev.bind (few_ev [l0, l1] (by simp)) (EvT.ite (fun h => by
  have hl : l0.length ≤ 70 ∧ l1.length ≤ 70 := by simpa using h
  cases hp : placeOk l0 l1 a2 a3 a4
  · have hf : row_Place.f l0 l1 a2 a3 a4 = some ([], 0, 1) := by
      unfold row_Place.f
      rw [if_pos ⟨by omega, by omega⟩, hp]
      rfl
    exact EvT.bindc hf (EvT.ifn (by decide) (by first | exact EvT.ifp rfl (Ev.now _) | exact Ev.now _))
  · have g := good_of hp
    have hf : row_Place.f l0 l1 a2 a3 a4 = some (boxList (startX l0 a2 a3 a4) a2 l0 l1 l0.length, maxTo l1 (l1.length - 1), 0) := by
      unfold row_Place.f
      rw [if_pos ⟨by omega, by omega⟩, hp]
      rfl
    have hn := g.n
    have hs := g.same
    have hX := startX_bd g
    have hob := ov_bd g
    refine EvT.bindc hf (EvT.ifp rfl ?_)
    rw [boxList_length]
    refine EvT.ifp rfl (EvT.ifp (by omega) (EvT.ifn (by omega) ?_))
    exact places_loop g (startX l0 a2 a3 a4) _ ⟨hX.1, by omega⟩ rfl l0.length 0 (by omega)) (fun _ => Ev.now _)))))
end Go.Proofs.Ytdnhjkldhdolpaa.Pure
