import Derived.Test.YtdnhjkldhdolpaaHRowQ
import Derived.Test.YtdnhjkldhdolpaaPx5
set_option linter.unusedVariables false
set_option linter.unusedSimpArgs false
namespace Go.Proofs.Ytdnhjkldhdolpaa.Pure
open Go.RowKit Go.Proofs.Ytdnhjkldhdolpaa.P Go.Proofs.YtdnhjkldhdolpaaW.PrintWords Go.Proofs.YtdnhjkldhdolpaaW.PrintLast Go.Proofs.YtdnhjkldhdolpaaW.PrintMore
theorem total_loop (l : List Int) (hl : l.length ≤ 64) (B : Int) (hB : 0 ≤ B ∧ B ≤ 2000000) (hb : ∀ i, i < l.length → 0 ≤ rd l (i : Int) ∧ rd l (i : Int) ≤ B) : ∀ (d i : Nat), i + d = l.length →
    Ev (fun k => formelaw25_total.l0 k (sumTo (fun j => rd l (j : Int)) i) l (l.length : Int) (i : Int)) (sumTo (fun j => rd l (j : Int)) l.length)
  | 0, i, e => by
    obtain rfl : i = l.length := by omega
    exact EvT.succ (fun k => rfl) (EvT.ifn (by omega) (Ev.now _))
  | d + 1, i, e => by
    have hi := hb i (by omega)
    have hs := sumTo_bd (w := fun j => rd l (j : Int)) B hB.1 i (fun j hj => hb j (by omega)) (by omega)
    refine EvT.succ (fun k => rfl) (EvT.ifp (by omega) (EvT.ifp (by omega) (EvT.ifp (by omega) ?_)))
    rw [w1 i (by omega), EvT.w64 (x := sumTo (fun j => rd l (j : Int)) i + rd l (i : Int)) (by omega) (by omega)]
    exact total_loop l hl B hB hb d (i + 1) (by omega)
theorem total_ev (l : List Int) (hl : l.length ≤ 64) (B : Int) (hB : 0 ≤ B ∧ B ≤ 2000000) (hb : ∀ i, i < l.length → 0 ≤ rd l (i : Int) ∧ rd l (i : Int) ≤ B) : Ev (fun k => formelaw25_total.f k l) (sumTo (fun j => rd l (j : Int)) l.length) :=
  total_loop l hl B hB hb l.length 0 (by omega)
theorem gap_bd {a : Int} {n : Nat} (ha : 0 ≤ a ∧ a ≤ 100000) (h1 : 1 ≤ n) (h : n ≤ 64) : 0 ≤ a * ((n : Int) - 1) ∧ a * ((n : Int) - 1) ≤ 6300000 := by
  have h1 := Int.mul_nonneg ha.1 (show 0 ≤ (n : Int) - 1 by omega)
  have h2 := Int.mul_le_mul ha.2 (show (n : Int) - 1 ≤ 63 by omega) (by omega) (by omega : (0 : Int) ≤ 100000)
  omega
def zeros (n : Nat) : List Int := List.replicate n 0
def okA (l0 : List Int) (a1 a2 : Int) : Bool := startsOk l0 a1 && !outW a2 1000000
theorem placeOk_al (l0 : List Int) (a1 a2 i : Int) (hi : 0 ≤ i ∧ i ≤ 2) : placeOk l0 (zeros l0.length) a1 i a2 = okA l0 a1 a2 := by
  have h1 : (zeros l0.length).any highW = false := List.any_eq_false.2 fun x hx => by
    obtain ⟨_, rfl⟩ := List.mem_replicate.1 hx
    decide
  have h2 : outW i 2 = false := by simp [outW]; omega
  have h3 : ((l0.length : Int) == ((zeros l0.length).length : Int)) = true := by simp [zeros]
  unfold placeOk okA
  rw [h1, h2, h3]
  cases h : startsOk l0 a1
  · simp
  · have h4 : outW a1 100000 = false := by
      simp only [startsOk, inside, Bool.and_eq_true, decide_eq_true_eq] at h
      simp [outW]
      omega
    rw [h4]
    simp
theorem place_al (l0 : List Int) (hl : l0.length ≤ 70) (a1 a2 i : Int) (hi : 0 ≤ i ∧ i ≤ 2) : row_Place.f l0 (zeros l0.length) a1 i a2 = some (if okA l0 a1 a2 = true then (boxList (startX l0 a1 i a2) a1 l0 (zeros l0.length) l0.length, maxTo (zeros l0.length) ((zeros l0.length).length - 1), 0) else ([], 0, 1)) := by
  unfold row_Place.f
  rw [if_pos ⟨by omega, by simp [zeros]; omega⟩, placeOk_al _ _ _ _ hi]
  split <;> rfl
/-- What the three rows have: over, their begins, what lies behind the last box. -/
structure Al (l0 : List Int) (a1 a2 : Int) (T F1 G1 O : Int) : Prop where
  n : 1 ≤ l0.length ∧ l0.length ≤ 64
  over : wrap64 (wrap64 (a2 - T) - wrap64 (a1 * wrap64 ((l0.length : Int) - 1))) = O
  neg : O ≤ 0 → startX l0 a1 1 a2 = 0 ∧ startX l0 a1 2 a2 = 0
  s0 : startX l0 a1 0 a2 = 0
  s1 : startX l0 a1 1 a2 = F1
  pos : 0 < O → startX l0 a1 2 a2 = O
  e0 : 0 < O → wrap64 (wrap64 (a2 - xAt 0 a1 l0 (l0.length - 1)) - rd l0 ((l0.length - 1 : Nat) : Int)) = O
  e1 : wrap64 (wrap64 (a2 - xAt F1 a1 l0 (l0.length - 1)) - rd l0 ((l0.length - 1 : Nat) : Int)) = G1
  e2 : 0 < O → wrap64 (wrap64 (a2 - xAt O a1 l0 (l0.length - 1)) - rd l0 ((l0.length - 1 : Nat) : Int)) = 0
  sum : 0 < O → wrap64 (F1 + G1) = O
  dif : 0 < O → 0 ≤ wrap64 (G1 - F1) ∧ wrap64 (G1 - F1) ≤ 1
theorem al_of {l0 : List Int} {a1 a2 : Int} (h : okA l0 a1 a2 = true) : Al l0 a1 a2 (sumTo (fun j => rd l0 (j : Int)) l0.length) (startX l0 a1 1 a2) (wrap64 (wrap64 (a2 - xAt (startX l0 a1 1 a2) a1 l0 (l0.length - 1)) - rd l0 ((l0.length - 1 : Nat) : Int))) (a2 - begins l0 a1 (l0.length - 1) - rd l0 ((l0.length - 1 : Nat) : Int)) := by
  simp only [okA, startsOk, Bool.and_eq_true, Bool.not_eq_true', inside, decide_eq_true_eq] at h
  obtain ⟨⟨⟨hn, hg⟩, hf⟩, hs⟩ := h
  have hs' : 0 ≤ a2 ∧ a2 ≤ 1000000 := by simp [outW] at hs; omega
  have n64 : l0.length ≤ 64 := by omega
  have m1 : l0.length - 1 < l0.length := by omega
  have b := begins_bd n64 hf hg (l0.length - 1) (by omega)
  have f := far_bd hf (l0.length - 1) m1
  have bd : ∀ i, i < l0.length → 0 ≤ rd l0 (i : Int) ∧ rd l0 (i : Int) ≤ 1000000 := fun i hi => far_bd hf i hi
  have hout : rd (outS l0 a1 (l0.length - 1)) ((l0.length - 1 : Nat) : Int) = begins l0 a1 (l0.length - 1) := by
    rw [outS_get n64 hf hg _ m1, tab_rd _ _ _ m1, if_pos (Nat.le_refl _)]
  have hov : overOf l0 a1 a2 = mx 0 (a2 - begins l0 a1 (l0.length - 1) - rd l0 ((l0.length - 1 : Nat) : Int)) := by
    unfold overOf
    rw [hout, EvT.w64 (x := a2 - begins l0 a1 (l0.length - 1)) (by omega) (by omega), EvT.w64 (by omega) (by omega)]
  have hT : sumTo (fun j => rd l0 (j : Int)) l0.length + a1 * ((l0.length : Int) - 1) = begins l0 a1 (l0.length - 1) + rd l0 ((l0.length - 1 : Nat) : Int) := by
    have e := begins_sum l0 a1 (l0.length - 1)
    have e2 : sumTo (fun j => rd l0 (j : Int)) ((l0.length - 1) + 1) = sumTo (fun j => rd l0 (j : Int)) (l0.length - 1) + rd l0 ((l0.length - 1 : Nat) : Int) := rfl
    rw [show l0.length - 1 + 1 = l0.length by omega] at e2
    rw [e2, e, show ((l0.length - 1 : Nat) : Int) = (l0.length : Int) - 1 by omega]
    omega
  have gb := gap_bd hg (by omega) n64
  have sb := sumTo_bd (w := fun j => rd l0 (j : Int)) 1000000 (by omega) l0.length bd n64
  have x0 : ∀ X, 0 ≤ X ∧ X ≤ 1000000 → xAt X a1 l0 (l0.length - 1) = X + begins l0 a1 (l0.length - 1) := fun X hX => (xAt_eq n64 hX hg bd (l0.length - 1) (by omega)).1
  have s0 : startX l0 a1 0 a2 = 0 := rfl
  have s1 : startX l0 a1 1 a2 = wrap64 ((overOf l0 a1 a2).tdiv 2) := rfl
  have s2 : startX l0 a1 2 a2 = overOf l0 a1 a2 := rfl
  generalize hO : a2 - begins l0 a1 (l0.length - 1) - rd l0 ((l0.length - 1 : Nat) : Int) = O at hov ⊢
  have hov0 : 0 ≤ overOf l0 a1 a2 ∧ overOf l0 a1 a2 ≤ 1000000 := by rw [hov]; unfold mx; split <;> omega
  have ht : (overOf l0 a1 a2).tdiv 2 = overOf l0 a1 a2 / 2 := Int.tdiv_eq_ediv_of_nonneg hov0.1
  have s1' : startX l0 a1 1 a2 = overOf l0 a1 a2 / 2 := by rw [s1, ht, EvT.w64 (by omega) (by omega)]
  have hmx : O ≤ 0 → overOf l0 a1 a2 = 0 := fun h => by rw [hov]; unfold mx; rw [if_neg (by omega)]
  have hmx2 : 0 < O → overOf l0 a1 a2 = O := fun h => by rw [hov]; unfold mx; rw [if_pos h]
  have last : ∀ X, 0 ≤ X ∧ X ≤ 1000000 → wrap64 (wrap64 (a2 - xAt X a1 l0 (l0.length - 1)) - rd l0 ((l0.length - 1 : Nat) : Int)) = O - X := fun X hX => by
    rw [x0 X hX, EvT.w64 (x := a2 - (X + begins l0 a1 (l0.length - 1))) (by omega) (by omega), EvT.w64 (by omega) (by omega)]
    omega
  have l1 := last (startX l0 a1 1 a2) (by rw [s1']; omega)
  refine ⟨by omega, ?_, fun h => ?_, s0, rfl, fun h => by rw [s2, hmx2 h], fun h => by rw [last 0 (by omega)]; omega, rfl, fun h => by rw [last O (by have := hmx2 h; omega)]; omega, fun h => ?_, fun h => ?_⟩
  · rw [EvT.w64 (x := (l0.length : Int) - 1) (by omega) (by omega), EvT.w64 (x := a1 * ((l0.length : Int) - 1)) (by omega) (by omega), EvT.w64 (x := a2 - sumTo (fun j => rd l0 (j : Int)) l0.length) (by omega) (by omega), EvT.w64 (by omega) (by omega)]
    omega
  · have := hmx h
    rw [s1', s2, this]
    decide
  · rw [l1]
    have := hmx2 h
    rw [s1', EvT.w64 (by omega) (by omega)]
    omega
  · rw [l1]
    have := hmx2 h
    rw [s1', EvT.w64 (by omega) (by omega)]
    omega
end Go.Proofs.Ytdnhjkldhdolpaa.Pure
