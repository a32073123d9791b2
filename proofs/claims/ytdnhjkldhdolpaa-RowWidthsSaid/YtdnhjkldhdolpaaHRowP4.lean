import Derived.Test.YtdnhjkldhdolpaaHRowP
set_option linter.unusedVariables false
set_option linter.unusedSimpArgs false
namespace Go.Proofs.Ytdnhjkldhdolpaa.Pure
open Go.RowKit Go.Proofs.Ytdnhjkldhdolpaa.P Go.Proofs.YtdnhjkldhdolpaaW.PrintWords Go.Proofs.YtdnhjkldhdolpaaW.PrintLast

theorem tab_self (l : List Int) : tab l.length (fun i => rd l (i : Int)) = l := by
  apply List.ext_getElem
  · simp [tab]
  · intro i h1 h2
    simp [tab, rd, List.getD_eq_getElem?_getD, List.getElem?_eq_getElem h2]
/-- What Widths gives: an error, or a share. -/
theorem widths_cases (l0 l1 : List Int) (a2 a3 : Int) (h0 : l0.length ≤ 1000) :
    (Ev (fun k => row_Widths.f k l0 l1 a2 a3) (([] : List Int), 1) ∧ (l0.length = l1.length → okV (zt l0 l1 l0.length) = true → inside a2 0 1000000 = true → inside a3 0 100000 = true → False)) ∨
    (l0.length = l1.length ∧ OkL (zt l0 l1 l0.length) ∧ (0 ≤ a2 ∧ a2 ≤ 1000000) ∧ (0 ≤ a3 ∧ a3 ≤ 100000) ∧ ∃ res, Share (zt l0 l1 l0.length) a2 a3 = some res ∧ Ev (fun k => row_Widths.f k l0 l1 a2 a3) (tab l0.length res, 0) ∧ Fin (zt l0 l1 l0.length) (leftN (zt l0 l1 l0.length) a2 a3) res) := by
  by_cases he : l0.length = l1.length
  · obtain ⟨r, hr, _, hw, _⟩ := widths_ev l0 l1 a2 a3 h0 he
    by_cases hc : okV (zt l0 l1 l0.length) = true ∧ inside a2 0 1000000 = true ∧ inside a3 0 100000 = true
    · obtain ⟨h1, h2, h3⟩ := hc
      have b2 : 0 ≤ a2 ∧ a2 ≤ 1000000 := by simpa [inside] using h2
      have b3 : 0 ≤ a3 ∧ a3 ≤ 100000 := by simpa [inside] using h3
      obtain ⟨res, hS, hF⟩ := Share_spec (zt l0 l1 l0.length) (OkL.of h1) a2 a3 b2 b3
      have hf := Share_f hS h1 h2 h3
      rw [zt_length] at hf
      rw [hr] at hf
      obtain rfl : r = (tab l0.length res, 0) := by simpa using hf
      exact .inr ⟨he, OkL.of h1, b2, b3, res, hS, hw, hF⟩
    · left
      refine ⟨?_, fun _ h1 h2 h3 => hc ⟨h1, h2, h3⟩⟩
      have hf : tracks_Share.f (zt l0 l1 l0.length) a2 a3 = some ([], 1) := by
        unfold tracks_Share.f
        exact if_neg hc
      rw [hr] at hf
      obtain rfl : r = ([], 1) := by simpa using hf
      exact hw
  · exact .inl ⟨(widths_no l0 l1 a2 a3 he).1, fun h => absurd h he⟩
theorem total_loop (l : List Int) (hl : l.length ≤ 64) (B : Int) (hB : 0 ≤ B ∧ B ≤ 2000000) (hb : ∀ i, i < l.length → 0 ≤ rd l (i : Int) ∧ rd l (i : Int) ≤ B) : ∀ (d i : Nat), i + d = l.length →
    Ev (fun k => formelaw25_total.l0 k (sumTo (fun j => rd l (j : Int)) i) l (l.length : Int) (i : Int)) (sumTo (fun j => rd l (j : Int)) l.length)
  | 0, i, e => by
    obtain rfl : i = l.length := by omega
    exact EvT.succ (fun k => rfl) (EvT.ifn (by omega) (Ev.now _))
  | d + 1, i, e => by
    have hi := hb i (by omega)
    have hs := sumTo_bd (w := fun j => rd l (j : Int)) B hB.1 i (fun j hj => hb j (by omega)) (by omega)
    refine EvT.succ (fun k => rfl) (EvT.ifp (by omega) (EvT.ifp (by omega) (EvT.ifp (by omega) ?_)))
    rw [w1 i (by omega), EvT.w64 (x := sumTo (fun j => rd l (j : Int)) i + rd l (i : Int)) (by omega) (by omega)]
    exact total_loop l hl B hB hb d (i + 1) (by omega)
theorem total_ev (l : List Int) (hl : l.length ≤ 64) (B : Int) (hB : 0 ≤ B ∧ B ≤ 2000000) (hb : ∀ i, i < l.length → 0 ≤ rd l (i : Int) ∧ rd l (i : Int) ≤ B) : Ev (fun k => formelaw25_total.f k l) (sumTo (fun j => rd l (j : Int)) l.length) :=
  total_loop l hl B hB hb l.length 0 (by omega)
theorem gap_bd {a : Int} {n : Nat} (ha : 0 ≤ a ∧ a ≤ 100000) (h1 : 1 ≤ n) (h : n ≤ 64) : 0 ≤ a * ((n : Int) - 1) ∧ a * ((n : Int) - 1) ≤ 6300000 := by
  have h1 := Int.mul_nonneg ha.1 (show 0 ≤ (n : Int) - 1 by omega)
  have h2 := Int.mul_le_mul ha.2 (show (n : Int) - 1 ≤ 63 by omega) (by omega) (by omega : (0 : Int) ≤ 100000)
  omega
end Go.Proofs.Ytdnhjkldhdolpaa.Pure
