import Derived.Test.YtpggngomdemdgaaHPure6
set_option linter.unusedVariables false
set_option linter.unusedSimpArgs false
namespace Go.Proofs.Ytpggngomdemdgaa.P
open Go.RowKit Go.Proofs.YtpggngomdemdgaaW.PrintWords Go.Codec
theorem whole_small {b : List Int} (hb : ∀ x ∈ b, 0 ≤ x ∧ x ≤ 255) : (whole b).1.length ≤ 4000 := by
  unfold whole
  split
  · simp
  · split
    · simp
    · split
      · simp
      · split
        · simp
        · rename_i l hg
          exact (enc_getL (fun x hx => hb x (List.take_subset _ _ (List.drop_subset _ _ hx))) hg).2.1
theorem framesP_facts : ∀ (f : Nat) (b : List Int), (∀ x ∈ b, 0 ≤ x ∧ x ≤ 255) → (framesP f b).1.length ≤ f ∧ (∀ l ∈ (framesP f b).1, l.length ≤ 4000) ∧ 0 ≤ (framesP f b).2 ∧ (framesP f b).2 ≤ (b.length : Int)
  | 0, b, hb => by simp [framesP]
  | f + 1, b, hb => by
    unfold framesP
    by_cases h : (whole b).2 = 0
    · rw [if_pos h]; simp
    · rw [if_neg h]
      have h2 : 11 ≤ (whole b).2 ∧ (whole b).2 ≤ (b.length : Int) := by
        rcases whole_bd hb with h' | h'
        · exact absurd h' h
        · exact h'
      obtain ⟨i1, i2, i3, i4⟩ := framesP_facts f (b.drop (whole b).2.toNat) (fun x hx => hb x (List.drop_subset _ _ hx))
      rw [List.length_drop] at i4
      refine ⟨by simp; omega, fun l hl => ?_, ?_, ?_⟩
      · rcases List.mem_cons.1 hl with rfl | hl
        · exact whole_small hb
        · exact i2 l hl
      · show 0 ≤ (whole b).2 + _; omega
      · show (whole b).2 + _ ≤ _; omega
theorem SameL_loop (l : List (List Int)) (hl : l.length ≤ 1000000) (hs : ∀ x ∈ l, x.length ≤ 4000) : ∀ (d i : Nat), i + d = l.length → Ev (fun k => formeref05_SameLists.l0 k l l (i : Int)) true
  | 0, i, h => Ev.step (fun k => rfl) (EvT.ifn (by omega) (Ev.now _))
  | d + 1, i, h => by
    have hil : i < l.length := by omega
    have hr : rd_L2 l (i : Int) = l[i] := by simp [rd_L2, List.getD_eq_getElem?_getD, List.getElem?_eq_getElem hil]
    refine Ev.step (fun k => rfl) (EvT.ifp (by omega) (EvT.ifp (by omega) (EvT.ifp (by omega) ?_)))
    rw [hr]
    refine Ev.bind (Same_ev l[i] (by have := hs _ (List.getElem_mem hil); omega)) (EvT.ifp rfl ?_)
    rw [show wrap64 ((i : Int) + 1) = ((i + 1 : Nat) : Int) from EvT.w64 (by omega) (by omega)]
    exact SameL_loop l hl hs d (i + 1) (by omega)
theorem SameL_ev (l : List (List Int)) (hl : l.length ≤ 1000000) (hs : ∀ x ∈ l, x.length ≤ 4000) : Ev (fun k => formeref05_SameLists.f k l l) true := by
  unfold formeref05_SameLists.f
  exact EvT.ifp rfl (SameL_loop l hl hs l.length 0 (by omega))
end Go.Proofs.Ytpggngomdemdgaa.P
