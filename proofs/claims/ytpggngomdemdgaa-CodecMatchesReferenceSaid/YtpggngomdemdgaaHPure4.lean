import Derived.Test.YtpggngomdemdgaaHPure3
set_option linter.unusedVariables false
set_option linter.unusedSimpArgs false
namespace Go.Proofs.Ytpggngomdemdgaa.P
open Go.RowKit Go.Proofs.YtpggngomdemdgaaW.PrintWords Go.Codec
theorem n3_pos {b : List Int} (hb : ∀ x ∈ b, 0 ≤ x ∧ x ≤ 255) : 0 ≤ n3 b := by
  have h : ∀ i : Nat, 0 ≤ rd b (i : Int) := fun i => by
    by_cases hi : i < b.length
    · have e : rd b (i : Int) = b[i] := by simp [rd, List.getD_eq_getElem?_getD, List.getElem?_eq_getElem hi]
      rw [e]; exact (hb _ (List.getElem_mem hi)).1
    · simp [rd, List.getD_eq_getElem?_getD, List.getElem?_eq_none (show b.length ≤ i by omega)]
  have h0 := h 0
  have h1 := h 1
  have h2 := h 2
  rw [show ((0 : Nat) : Int) = 0 from rfl] at h0
  rw [show ((1 : Nat) : Int) = 1 from rfl] at h1
  rw [show ((2 : Nat) : Int) = 2 from rfl] at h2
  unfold n3; omega
theorem whole_bd {b : List Int} (hb : ∀ x ∈ b, 0 ≤ x ∧ x ≤ 255) : (whole b).2 = 0 ∨ (11 ≤ (whole b).2 ∧ (whole b).2 ≤ (b.length : Int)) := by
  have h3 := n3_pos hb
  unfold whole
  split
  · exact .inl rfl
  · split
    · exact .inl rfl
    · split
      · exact .inl rfl
      · split
        · exact .inl rfl
        · rename_i h1 h2 h3' l hg
          exact .inr ⟨by show 11 ≤ 3 + n3 b + 8; omega, by show 3 + n3 b + 8 ≤ _; omega⟩
/-- The frames at the head of b, and where they end. -/
def framesP : Nat → List Int → List (List Int) × Int
  | 0, _ => ([], 0)
  | f + 1, b => if (whole b).2 = 0 then ([], 0) else ((whole b).1 :: (framesP f (b.drop (whole b).2.toNat)).1, (whole b).2 + (framesP f (b.drop (whole b).2.toNat)).2)
theorem Frames_loop {b : List Int} (hb : ∀ x ∈ b, 0 ≤ x ∧ x ≤ 255) (hl : b.length ≤ 200000) : ∀ (f at_ : Nat) (acc : List (List Int)), at_ ≤ b.length → b.length - at_ < f → acc.length ≤ at_ →
    Ev (fun k => codec_Frames.l0 k b acc (at_ : Int)) (acc ++ (framesP f (b.drop at_)).1, (at_ : Int) + (framesP f (b.drop at_)).2, 0)
  | 0, at_, acc, h1, h2, h3 => by omega
  | f + 1, at_, acc, h1, h2, h3 => by
    have hbd : ∀ x ∈ b.drop at_, 0 ≤ x ∧ x ≤ 255 := fun x hx => hb x (List.drop_subset _ _ hx)
    have hlen : (b.drop at_).length = b.length - at_ := List.length_drop
    have hw := whole_bd hbd
    have hf : codec_whole.f (b.drop at_) = some (whole (b.drop at_)) := by
      unfold codec_whole.f
      rw [if_pos]
      rw [Bool.and_eq_true]
      exact ⟨List.all_eq_true.2 fun x hx => by have := hbd x hx; simpa using this, decide_eq_true (by omega)⟩
    refine Ev.step (fun k => rfl) (EvT.ifp (by omega) (EvT.ifp (by omega) ?_))
    rw [Int.toNat_natCast]
    refine EvT.bindc hf (EvT.ite (fun h => ?_) (fun h => EvT.ifp (by omega) ?_))
    · unfold framesP
      rw [if_pos h]
      simp only [List.append_nil, Int.add_zero]
      exact Ev.now _
    · unfold framesP
      rw [if_neg h]
      have hw2 : 11 ≤ (whole (b.drop at_)).2 ∧ (whole (b.drop at_)).2 ≤ ((b.drop at_).length : Int) := by
        rcases hw with h' | h'
        · exact absurd h' h
        · exact h'
      obtain ⟨m, hm⟩ : ∃ m : Nat, (whole (b.drop at_)).2 = (m : Int) := ⟨(whole (b.drop at_)).2.toNat, by omega⟩
      rw [hm] at hw2 ⊢
      have hwr : wrap64 ((at_ : Int) + (m : Int)) = ((at_ + m : Nat) : Int) := by rw [EvT.w64 (by omega) (by omega)]; omega
      rw [hwr, Int.toNat_natCast, List.drop_drop]
      have := Frames_loop hb hl f (at_ + m) (acc ++ [(whole (b.drop at_)).1]) (by omega) (by omega) (by simp; omega)
      have e : ((at_ + m : Nat) : Int) + (framesP f (b.drop (at_ + m))).2 = (at_ : Int) + ((m : Int) + (framesP f (b.drop (at_ + m))).2) := by omega
      rw [e, List.append_assoc] at this
      exact this
theorem Frames_ev {b : List Int} (hb : ∀ x ∈ b, 0 ≤ x ∧ x ≤ 255) (hl : b.length ≤ 200000) : Ev (fun k => codec_Frames.f k b) ((framesP (b.length + 1) b).1, (framesP (b.length + 1) b).2, 0) := by
  unfold codec_Frames.f
  refine EvT.ifn (by omega) ?_
  have := Frames_loop hb hl (b.length + 1) 0 [] (by omega) (by omega) (by simp)
  rw [List.drop_zero, List.nil_append, show ((0 : Nat) : Int) + (framesP (b.length + 1) b).2 = (framesP (b.length + 1) b).2 by omega] at this
  exact this
end Go.Proofs.Ytpggngomdemdgaa.P
