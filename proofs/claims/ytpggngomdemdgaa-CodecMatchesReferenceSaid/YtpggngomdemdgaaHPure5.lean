import Derived.Test.YtpggngomdemdgaaHPure4
set_option linter.unusedVariables false
set_option linter.unusedSimpArgs false
namespace Go.Proofs.Ytpggngomdemdgaa.P
open Go.RowKit Go.Proofs.YtpggngomdemdgaaW.PrintWords Go.Codec
theorem framesP_fuel : ∀ (f g : Nat) (b : List Int), (∀ x ∈ b, 0 ≤ x ∧ x ≤ 255) → b.length < f → b.length < g → framesP f b = framesP g b
  | 0, g, b, hb, hf, hg => by omega
  | f + 1, 0, b, hb, hf, hg => by omega
  | f + 1, g + 1, b, hb, hf, hg => by
    unfold framesP
    by_cases h : (whole b).2 = 0
    · rw [if_pos h, if_pos h]
    · have h2 : 11 ≤ (whole b).2 ∧ (whole b).2 ≤ (b.length : Int) := by
        rcases whole_bd hb with h' | h'
        · exact absurd h' h
        · exact h'
      rw [if_neg h, if_neg h, framesP_fuel f g _ (fun x hx => hb x (List.drop_subset _ _ hx)) (by rw [List.length_drop]; omega) (by rw [List.length_drop]; omega)]
/-- The frames of lists, end to end, and where each ends. -/
def fr (ls : List (List Int)) : List Int := (ls.map frame).flatten
def endsOf : Int → List (List Int) → List Int
  | _, [] => []
  | a, x :: r => (a + ((frame x).length : Int)) :: endsOf (a + ((frame x).length : Int)) r
theorem fr_cons (x : List Int) (ls : List (List Int)) : fr (x :: ls) = frame x ++ fr ls := rfl
def okL (ls : List (List Int)) : Prop := ∀ l ∈ ls, (∀ x ∈ l, i64 x) ∧ l.length ≤ 30
theorem framesP_app : ∀ (ls : List (List Int)) (r : List Int) (f : Nat), okL ls → (fr ls ++ r).length < f → ∃ g, r.length < g ∧ framesP f (fr ls ++ r) = (ls ++ (framesP g r).1, ((fr ls).length : Int) + (framesP g r).2)
  | [], r, f, h, hf => ⟨f, by simpa [fr] using hf, by simp [fr]⟩
  | x :: ls, r, 0, h, hf => by omega
  | x :: ls, r, f + 1, h, hf => by
    have hx := h x (by simp)
    have hfl := frame_len x
    rw [fr_cons, List.append_assoc] at hf ⊢
    have hw := whole_frame hx.1 (by omega : x.length ≤ 4000) (fr ls ++ r)
    obtain ⟨g, hg, e⟩ := framesP_app ls r f (fun l hl => h l (by simp [hl])) (by rw [List.length_append] at hf; omega)
    refine ⟨g, hg, ?_⟩
    conv => lhs; unfold framesP
    rw [hw, if_neg (by show ¬ ((frame x).length : Int) = 0; omega)]
    show (x :: (framesP f ((frame x ++ (fr ls ++ r)).drop ((frame x).length : Int).toNat)).1, ((frame x).length : Int) + (framesP f ((frame x ++ (fr ls ++ r)).drop ((frame x).length : Int).toNat)).2) = _
    rw [Int.toNat_natCast, List.drop_left' rfl, e]
    refine Prod.ext rfl ?_
    show ((frame x).length : Int) + (((fr ls).length : Int) + (framesP g r).2) = ((frame x ++ fr ls).length : Int) + (framesP g r).2
    rw [List.length_append]; omega
theorem be8_byte (r : Int) : ∀ x ∈ be8 r, 0 ≤ x ∧ x ≤ 255 := by
  intro x hx
  simp only [be8, List.mem_cons, List.not_mem_nil, or_false] at hx
  omega
theorem frame_byte {l : List Int} (hi : ∀ x ∈ l, i64 x) (hl : l.length ≤ 4000) : ∀ x ∈ frame l, 0 ≤ x ∧ x ≤ 255 := by
  intro x hx
  unfold frame pack at hx
  rcases List.mem_append.1 hx with h | h
  · rcases List.mem_append.1 h with h | h
    · simp only [head3, List.mem_cons, List.not_mem_nil, or_false] at h
      omega
    · exact enc_byte hi hl x h
  · exact be8_byte _ x h
theorem fr_byte : ∀ {ls : List (List Int)}, okL ls → ∀ x ∈ fr ls, 0 ≤ x ∧ x ≤ 255
  | [], h, x, hx => by simp [fr] at hx
  | l :: ls, h, x, hx => by
    rw [fr_cons] at hx
    rcases List.mem_append.1 hx with hx | hx
    · exact frame_byte (h l (by simp)).1 (by have := (h l (by simp)).2; omega) x hx
    · exact fr_byte (fun l' hl' => h l' (by simp [hl'])) x hx
theorem fr_len : ∀ {ls : List (List Int)}, okL ls → (fr ls).length ≤ 400 * ls.length
  | [], h => by simp [fr]
  | l :: ls, h => by
    have h1 := fr_len (fun l' hl' => h l' (by simp [hl']) : okL ls)
    have h2 := frame_len l
    have h3 := enc_len l
    have h4 := (h l (by simp)).2
    rw [fr_cons, List.length_append, List.length_cons]; omega
end Go.Proofs.Ytpggngomdemdgaa.P
