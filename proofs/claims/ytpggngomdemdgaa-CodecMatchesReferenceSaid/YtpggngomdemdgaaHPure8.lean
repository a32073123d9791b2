import Derived.Test.YtpggngomdemdgaaHPure7
set_option linter.unusedVariables false
set_option linter.unusedSimpArgs false
namespace Go.Proofs.Ytpggngomdemdgaa.P
open Go.RowKit Go.Proofs.YtpggngomdemdgaaW.PrintWords Go.Codec
/-- How many frames are whole in the first m bytes, and their bytes. -/
def tornP : List (List Int) → Nat → Nat × Nat
  | [], _ => (0, 0)
  | x :: ls, m => if (frame x).length ≤ m then ((tornP ls (m - (frame x).length)).1 + 1, (tornP ls (m - (frame x).length)).2 + (frame x).length) else (0, 0)
theorem tornP_zero : ∀ ls, tornP ls 0 = (0, 0)
  | [] => rfl
  | x :: ls => by
    unfold tornP
    rw [if_neg (by have := frame_len x; omega)]
theorem tornP_le : ∀ ls m, (tornP ls m).1 ≤ ls.length
  | [], m => Nat.le_refl _
  | x :: ls, m => by
    unfold tornP
    split
    · have := tornP_le ls (m - (frame x).length); simp; omega
    · simp
theorem tornP_len : ∀ ls m, (tornP ls m).2 ≤ (fr ls).length
  | [], m => Nat.zero_le _
  | x :: ls, m => by
    rw [fr_cons, List.length_append]
    unfold tornP
    split
    · have := tornP_len ls (m - (frame x).length); show _ + _ ≤ _; omega
    · simp
theorem whole_nil : whole [] = ([], 0) := by unfold whole; rw [if_pos (by simp)]
theorem framesP_nil (f : Nat) : framesP f [] = ([], 0) := by
  cases f with
  | zero => rfl
  | succ f => unfold framesP; rw [whole_nil, if_pos rfl]
theorem framesP_torn : ∀ (ls : List (List Int)) (m f : Nat), okL ls → m ≤ (fr ls).length → m < f → framesP f ((fr ls).take m) = (ls.take (tornP ls m).1, ((tornP ls m).2 : Int))
  | [], m, f, h, hm, hf => by
    rw [show fr [] = [] from rfl, List.take_nil, framesP_nil]; rfl
  | x :: ls, m, 0, h, hm, hf => by omega
  | x :: ls, m, f + 1, h, hm, hf => by
    have hx := h x (by simp)
    have hfl := frame_len x
    rw [fr_cons, List.length_append] at hm
    rw [fr_cons]
    unfold tornP
    by_cases hc : (frame x).length ≤ m
    · rw [if_pos hc]
      have ht : (frame x ++ fr ls).take m = frame x ++ (fr ls).take (m - (frame x).length) := by
        rw [List.take_append, List.take_of_length_le hc]
      have hw := whole_frame hx.1 (by omega : x.length ≤ 4000) ((fr ls).take (m - (frame x).length))
      rw [ht]
      unfold framesP
      rw [hw, if_neg (by show ¬ ((frame x).length : Int) = 0; omega)]
      show (x :: (framesP f ((frame x ++ _).drop ((frame x).length : Int).toNat)).1, ((frame x).length : Int) + (framesP f ((frame x ++ _).drop ((frame x).length : Int).toNat)).2) = _
      rw [Int.toNat_natCast, List.drop_left' rfl, framesP_torn ls _ f (fun l hl => h l (by simp [hl])) (by omega) (by omega)]
      refine Prod.ext rfl ?_
      show ((frame x).length : Int) + (((tornP ls (m - (frame x).length)).2 : Nat) : Int) = (((tornP ls (m - (frame x).length)).2 + (frame x).length : Nat) : Int)
      omega
    · rw [if_neg hc]
      have ht : (frame x ++ fr ls).take m = (frame x).take m := by
        rw [List.take_append, show m - (frame x).length = 0 by omega, List.take_zero, List.append_nil]
      rw [ht]
      unfold framesP
      rw [whole_cut (by omega : x.length ≤ 4000) (by omega), if_pos rfl]
      rfl
theorem endsOf_len : ∀ (ls : List (List Int)) (a : Int), (endsOf a ls).length = ls.length
  | [], a => rfl
  | x :: ls, a => by show (endsOf _ ls).length + 1 = _; rw [endsOf_len ls]; rfl
/-- Where frame i of ls ends, counted from a. -/
theorem endsOf_get : ∀ (ls : List (List Int)) (a : Int) (i : Nat), i < ls.length → rd (endsOf a ls) (i : Int) = a + ((fr (ls.take (i + 1))).length : Int)
  | [], a, i, h => by simp at h
  | x :: ls, a, 0, h => by simp [endsOf, rd, fr]
  | x :: ls, a, i + 1, h => by
    have := endsOf_get ls (a + ((frame x).length : Int)) i (by simp at h; omega)
    have e : rd (endsOf a (x :: ls)) ((i + 1 : Nat) : Int) = rd (endsOf (a + ((frame x).length : Int)) ls) (i : Int) := by
      simp [rd, endsOf]
    rw [e, this, List.take_succ_cons, fr_cons, List.length_append]; omega
theorem wf_u16 {x : Int} (h : (Lit.int .u16 x).wf = true) : 0 ≤ x ∧ x ≤ 65535 := by
  have m1 : IntKind.u16.min = 0 := by decide
  have m2 : IntKind.u16.max = 65535 := by decide
  simp [Lit.wf, m1, m2] at h
  omega
end Go.Proofs.Ytpggngomdemdgaa.P
