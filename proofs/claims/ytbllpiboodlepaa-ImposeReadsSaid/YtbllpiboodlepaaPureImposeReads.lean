/- For every booklet: its faces are turned over in the order of the pages, with the empty ones at the end. Conditions: those of the statement alone. -/
import Derived.Test.YtbllpiboodlepaaPx9
import Derived.Test.YtbllpiboodlepaaHPures
set_option linter.unusedVariables false
set_option linter.unusedSimpArgs false
namespace Go.Proofs.Ytbllpiboodlepaa.Pure
open Go.RowKit Go.Proofs.Ytbllpiboodlepaa.P Go.Proofs.YtbllpiboodlepaaW.PrintWords Go.Proofs.YtbllpiboodlepaaW.PrintLast

def read (n : Int) (K : Nat) : List Int := outs (faces n K) ++ (behs (faces n K)).reverse
theorem read_length (n : Int) (K : Nat) : (read n K).length = 4 * K := by simp [read, outs, behs, faces_length]; omega
theorem read_get (n : Int) (K i : Nat) (h0 : 0 ≤ n) (h1 : n ≤ 500) (hK : (K : Int) = (n + 3) / 4) (hi : i < 4 * K) : rd (read n K) (i : Int) = clip n (i + 1) := by
  rw [rd_get _ _ (by rw [read_length]; exact hi)]
  unfold read
  have hl := faces_length n K
  by_cases h : i < 2 * K
  · rw [List.getElem_append_left (by simp [outs, hl]; exact h)]
    have hf := face_cases n K i
    simp only [outs, faces, List.getElem_map, List.getElem_range]
    unfold clip at hf ⊢
    rcases hf with ⟨a, b, c, d, e⟩ | ⟨a, b, c, d, e⟩
    · rw [b, if_neg (by decide), c, if_neg (by omega)]
    · rw [b, if_pos rfl, c]
  · rw [List.getElem_append_right (by simp [outs, hl]; omega), List.getElem_reverse]
    have hf := face_cases n K (2 * K - 1 - (i - 2 * K))
    simp only [outs, behs, faces, List.getElem_map, List.getElem_range, List.length_map, List.length_range]
    rcases hf with ⟨a, b, c, d, e⟩ | ⟨a, b, c, d, e⟩
    · rw [b, if_neg (by decide), d]; congr 1; omega
    · rw [b, if_pos rfl, d]; congr 1; omega
theorem faces_ok (n : Int) (K : Nat) (h0 : 0 ≤ n) (h1 : n ≤ 500) (hK : (K : Int) = (n + 3) / 4) : ∀ j, j < (faces n K).length → okf j (rd_T29 (faces n K) (j : Int)) := by
  intro j hj
  rw [faces_length] at hj
  rw [faces_get n K j hj]
  have hf := face_cases n K j
  unfold clip at hf
  unfold okf
  rcases hf with ⟨a, b, c, d, e⟩ | ⟨a, b, c, d, e⟩
  · rw [b, a]; exact ⟨by omega, rfl, by omega, by omega, by omega, by omega⟩
  · rw [b, a]; exact ⟨by omega, rfl, by omega, by omega, by omega, by omega⟩
theorem order_faces (n : Int) (K : Nat) (h0 : 0 ≤ n) (h1 : n ≤ 500) (hK : (K : Int) = (n + 3) / 4) : Ev (fun k => impose_Order.f k (faces n K)) (read n K, 0) :=
  order_ev (faces n K) (by rw [faces_length]; omega) _ (fun _ _ _ => rfl) (fun h => by
    rw [faces_length] at h
    rcases h with h | h | ⟨j, hj, hn⟩
    · omega
    · omega
    · exact absurd (faces_ok n K h0 h1 hK j (by rw [faces_length]; exact hj)) hn)
theorem reads_loop (n : Int) (K : Nat) (h0 : 0 ≤ n) (h1 : n ≤ 500) (hK : (K : Int) = (n + 3) / 4) : ∀ (d i : Nat), i + d = 4 * K →
    Ev (fun k => formelaw42_ImposeReads.l0 k n true (read n K) ((read n K).length : Int) (i : Int)) true
  | 0, i, h => Ev.step (fun k => rfl) (EvT.ifn (by rw [read_length]; omega) (Ev.now _))
  | d + 1, i, h => by
    have hl := read_length n K
    have hw : wrap64 ((i : Int) + 1) = ((i + 1 : Nat) : Int) := EvT.w64 (by omega) (by omega)
    have IH := reads_loop n K h0 h1 hK d (i + 1) (by omega)
    refine Ev.step (fun k => rfl) (EvT.ifp (by rw [hl]; omega) (EvT.ifp (by omega) (EvT.ifp (by rw [hl]; omega) (EvT.ifp rfl ?_))))
    rw [hw, read_get n K i h0 h1 hK (by omega)]
    unfold clip
    refine EvT.ite (fun h2 => IH) (fun h2 => EvT.ifp (by split at h2 <;> omega) ?_)
    rw [show ((if n < (i : Int) + 1 then (0 : Int) else (i : Int) + 1) == 0) = true by rw [beq_iff_eq]; split at h2 <;> split <;> omega]
    exact IH
theorem ImposeReads : formelaw42_ImposeReads.Pure := fun a0 _ => Ev.rounds (begin_ev (g := fun k l b c => formelaw42_ImposeReads.j0 k a0 true l b c) a0
  (Ev.step (fun k => rfl) (Ev.now _))
  (fun K h0 h1 hK => EvT.lit (g := fun k c => formelaw42_ImposeReads.j0 k a0 true (faces a0 K) true c) false (fun c hc => Ev.step (fun k => rfl) (EvT.ifn (by rw [hc]; decide) (by
    refine Ev.bind (order_faces a0 K h0 h1 hK) (EvT.ifp rfl ?_)
    rw [show (((read a0 K).length : Int) != wrap64 (2 * ((faces a0 K).length : Int))) = false by rw [read_length, faces_length, EvT.w64 (by omega) (by omega)]; simp; omega]
    exact Ev.step (fun k => rfl) (reads_loop a0 K h0 h1 hK (4 * K) 0 (by omega)))))))
end Go.Proofs.Ytbllpiboodlepaa.Pure
