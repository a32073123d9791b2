import Derived.Test.YtpggngomdemdgaaPx6
import Derived.Test.YtpggngomdemdgaaHPure5
set_option linter.unusedVariables false
set_option linter.unusedSimpArgs false
namespace Go.Proofs.Ytpggngomdemdgaa.P
open Go.RowKit Go.Proofs.YtpggngomdemdgaaW.PrintWords Go.Codec
theorem small_end (ls : List (List Int)) (i : Int) : ∀ q, q = false → Ev (fun k => formelaw05_small.j1 k ls i q) (decide ((ls.length : Int) ≤ 10)) := fun q hq =>
  Ev.step (fun k => rfl) (EvT.ifn (by rw [hq]; decide) (Ev.now _))
theorem small_loop (ls : List (List Int)) (hl : ls.length ≤ 9223372036854775807) : ∀ (d i : Nat), i + d = ls.length → i ≤ 20 → ∃ q, Ev (fun k => formelaw05_small.l0 k ls (i : Int)) q ∧ (q = true → ls.length ≤ 10 ∧ ∀ l ∈ ls.drop i, l.length ≤ 30)
  | 0, i, h, hi => ⟨decide ((ls.length : Int) ≤ 10), Ev.step (fun k => rfl) (EvT.ifn (by omega) (small_end ls _ _ rfl)), fun hq => by
      rw [List.drop_of_length_le (by omega)]
      have := of_decide_eq_true hq
      exact ⟨by omega, fun l hl => by simp at hl⟩⟩
  | d + 1, i, h, hi => by
    by_cases h20 : i < 20
    · have hil : i < ls.length := by omega
      have hd : ls.drop i = ls[i] :: ls.drop (i + 1) := List.drop_eq_getElem_cons hil
      have hr : rd_L2 ls (i : Int) = ls[i] := by simp [rd_L2, List.getD_eq_getElem?_getD, List.getElem?_eq_getElem hil]
      have hw : wrap64 ((i : Int) + 1) = ((i + 1 : Nat) : Int) := EvT.w64 (by omega) (by omega)
      obtain ⟨q, hq, hqt⟩ := small_loop ls hl d (i + 1) (by omega) (by omega)
      by_cases h30 : ls[i].length ≤ 30
      · refine ⟨q, ?_, fun ht => ?_⟩
        · have hJ : ∀ x, x = true → Ev (fun k => formelaw05_small.j1 k ls (i : Int) x) q := fun x hx => by
            refine Ev.step (fun k => rfl) (EvT.ifp hx (EvT.ifp (by omega) (EvT.ifp (by omega) (EvT.ifn (by rw [hr]; omega) ?_))))
            rw [hw]; exact hq
          exact Ev.step (fun k => rfl) (EvT.ifp (by omega) (hJ _ (decide_eq_true (by omega))))
        · obtain ⟨h1, h2⟩ := hqt ht
          refine ⟨h1, fun l hl' => ?_⟩
          rw [hd] at hl'
          rcases List.mem_cons.1 hl' with rfl | hl'
          · exact h30
          · exact h2 l hl'
      · refine ⟨false, ?_, fun ht => by cases ht⟩
        have hJ : ∀ x, x = true → Ev (fun k => formelaw05_small.j1 k ls (i : Int) x) false := fun x hx =>
          Ev.step (fun k => rfl) (EvT.ifp hx (EvT.ifp (by omega) (EvT.ifp (by omega) (EvT.ifp (by rw [hr]; omega) (Ev.now _)))))
        exact Ev.step (fun k => rfl) (EvT.ifp (by omega) (hJ _ (decide_eq_true (by omega))))
    · refine ⟨decide ((ls.length : Int) ≤ 10), Ev.step (fun k => rfl) (EvT.ifp (by omega) (small_end ls _ _ (decide_eq_false (by omega)))), fun hq => ?_⟩
      have := of_decide_eq_true hq
      omega
theorem small_ev (ls : List (List Int)) (hl : ls.length ≤ 9223372036854775807) : ∃ q, Ev (fun k => formelaw05_small.f k ls) q ∧ (q = true → ls.length ≤ 10 ∧ ∀ l ∈ ls, l.length ≤ 30) := by
  obtain ⟨q, h1, h2⟩ := small_loop ls hl ls.length 0 (by omega) (by omega)
  exact ⟨q, h1, fun ht => by have := h2 ht; rwa [List.drop_zero] at this⟩
theorem frames_loop {ls : List (List Int)} (h : okL ls) (hl : ls.length ≤ 10) : ∀ (d i : Nat) (acc : List Int) (ends : List Int), i + d = ls.length → acc.length ≤ 400 * i → ends.length = i →
    Ev (fun k => formelaw05_frames.l0 k ls acc ends (i : Int)) (acc ++ fr (ls.drop i), ends ++ endsOf (acc.length : Int) (ls.drop i), true)
  | 0, i, acc, ends, hi, ha, he => by
    rw [List.drop_of_length_le (by omega)]
    refine Ev.step (fun k => rfl) (EvT.ifn (by omega) ?_)
    simp only [fr, endsOf, List.map_nil, List.flatten_nil, List.append_nil]
    exact Ev.now _
  | d + 1, i, acc, ends, hi, ha, he => by
    have hil : i < ls.length := by omega
    have hd : ls.drop i = ls[i] :: ls.drop (i + 1) := List.drop_eq_getElem_cons hil
    have hr : rd_L2 ls (i : Int) = ls[i] := by simp [rd_L2, List.getD_eq_getElem?_getD, List.getElem?_eq_getElem hil]
    have hw : wrap64 ((i : Int) + 1) = ((i + 1 : Nat) : Int) := EvT.w64 (by omega) (by omega)
    have hx := h _ (List.getElem_mem hil)
    have hf : codec_Frame.f ls[i] = some (frame ls[i], 0) := by
      unfold codec_Frame.f
      rw [if_pos (List.all_eq_true.2 fun x hx' => by have := hx.1 x hx'; simpa [i64] using this), if_neg (by omega)]
    have hfl := frame_len ls[i]
    have hle := enc_len ls[i]
    have hpos := enc_pos ls[i]
    refine Ev.step (fun k => rfl) (EvT.ifp (by omega) (EvT.ifp (by omega) ?_))
    rw [hr]
    refine EvT.bindc hf (EvT.ifp rfl (EvT.ifn (by show ¬ ((frame ls[i]).length : Int) < 12; omega) (EvT.ifp (by show acc.length + (frame ls[i]).length < _; omega) (EvT.bindc rfl (EvT.ifp (by omega) ?_)))))
    rw [hw]
    have := frames_loop h hl d (i + 1) (acc ++ frame ls[i]) (ends ++ [((acc ++ frame ls[i]).length : Int)]) (by omega) (by rw [List.length_append]; omega) (by simp [he])
    rw [hd, fr_cons, endsOf]
    have e : ((acc ++ frame ls[i]).length : Int) = (acc.length : Int) + ((frame ls[i]).length : Int) := by rw [List.length_append]; omega
    rw [List.append_assoc, List.append_assoc, e] at this
    rw [← e] at this ⊢
    exact this
theorem frames_ev {ls : List (List Int)} (h : okL ls) (hl : ls.length ≤ 10) : Ev (fun k => formelaw05_frames.f k ls) (fr ls, endsOf 0 ls, true) := by
  have := frames_loop h hl ls.length 0 [] [] (by omega) (by simp) rfl
  rw [List.drop_zero] at this
  exact this
end Go.Proofs.Ytpggngomdemdgaa.P
