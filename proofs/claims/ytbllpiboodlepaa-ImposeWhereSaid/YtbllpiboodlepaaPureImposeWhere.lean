/- For every booklet and page: the face that is found is one of its faces, and has the page on the side that is told. Conditions: those of the statement alone. -/
import Derived.Test.YtbllpiboodlepaaPx12
import Derived.Test.YtbllpiboodlepaaHPures
set_option linter.unusedVariables false
set_option linter.unusedSimpArgs false
namespace Go.Proofs.Ytbllpiboodlepaa.Pure
open Go.RowKit Go.Proofs.Ytbllpiboodlepaa.P Go.Proofs.YtbllpiboodlepaaW.PrintWords Go.Proofs.YtbllpiboodlepaaW.PrintLast

theorem where_end (n : Int) (K p : Nat) (f : S29) (r : Bool) (hr : if r = true then f.f3 = (p : Int) else f.f2 = (p : Int)) : ∀ (d i : Nat), i + d = 2 * K → 2 * K ≤ 1000 →
    Ev (fun k => formelaw42_ImposeWhere.l0 k (p : Int) true r 0 true (faces n K) ((faces n K).length : Int) (i : Int) f.f0 f.f1 f.f2 f.f3) true
  | 0, i, h, hb => Ev.step (fun k => rfl) (EvT.ifn (by rw [faces_length]; omega) (EvT.ifp rfl (EvT.ifp rfl (EvT.ifp rfl (by
      cases r
      · exact EvT.ifn (by decide) (EvT.now (by simpa using hr))
      · exact EvT.ifp rfl (EvT.ifp (by simpa using hr) (Ev.now _)))))))
  | d + 1, i, h, hb => by
    have hl := faces_length n K
    have hw : wrap64 ((i : Int) + 1) = ((i + 1 : Nat) : Int) := EvT.w64 (by omega) (by omega)
    refine Ev.step (fun k => rfl) (EvT.ifp (by rw [hl]; omega) (EvT.ifp (by omega) (EvT.ifp (by rw [hl]; omega) (EvT.ifp rfl ?_))))
    rw [hw]
    exact where_end n K p f r hr d (i + 1) (by omega) hb
theorem where_loop (n : Int) (K p j : Nat) (r : Bool) (hj : j < 2 * K) (hr : if r = true then (face n K j).f3 = (p : Int) else (face n K j).f2 = (p : Int)) (hb : 2 * K ≤ 1000) : ∀ (d i : Nat) (b : Bool), i + d = j →
    Ev (fun k => formelaw42_ImposeWhere.l0 k (p : Int) true r 0 b (faces n K) ((faces n K).length : Int) (i : Int) (face n K j).f0 (face n K j).f1 (face n K j).f2 (face n K j).f3) true
  | 0, i, b, h => by
    obtain rfl : i = j := by omega
    cases b
    · have hl := faces_length n K
      have hw : wrap64 ((i : Int) + 1) = ((i + 1 : Nat) : Int) := EvT.w64 (by omega) (by omega)
      refine Ev.step (fun k => rfl) (EvT.ifp (by rw [hl]; omega) (EvT.ifp (by omega) (EvT.ifp (by rw [hl]; omega) (EvT.ifn (by decide) ?_))))
      rw [hw, faces_get n K i hj]
      simp only [BEq.rfl, Bool.and_self]
      exact where_end n K p _ r hr (2 * K - (i + 1)) (i + 1) (by omega) hb
    · exact where_end n K p _ r hr (2 * K - i) i (by omega) hb
  | d + 1, i, b, h => by
    have hl := faces_length n K
    have hw : wrap64 ((i : Int) + 1) = ((i + 1 : Nat) : Int) := EvT.w64 (by omega) (by omega)
    cases b
    · refine Ev.step (fun k => rfl) (EvT.ifp (by rw [hl]; omega) (EvT.ifp (by omega) (EvT.ifp (by rw [hl]; omega) (EvT.ifn (by decide) ?_))))
      rw [hw]
      exact where_loop n K p j r hj hr hb d (i + 1) _ (by omega)
    · refine Ev.step (fun k => rfl) (EvT.ifp (by rw [hl]; omega) (EvT.ifp (by omega) (EvT.ifp (by rw [hl]; omega) (EvT.ifp rfl ?_))))
      rw [hw]
      exact where_loop n K p j r hj hr hb d (i + 1) _ (by omega)
theorem ImposeWhere : formelaw42_ImposeWhere.Pure := fun a0 a1 _ w1 => Ev.rounds (begin_ev (g := fun k l b c => formelaw42_ImposeWhere.j0 k a0 a1 true l b c) a0
  (Ev.step (fun k => rfl) (Ev.now _))
  (fun K h0 h1 hK => EvT.lit (g := fun k c => formelaw42_ImposeWhere.j0 k a0 a1 true (faces a0 K) true c) false (fun c hc => Ev.step (fun k => rfl) (EvT.ifn (by rw [hc]; decide) (by
    by_cases hp : 1 ≤ a1 ∧ a1 ≤ a0
    · obtain ⟨p, rfl⟩ : ∃ p : Nat, a1 = (p : Int) := ⟨a1.toNat, by omega⟩
      refine EvT.bindc (where_on a0 K p h0 h1 hK (by omega) hp.2) (EvT.ifn (by omega) ?_)
      rw [decide_eq_false (show ¬ ((p : Int) > a0) by omega)]
      obtain ⟨hla, hi⟩ := lastAt_page a0 K p h0 h1 hK (by omega) hp.2
      refine Ev.step (fun k => rfl) (where_loop a0 K p (idx K p) (decide (p % 2 = 1)) hi ?_ (by omega) (idx K p) 0 false (by omega))
      have hf := face_cases a0 K (idx K p)
      unfold clip at hf
      by_cases ho : p % 2 = 1
      · rw [decide_eq_true ho, if_pos rfl]; unfold idx at hf ⊢; split at hf <;> rename_i hx <;> simp only [hx, if_true, if_false] <;> omega
      · rw [decide_eq_false ho, if_neg (by decide)]; unfold idx at hf ⊢; split at hf <;> rename_i hx <;> simp only [hx, if_true, if_false] <;> omega
    · refine EvT.bindc (where_off a0 K a1 w1 h0 h1 hK (by omega)) ?_
      have fin : Ev (fun k => formelaw42_ImposeWhere.j1 k a1 true (faces a0 K) false 4 true 0 false 0 0) true := Ev.step (fun k => rfl) (Ev.now _)
      refine EvT.ite (fun h => fin) (fun h => ?_)
      rw [decide_eq_true (show a1 > a0 by omega)]
      exact fin)))))
end Go.Proofs.Ytbllpiboodlepaa.Pure
