/- For every booklet and page: it is on the right exactly if it is odd; an odd page and the next one are on the front and the back of one sheet, if both are in the booklet. Conditions: those of the statement alone. -/
import Derived.Test.YtbllpiboodlepaaPx10
import Derived.Test.YtbllpiboodlepaaHPures
set_option linter.unusedVariables false
set_option linter.unusedSimpArgs false
namespace Go.Proofs.Ytbllpiboodlepaa.Pure
open Go.RowKit Go.Proofs.Ytbllpiboodlepaa.P Go.Proofs.YtbllpiboodlepaaW.PrintWords Go.Proofs.YtbllpiboodlepaaW.PrintLast

theorem leaves_core (n : Int) (K p : Nat) (h0 : 0 ≤ n) (h1 : n ≤ 500) (hK : (K : Int) = (n + 3) / 4) (hp : 1 ≤ p) (hpn : (p : Int) ≤ n) :
    Ev (fun k => (impose_Where.f n (p : Int)).bind fun bt325 => (if bt325.2.2.2.2.2 = 0 then (formelaw42_ImposeLeaves.j1 k n true (p : Int) (bt325.2.2.2.2.1 != ((Int.tmod (p : Int) 2) == 1)) bt325.1 bt325.2.1 bt325.2.2.1 bt325.2.2.2.1) else (formelaw42_ImposeLeaves.j1 k n true (p : Int) true bt325.1 bt325.2.1 bt325.2.2.1 bt325.2.2.2.1))) true := by
  have ht : Int.tmod (p : Int) 2 = ((p % 2 : Nat) : Int) := by rw [Int.tmod_eq_emod_of_nonneg (by omega)]; omega
  refine EvT.bindc (where_on n K p h0 h1 hK hp hpn) (EvT.ifp rfl ?_)
  rw [ht, show (decide (p % 2 = 1) != (((p % 2 : Nat) : Int) == 1)) = false by
    rcases Nat.mod_two_eq_zero_or_one p with h | h <;> rw [h] <;> rfl]
  refine EvT.lit (g := fun k c => formelaw42_ImposeLeaves.j1 k n true (p : Int) c (face n K (idx K p)).f0 (face n K (idx K p)).f1 (face n K (idx K p)).f2 (face n K (idx K p)).f3) false (fun c hc => ?_)
  refine Ev.step (fun k => rfl) (EvT.ifn (by rw [hc]; decide) ?_)
  rw [ht]
  refine EvT.ite (fun h => Ev.now _) (fun h => EvT.ite (fun h => Ev.now _) (fun hn => ?_))
  have hw : wrap64 ((p : Int) + 1) = ((p + 1 : Nat) : Int) := EvT.w64 (by omega) (by omega)
  rw [hw]
  refine EvT.bindc (where_on n K (p + 1) h0 h1 hK (by omega) (by omega)) (EvT.ifp rfl (EvT.ifp rfl ?_))
  have hf := face_cases n K (idx K p)
  have hg := face_cases n K (idx K (p + 1))
  refine EvT.ifn (by simp; omega) (EvT.ifp ?_ (EvT.now ?_))
  · unfold idx at hf hg ⊢
    by_cases hx : p ≤ 2 * K
    · have hx2 : p + 1 ≤ 2 * K := by omega
      simp only [hx, hx2, if_true] at hf hg ⊢
      omega
    · have hx2 : ¬ (p + 1 ≤ 2 * K) := by omega
      simp only [hx, hx2, if_false] at hf hg ⊢
      omega
  · have e : (face n K (idx K p)).f1 = !(face n K (idx K (p + 1))).f1 := by
      unfold idx at hf hg ⊢
      by_cases hx : p ≤ 2 * K
      · have hx2 : p + 1 ≤ 2 * K := by omega
        simp only [hx, hx2, if_true] at hf hg ⊢
        rcases hf with ⟨a, b, _⟩ | ⟨a, b, _⟩ <;> rcases hg with ⟨c, e, _⟩ | ⟨c, e, _⟩ <;> first | omega | (rw [b, e]; rfl)
      · have hx2 : ¬ (p + 1 ≤ 2 * K) := by omega
        simp only [hx, hx2, if_false] at hf hg ⊢
        rcases hf with ⟨a, b, _⟩ | ⟨a, b, _⟩ <;> rcases hg with ⟨c, e, _⟩ | ⟨c, e, _⟩ <;> first | omega | (rw [b, e]; rfl)
    rw [e]
    cases (face n K (idx K (p + 1))).f1 <;> rfl
theorem ImposeLeaves : formelaw42_ImposeLeaves.Pure := fun a0 a1 _ w1 => by
  refine Ev.rounds (Ev.bind head_ev (EvT.ifp rfl ?_))
  have fin : Ev (fun k => formelaw42_ImposeLeaves.j0 k a0 a1 true true) true := Ev.step (fun k => rfl) (Ev.now _)
  refine EvT.ite (fun h => fin) (fun h => ?_)
  by_cases hb : a0 > 500
  · rw [decide_eq_true hb]; exact fin
  · rw [decide_eq_false hb]
    obtain ⟨K, hK⟩ : ∃ K : Nat, (K : Int) = (a0 + 3) / 4 := ⟨((a0 + 3) / 4).toNat, by omega⟩
    have t1 := Int.tmod_lt_of_pos a1 (show (0 : Int) < a0 by omega)
    have t2 := Int.lt_tmod_of_pos a1 (show (0 : Int) < a0 by omega)
    have e1 : wrap64 (Int.tmod a1 a0 + a0) = Int.tmod a1 a0 + a0 := EvT.w64 (by omega) (by omega)
    have e2 : Int.tmod (Int.tmod a1 a0 + a0) a0 = (Int.tmod a1 a0 + a0) % a0 := Int.tmod_eq_emod_of_nonneg (by omega)
    have t3 := Int.emod_nonneg (Int.tmod a1 a0 + a0) (show a0 ≠ 0 by omega)
    have t4 := Int.emod_lt_of_pos (Int.tmod a1 a0 + a0) (show (0 : Int) < a0 by omega)
    obtain ⟨p, hp⟩ : ∃ p : Nat, 1 + (Int.tmod a1 a0 + a0) % a0 = (p : Int) := ⟨(1 + (Int.tmod a1 a0 + a0) % a0).toNat, by omega⟩
    have e3 : wrap64 (1 + Int.tmod (wrap64 (Int.tmod a1 a0 + a0)) a0) = (p : Int) := by rw [e1, e2, EvT.w64 (by omega) (by omega), hp]
    refine EvT.lit (g := fun k c => formelaw42_ImposeLeaves.j0 k a0 a1 true c) false (fun c hc => ?_)
    refine Ev.step (fun k => rfl) (EvT.ifn (by rw [hc]; decide) (EvT.ifn (by omega) ?_))
    rw [e3]
    exact leaves_core a0 K p (by omega) (by omega) hK (by omega) (by omega)
end Go.Proofs.Ytbllpiboodlepaa.Pure
