/- If no track has a Max, and what is left is a multiple of the sum of all Grow, each part is exactly this multiple of Grow (package tracks alone; up to 64 tracks). Conditions: those of the statement alone. -/
import Derived.Test.YtobcmkipcnlhfaaPx12
import Derived.Test.YtobcmkipcnlhfaaHPT3
set_option linter.unusedVariables false
set_option linter.unusedSimpArgs false
namespace Go.Proofs.Ytobcmkipcnlhfaa.Pure
open Go.RowKit Go.Proofs.Ytobcmkipcnlhfaa.P Go.Proofs.YtobcmkipcnlhfaaW.PrintWords Go.Proofs.YtobcmkipcnlhfaaW.PrintLast

theorem u16_bd {a : Int} (h : (Lit.int .u16 a).wf = true) : 0 ≤ a ∧ a ≤ 65535 := by
  have h1 : IntKind.u16.min = 0 := rfl
  have h2 : IntKind.u16.max = 65535 := rfl
  simp only [Lit.wf, Bool.and_eq_true, decide_eq_true_eq] at h
  omega
theorem mult_loop1 (l : List S36) (hl : l.length ≤ 64) (t : Int) (ht : 0 ≤ t ∧ t ≤ 65535) (bd : ∀ i, i < l.length → 0 ≤ (tk l i).f0 ∧ (tk l i).f0 ≤ 1000000 ∧ 0 ≤ (tk l i).f1 ∧ (tk l i).f1 ≤ 1000) (res : Nat → Int) (h : ∀ i, i < l.length → res i = (tk l i).f0 + (tk l i).f1 * t) : ∀ (d i : Nat), i + d = l.length →
    Ev (fun k => formelaw23_TracksMultiples.l1 k l t true (free l) (tab l.length res) (i : Int)) true
  | 0, i, e => Ev.step (fun k => rfl) (EvT.ifn (by omega) (Ev.now _))
  | d + 1, i, e => by
    have hi : i < l.length := by omega
    have IH := mult_loop1 l hl t ht bd res h d (i + 1) (by omega)
    have b := bd i hi
    have m1 : 0 ≤ (tk l i).f1 * t := Int.mul_nonneg b.2.2.1 ht.1
    have m2 : (tk l i).f1 * t ≤ 1000 * 65535 := Int.mul_le_mul b.2.2.2 ht.2 ht.1 (by omega)
    refine Ev.step (fun k => rfl) (EvT.ifp (by omega) (EvT.ifp (by omega) (EvT.ifp (by rw [tab_length]; omega) (EvT.ifp (by rw [free_length]; omega) (EvT.ifp ?_ ?_)))))
    · rw [tab_rd _ _ _ hi, show rd_T36 (free l) (i : Int) = tk (free l) i from rfl, free_tk l i hi, h i hi]
      simp only [fr]
      rw [EvT.w64 (x := t) (by omega) (by omega), EvT.w64 (x := (tk l i).f1 * t) (by omega) (by omega), EvT.w64 (by omega) (by omega)]
    · rw [show wrap64 ((i : Int) + 1) = ((i + 1 : Nat) : Int) from EvT.w64 (by omega) (by omega)]
      exact IH
theorem grown_sum {l : List S36} (ok : OkL l) (op : Nat → Bool) (hop : op = fun i => decide (i < (free l).length) && decide (0 < (tk (free l) i).f1)) : ∀ i, i ≤ l.length → grown (free l) op i = sumTo (fun i => (tk l i).f1) i
  | 0, _ => rfl
  | i + 1, hi => by
    have b := ok.bd i (by omega)
    have ho : op i = decide (0 < (tk l i).f1) := by
      rw [hop]
      simp only [free_tk l i (by omega), fr, free_length, decide_eq_true (show i < l.length by omega), Bool.true_and]
    simp only [grown, sumTo, grown_sum ok op hop i (by omega), ho, free_tk l i (by omega), fr]
    by_cases h : 0 < (tk l i).f1
    · rw [decide_eq_true h]; simp
    · rw [decide_eq_false h]; simp; omega
theorem mult_loop0 (l : List S36) (ok : OkL l) (gap t G : Int) (hG : gap * ((l.length : Int) - 1) = G) (hG1 : 0 ≤ G ∧ G ≤ 6300000) (h2 : 0 ≤ gap ∧ gap ≤ 100000) (ht : 0 ≤ t ∧ t ≤ 65535) : ∀ (d i : Nat), i + d = l.length →
    Ev (fun k => formelaw23_TracksMultiples.l0 k l gap t true ((l.take i).map fr) (G + sumTo (fun i => (tk l i).f0) i) (sumTo (fun i => (tk l i).f1) i) (i : Int)) true
  | 0, i, e => by
    obtain rfl : i = l.length := by omega
    have n64 := ok.n64
    refine Ev.step (fun k => rfl) (EvT.ifn (by omega) ?_)
    rw [List.take_length, show l.map fr = free l from rfl]
    have s0 := sumTo_bd (w := fun i => (tk l i).f0) 1000000 (by omega) l.length (fun j hj => by have := ok.bd j hj; omega) n64
    have s1 := sumTo_bd (w := fun i => (tk l i).f1) 1000 (by omega) l.length (fun j hj => by have := ok.bd j hj; omega) n64
    obtain ⟨A, hA⟩ : ∃ A, sumTo (fun i => (tk l i).f1) l.length = A := ⟨_, rfl⟩
    obtain ⟨B, hB⟩ : ∃ B, sumTo (fun i => (tk l i).f0) l.length = B := ⟨_, rfl⟩
    rw [hA] at s1 ⊢
    rw [hB] at s0 ⊢
    have m1 : 0 ≤ A * t := Int.mul_nonneg s1.1 ht.1
    have m2 : A * t ≤ 64000 * 65535 := Int.mul_le_mul (by omega) ht.2 ht.1 (by omega)
    rw [EvT.w64 (x := t) (by omega) (by omega), EvT.w64 (x := A * t) (by omega) (by omega), EvT.w64 (x := G + B + A * t) (by omega) (by omega)]
    refine EvT.ite (fun _ => Ev.now _) (fun hs => ?_)
    obtain ⟨op, hop⟩ : ∃ op : Nat → Bool, op = fun i => decide (i < (free l).length) && decide (0 < (tk (free l) i).f1) := ⟨_, rfl⟩
    obtain ⟨res, hr, er, _⟩ := free_share ok (G + B + A * t) gap (by omega) h2 op hop
    refine EvT.bindc hr (EvT.ifp rfl ?_)
    refine mult_loop1 l n64 t ht (fun i hi => by have := ok.bd i hi; omega) res (fun i hi => ?_) l.length 0 (by omega)
    have hN : leftN (free l) (G + B + A * t) gap = A * t := by
      rw [leftN_eq, free_length, hG, show sumTo (fun i => (tk (free l) i).f0) l.length = B by rw [← hB]; exact sumTo_congr _ (fun i hi => by rw [free_tk l i hi]; rfl)]
      unfold mx
      split <;> omega
    rw [er i hi, hN]
    congr 1
    have okf := free_ok ok
    have hq : ∀ j, j ≤ l.length → quo (free l) op (A * t) (grown (free l) op l.length) j = t * grown (free l) op j := fun j hj => by
      unfold quo
      have gj := grown_bd (op := op) okf j (by rw [free_length]; exact hj)
      rw [grown_sum ok op hop l.length (Nat.le_refl _), hA]
      by_cases hz : A = 0
      · have hm := grown_mono (op := op) okf (l.length - j) j (by rw [free_length]; omega)
        rw [show j + (l.length - j) = l.length by omega, grown_sum ok op hop l.length (Nat.le_refl _), hA, hz] at hm
        rw [show grown (free l) op j = 0 by omega]
        simp
      · rw [show A * t * grown (free l) op j = A * (t * grown (free l) op j) by rw [Int.mul_assoc], Int.mul_tdiv_cancel_left _ hz]
    have hp : P.part (free l) op (A * t) (grown (free l) op l.length) i = quo (free l) op (A * t) (grown (free l) op l.length) (i + 1) - quo (free l) op (A * t) (grown (free l) op l.length) i := rfl
    rw [hp, hq i (by omega), hq (i + 1) (by omega), grown_sum ok op hop i (by omega), grown_sum ok op hop (i + 1) (by omega)]
    simp only [sumTo]
    rw [Int.mul_add, Int.mul_comm t (tk l i).f1]
    omega
  | d + 1, i, e => by
    have hi : i < l.length := by omega
    have n64 := ok.n64
    have IH := mult_loop0 l ok gap t G hG hG1 h2 ht d (i + 1) (by omega)
    have b := ok.bd i hi
    have s0 := sumTo_bd (w := fun i => (tk l i).f0) 1000000 (by omega) i (fun j hj => by have := ok.bd j (by omega); omega) (by omega)
    have s1 := sumTo_bd (w := fun i => (tk l i).f1) 1000 (by omega) i (fun j hj => by have := ok.bd j (by omega); omega) (by omega)
    refine Ev.step (fun k => rfl) (EvT.ifp (by omega) (EvT.ifp (by omega) (EvT.ifp (by simp; omega) ?_)))
    rw [take_free l i hi, show wrap64 ((i : Int) + 1) = ((i + 1 : Nat) : Int) from EvT.w64 (by omega) (by omega), show rd_T36 l (i : Int) = tk l i from rfl,
      show wrap64 (G + sumTo (fun i => (tk l i).f0) i + (tk l i).f0) = G + sumTo (fun i => (tk l i).f0) (i + 1) by rw [EvT.w64 (by omega) (by omega)]; simp only [sumTo]; omega,
      show wrap64 (sumTo (fun i => (tk l i).f1) i + (tk l i).f1) = sumTo (fun i => (tk l i).f1) (i + 1) by rw [EvT.w64 (by omega) (by omega)]; rfl]
    exact IH
theorem TracksMultiples : formelaw23_TracksMultiples.Pure := fun l gap t _ _ _ _ wt => Ev.rounds (begin_ev l 0 gap fun ok _ b2 _ _ _ => by
  have bt := u16_bd wt
  have n1 := ok.n1
  have n64 := ok.n64
  obtain ⟨m, hm⟩ : ∃ m : Int, (l.length : Int) - 1 = m := ⟨_, rfl⟩
  have hm1 : 0 ≤ m ∧ m ≤ 63 := by omega
  have hp : 0 ≤ gap * m ∧ gap * m ≤ 6300000 := by
    refine ⟨Int.mul_nonneg b2.1 hm1.1, ?_⟩
    have := Int.mul_le_mul b2.2 hm1.2 hm1.1 (by omega)
    omega
  rw [hm, EvT.w64 (x := m) (by omega) (by omega), EvT.w64 (x := gap * m) (by omega) (by omega)]
  have := mult_loop0 l ok gap t (gap * m) (by rw [hm]) hp b2 bt l.length 0 (by omega)
  simpa [sumTo] using this)
end Go.Proofs.Ytobcmkipcnlhfaa.Pure
