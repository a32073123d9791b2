/- With more space no track begins or ends further to the left, if none has a Max (package tracks alone; up to 64 tracks). Conditions: those of the statement alone. -/
import Derived.Test.YtobcmkipcnlhfaaPx10
import Derived.Test.YtobcmkipcnlhfaaHPT3
set_option linter.unusedVariables false
set_option linter.unusedSimpArgs false
namespace Go.Proofs.Ytobcmkipcnlhfaa.Pure
open Go.RowKit Go.Proofs.Ytobcmkipcnlhfaa.P Go.Proofs.YtobcmkipcnlhfaaW.PrintWords Go.Proofs.YtobcmkipcnlhfaaW.PrintLast

theorem u32_bd {a : Int} (h : (Lit.int .u32 a).wf = true) : 0 ≤ a ∧ a ≤ 4294967295 := by
  have h1 : IntKind.u32.min = 0 := rfl
  have h2 : IntKind.u32.max = 4294967295 := rfl
  simp only [Lit.wf, Bool.and_eq_true, decide_eq_true_eq] at h
  omega
theorem more_loop1 (l : List S36) (hl : l.length ≤ 64) (ra rb : Nat → Int) (ha : ∀ i, i < l.length → 0 ≤ ra i ∧ ra i ≤ 2000000) (hb : ∀ i, i < l.length → 0 ≤ rb i ∧ rb i ≤ 2000000) (hle : ∀ i, i ≤ l.length → sumTo ra i ≤ sumTo rb i) : ∀ (d i : Nat), i + d = l.length →
    Ev (fun k => formelaw23_TracksMore.l1 k true (free l) (tab l.length ra) (tab l.length rb) (sumTo ra i) (sumTo rb i) (i : Int)) true
  | 0, i, e => Ev.step (fun k => rfl) (EvT.ifn (by rw [free_length]; omega) (Ev.now _))
  | d + 1, i, e => by
    have IH := more_loop1 l hl ra rb ha hb hle d (i + 1) (by omega)
    have s1 := sumTo_bd (w := ra) 2000000 (by omega) i (fun j hj => ha j (by omega)) (by omega)
    have s2 := sumTo_bd (w := rb) 2000000 (by omega) i (fun j hj => hb j (by omega)) (by omega)
    have b1 := ha i (by omega)
    have b2 := hb i (by omega)
    have hl2 := hle (i + 1) (by omega)
    refine Ev.step (fun k => rfl) (EvT.ifp (by rw [free_length]; omega) (EvT.ifp (by omega) (EvT.ifp (by rw [tab_length]; omega) (EvT.ifp (by rw [tab_length]; omega) ?_))))
    rw [tab_rd _ _ _ (by omega), tab_rd _ _ _ (by omega), show wrap64 ((i : Int) + 1) = ((i + 1 : Nat) : Int) from EvT.w64 (by omega) (by omega),
      show wrap64 (sumTo ra i + ra i) = sumTo ra (i + 1) from EvT.w64 (by omega) (by omega), show wrap64 (sumTo rb i + rb i) = sumTo rb (i + 1) from EvT.w64 (by omega) (by omega)]
    exact EvT.ifn (by omega) IH
theorem more_loop0 (l : List S36) (ok : OkL l) (a1 a2 y : Int) (h1 : 0 ≤ a1 ∧ a1 ≤ 1000000) (h2 : 0 ≤ a2 ∧ a2 ≤ 100000) (hy : a1 ≤ y ∧ y ≤ 1000000) : ∀ (d i : Nat), i + d = l.length →
    Ev (fun k => formelaw23_TracksMore.l0 k l a1 a2 true y ((l.take i).map fr) (i : Int)) true
  | 0, i, e => by
    obtain rfl : i = l.length := by omega
    refine Ev.step (fun k => rfl) (EvT.ifn (by omega) ?_)
    rw [List.take_length, show l.map fr = free l from rfl]
    obtain ⟨op, hop⟩ : ∃ op : Nat → Bool, op = fun i => decide (i < (free l).length) && decide (0 < (tk (free l) i).f1) := ⟨_, rfl⟩
    obtain ⟨ra, hra, ea, ba⟩ := free_share ok a1 a2 h1 h2 op hop
    obtain ⟨rb, hrb, eb, bb⟩ := free_share ok y a2 (by omega) h2 op hop
    refine EvT.bindc hra (EvT.bindc hrb (EvT.ifp rfl ?_))
    refine EvT.lit (g := fun k c => formelaw23_TracksMore.j2 k true (free l) (tab l.length ra) (tab l.length rb) c) false (fun c hc => Ev.step (fun k => rfl) (EvT.ifn (by rw [hc]; decide) ?_))
    have n64 := ok.n64
    refine more_loop1 l ok.n64 ra rb ba bb (fun i hi => ?_) l.length 0 (by omega)
    rw [sumTo_part op _ _ ra ea i hi, sumTo_part op _ _ rb eb i hi]
    have okf := free_ok ok
    have gb := grown_bd (op := op) okf i (by rw [free_length]; exact hi)
    have gn := grown_bd (op := op) okf l.length (by rw [free_length]; exact Nat.le_refl _)
    have hn : leftN (free l) a1 a2 ≤ leftN (free l) y a2 := by unfold leftN mx; split <;> split <;> omega
    have na := leftN_bd (free l) okf a1 a2 h1 h2
    have nb := leftN_bd (free l) okf y a2 (by omega) h2
    have hq : quo (free l) op (leftN (free l) a1 a2) (grown (free l) op l.length) i ≤ quo (free l) op (leftN (free l) y a2) (grown (free l) op l.length) i := by
      unfold quo
      rw [Int.tdiv_eq_ediv_of_nonneg (Int.mul_nonneg na.1 gb.1), Int.tdiv_eq_ediv_of_nonneg (Int.mul_nonneg nb.1 gb.1)]
      by_cases hz : grown (free l) op l.length = 0
      · rw [hz]; simp
      · exact Int.ediv_le_ediv (by omega) (Int.mul_le_mul_of_nonneg_right hn gb.1)
    omega
  | d + 1, i, e => by
    have hi : i < l.length := by omega
    have n64 := ok.n64
    have IH := more_loop0 l ok a1 a2 y h1 h2 hy d (i + 1) (by omega)
    refine Ev.step (fun k => rfl) (EvT.ifp (by omega) (EvT.ifp (by omega) (EvT.ifp (by simp; omega) ?_)))
    rw [take_free l i hi, show wrap64 ((i : Int) + 1) = ((i + 1 : Nat) : Int) from EvT.w64 (by omega) (by omega)]
    exact IH
theorem TracksMore : formelaw23_TracksMore.Pure := fun l a1 a2 a3 _ _ _ _ _ w3 => Ev.rounds (Ev.bind head_ev (EvT.ifp rfl (Ev.bind (usable_ev l a1 a2) (EvT.ite (fun h => by
  obtain ⟨ok, b1, b2, _, _, _⟩ := usable_yes h
  have b3 := u32_bd w3
  have e1 : wrap64 a3 = a3 := EvT.w64 (by omega) (by omega)
  have e2 : wrap64 (a1 + a3) = a1 + a3 := EvT.w64 (by omega) (by omega)
  rw [e1, e2]
  by_cases hy : a1 + a3 > 1000000
  · rw [decide_eq_true hy]
    exact Ev.step (fun k => rfl) (Ev.now _)
  · refine EvT.lit (g := fun k c => formelaw23_TracksMore.j0 k l a1 a2 true (a1 + a3) c) (decide (a1 + a3 > 1000000)) (fun c hc => Ev.step (fun k => rfl) (EvT.ifn (by rw [hc, decide_eq_false hy]; decide) ?_))
    exact more_loop0 l ok a1 a2 (a1 + a3) b1 b2 (by omega) l.length 0 (by omega)) (fun _ => Ev.step (fun k => rfl) (Ev.now _))))))
end Go.Proofs.Ytobcmkipcnlhfaa.Pure
