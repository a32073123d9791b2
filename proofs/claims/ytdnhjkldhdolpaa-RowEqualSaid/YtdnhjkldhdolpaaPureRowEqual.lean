/- Widths with the same base and the same Grow differ by at most 1; if their number divides what is left, they are the same (package row; up to 64 boxes). Conditions: those of the statement alone. -/
import Derived.Test.YtdnhjkldhdolpaaPx10
import Derived.Test.YtdnhjkldhdolpaaHRowP4
set_option linter.unusedVariables false
set_option linter.unusedSimpArgs false
namespace Go.Proofs.Ytdnhjkldhdolpaa.Pure
open Go.RowKit Go.Proofs.Ytdnhjkldhdolpaa.P Go.Proofs.YtdnhjkldhdolpaaW.PrintWords Go.Proofs.YtdnhjkldhdolpaaW.PrintLast

theorem okV_of {l : List S47} (ok : OkL l) : okV l = true := by
  have h1 := ok.n1
  have h2 := ok.n64
  have h3 : l.any wrongW = false := List.any_eq_false.2 (fun t ht => by
    obtain ⟨i, hi, e⟩ := List.getElem_of_mem ht
    have e2 : tk l i = l[i] := by simp [tk, rd_T47, List.getD_eq_getElem?_getD, List.getElem?_eq_getElem hi]
    rw [← e, ← e2, (wrongW_iff _).2 (ok.bd i hi)]
    decide)
  simp [okV, h3, inside]
  omega
theorem rd_rep (n : Nat) (x : Int) (i : Nat) (h : i < n) : rd (List.replicate n x) (i : Int) = x := by simp [rd, List.getD_eq_getElem?_getD, h]
theorem lit_bd {k : IntKind} {a lo hi : Int} (h : (Lit.int k a).wf = true) (h1 : k.min = lo) (h2 : k.max = hi) : lo ≤ a ∧ a ≤ hi := by
  simp only [Lit.wf, Bool.and_eq_true, decide_eq_true_eq] at h
  omega
theorem tmod_bd {a : Int} (m : Int) (h : 0 ≤ a) (hm : 0 < m) : 0 ≤ Int.tmod a m ∧ Int.tmod a m < m := by
  rw [Int.tmod_eq_emod_of_nonneg h]
  exact ⟨Int.emod_nonneg a (by omega), Int.emod_lt_of_pos a hm⟩
theorem eq_build (N : Nat) (hN : N ≤ 64) (b g s t : Int)
    (hend : Ev (fun k => formelaw25_RowEqual.l0 k true (N : Int) b g s t (List.replicate N b) (List.replicate N g) (N : Int) (N : Int)) true) : ∀ (d i : Nat), i + d = N →
    Ev (fun k => formelaw25_RowEqual.l0 k true (N : Int) b g s t (List.replicate i b) (List.replicate i g) (N : Int) (i : Int)) true
  | 0, i, e => by
    obtain rfl : i = N := by omega
    exact hend
  | d + 1, i, e => by
    refine EvT.succ (fun k => rfl) (EvT.ifp (by omega) (EvT.ifp (by simp; omega) (EvT.ifp (by simp; omega) ?_)))
    rw [w1 i (by omega), ← List.replicate_succ', ← List.replicate_succ']
    exact eq_build N hN b g s t hend d (i + 1) (by omega)
theorem eq_loop (N : Nat) (hN : N ≤ 64) (b s t : Int) (res : Nat → Int)
    (hend : ∀ lo hi, (∃ i, i < N ∧ lo = res i) → (∃ i, i < N ∧ hi = res i) → Ev (fun k => formelaw25_RowEqual.l1 k true (N : Int) b s t lo hi (tab N res) (N : Int) (N : Int)) true) : ∀ (d i : Nat) (lo hi : Int), i + d = N → (∃ i, i < N ∧ lo = res i) → (∃ i, i < N ∧ hi = res i) →
    Ev (fun k => formelaw25_RowEqual.l1 k true (N : Int) b s t lo hi (tab N res) (N : Int) (i : Int)) true
  | 0, i, lo, hi, e, h1, h2 => by
    obtain rfl : i = N := by omega
    exact hend lo hi h1 h2
  | d + 1, i, lo, hi, e, h1, h2 => by
    have hi' : i < N := by omega
    refine EvT.succ (fun k => rfl) (EvT.ifp (by omega) (EvT.ifp (by omega) (EvT.ifp (by rw [tab_length]; omega) ?_)))
    rw [w1 i (by omega), tab_rd _ _ _ hi']
    refine eq_loop N hN b s t res hend d (i + 1) _ _ (by omega) ?_ ?_
    · unfold mn; split
      · first | exact h1 | exact ⟨i, hi', rfl⟩
      · first | exact h1 | exact ⟨i, hi', rfl⟩
    · unfold mx; split
      · first | exact h2 | exact ⟨i, hi', rfl⟩
      · first | exact ⟨i, hi', rfl⟩ | exact h2
theorem sum_const (b : Int) : ∀ n : Nat, sumTo (fun _ => b) n = (n : Int) * b
  | 0 => by simp [sumTo]
  | n + 1 => by simp only [sumTo, sum_const b n]; rw [Int.natCast_add, Int.add_mul]; simp
theorem grown_const (l : List S47) (op : Nat → Bool) (g : Int) (h : ∀ i, i < l.length → op i = true ∧ (tk l i).f1 = g) : ∀ i, i ≤ l.length → grown l op i = g * (i : Int)
  | 0, _ => by simp [grown]
  | i + 1, hi => by
    obtain ⟨h1, h2⟩ := h i (by omega)
    simp only [grown, grown_const l op g h i (by omega), h1, h2, if_true]
    rw [Int.natCast_add, Int.mul_add]
    simp
theorem RowEqual : formelaw25_RowEqual.Pure := fun a0 a1 a2 a3 a4 v0 v1 v2 v3 v4 => Ev.rounds (Ev.bind head_ev (EvT.ifp rfl (by
  have c0 := lit_bd (lo := 0) (hi := 255) v0 rfl rfl
  have c1 := lit_bd (lo := 0) (hi := 4294967295) v1 rfl rfl
  have c2 := lit_bd (lo := 0) (hi := 65535) v2 rfl rfl
  have c3 := lit_bd (lo := 0) (hi := 4294967295) v3 rfl rfl
  have c4 := lit_bd (lo := 0) (hi := 65535) v4 rfl rfl
  have m0 := tmod_bd 64 c0.1 (by decide)
  have m1 := tmod_bd 1000001 c1.1 (by decide)
  have m2 := tmod_bd 1001 c2.1 (by decide)
  have m3 := tmod_bd 1000001 c3.1 (by decide)
  rw [EvT.w64 (x := a0) (by omega) (by omega), EvT.w64 (x := a2) (by omega) (by omega), EvT.w64 (x := a4) (by omega) (by omega), EvT.w64 (x := 1 + Int.tmod a0 64) (by omega) (by omega), EvT.w64 (x := Int.tmod a1 1000001) (by omega) (by omega), EvT.w64 (x := Int.tmod a3 1000001) (by omega) (by omega)]
  obtain ⟨N, hN⟩ : ∃ N : Nat, 1 + Int.tmod a0 64 = (N : Int) := ⟨(1 + Int.tmod a0 64).toNat, by omega⟩
  obtain ⟨b, hb⟩ : ∃ b, Int.tmod a1 1000001 = b := ⟨_, rfl⟩
  obtain ⟨g, hg⟩ : ∃ b, Int.tmod a2 1001 = b := ⟨_, rfl⟩
  obtain ⟨s, hs⟩ : ∃ b, Int.tmod a3 1000001 = b := ⟨_, rfl⟩
  rw [hb] at m1 ⊢
  rw [hg] at m2 ⊢
  rw [hs] at m3 ⊢
  have n1 : 1 ≤ N := by omega
  have n64 : N ≤ 64 := by omega
  rw [hN]
  clear hN hb hg hs m0 c0 c1 c2 c3 v0 v1 v2 v3 v4
  refine eq_build N n64 b g s a4 ?_ N 0 (by omega)
  have lb : (List.replicate N b).length = N := by simp
  have lg : (List.replicate N g).length = N := by simp
  have ht : ∀ i, i < N → tk (zt (List.replicate N b) (List.replicate N g) N) i = ⟨b, g, 0⟩ := fun i hi => by rw [zt_tk _ _ _ _ hi, rd_rep _ _ _ hi, rd_rep _ _ _ hi]
  have ok : OkL (zt (List.replicate N b) (List.replicate N g) N) := ⟨by rw [zt_length]; exact n1, by rw [zt_length]; exact n64, fun i hi => by
    rw [zt_length] at hi
    rw [ht i hi]
    exact ⟨by show 0 ≤ b; omega, by show b ≤ _; omega, by show 0 ≤ g; omega, by show g ≤ _; omega, .inl rfl⟩⟩
  refine EvT.succ (fun k => rfl) (EvT.ifn (by omega) ?_)
  rcases widths_cases (List.replicate N b) (List.replicate N g) s a4 (by rw [lb]; omega) with ⟨_, hno⟩ | ⟨_, _, b2, b3, res, hS, hw, hF⟩
  · rw [lb] at hno
    exact absurd (hno (by rw [lg]) (okV_of ok) (by simp [inside]; omega) (by simp [inside]; omega)) (fun h => h)
  · rw [lb] at hS hw hF
    refine Ev.bind hw (EvT.ifp rfl ?_)
    rw [tab_length]
    rw [show ((N : Int) != (N : Int)) = false by simp]
    refine EvT.lit (g := fun k c => formelaw25_RowEqual.j1 k true (N : Int) b s a4 (tab N res) c) false (fun c hc => EvT.succ (fun k => rfl) (EvT.ifn (by rw [hc]; decide) (EvT.ifp (by rw [tab_length]; omega) ?_)))
    rw [show rd (tab N res) 0 = res 0 from tab_rd N res 0 (by omega), tab_length]
    have hN0 := leftN_bd _ ok s a4 b2 b3
    have hL := leftN_eq (zt (List.replicate N b) (List.replicate N g) N) s a4
    rw [zt_length, sumTo_congr (w' := fun _ => b) N (fun i hi => by rw [ht i hi]), sum_const] at hL
    have rb : ∀ i, i < N → 0 ≤ res i ∧ res i ≤ 2000000 := fun i hi => by
      have := fin_bd ok hN0.2 hF i (by rw [zt_length]; exact hi)
      exact ⟨this.1, this.2.1⟩
    have near : ∀ i k, i < N → k < N → res k - 1 ≤ res i := fun i k hi hk => by
      by_cases h0 : 0 < g
      · have := hF.fair i k (by rw [zt_length]; exact hi) (by rw [zt_length]; exact hk) (by rw [ht i hi, ht k hk]; exact Int.le_refl _) (by rw [ht k hk]; exact h0) (.inl (by rw [ht i hi]))
        rw [ht i hi, ht k hk] at this
        simp only at this
        omega
      · have h1 := (hF.lim i (by rw [zt_length]; exact hi)).2.2
        have h2 := (hF.lim k (by rw [zt_length]; exact hk)).2.2
        rw [ht i hi] at h1
        rw [ht k hk] at h2
        simp only at h1 h2
        have := h1 (by omega)
        have := h2 (by omega)
        omega
    have hgap := gap_bd b3 n1 n64
    have nb1 : 0 ≤ (N : Int) * b := Int.mul_nonneg (by omega) (by omega)
    have nb2 : (N : Int) * b ≤ 64 * 1000000 := Int.mul_le_mul (by omega) (by omega) (by omega) (by omega)
    have even : leftN (zt (List.replicate N b) (List.replicate N g) N) s a4 % (N : Int) = 0 → ∀ i k, i < N → k < N → res i = res k := fun hd i k hi hk => by
      by_cases h0 : 0 < g
      · obtain ⟨op, hop⟩ : ∃ op : Nat → Bool, op = fun i => decide (i < (zt (List.replicate N b) (List.replicate N g) N).length) && decide (0 < (tk (zt (List.replicate N b) (List.replicate N g) N) i).f1) := ⟨_, rfl⟩
        obtain ⟨res2, hS2, hr⟩ := Share_free _ ok (fun i hi => by rw [zt_length] at hi; rw [ht i hi]) s a4 b2 b3 op hop
        obtain rfl : res = res2 := Option.some.inj (hS.symm.trans hS2)
        have hop1 : ∀ i, i < (zt (List.replicate N b) (List.replicate N g) N).length → op i = true ∧ (tk (zt (List.replicate N b) (List.replicate N g) N) i).f1 = g := fun i hi => by
          have hi' := hi
          rw [zt_length] at hi'
          rw [hop]
          simp only [ht i hi', decide_eq_true hi, decide_eq_true h0]
          simp
        have hgr := grown_const _ op g hop1
        rw [zt_length] at hgr hr
        obtain ⟨q, hq⟩ : ∃ q : Int, leftN (zt (List.replicate N b) (List.replicate N g) N) s a4 = (N : Int) * q := ⟨_, (Int.mul_ediv_cancel' (Int.dvd_of_emod_eq_zero hd)).symm⟩
        have hquo : ∀ j, j ≤ N → quo (zt (List.replicate N b) (List.replicate N g) N) op ((N : Int) * q) (g * (N : Int)) j = q * (j : Int) := fun j hj => by
          unfold quo
          rw [hgr j hj, show (N : Int) * q * (g * (j : Int)) = (g * (N : Int)) * (q * (j : Int)) by
            rw [Int.mul_comm g (N : Int), Int.mul_assoc, Int.mul_assoc]; congr 1; rw [← Int.mul_assoc, ← Int.mul_assoc, Int.mul_comm q g]]
          exact Int.mul_tdiv_cancel_left _ (by
            have : 0 < g * (N : Int) := Int.mul_pos h0 (by omega)
            omega)
        have hpart : ∀ j, j < N → res j = b + q := fun j hj => by
          have h1 := hr j hj
          rw [ht j hj, hq, hgr N (Nat.le_refl _)] at h1
          have h2 : P.part (zt (List.replicate N b) (List.replicate N g) N) op ((N : Int) * q) (g * (N : Int)) j = quo (zt (List.replicate N b) (List.replicate N g) N) op ((N : Int) * q) (g * (N : Int)) (j + 1) - quo (zt (List.replicate N b) (List.replicate N g) N) op ((N : Int) * q) (g * (N : Int)) j := rfl
          rw [h2, hquo (j + 1) (by omega), hquo j (by omega)] at h1
          rw [Int.natCast_add, Int.mul_add] at h1
          simp only [Int.natCast_one, Int.mul_one] at h1
          omega
        rw [hpart i hi, hpart k hk]
      · have h1 := (hF.lim i (by rw [zt_length]; exact hi)).2.2
        have h2 := (hF.lim k (by rw [zt_length]; exact hk)).2.2
        rw [ht i hi] at h1
        rw [ht k hk] at h2
        simp only at h1 h2
        rw [h1 (by omega), h2 (by omega)]
    refine eq_loop N n64 b s a4 res ?_ N 0 _ _ (by omega) ⟨0, by omega, rfl⟩ ⟨0, by omega, rfl⟩
    rintro lo hi ⟨i, hi1, rfl⟩ ⟨k, hk1, rfl⟩
    have e1 := near i k hi1 hk1
    have r1 := rb i hi1
    have r2 := rb k hk1
    refine EvT.succ (fun n => rfl) (EvT.ifn (by omega) (EvT.ifp rfl (EvT.ifp (by rw [EvT.w64 (by omega) (by omega)]; omega) (EvT.ifn (by omega) ?_))))
    rw [EvT.w64 (x := (N : Int) * b) (by omega) (by omega), EvT.w64 (x := (N : Int) - 1) (by omega) (by omega), Int.mul_comm ((N : Int) - 1) a4, EvT.w64 (x := a4 * ((N : Int) - 1)) (by omega) (by omega), EvT.w64 (x := s - (N : Int) * b) (by omega) (by omega), EvT.w64 (x := s - (N : Int) * b - a4 * ((N : Int) - 1)) (by omega) (by omega),
      show s - (N : Int) * b - a4 * ((N : Int) - 1) = s - (a4 * ((N : Int) - 1) + (N : Int) * b) by omega, ← hL]
    refine EvT.ite (fun hd => EvT.now ?_) (fun _ => Ev.now _)
    rw [even hd k i hk1 hi1]
    simp)))
end Go.Proofs.Ytdnhjkldhdolpaa.Pure
