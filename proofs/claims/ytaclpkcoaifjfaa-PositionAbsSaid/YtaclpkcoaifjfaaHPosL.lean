import Derived.Test.YtaclpkcoaifjfaaHPosK
set_option linter.unusedVariables false
set_option linter.unusedSimpArgs false
namespace Go.Proofs.Ytaclpkcoaifjfaa.P
open Go.RowKit Go.Proofs.YtaclpkcoaifjfaaW.PrintWords Go.Proofs.YtaclpkcoaifjfaaW.PrintLast Go.Proofs.YtaclpkcoaifjfaaW.PrintMore
attribute [local go_sem] Oper.semAt_some
theorem right_bd {s : Nat → Int} (h : rightP s = true) : (0 ≤ s 4 ∧ s 4 ≤ 100000) ∧ (0 ≤ s 5 ∧ s 5 ≤ 100000) ∧ (0 ≤ s 6 ∧ s 6 ≤ 100000) ∧ (0 ≤ s 3 ∧ s 3 ≤ 100000) ∧ (-100000 ≤ s 18 ∧ s 18 ≤ 100000) ∧ (-100000 ≤ s 19 ∧ s 19 ≤ 100000) := by
  simpa [rightP, sizeP, offP, and_assoc] using h
theorem coordP_of {n : Int} (h0 : -1000000000 ≤ n) (h1 : n ≤ 1000000000) : coordP n = true := by simp [coordP, h0, h1]
set_option maxRecDepth 100000 in
set_option maxHeartbeats 8000000 in
theorem formelaw22_PositionInner.walk (s : Nat → Int) (a1 : Int) (w : World) (w0 : ∀ i, (Lit.int .i64 (s i)).wf = true) (w1 : (Lit.int .u32 a1).wf = true) : Calls Try.prog 5 #[sv s, .int .u32 a1] w fun e w' => e = .returned (.bool true) ∧ Below w.heap.size w w' := by
  clear w0
  have b1 := mod_bd 1000000001 (by decide) w1
  clear w1
  obtain ⟨X, t1⟩ : ∃ x, a1.tmod 1000000001 = x := ⟨_, rfl⟩
  rw [t1] at b1
  have v1 : wrap64 X = X := by unfold wrap64; omega
  cases hr : rightP s
  · clear b1
    go_enter Try.func5, Try.ntmps5
    go_wp2_with (first | ((with_reducible refine gate_dst (N := 2) rfl ?_); refine wp_box rfl (N := 2) rfl 23 _ rfl s rfl ?_; intro gb hg w1 hbox hb; have BX := Aside0.mk hbox; have HB := Aside0.mk hb; clear hbox hb hg) | ((with_reducible refine gate_dst (N := 11) rfl ?_); refine wp_load rfl 23 _ u23 _ rfl _ rfl s BX.out ?_) | ((with_reducible refine gate_dst (N := 19) rfl ?_); refine wp_load rfl 23 _ u23 _ rfl _ rfl s BX.out ?_) | (go_at_call 8; with_reducible refine (head_calls _).mono ?_; rintro e wc ⟨rfl, hb⟩; have BX := Aside0.mk (blk_below BX.out hb); have HB := Aside0.mk (HB.out.trans (hb.mono HB.out.size)); have hc3 := cell_at BX.out 3 (by omega); clear hb) | (go_at_call 18; with_reducible refine (rrightC s _ (by assumption) _).mono ?_; rintro e wc ⟨rfl, hb⟩; have BX := Aside0.mk (blk_below BX.out hb); have HB := Aside0.mk (HB.out.trans (hb.mono HB.out.size)); have hc3 := cell_at BX.out 3 (by omega); clear hb) | (go_at_call 11; with_reducible refine (InnerC _ _ _ _ _ (by assumption) _).mono ?_; rintro e wc ⟨rfl, hb⟩; have BX := Aside0.mk (blk_below BX.out hb); have HB := Aside0.mk (HB.out.trans (hb.mono HB.out.size)); have hc3 := cell_at BX.out 3 (by omega); clear hb))
    go_ret
    exact ⟨rfl, HB.out⟩
  · have rb := right_bd hr
    obtain ⟨P2, e1⟩ : ∃ x, 2 * s 3 = x := ⟨_, rfl⟩
    have u1 : wrap64 (2 * s 3) = P2 := by rw [e1]; unfold wrap64; omega
    have u2 : wrap64 (X - P2) = X - P2 := by unfold wrap64; omega
    obtain ⟨I, e2⟩ : ∃ x, mx 0 (X - P2) = x := ⟨_, rfl⟩
    have r2 : I = if 0 < X - P2 then X - P2 else 0 := by rw [← e2]; rfl
    have S1 : InnerP s X = (s 3, I, 0) := by
      simp only [InnerP, hr, lenP_of b1.1 (by omega : X ≤ 1000000000), Bool.and_self, if_true, u1, u2, e2]
    obtain ⟨IP, e3⟩ : ∃ x, I + P2 = x := ⟨_, rfl⟩
    have q1 : decide (I < 0) = false := by apply decide_eq_false; rw [r2]; split <;> omega
    have c1 : (IP == X) = true ∨ ((IP == X) = false ∧ (I == 0) = true ∧ decide (X < P2) = true) := by
      by_cases h : 0 < X - P2
      · rw [if_pos h] at r2
        exact Or.inl (by simp; omega)
      · rw [if_neg h] at r2
        by_cases h2 : X = P2
        · exact Or.inl (by simp; omega)
        · exact Or.inr ⟨by simp; omega, by simp; omega, decide_eq_true (by omega)⟩
    have u3 : wrap64 (I + P2) = IP := by rw [← e3, r2]; unfold wrap64; split <;> omega
    clear b1 rb e1 e2 r2 e3
    rcases c1 with c1 | ⟨c1, c2, c3⟩
    all_goals
      go_enter Try.func5, Try.ntmps5
      go_wp2_with (first | ((with_reducible refine gate_dst (N := 2) rfl ?_); refine wp_box rfl (N := 2) rfl 23 _ rfl s rfl ?_; intro gb hg w1 hbox hb; have BX := Aside0.mk hbox; have HB := Aside0.mk hb; clear hbox hb hg) | ((with_reducible refine gate_dst (N := 11) rfl ?_); refine wp_load rfl 23 _ u23 _ rfl _ rfl s BX.out ?_) | ((with_reducible refine gate_dst (N := 19) rfl ?_); refine wp_load rfl 23 _ u23 _ rfl _ rfl s BX.out ?_) | (go_at_call 8; with_reducible refine (head_calls _).mono ?_; rintro e wc ⟨rfl, hb⟩; have BX := Aside0.mk (blk_below BX.out hb); have HB := Aside0.mk (HB.out.trans (hb.mono HB.out.size)); have hc3 := cell_at BX.out 3 (by omega); clear hb) | (go_at_call 18; with_reducible refine (rrightC s _ (by assumption) _).mono ?_; rintro e wc ⟨rfl, hb⟩; have BX := Aside0.mk (blk_below BX.out hb); have HB := Aside0.mk (HB.out.trans (hb.mono HB.out.size)); have hc3 := cell_at BX.out 3 (by omega); clear hb) | (go_at_call 11; with_reducible refine (InnerC _ _ _ _ _ (by assumption) _).mono ?_; rintro e wc ⟨rfl, hb⟩; have BX := Aside0.mk (blk_below BX.out hb); have HB := Aside0.mk (HB.out.trans (hb.mono HB.out.size)); have hc3 := cell_at BX.out 3 (by omega); clear hb))
      go_ret
      exact ⟨rfl, HB.out⟩
end Go.Proofs.Ytaclpkcoaifjfaa.P
