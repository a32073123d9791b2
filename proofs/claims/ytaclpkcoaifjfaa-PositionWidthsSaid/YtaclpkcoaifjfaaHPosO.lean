import Derived.Test.YtaclpkcoaifjfaaHPosN
set_option linter.unusedVariables false
set_option linter.unusedSimpArgs false
namespace Go.Proofs.Ytaclpkcoaifjfaa.P
open Go.RowKit Go.Proofs.YtaclpkcoaifjfaaW.PrintWords Go.Proofs.YtaclpkcoaifjfaaW.PrintLast Go.Proofs.YtaclpkcoaifjfaaW.PrintMore
attribute [local go_sem] Oper.semAt_some
theorem wp_cut {P : Program} {c : Code} {Q : Exit → Act → World → Prop} {a : Act} {w : World} (A : Act) (W : World) (h : c.wp P (fun e a' w' => e = .normal ∧ a' = A ∧ w' = W) a w) (hq : Q .normal A W) : c.wp P Q a w :=
  Code.wp_mono (fun e a' w' ⟨he, ha, hw⟩ => by subst he; subst ha; subst hw; exact hq) h
set_option maxRecDepth 100000 in
set_option maxHeartbeats 8000000 in
theorem formelaw22_PositionWidths.walk (s : Nat → Int) (a1 a2 : Int) (w : World) (w0 : ∀ i, (Lit.int .i64 (s i)).wf = true) (w1 : (Lit.int .u32 a1).wf = true) (w2 : (Lit.int .u32 a2).wf = true) : Calls Try.prog 4 #[sv s, .int .u32 a1, .int .u32 a2] w fun e w' => e = .returned (.bool true) ∧ Below w.heap.size w w' := by
  clear w0
  have b1 := mod_bd 1000000001 (by decide) w1
  have b2 := mod_bd 1000000001 (by decide) w2
  clear w1 w2
  obtain ⟨X, t1⟩ : ∃ x, a1.tmod 1000000001 = x := ⟨_, rfl⟩
  obtain ⟨M, t2⟩ : ∃ x, a2.tmod 1000000001 = x := ⟨_, rfl⟩
  rw [t1] at b1
  rw [t2] at b2
  have v1 : wrap64 X = X := by unfold wrap64; omega
  have v2 : wrap64 M = M := by unfold wrap64; omega
  cases hr : rightP s
  · clear b1 b2
    go_enter Try.func4, Try.ntmps4
    go_wp2_with (first | ((with_reducible refine gate_dst (N := 3) rfl ?_); refine wp_box rfl (N := 3) rfl 23 _ rfl s rfl ?_; intro gb hg w1 hbox hb; have BX := Aside0.mk hbox; have HB := Aside0.mk hb; clear hbox hb hg) | ((with_reducible refine gate_dst (N := 17) rfl ?_); refine wp_load rfl 23 _ u23 _ rfl _ rfl s BX.out ?_) | ((with_reducible refine gate_dst (N := 31) rfl ?_); refine wp_load rfl 23 _ u23 _ rfl _ rfl s BX.out ?_) | ((with_reducible refine gate_dst (N := 37) rfl ?_); refine wp_load rfl 23 _ u23 _ rfl _ rfl s BX.out ?_) | (go_at_call 8; with_reducible refine (head_calls _).mono ?_; rintro e wc ⟨rfl, hb⟩; have BX := Aside0.mk (blk_below BX.out hb); have HB := Aside0.mk (HB.out.trans (hb.mono HB.out.size)); have hc4 := cell_at BX.out 4 (by omega); have hc5 := cell_at BX.out 5 (by omega); have hc6 := cell_at BX.out 6 (by omega); clear hb) | (go_at_call 18; with_reducible refine (rrightC s _ (by assumption) _).mono ?_; rintro e wc ⟨rfl, hb⟩; have BX := Aside0.mk (blk_below BX.out hb); have HB := Aside0.mk (HB.out.trans (hb.mono HB.out.size)); have hc4 := cell_at BX.out 4 (by omega); have hc5 := cell_at BX.out 5 (by omega); have hc6 := cell_at BX.out 6 (by omega); clear hb) | (go_at_call 9; with_reducible refine (WidthC _ _ _ _ (by assumption) _).mono ?_; rintro e wc ⟨rfl, hb⟩; have BX := Aside0.mk (blk_below BX.out hb); have HB := Aside0.mk (HB.out.trans (hb.mono HB.out.size)); have hc4 := cell_at BX.out 4 (by omega); have hc5 := cell_at BX.out 5 (by omega); have hc6 := cell_at BX.out 6 (by omega); clear hb))
    go_ret
    exact ⟨rfl, HB.out⟩
  · have rb := right_bd hr
    obtain ⟨Z, e1⟩ : ∃ x, X + M = x := ⟨_, rfl⟩
    have u1 : wrap64 (X + M) = Z := by rw [e1]; unfold wrap64; omega
    obtain ⟨Y, e2⟩ : ∃ x, (if Z < 1000000000 then Z else 1000000000) = x := ⟨_, rfl⟩
    have hY : X ≤ Y ∧ Y ≤ 1000000000 := by rw [← e2]; split <;> omega
    obtain ⟨A, e3⟩ : ∃ x, widthP s X = x := ⟨_, rfl⟩
    obtain ⟨B, e4⟩ : ∃ x, widthP s Y = x := ⟨_, rfl⟩
    have S1 : WidthP s X = (A, 0) := by simp only [WidthP, hr, lenP_of b1.1 (by omega : X ≤ 1000000000), Bool.and_self, if_true, e3]
    have S2 : WidthP s Y = (B, 0) := by simp only [WidthP, hr, lenP_of (by omega : 0 ≤ Y) hY.2, Bool.and_self, if_true, e4]
    have rA : A = mx (if s 6 = 0 then (if s 4 = 0 then X else s 4) else mn (if s 4 = 0 then X else s 4) (s 6)) (s 5) := e3.symm
    have rB : B = mx (if s 6 = 0 then (if s 4 = 0 then Y else s 4) else mn (if s 4 = 0 then Y else s 4) (s 6)) (s 5) := e4.symm
    unfold mx mn at rA rB
    obtain ⟨BA, e5⟩ : ∃ x, B - A = x := ⟨_, rfl⟩
    obtain ⟨YX, e6⟩ : ∃ x, Y - X = x := ⟨_, rfl⟩
    have hA : s 5 ≤ A ∧ A ≤ 2000000000 := by rw [rA]; constructor <;> (repeat (first | omega | split))
    have hAB : A ≤ B ∧ B - A ≤ Y - X := by rw [rA, rB]; by_cases h4 : s 4 = 0 <;> by_cases h6 : s 6 = 0 <;> simp only [h4, h6, if_true, if_false] <;> constructor <;> (repeat (first | omega | split))
    have q1 : decide (A < s 5) = false := decide_eq_false (by omega)
    have q2 : decide (B < A) = false := decide_eq_false (by omega)
    have q3 : decide (BA > YX) = false := decide_eq_false (by omega)
    have u2 : wrap64 (B - A) = BA := by rw [e5]; unfold wrap64; omega
    have u3 : wrap64 (Y - X) = YX := by rw [e6]; unfold wrap64; omega
    have c4 : (s 4 == 0) = true ∨ ((s 4 == 0) = false ∧ (A == B) = true) := by
      by_cases h4 : s 4 = 0
      · exact Or.inl (by simp [h4])
      · refine Or.inr ⟨by simp [h4], ?_⟩
        rw [if_neg h4] at rA rB
        simp [rA, rB]
    have c5 : ((s 6 == 0) = true ∧ decide (s 6 > 0) = false) ∨ ((s 6 == 0) = false ∧ decide (s 6 < s 5) = true ∧ decide (s 6 > 0) = true) ∨ ((s 6 == 0) = false ∧ decide (s 6 < s 5) = false ∧ decide (B ≤ s 6) = true ∧ decide (s 6 > 0) = true) := by
      by_cases h6 : s 6 = 0
      · exact Or.inl ⟨by simp [h6], decide_eq_false (by omega)⟩
      · by_cases h7 : s 6 < s 5
        · exact Or.inr (Or.inl ⟨by simp [h6], decide_eq_true h7, decide_eq_true (by omega)⟩)
        · refine Or.inr (Or.inr ⟨by simp [h6], decide_eq_false h7, decide_eq_true ?_, decide_eq_true (by omega)⟩)
          rw [rB, if_neg h6]
          repeat (first | omega | split)
    have c6 : decide (s 5 > 0) = true ∨ decide (s 5 > 0) = false := by cases decide (s 5 > 0) <;> simp
    have c7 : decide (s 5 > 0) = false → decide (s 6 > 0) = false → ((s 4 == 0) = true ∧ (A == X) = true) ∨ ((s 4 == 0) = false ∧ decide (s 4 > 0) = true ∧ (A == s 4) = true) := by
      intro h5 h6
      have h5 := of_decide_eq_false h5
      have h6 := of_decide_eq_false h6
      have z5 : s 5 = 0 := by omega
      have z6 : s 6 = 0 := by omega
      rw [if_pos z6, z5] at rA
      by_cases h4 : s 4 = 0
      · rw [if_pos h4] at rA
        refine Or.inl ⟨by simp [h4], ?_⟩
        have : A = X := by rw [rA]; split <;> omega
        simp [this]
      · rw [if_neg h4] at rA
        refine Or.inr ⟨by simp [h4], decide_eq_true (by omega), ?_⟩
        have : A = s 4 := by rw [rA]; split <;> omega
        simp [this]
    clear b1 b2 rb e1 hY e3 e4 e5 e6 hA hAB rA rB
    go_enter Try.func4, Try.ntmps4
    go_wp2_with (first | ((with_reducible refine gate_dst (N := 3) rfl ?_); refine wp_box rfl (N := 3) rfl 23 _ rfl s rfl ?_; intro gb hg w1 hbox hb; have BX := Aside0.mk hbox; have HB := Aside0.mk hb; clear hbox hb hg) | ((with_reducible refine gate_dst (N := 17) rfl ?_); refine wp_load rfl 23 _ u23 _ rfl _ rfl s BX.out ?_) | ((with_reducible refine gate_dst (N := 31) rfl ?_); refine wp_load rfl 23 _ u23 _ rfl _ rfl s BX.out ?_) | ((with_reducible refine gate_dst (N := 37) rfl ?_); refine wp_load rfl 23 _ u23 _ rfl _ rfl s BX.out ?_) | (go_at_call 8; with_reducible refine (head_calls _).mono ?_; rintro e wc ⟨rfl, hb⟩; have BX := Aside0.mk (blk_below BX.out hb); have HB := Aside0.mk (HB.out.trans (hb.mono HB.out.size)); have hc4 := cell_at BX.out 4 (by omega); have hc5 := cell_at BX.out 5 (by omega); have hc6 := cell_at BX.out 6 (by omega); clear hb) | (go_at_call 18; with_reducible refine (rrightC s _ (by assumption) _).mono ?_; rintro e wc ⟨rfl, hb⟩; have BX := Aside0.mk (blk_below BX.out hb); have HB := Aside0.mk (HB.out.trans (hb.mono HB.out.size)); have hc4 := cell_at BX.out 4 (by omega); have hc5 := cell_at BX.out 5 (by omega); have hc6 := cell_at BX.out 6 (by omega); clear hb) | (go_at_call 9; with_reducible refine (WidthC _ _ _ _ (by assumption) _).mono ?_; rintro e wc ⟨rfl, hb⟩; have BX := Aside0.mk (blk_below BX.out hb); have HB := Aside0.mk (HB.out.trans (hb.mono HB.out.size)); have hc4 := cell_at BX.out 4 (by omega); have hc5 := cell_at BX.out 5 (by omega); have hc6 := cell_at BX.out 6 (by omega); clear hb))
    apply wp_cut
    case h =>
      go_region_held3 (fun w' => w'.cell? ⟨gb, 5, none⟩ = some (.int .i64 (s 5)) ∧ w'.cell? ⟨gb, 6, none⟩ = some (.int .i64 (s 6))) (go_keep) (first | fail)
      all_goals exact ⟨rfl, rfl, rfl⟩
    case hq =>
      have BX := Aside0.mk (blk_drew BX.out)
      have HB := Aside0.mk (below_drew HB.out)
      generalize World.drew _ = w7 at BX HB ⊢
      have hd4 := cell_at BX.out 4 (by omega)
      rcases c6 with c6 | c6
      · clear c7
        rcases c5 with ⟨c5, c5'⟩ | ⟨c5, c5', c5''⟩ | ⟨c5, c5', c5'', c5'3⟩ <;> rcases c4 with c4 | ⟨c4, c4'⟩ <;> (go_wp2; go_ret; exact ⟨rfl, HB.out⟩)
      · rcases c5 with ⟨c5, c5'⟩ | ⟨c5, c5', c5''⟩ | ⟨c5, c5', c5'', c5'3⟩
        · rcases c7 c6 c5' with ⟨k1, k2⟩ | ⟨k1, k2, k3⟩
          · clear c7 c4
            go_wp2; go_ret; exact ⟨rfl, HB.out⟩
          · obtain ⟨c4, c4'⟩ : (s 4 == 0) = false ∧ (A == B) = true := by
              rcases c4 with c4 | c4
              · exact absurd (c4.symm.trans k1) (by decide)
              · exact c4
            clear c7
            go_wp2; go_ret; exact ⟨rfl, HB.out⟩
        · clear c7
          rcases c4 with c4 | ⟨c4, c4'⟩ <;> (go_wp2; go_ret; exact ⟨rfl, HB.out⟩)
        · clear c7
          rcases c4 with c4 | ⟨c4, c4'⟩ <;> (go_wp2; go_ret; exact ⟨rfl, HB.out⟩)
end Go.Proofs.Ytaclpkcoaifjfaa.P
