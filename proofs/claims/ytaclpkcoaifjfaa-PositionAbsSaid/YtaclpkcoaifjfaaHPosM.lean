import Derived.Test.YtaclpkcoaifjfaaHPosL
set_option linter.unusedVariables false
set_option linter.unusedSimpArgs false
namespace Go.Proofs.Ytaclpkcoaifjfaa.P
open Go.RowKit Go.Proofs.YtaclpkcoaifjfaaW.PrintWords Go.Proofs.YtaclpkcoaifjfaaW.PrintLast Go.Proofs.YtaclpkcoaifjfaaW.PrintMore
attribute [local go_sem] Oper.semAt_some
theorem mod_bd2 (n m : Int) (hm : 0 < m) : -m < n.tmod m ∧ n.tmod m < m := ⟨Int.lt_tmod_of_pos n hm, Int.tmod_lt_of_pos n hm⟩
set_option maxRecDepth 100000 in
set_option maxHeartbeats 8000000 in
theorem formelaw22_PositionAbs.walk (s : Nat → Int) (a1 a2 a3 a4 a5 : Int) (w : World) (w0 : ∀ i, (Lit.int .i64 (s i)).wf = true) (w1 : (Lit.int .i32 a1).wf = true) (w2 : (Lit.int .i32 a2).wf = true) (w3 : (Lit.int .i32 a3).wf = true) (w4 : (Lit.int .i32 a4).wf = true) (w5 : (Lit.int .u32 a5).wf = true) : Calls Try.prog 6 #[sv s, .int .i32 a1, .int .i32 a2, .int .i32 a3, .int .i32 a4, .int .u32 a5] w fun e w' => e = .returned (.bool true) ∧ Below w.heap.size w w' := by
  clear w0
  have b5 := mod_bd 1000000001 (by decide) w5
  have i1 : wrap64 a1 = a1 := by have := bounds_i32 w1; unfold wrap64; omega
  have i2 : wrap64 a2 = a2 := by have := bounds_i32 w2; unfold wrap64; omega
  have i3 : wrap64 a3 = a3 := by have := bounds_i32 w3; unfold wrap64; omega
  have i4 : wrap64 a4 = a4 := by have := bounds_i32 w4; unfold wrap64; omega
  clear w1 w2 w3 w4 w5
  have b1 := mod_bd2 a1 400000000 (by decide)
  have b2 := mod_bd2 a2 400000000 (by decide)
  have b3 := mod_bd2 a3 400000000 (by decide)
  have b4 := mod_bd2 a4 400000000 (by decide)
  obtain ⟨A, t1⟩ : ∃ x, a1.tmod 400000000 = x := ⟨_, rfl⟩
  obtain ⟨B, t2⟩ : ∃ x, a2.tmod 400000000 = x := ⟨_, rfl⟩
  obtain ⟨C, t3⟩ : ∃ x, a3.tmod 400000000 = x := ⟨_, rfl⟩
  obtain ⟨D, t4⟩ : ∃ x, a4.tmod 400000000 = x := ⟨_, rfl⟩
  obtain ⟨X, t5⟩ : ∃ x, a5.tmod 1000000001 = x := ⟨_, rfl⟩
  rw [t1] at b1
  rw [t2] at b2
  rw [t3] at b3
  rw [t4] at b4
  rw [t5] at b5
  have v1 : wrap64 A = A := by unfold wrap64; omega
  have v2 : wrap64 B = B := by unfold wrap64; omega
  have v3 : wrap64 C = C := by unfold wrap64; omega
  have v4 : wrap64 D = D := by unfold wrap64; omega
  have v5 : wrap64 X = X := by unfold wrap64; omega
  cases hr : rightP s
  · clear b1 b2 b3 b4 b5
    go_enter Try.func6, Try.ntmps6
    go_wp2_with (first | ((with_reducible refine gate_dst (N := 6) rfl ?_); refine wp_box rfl (N := 6) rfl 23 _ rfl s rfl ?_; intro gb hg w1 hbox hb; have BX := Aside0.mk hbox; have HB := Aside0.mk hb; clear hbox hb hg) | ((with_reducible refine gate_dst (N := 26) rfl ?_); refine wp_load rfl 23 _ u23 _ rfl _ rfl s BX.out ?_) | ((with_reducible refine gate_dst (N := 46) rfl ?_); refine wp_load rfl 23 _ u23 _ rfl _ rfl s BX.out ?_) | (go_at_call 8; with_reducible refine (head_calls _).mono ?_; rintro e wc ⟨rfl, hb⟩; have BX := Aside0.mk (blk_below BX.out hb); have HB := Aside0.mk (HB.out.trans (hb.mono HB.out.size)); have hc18 := cell_at BX.out 18 (by omega); have hc19 := cell_at BX.out 19 (by omega); clear hb) | (go_at_call 18; with_reducible refine (rrightC s _ (by assumption) _).mono ?_; rintro e wc ⟨rfl, hb⟩; have BX := Aside0.mk (blk_below BX.out hb); have HB := Aside0.mk (HB.out.trans (hb.mono HB.out.size)); have hc18 := cell_at BX.out 18 (by omega); have hc19 := cell_at BX.out 19 (by omega); clear hb) | (go_at_call 13; with_reducible refine (AbsC _ _ _ _ _ _ _ _ (by assumption) _).mono ?_; rintro e wc ⟨rfl, hb⟩; have BX := Aside0.mk (blk_below BX.out hb); have HB := Aside0.mk (HB.out.trans (hb.mono HB.out.size)); have hc18 := cell_at BX.out 18 (by omega); have hc19 := cell_at BX.out 19 (by omega); clear hb) | ((with_reducible refine gate_dst (N := 19) rfl ?_); refine box_event ?hg (N := 19) ?hd (cs := #[.int .i64 0, .int .i64 0, .int .i64 0, .int .i64 0, .int .i64 0, .bool false, .slice none 0 0]) (t := 32) ?hr ?_; (case hd => rfl); (case hg => rfl); (case hr => first | (go_simp; done) | (go_simp; rfl)); intro g19 hg W_ hbox hb; have NEg19 : Aside0 (gb < g19) := ⟨by have := blk_lt BX.out; omega⟩; have BX := Aside0.mk (blk_below BX.out hb); have Bg19 := Aside0.mk hbox; have HGg19 : Aside0 (w.heap.size ≤ g19) := ⟨by have := HB.out.size; omega⟩; have HB := Aside0.mk (HB.out.trans (hb.mono HB.out.size)); have hz0 : W_.cell? ⟨g19, 0, none⟩ = some (.int .i64 0) := (blk_cell Bg19.out 0).trans rfl; have hf0 := blk_frozen Bg19.out 0; have hz1 : W_.cell? ⟨g19, 1, none⟩ = some (.int .i64 0) := (blk_cell Bg19.out 1).trans rfl; have hf1 := blk_frozen Bg19.out 1; have hz2 : W_.cell? ⟨g19, 2, none⟩ = some (.int .i64 0) := (blk_cell Bg19.out 2).trans rfl; have hf2 := blk_frozen Bg19.out 2; have hz3 : W_.cell? ⟨g19, 3, none⟩ = some (.int .i64 0) := (blk_cell Bg19.out 3).trans rfl; have hf3 := blk_frozen Bg19.out 3; have hz4 : W_.cell? ⟨g19, 4, none⟩ = some (.int .i64 0) := (blk_cell Bg19.out 4).trans rfl; have hf4 := blk_frozen Bg19.out 4; have hz5 : W_.cell? ⟨g19, 5, none⟩ = some (.bool false) := (blk_cell Bg19.out 5).trans rfl; have hf5 := blk_frozen Bg19.out 5; have hz6 : W_.cell? ⟨g19, 6, none⟩ = some (.slice none 0 0) := (blk_cell Bg19.out 6).trans rfl; have hf6 := blk_frozen Bg19.out 6; clear hbox hb hg))
    go_ret
    exact ⟨rfl, HB.out⟩
  · have rb := right_bd hr
    obtain ⟨AC, e1⟩ : ∃ x, A + C = x := ⟨_, rfl⟩
    obtain ⟨BD, e2⟩ : ∃ x, B + D = x := ⟨_, rfl⟩
    obtain ⟨PX, e3⟩ : ∃ x, A + s 19 = x := ⟨_, rfl⟩
    obtain ⟨PY, e4⟩ : ∃ x, B + s 18 = x := ⟨_, rfl⟩
    obtain ⟨QX, e5⟩ : ∃ x, AC + s 19 = x := ⟨_, rfl⟩
    obtain ⟨QY, e6⟩ : ∃ x, BD + s 18 = x := ⟨_, rfl⟩
    obtain ⟨WD, e7⟩ : ∃ x, widthP s X = x := ⟨_, rfl⟩
    have u1 : wrap64 (A + C) = AC := by rw [e1]; unfold wrap64; omega
    have u2 : wrap64 (B + D) = BD := by rw [e2]; unfold wrap64; omega
    have u3 : wrap64 (A + s 19) = PX := by rw [e3]; unfold wrap64; omega
    have u4 : wrap64 (B + s 18) = PY := by rw [e4]; unfold wrap64; omega
    have u5 : wrap64 (AC + s 19) = QX := by rw [e5]; unfold wrap64; omega
    have u6 : wrap64 (BD + s 18) = QY := by rw [e6]; unfold wrap64; omega
    have u7 : wrap64 (PX + C) = QX := by rw [show PX + C = QX by omega]; unfold wrap64; omega
    have u8 : wrap64 (PY + D) = QY := by rw [show PY + D = QY by omega]; unfold wrap64; omega
    have lx := lenP_of b5.1 (by omega : X ≤ 1000000000)
    have S1 : AbsP widthP s A B X = ((PX, PY, WD), 0) := by
      simp only [AbsP, hr, lx, coordP_of (by omega : -1000000000 ≤ A) (by omega), coordP_of (by omega : -1000000000 ≤ B) (by omega), Bool.and_self, if_true, u3, u4, coordP_of (by omega : -1000000000 ≤ PX) (by omega), coordP_of (by omega : -1000000000 ≤ PY) (by omega), e7]
    have S2 : AbsP widthP s AC BD X = ((QX, QY, WD), 0) := by
      simp only [AbsP, hr, lx, coordP_of (by omega : -1000000000 ≤ AC) (by omega), coordP_of (by omega : -1000000000 ≤ BD) (by omega), Bool.and_self, if_true, u5, u6, coordP_of (by omega : -1000000000 ≤ QX) (by omega), coordP_of (by omega : -1000000000 ≤ QY) (by omega), e7]
    have S3 : WidthP s X = (WD, 0) := by simp only [WidthP, hr, lx, Bool.and_self, if_true, e7]
    clear b1 b2 b3 b4 b5 rb e1 e2 e3 e4 e5 e6 e7 lx
    go_enter Try.func6, Try.ntmps6
    go_upto_region 8 with (first | ((with_reducible refine gate_dst (N := 6) rfl ?_); refine wp_box rfl (N := 6) rfl 23 _ rfl s rfl ?_; intro gb hg w1 hbox hb; have BX := Aside0.mk hbox; have HB := Aside0.mk hb; clear hbox hb hg) | ((with_reducible refine gate_dst (N := 26) rfl ?_); refine wp_load rfl 23 _ u23 _ rfl _ rfl s BX.out ?_) | ((with_reducible refine gate_dst (N := 46) rfl ?_); refine wp_load rfl 23 _ u23 _ rfl _ rfl s BX.out ?_) | (go_at_call 8; with_reducible refine (head_calls _).mono ?_; rintro e wc ⟨rfl, hb⟩; have BX := Aside0.mk (blk_below BX.out hb); have HB := Aside0.mk (HB.out.trans (hb.mono HB.out.size)); have hc18 := cell_at BX.out 18 (by omega); have hc19 := cell_at BX.out 19 (by omega); clear hb) | (go_at_call 18; with_reducible refine (rrightC s _ (by assumption) _).mono ?_; rintro e wc ⟨rfl, hb⟩; have BX := Aside0.mk (blk_below BX.out hb); have HB := Aside0.mk (HB.out.trans (hb.mono HB.out.size)); have hc18 := cell_at BX.out 18 (by omega); have hc19 := cell_at BX.out 19 (by omega); clear hb) | (go_at_call 13; with_reducible refine (AbsC _ _ _ _ _ _ _ _ (by assumption) _).mono ?_; rintro e wc ⟨rfl, hb⟩; have BX := Aside0.mk (blk_below BX.out hb); have HB := Aside0.mk (HB.out.trans (hb.mono HB.out.size)); have hc18 := cell_at BX.out 18 (by omega); have hc19 := cell_at BX.out 19 (by omega); clear hb) | ((with_reducible refine gate_dst (N := 19) rfl ?_); refine box_event ?hg (N := 19) ?hd (cs := #[.int .i64 0, .int .i64 0, .int .i64 0, .int .i64 0, .int .i64 0, .bool false, .slice none 0 0]) (t := 32) ?hr ?_; (case hd => rfl); (case hg => rfl); (case hr => first | (go_simp; done) | (go_simp; rfl)); intro g19 hg W_ hbox hb; have NEg19 : Aside0 (gb < g19) := ⟨by have := blk_lt BX.out; omega⟩; have BX := Aside0.mk (blk_below BX.out hb); have Bg19 := Aside0.mk hbox; have HGg19 : Aside0 (w.heap.size ≤ g19) := ⟨by have := HB.out.size; omega⟩; have HB := Aside0.mk (HB.out.trans (hb.mono HB.out.size)); have hz0 : W_.cell? ⟨g19, 0, none⟩ = some (.int .i64 0) := (blk_cell Bg19.out 0).trans rfl; have hf0 := blk_frozen Bg19.out 0; have hz1 : W_.cell? ⟨g19, 1, none⟩ = some (.int .i64 0) := (blk_cell Bg19.out 1).trans rfl; have hf1 := blk_frozen Bg19.out 1; have hz2 : W_.cell? ⟨g19, 2, none⟩ = some (.int .i64 0) := (blk_cell Bg19.out 2).trans rfl; have hf2 := blk_frozen Bg19.out 2; have hz3 : W_.cell? ⟨g19, 3, none⟩ = some (.int .i64 0) := (blk_cell Bg19.out 3).trans rfl; have hf3 := blk_frozen Bg19.out 3; have hz4 : W_.cell? ⟨g19, 4, none⟩ = some (.int .i64 0) := (blk_cell Bg19.out 4).trans rfl; have hf4 := blk_frozen Bg19.out 4; have hz5 : W_.cell? ⟨g19, 5, none⟩ = some (.bool false) := (blk_cell Bg19.out 5).trans rfl; have hf5 := blk_frozen Bg19.out 5; have hz6 : W_.cell? ⟨g19, 6, none⟩ = some (.slice none 0 0) := (blk_cell Bg19.out 6).trans rfl; have hf6 := blk_frozen Bg19.out 6; clear hbox hb hg))
    obtain ⟨w9, hw9⟩ : ∃ w9 : World, (((((((W_.setCell ⟨g19, 0, none⟩ (.int .i64 0)).setCell ⟨g19, 1, none⟩ (.int .i64 PX)).setCell ⟨g19, 2, none⟩ (.int .i64 PY)).setCell ⟨g19, 3, none⟩ (.int .i64 WD)).setCell ⟨g19, 4, none⟩ (.int .i64 0)).setCell ⟨g19, 5, none⟩ (.bool false)).setCell ⟨g19, 6, none⟩ (.slice none 0 0)) = w9 := ⟨_, rfl⟩
    rw [hw9]
    have hgx : gb < g19 := by have := blk_lt BX.out; have := NEg19.out; omega
    have BX9 := Aside0.mk (show w9.heap[gb]? = some (.cells (cells s) 23 (0, 0)) by rw [← hw9]; exact ((below7 (Below.refl g19 W_) (Nat.le_refl _) _ _ _ _ _ _ _).block gb hgx).trans BX.out)
    have BB9 := Aside0.mk (show w9.heap[g19]? = some (.cells #[.int .i64 0, .int .i64 PX, .int .i64 PY, .int .i64 WD, .int .i64 0, .bool false, .slice none 0 0] 32 (0, 0)) by rw [← hw9]; exact seven Bg19.out _ _ _ _ _ _ _)
    have HB9 := Aside0.mk (show Below w.heap.size w w9 by rw [← hw9]; exact below7 HB.out HGg19.out _ _ _ _ _ _ _)
    clear hw9 BX Bg19 HB hgx
    have BX := BX9
    have Bg19 := BB9
    have HB := HB9
    clear BX9 BB9 HB9
    have hc18 := cell_at BX.out 18 (by omega)
    have hc19 := cell_at BX.out 19 (by omega)
    go_upto_region 9 with (first | ((with_reducible refine gate_dst (N := 54) rfl ?_); refine wp_load rfl 23 _ u23 _ rfl _ rfl s BX.out ?_) | (go_at_call 13; with_reducible refine (AbsC _ _ _ _ _ _ _ _ (by assumption) _).mono ?_; rintro e wc ⟨rfl, hb⟩; have BX := Aside0.mk (blk_below BX.out hb); have Bg19 := Aside0.mk (blk_below Bg19.out hb); have HB := Aside0.mk (HB.out.trans (hb.mono HB.out.size)); have hc18 := cell_at BX.out 18 (by omega); have hc19 := cell_at BX.out 19 (by omega); have hg19z0 : wc.cell? ⟨g19, 0, none⟩ = some (.int .i64 0) := (blk_cell Bg19.out 0).trans rfl; have hg19f0 := blk_frozen Bg19.out 0; have hg19z1 : wc.cell? ⟨g19, 1, none⟩ = some (.int .i64 PX) := (blk_cell Bg19.out 1).trans rfl; have hg19f1 := blk_frozen Bg19.out 1; have hg19z2 : wc.cell? ⟨g19, 2, none⟩ = some (.int .i64 PY) := (blk_cell Bg19.out 2).trans rfl; have hg19f2 := blk_frozen Bg19.out 2; have hg19z3 : wc.cell? ⟨g19, 3, none⟩ = some (.int .i64 WD) := (blk_cell Bg19.out 3).trans rfl; have hg19f3 := blk_frozen Bg19.out 3; have hg19z4 : wc.cell? ⟨g19, 4, none⟩ = some (.int .i64 0) := (blk_cell Bg19.out 4).trans rfl; have hg19f4 := blk_frozen Bg19.out 4; have hg19z5 : wc.cell? ⟨g19, 5, none⟩ = some (.bool false) := (blk_cell Bg19.out 5).trans rfl; have hg19f5 := blk_frozen Bg19.out 5; have hg19z6 : wc.cell? ⟨g19, 6, none⟩ = some (.slice none 0 0) := (blk_cell Bg19.out 6).trans rfl; have hg19f6 := blk_frozen Bg19.out 6; clear hb) | ((with_reducible refine gate_dst (N := 21) rfl ?_); refine box_event ?hg (N := 21) ?hd (cs := #[.int .i64 0, .int .i64 0, .int .i64 0, .int .i64 0, .int .i64 0, .bool false, .slice none 0 0]) (t := 32) ?hr ?_; (case hd => rfl); (case hg => rfl); (case hr => first | (go_simp; done) | (go_simp; rfl)); intro g21 hg W_ hbox hb; have NEg21 : Aside0 (gb < g21) := ⟨by have := blk_lt BX.out; omega⟩; have LTg21 : Aside0 (g19 < g21) := ⟨by have := blk_lt Bg19.out; omega⟩; have Bg19 := Aside0.mk (blk_below Bg19.out hb); have BX := Aside0.mk (blk_below BX.out hb); have Bg21 := Aside0.mk hbox; have HGg21 : Aside0 (w.heap.size ≤ g21) := ⟨by have := HB.out.size; omega⟩; have HB := Aside0.mk (HB.out.trans (hb.mono HB.out.size)); have hz0 : W_.cell? ⟨g21, 0, none⟩ = some (.int .i64 0) := (blk_cell Bg21.out 0).trans rfl; have hf0 := blk_frozen Bg21.out 0; have hz1 : W_.cell? ⟨g21, 1, none⟩ = some (.int .i64 0) := (blk_cell Bg21.out 1).trans rfl; have hf1 := blk_frozen Bg21.out 1; have hz2 : W_.cell? ⟨g21, 2, none⟩ = some (.int .i64 0) := (blk_cell Bg21.out 2).trans rfl; have hf2 := blk_frozen Bg21.out 2; have hz3 : W_.cell? ⟨g21, 3, none⟩ = some (.int .i64 0) := (blk_cell Bg21.out 3).trans rfl; have hf3 := blk_frozen Bg21.out 3; have hz4 : W_.cell? ⟨g21, 4, none⟩ = some (.int .i64 0) := (blk_cell Bg21.out 4).trans rfl; have hf4 := blk_frozen Bg21.out 4; have hz5 : W_.cell? ⟨g21, 5, none⟩ = some (.bool false) := (blk_cell Bg21.out 5).trans rfl; have hf5 := blk_frozen Bg21.out 5; have hz6 : W_.cell? ⟨g21, 6, none⟩ = some (.slice none 0 0) := (blk_cell Bg21.out 6).trans rfl; have hf6 := blk_frozen Bg21.out 6; clear hbox hb hg))
    obtain ⟨w9, hw9⟩ : ∃ w9 : World, (((((((W_.setCell ⟨g21, 0, none⟩ (.int .i64 0)).setCell ⟨g21, 1, none⟩ (.int .i64 QX)).setCell ⟨g21, 2, none⟩ (.int .i64 QY)).setCell ⟨g21, 3, none⟩ (.int .i64 WD)).setCell ⟨g21, 4, none⟩ (.int .i64 0)).setCell ⟨g21, 5, none⟩ (.bool false)).setCell ⟨g21, 6, none⟩ (.slice none 0 0)) = w9 := ⟨_, rfl⟩
    rw [hw9]
    have hgx : gb < g21 := by have := blk_lt BX.out; have := NEg21.out; omega
    have BX9 := Aside0.mk (show w9.heap[gb]? = some (.cells (cells s) 23 (0, 0)) by rw [← hw9]; exact ((below7 (Below.refl g21 W_) (Nat.le_refl _) _ _ _ _ _ _ _).block gb hgx).trans BX.out)
    have BB9 := Aside0.mk (show w9.heap[g21]? = some (.cells #[.int .i64 0, .int .i64 QX, .int .i64 QY, .int .i64 WD, .int .i64 0, .bool false, .slice none 0 0] 32 (0, 0)) by rw [← hw9]; exact seven Bg21.out _ _ _ _ _ _ _)
    have HB9 := Aside0.mk (show Below w.heap.size w w9 by rw [← hw9]; exact below7 HB.out HGg21.out _ _ _ _ _ _ _)
    have hltg19 : g19 < g21 := LTg21.out
    have Og199 := Aside0.mk (show w9.heap[g19]? = some (.cells #[.int .i64 0, .int .i64 PX, .int .i64 PY, .int .i64 WD, .int .i64 0, .bool false, .slice none 0 0] 32 (0, 0)) by rw [← hw9]; exact ((below7 (Below.refl g21 W_) (Nat.le_refl _) _ _ _ _ _ _ _).block g19 hltg19).trans Bg19.out)
    clear hw9 BX Bg21 HB hgx hltg19 Bg19
    have BX := BX9
    have Bg21 := BB9
    have HB := HB9
    have Bg19 := Og199
    clear BX9 BB9 HB9 Og199
    have hc18 := cell_at BX.out 18 (by omega)
    have hc19 := cell_at BX.out 19 (by omega)
    have hg19z0 : w9.cell? ⟨g19, 0, none⟩ = some (.int .i64 0) := (blk_cell Bg19.out 0).trans rfl
    have hg19z1 : w9.cell? ⟨g19, 1, none⟩ = some (.int .i64 PX) := (blk_cell Bg19.out 1).trans rfl
    have hg19z2 : w9.cell? ⟨g19, 2, none⟩ = some (.int .i64 PY) := (blk_cell Bg19.out 2).trans rfl
    have hg19z3 : w9.cell? ⟨g19, 3, none⟩ = some (.int .i64 WD) := (blk_cell Bg19.out 3).trans rfl
    have hg19z4 : w9.cell? ⟨g19, 4, none⟩ = some (.int .i64 0) := (blk_cell Bg19.out 4).trans rfl
    have hg19z5 : w9.cell? ⟨g19, 5, none⟩ = some (.bool false) := (blk_cell Bg19.out 5).trans rfl
    have hg19z6 : w9.cell? ⟨g19, 6, none⟩ = some (.slice none 0 0) := (blk_cell Bg19.out 6).trans rfl
    have hg21z0 : w9.cell? ⟨g21, 0, none⟩ = some (.int .i64 0) := (blk_cell Bg21.out 0).trans rfl
    have hg21z1 : w9.cell? ⟨g21, 1, none⟩ = some (.int .i64 QX) := (blk_cell Bg21.out 1).trans rfl
    have hg21z2 : w9.cell? ⟨g21, 2, none⟩ = some (.int .i64 QY) := (blk_cell Bg21.out 2).trans rfl
    have hg21z3 : w9.cell? ⟨g21, 3, none⟩ = some (.int .i64 WD) := (blk_cell Bg21.out 3).trans rfl
    have hg21z4 : w9.cell? ⟨g21, 4, none⟩ = some (.int .i64 0) := (blk_cell Bg21.out 4).trans rfl
    have hg21z5 : w9.cell? ⟨g21, 5, none⟩ = some (.bool false) := (blk_cell Bg21.out 5).trans rfl
    have hg21z6 : w9.cell? ⟨g21, 6, none⟩ = some (.slice none 0 0) := (blk_cell Bg21.out 6).trans rfl
    go_wp2_with (first | ((with_reducible refine gate_dst (N := 66) rfl ?_); refine wp_load rfl 23 _ u23 _ rfl _ rfl s BX.out ?_) | (go_at_call 9; with_reducible refine (WidthC _ _ _ _ (by assumption) _).mono ?_; rintro e wc ⟨rfl, hb⟩; have BX := Aside0.mk (blk_below BX.out hb); have Bg19 := Aside0.mk (blk_below Bg19.out hb); have Bg21 := Aside0.mk (blk_below Bg21.out hb); have HB := Aside0.mk (HB.out.trans (hb.mono HB.out.size)); have hc18 := cell_at BX.out 18 (by omega); have hc19 := cell_at BX.out 19 (by omega); have hg19z0 : wc.cell? ⟨g19, 0, none⟩ = some (.int .i64 0) := (blk_cell Bg19.out 0).trans rfl; have hg19f0 := blk_frozen Bg19.out 0; have hg19z1 : wc.cell? ⟨g19, 1, none⟩ = some (.int .i64 PX) := (blk_cell Bg19.out 1).trans rfl; have hg19f1 := blk_frozen Bg19.out 1; have hg19z2 : wc.cell? ⟨g19, 2, none⟩ = some (.int .i64 PY) := (blk_cell Bg19.out 2).trans rfl; have hg19f2 := blk_frozen Bg19.out 2; have hg19z3 : wc.cell? ⟨g19, 3, none⟩ = some (.int .i64 WD) := (blk_cell Bg19.out 3).trans rfl; have hg19f3 := blk_frozen Bg19.out 3; have hg19z4 : wc.cell? ⟨g19, 4, none⟩ = some (.int .i64 0) := (blk_cell Bg19.out 4).trans rfl; have hg19f4 := blk_frozen Bg19.out 4; have hg19z5 : wc.cell? ⟨g19, 5, none⟩ = some (.bool false) := (blk_cell Bg19.out 5).trans rfl; have hg19f5 := blk_frozen Bg19.out 5; have hg19z6 : wc.cell? ⟨g19, 6, none⟩ = some (.slice none 0 0) := (blk_cell Bg19.out 6).trans rfl; have hg19f6 := blk_frozen Bg19.out 6; have hg21z0 : wc.cell? ⟨g21, 0, none⟩ = some (.int .i64 0) := (blk_cell Bg21.out 0).trans rfl; have hg21f0 := blk_frozen Bg21.out 0; have hg21z1 : wc.cell? ⟨g21, 1, none⟩ = some (.int .i64 QX) := (blk_cell Bg21.out 1).trans rfl; have hg21f1 := blk_frozen Bg21.out 1; have hg21z2 : wc.cell? ⟨g21, 2, none⟩ = some (.int .i64 QY) := (blk_cell Bg21.out 2).trans rfl; have hg21f2 := blk_frozen Bg21.out 2; have hg21z3 : wc.cell? ⟨g21, 3, none⟩ = some (.int .i64 WD) := (blk_cell Bg21.out 3).trans rfl; have hg21f3 := blk_frozen Bg21.out 3; have hg21z4 : wc.cell? ⟨g21, 4, none⟩ = some (.int .i64 0) := (blk_cell Bg21.out 4).trans rfl; have hg21f4 := blk_frozen Bg21.out 4; have hg21z5 : wc.cell? ⟨g21, 5, none⟩ = some (.bool false) := (blk_cell Bg21.out 5).trans rfl; have hg21f5 := blk_frozen Bg21.out 5; have hg21z6 : wc.cell? ⟨g21, 6, none⟩ = some (.slice none 0 0) := (blk_cell Bg21.out 6).trans rfl; have hg21f6 := blk_frozen Bg21.out 6; clear hb) | (go_at_call 15; with_reducible refine (BareC _ _ _ _).mono ?_; rintro e wc ⟨rfl, hb⟩; have BX := Aside0.mk (blk_below BX.out hb); have Bg19 := Aside0.mk (blk_below Bg19.out hb); have Bg21 := Aside0.mk (blk_below Bg21.out hb); have HB := Aside0.mk (HB.out.trans (hb.mono HB.out.size)); have hc18 := cell_at BX.out 18 (by omega); have hc19 := cell_at BX.out 19 (by omega); have hg19z0 : wc.cell? ⟨g19, 0, none⟩ = some (.int .i64 0) := (blk_cell Bg19.out 0).trans rfl; have hg19f0 := blk_frozen Bg19.out 0; have hg19z1 : wc.cell? ⟨g19, 1, none⟩ = some (.int .i64 PX) := (blk_cell Bg19.out 1).trans rfl; have hg19f1 := blk_frozen Bg19.out 1; have hg19z2 : wc.cell? ⟨g19, 2, none⟩ = some (.int .i64 PY) := (blk_cell Bg19.out 2).trans rfl; have hg19f2 := blk_frozen Bg19.out 2; have hg19z3 : wc.cell? ⟨g19, 3, none⟩ = some (.int .i64 WD) := (blk_cell Bg19.out 3).trans rfl; have hg19f3 := blk_frozen Bg19.out 3; have hg19z4 : wc.cell? ⟨g19, 4, none⟩ = some (.int .i64 0) := (blk_cell Bg19.out 4).trans rfl; have hg19f4 := blk_frozen Bg19.out 4; have hg19z5 : wc.cell? ⟨g19, 5, none⟩ = some (.bool false) := (blk_cell Bg19.out 5).trans rfl; have hg19f5 := blk_frozen Bg19.out 5; have hg19z6 : wc.cell? ⟨g19, 6, none⟩ = some (.slice none 0 0) := (blk_cell Bg19.out 6).trans rfl; have hg19f6 := blk_frozen Bg19.out 6; have hg21z0 : wc.cell? ⟨g21, 0, none⟩ = some (.int .i64 0) := (blk_cell Bg21.out 0).trans rfl; have hg21f0 := blk_frozen Bg21.out 0; have hg21z1 : wc.cell? ⟨g21, 1, none⟩ = some (.int .i64 QX) := (blk_cell Bg21.out 1).trans rfl; have hg21f1 := blk_frozen Bg21.out 1; have hg21z2 : wc.cell? ⟨g21, 2, none⟩ = some (.int .i64 QY) := (blk_cell Bg21.out 2).trans rfl; have hg21f2 := blk_frozen Bg21.out 2; have hg21z3 : wc.cell? ⟨g21, 3, none⟩ = some (.int .i64 WD) := (blk_cell Bg21.out 3).trans rfl; have hg21f3 := blk_frozen Bg21.out 3; have hg21z4 : wc.cell? ⟨g21, 4, none⟩ = some (.int .i64 0) := (blk_cell Bg21.out 4).trans rfl; have hg21f4 := blk_frozen Bg21.out 4; have hg21z5 : wc.cell? ⟨g21, 5, none⟩ = some (.bool false) := (blk_cell Bg21.out 5).trans rfl; have hg21f5 := blk_frozen Bg21.out 5; have hg21z6 : wc.cell? ⟨g21, 6, none⟩ = some (.slice none 0 0) := (blk_cell Bg21.out 6).trans rfl; have hg21f6 := blk_frozen Bg21.out 6; clear hb))
    go_ret
    exact ⟨rfl, HB.out⟩
end Go.Proofs.Ytaclpkcoaifjfaa.P
