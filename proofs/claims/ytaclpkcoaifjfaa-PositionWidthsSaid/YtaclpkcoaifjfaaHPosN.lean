import Derived.Test.YtaclpkcoaifjfaaHPosM
set_option linter.unusedVariables false
set_option linter.unusedSimpArgs false
namespace Go.Proofs.Ytaclpkcoaifjfaa.P
open Go.RowKit Go.Proofs.YtaclpkcoaifjfaaW.PrintWords Go.Proofs.YtaclpkcoaifjfaaW.PrintLast Go.Proofs.YtaclpkcoaifjfaaW.PrintMore
attribute [local go_sem] Oper.semAt_some
theorem widthR_eq {s : Nat → Int} (h : rightP s = true) (x : Int) : widthR s x = widthP s x := by
  have hb := right_bd h
  unfold widthR widthP
  by_cases h6 : s 6 = 0
  · rw [if_pos h6, if_neg (by omega)]
  · rw [if_neg h6, if_pos (by omega)]
theorem WidthR_eq (s : Nat → Int) (x : Int) : WidthR s x = WidthP s x := by
  unfold WidthR WidthP
  cases h : rightP s
  · rfl
  · rw [widthR_eq h]
theorem AbsR_eq (s : Nat → Int) (x y r : Int) : AbsP widthR s x y r = AbsP widthP s x y r := by
  unfold AbsP
  cases h : rightP s
  · rfl
  · rw [widthR_eq h]
theorem Stick_f (y h fr un tp sc : Int) : formeref22_Stick.f y h fr un tp sc = some (StickP y h fr un tp sc) := by
  unfold formeref22_Stick.f StickP stickOk
  simp only [rlen_f, Option.bind_some]
  cases h1 : lenP y
  · simp
  cases h2 : lenP h
  · simp
  cases h3 : lenP fr
  · simp
  cases h4 : lenP un
  · simp
  cases h5 : lenP tp
  · simp
  cases h6 : lenP sc
  · simp
  have b1 := lenP_bd h1
  have b2 := lenP_bd h2
  have b3 := lenP_bd h3
  have b4 := lenP_bd h4
  have b5 := lenP_bd h5
  have b6 := lenP_bd h6
  rw [show wrap64 (y + h) = y + h by unfold wrap64; omega, show wrap64 (sc + tp) = sc + tp by unfold wrap64; omega, show wrap64 (un - h) = un - h by unfold wrap64; omega]
  by_cases c1 : fr > y
  · have : y < fr := c1
    simp [c1, this]
  · by_cases c2 : y + h > un
    · have : un < y + h := c2
      simp [c1, c2, this]
    · simp [c1, c2]
theorem RStickC (y h fr un tp sc a e : Int) (hh : StickP y h fr un tp sc = (a, e)) (w : World) : Calls Try.prog 17 #[.int .i64 y, .int .i64 h, .int .i64 fr, .int .i64 un, .int .i64 tp, .int .i64 sc] w fun x w' => x = .returned (.tuple #[.int .i64 a, .int .i64 e]) ∧ Below w.heap.size w w' :=
  formeref22_Stick.calls y h fr un tp sc a e w (by rw [Stick_f, hh])
set_option maxRecDepth 100000 in
set_option maxHeartbeats 8000000 in
theorem formelaw22_PositionMatchesReference.walk (s : Nat → Int) (a1 a2 a3 a4 a5 a6 a7 a8 : Int) (w : World) (w0 : ∀ i, (Lit.int .i64 (s i)).wf = true) (w1 : (Lit.int .i64 a1).wf = true) (w2 : (Lit.int .i64 a2).wf = true) (w3 : (Lit.int .i64 a3).wf = true) (w4 : (Lit.int .i64 a4).wf = true) (w5 : (Lit.int .i64 a5).wf = true) (w6 : (Lit.int .i64 a6).wf = true) (w7 : (Lit.int .i64 a7).wf = true) (w8 : (Lit.int .i64 a8).wf = true) : Calls Try.prog 3 #[sv s, .int .i64 a1, .int .i64 a2, .int .i64 a3, .int .i64 a4, .int .i64 a5, .int .i64 a6, .int .i64 a7, .int .i64 a8] w fun e w' => e = .returned (.bool true) ∧ Below w.heap.size w w' := by
  clear w0 w1 w2 w3 w4 w5 w6 w7 w8
  obtain ⟨⟨A, E1⟩, S1⟩ : ∃ x, WidthP s a3 = x := ⟨_, rfl⟩
  obtain ⟨⟨B, C, E2⟩, S2⟩ : ∃ x, InnerP s a3 = x := ⟨_, rfl⟩
  obtain ⟨⟨⟨X1, X2, X3⟩, E3⟩, S3⟩ : ∃ x, AbsP widthP s a1 a2 a3 = x := ⟨_, rfl⟩
  obtain ⟨⟨D, E4⟩, S4⟩ : ∃ x, StickP a2 a4 a5 a6 a7 a8 = x := ⟨_, rfl⟩
  have S5 : WidthR s a3 = (A, E1) := by rw [WidthR_eq, S1]
  have S6 : AbsP widthR s a1 a2 a3 = ((X1, X2, X3), E3) := by rw [AbsR_eq, S3]
  go_enter Try.func3, Try.ntmps3
  go_upto_region 9 with (first | ((with_reducible refine gate_dst (N := 9) rfl ?_); refine wp_box rfl (N := 9) rfl 23 _ rfl s rfl ?_; intro gb hg w1 hbox hb; have BX := Aside0.mk hbox; have HB := Aside0.mk hb; clear hbox hb hg) | ((with_reducible refine gate_dst (N := 30) rfl ?_); refine wp_load rfl 23 _ u23 _ rfl _ rfl s BX.out ?_) | ((with_reducible refine gate_dst (N := 36) rfl ?_); refine wp_load rfl 23 _ u23 _ rfl _ rfl s BX.out ?_) | ((with_reducible refine gate_dst (N := 53) rfl ?_); refine wp_load rfl 23 _ u23 _ rfl _ rfl s BX.out ?_) | ((with_reducible refine gate_dst (N := 60) rfl ?_); refine wp_load rfl 23 _ u23 _ rfl _ rfl s BX.out ?_) | ((with_reducible refine gate_dst (N := 83) rfl ?_); refine wp_load rfl 23 _ u23 _ rfl _ rfl s BX.out ?_) | (go_at_call 8; with_reducible refine (head_calls _).mono ?_; rintro e wc ⟨rfl, hb⟩; have BX := Aside0.mk (blk_below BX.out hb); have HB := Aside0.mk (HB.out.trans (hb.mono HB.out.size)); clear hb) | (go_at_call 9; with_reducible refine (WidthC _ _ _ _ (by assumption) _).mono ?_; rintro e wc ⟨rfl, hb⟩; have BX := Aside0.mk (blk_below BX.out hb); have HB := Aside0.mk (HB.out.trans (hb.mono HB.out.size)); clear hb) | (go_at_call 10; with_reducible refine (RWidthC _ _ _ _ (by assumption) _).mono ?_; rintro e wc ⟨rfl, hb⟩; have BX := Aside0.mk (blk_below BX.out hb); have HB := Aside0.mk (HB.out.trans (hb.mono HB.out.size)); clear hb) | (go_at_call 11; with_reducible refine (InnerC _ _ _ _ _ (by assumption) _).mono ?_; rintro e wc ⟨rfl, hb⟩; have BX := Aside0.mk (blk_below BX.out hb); have HB := Aside0.mk (HB.out.trans (hb.mono HB.out.size)); clear hb) | (go_at_call 12; with_reducible refine (RInnerC _ _ _ _ _ (by assumption) _).mono ?_; rintro e wc ⟨rfl, hb⟩; have BX := Aside0.mk (blk_below BX.out hb); have HB := Aside0.mk (HB.out.trans (hb.mono HB.out.size)); clear hb) | (go_at_call 13; with_reducible refine (AbsC _ _ _ _ _ _ _ _ (by assumption) _).mono ?_; rintro e wc ⟨rfl, hb⟩; have BX := Aside0.mk (blk_below BX.out hb); have HB := Aside0.mk (HB.out.trans (hb.mono HB.out.size)); clear hb) | ((with_reducible refine gate_dst (N := 26) rfl ?_); refine box_event ?hg (N := 26) ?hd (cs := #[.int .i64 0, .int .i64 0, .int .i64 0, .int .i64 0, .int .i64 0, .bool false, .slice none 0 0]) (t := 32) ?hr ?_; (case hd => rfl); (case hg => rfl); (case hr => first | (go_simp; done) | (go_simp; rfl)); intro g26 hg W_ hbox hb; have NEg26 : Aside0 (gb < g26) := ⟨by have := blk_lt BX.out; omega⟩; have BX := Aside0.mk (blk_below BX.out hb); have Bg26 := Aside0.mk hbox; have HGg26 : Aside0 (w.heap.size ≤ g26) := ⟨by have := HB.out.size; omega⟩; have HB := Aside0.mk (HB.out.trans (hb.mono HB.out.size)); have hz0 : W_.cell? ⟨g26, 0, none⟩ = some (.int .i64 0) := (blk_cell Bg26.out 0).trans rfl; have hf0 := blk_frozen Bg26.out 0; have hz1 : W_.cell? ⟨g26, 1, none⟩ = some (.int .i64 0) := (blk_cell Bg26.out 1).trans rfl; have hf1 := blk_frozen Bg26.out 1; have hz2 : W_.cell? ⟨g26, 2, none⟩ = some (.int .i64 0) := (blk_cell Bg26.out 2).trans rfl; have hf2 := blk_frozen Bg26.out 2; have hz3 : W_.cell? ⟨g26, 3, none⟩ = some (.int .i64 0) := (blk_cell Bg26.out 3).trans rfl; have hf3 := blk_frozen Bg26.out 3; have hz4 : W_.cell? ⟨g26, 4, none⟩ = some (.int .i64 0) := (blk_cell Bg26.out 4).trans rfl; have hf4 := blk_frozen Bg26.out 4; have hz5 : W_.cell? ⟨g26, 5, none⟩ = some (.bool false) := (blk_cell Bg26.out 5).trans rfl; have hf5 := blk_frozen Bg26.out 5; have hz6 : W_.cell? ⟨g26, 6, none⟩ = some (.slice none 0 0) := (blk_cell Bg26.out 6).trans rfl; have hf6 := blk_frozen Bg26.out 6; clear hbox hb hg))
  obtain ⟨w9, hw9⟩ : ∃ w9 : World, (((((((W_.setCell ⟨g26, 0, none⟩ (.int .i64 0)).setCell ⟨g26, 1, none⟩ (.int .i64 X1)).setCell ⟨g26, 2, none⟩ (.int .i64 X2)).setCell ⟨g26, 3, none⟩ (.int .i64 X3)).setCell ⟨g26, 4, none⟩ (.int .i64 0)).setCell ⟨g26, 5, none⟩ (.bool false)).setCell ⟨g26, 6, none⟩ (.slice none 0 0)) = w9 := ⟨_, rfl⟩
  rw [hw9]
  have hgx : gb < g26 := by have := blk_lt BX.out; have := NEg26.out; omega
  have BX9 := Aside0.mk (show w9.heap[gb]? = some (.cells (cells s) 23 (0, 0)) by rw [← hw9]; exact ((below7 (Below.refl g26 W_) (Nat.le_refl _) _ _ _ _ _ _ _).block gb hgx).trans BX.out)
  have BB9 := Aside0.mk (show w9.heap[g26]? = some (.cells #[.int .i64 0, .int .i64 X1, .int .i64 X2, .int .i64 X3, .int .i64 0, .bool false, .slice none 0 0] 32 (0, 0)) by rw [← hw9]; exact seven Bg26.out _ _ _ _ _ _ _)
  have HB9 := Aside0.mk (show Below w.heap.size w w9 by rw [← hw9]; exact below7 HB.out HGg26.out _ _ _ _ _ _ _)
  clear hw9 BX Bg26 HB hgx
  have BX := BX9
  have Bg26 := BB9
  have HB := HB9
  clear BX9 BB9 HB9
  go_upto_region 10 with (first | ((with_reducible refine gate_dst (N := 91) rfl ?_); refine wp_load rfl 23 _ u23 _ rfl _ rfl s BX.out ?_) | (go_at_call 14; with_reducible refine (RAbsC _ _ _ _ _ _ _ _ (by assumption) _).mono ?_; rintro e wc ⟨rfl, hb⟩; have BX := Aside0.mk (blk_below BX.out hb); have Bg26 := Aside0.mk (blk_below Bg26.out hb); have HB := Aside0.mk (HB.out.trans (hb.mono HB.out.size)); have hg26z0 : wc.cell? ⟨g26, 0, none⟩ = some (.int .i64 0) := (blk_cell Bg26.out 0).trans rfl; have hg26f0 := blk_frozen Bg26.out 0; have hg26z1 : wc.cell? ⟨g26, 1, none⟩ = some (.int .i64 X1) := (blk_cell Bg26.out 1).trans rfl; have hg26f1 := blk_frozen Bg26.out 1; have hg26z2 : wc.cell? ⟨g26, 2, none⟩ = some (.int .i64 X2) := (blk_cell Bg26.out 2).trans rfl; have hg26f2 := blk_frozen Bg26.out 2; have hg26z3 : wc.cell? ⟨g26, 3, none⟩ = some (.int .i64 X3) := (blk_cell Bg26.out 3).trans rfl; have hg26f3 := blk_frozen Bg26.out 3; have hg26z4 : wc.cell? ⟨g26, 4, none⟩ = some (.int .i64 0) := (blk_cell Bg26.out 4).trans rfl; have hg26f4 := blk_frozen Bg26.out 4; have hg26z5 : wc.cell? ⟨g26, 5, none⟩ = some (.bool false) := (blk_cell Bg26.out 5).trans rfl; have hg26f5 := blk_frozen Bg26.out 5; have hg26z6 : wc.cell? ⟨g26, 6, none⟩ = some (.slice none 0 0) := (blk_cell Bg26.out 6).trans rfl; have hg26f6 := blk_frozen Bg26.out 6; clear hb) | ((with_reducible refine gate_dst (N := 27) rfl ?_); refine box_event ?hg (N := 27) ?hd (cs := #[.int .i64 0, .int .i64 0, .int .i64 0, .int .i64 0, .int .i64 0, .bool false, .slice none 0 0]) (t := 32) ?hr ?_; (case hd => rfl); (case hg => rfl); (case hr => first | (go_simp; done) | (go_simp; rfl)); intro g27 hg W_ hbox hb; have NEg27 : Aside0 (gb < g27) := ⟨by have := blk_lt BX.out; omega⟩; have LTg27 : Aside0 (g26 < g27) := ⟨by have := blk_lt Bg26.out; omega⟩; have Bg26 := Aside0.mk (blk_below Bg26.out hb); have BX := Aside0.mk (blk_below BX.out hb); have Bg27 := Aside0.mk hbox; have HGg27 : Aside0 (w.heap.size ≤ g27) := ⟨by have := HB.out.size; omega⟩; have HB := Aside0.mk (HB.out.trans (hb.mono HB.out.size)); have hz0 : W_.cell? ⟨g27, 0, none⟩ = some (.int .i64 0) := (blk_cell Bg27.out 0).trans rfl; have hf0 := blk_frozen Bg27.out 0; have hz1 : W_.cell? ⟨g27, 1, none⟩ = some (.int .i64 0) := (blk_cell Bg27.out 1).trans rfl; have hf1 := blk_frozen Bg27.out 1; have hz2 : W_.cell? ⟨g27, 2, none⟩ = some (.int .i64 0) := (blk_cell Bg27.out 2).trans rfl; have hf2 := blk_frozen Bg27.out 2; have hz3 : W_.cell? ⟨g27, 3, none⟩ = some (.int .i64 0) := (blk_cell Bg27.out 3).trans rfl; have hf3 := blk_frozen Bg27.out 3; have hz4 : W_.cell? ⟨g27, 4, none⟩ = some (.int .i64 0) := (blk_cell Bg27.out 4).trans rfl; have hf4 := blk_frozen Bg27.out 4; have hz5 : W_.cell? ⟨g27, 5, none⟩ = some (.bool false) := (blk_cell Bg27.out 5).trans rfl; have hf5 := blk_frozen Bg27.out 5; have hz6 : W_.cell? ⟨g27, 6, none⟩ = some (.slice none 0 0) := (blk_cell Bg27.out 6).trans rfl; have hf6 := blk_frozen Bg27.out 6; clear hbox hb hg))
  obtain ⟨w9, hw9⟩ : ∃ w9 : World, (((((((W_.setCell ⟨g27, 0, none⟩ (.int .i64 0)).setCell ⟨g27, 1, none⟩ (.int .i64 X1)).setCell ⟨g27, 2, none⟩ (.int .i64 X2)).setCell ⟨g27, 3, none⟩ (.int .i64 X3)).setCell ⟨g27, 4, none⟩ (.int .i64 0)).setCell ⟨g27, 5, none⟩ (.bool false)).setCell ⟨g27, 6, none⟩ (.slice none 0 0)) = w9 := ⟨_, rfl⟩
  rw [hw9]
  have hgx : gb < g27 := by have := blk_lt BX.out; have := NEg27.out; omega
  have BX9 := Aside0.mk (show w9.heap[gb]? = some (.cells (cells s) 23 (0, 0)) by rw [← hw9]; exact ((below7 (Below.refl g27 W_) (Nat.le_refl _) _ _ _ _ _ _ _).block gb hgx).trans BX.out)
  have BB9 := Aside0.mk (show w9.heap[g27]? = some (.cells #[.int .i64 0, .int .i64 X1, .int .i64 X2, .int .i64 X3, .int .i64 0, .bool false, .slice none 0 0] 32 (0, 0)) by rw [← hw9]; exact seven Bg27.out _ _ _ _ _ _ _)
  have HB9 := Aside0.mk (show Below w.heap.size w w9 by rw [← hw9]; exact below7 HB.out HGg27.out _ _ _ _ _ _ _)
  have hltg26 : g26 < g27 := LTg27.out
  have Og269 := Aside0.mk (show w9.heap[g26]? = some (.cells #[.int .i64 0, .int .i64 X1, .int .i64 X2, .int .i64 X3, .int .i64 0, .bool false, .slice none 0 0] 32 (0, 0)) by rw [← hw9]; exact ((below7 (Below.refl g27 W_) (Nat.le_refl _) _ _ _ _ _ _ _).block g26 hltg26).trans Bg26.out)
  clear hw9 BX Bg27 HB hgx hltg26 Bg26
  have BX := BX9
  have Bg27 := BB9
  have HB := HB9
  have Bg26 := Og269
  clear BX9 BB9 HB9 Og269
  have hg26z0 : w9.cell? ⟨g26, 0, none⟩ = some (.int .i64 0) := (blk_cell Bg26.out 0).trans rfl
  have hg26z1 : w9.cell? ⟨g26, 1, none⟩ = some (.int .i64 X1) := (blk_cell Bg26.out 1).trans rfl
  have hg26z2 : w9.cell? ⟨g26, 2, none⟩ = some (.int .i64 X2) := (blk_cell Bg26.out 2).trans rfl
  have hg26z3 : w9.cell? ⟨g26, 3, none⟩ = some (.int .i64 X3) := (blk_cell Bg26.out 3).trans rfl
  have hg26z4 : w9.cell? ⟨g26, 4, none⟩ = some (.int .i64 0) := (blk_cell Bg26.out 4).trans rfl
  have hg26z5 : w9.cell? ⟨g26, 5, none⟩ = some (.bool false) := (blk_cell Bg26.out 5).trans rfl
  have hg26z6 : w9.cell? ⟨g26, 6, none⟩ = some (.slice none 0 0) := (blk_cell Bg26.out 6).trans rfl
  have hg27z0 : w9.cell? ⟨g27, 0, none⟩ = some (.int .i64 0) := (blk_cell Bg27.out 0).trans rfl
  have hg27z1 : w9.cell? ⟨g27, 1, none⟩ = some (.int .i64 X1) := (blk_cell Bg27.out 1).trans rfl
  have hg27z2 : w9.cell? ⟨g27, 2, none⟩ = some (.int .i64 X2) := (blk_cell Bg27.out 2).trans rfl
  have hg27z3 : w9.cell? ⟨g27, 3, none⟩ = some (.int .i64 X3) := (blk_cell Bg27.out 3).trans rfl
  have hg27z4 : w9.cell? ⟨g27, 4, none⟩ = some (.int .i64 0) := (blk_cell Bg27.out 4).trans rfl
  have hg27z5 : w9.cell? ⟨g27, 5, none⟩ = some (.bool false) := (blk_cell Bg27.out 5).trans rfl
  have hg27z6 : w9.cell? ⟨g27, 6, none⟩ = some (.slice none 0 0) := (blk_cell Bg27.out 6).trans rfl
  go_wp2_with (first | (go_at_call 15; with_reducible refine (BareC _ _ _ _).mono ?_; rintro e wc ⟨rfl, hb⟩; have BX := Aside0.mk (blk_below BX.out hb); have Bg26 := Aside0.mk (blk_below Bg26.out hb); have Bg27 := Aside0.mk (blk_below Bg27.out hb); have HB := Aside0.mk (HB.out.trans (hb.mono HB.out.size)); have hg26z0 : wc.cell? ⟨g26, 0, none⟩ = some (.int .i64 0) := (blk_cell Bg26.out 0).trans rfl; have hg26f0 := blk_frozen Bg26.out 0; have hg26z1 : wc.cell? ⟨g26, 1, none⟩ = some (.int .i64 X1) := (blk_cell Bg26.out 1).trans rfl; have hg26f1 := blk_frozen Bg26.out 1; have hg26z2 : wc.cell? ⟨g26, 2, none⟩ = some (.int .i64 X2) := (blk_cell Bg26.out 2).trans rfl; have hg26f2 := blk_frozen Bg26.out 2; have hg26z3 : wc.cell? ⟨g26, 3, none⟩ = some (.int .i64 X3) := (blk_cell Bg26.out 3).trans rfl; have hg26f3 := blk_frozen Bg26.out 3; have hg26z4 : wc.cell? ⟨g26, 4, none⟩ = some (.int .i64 0) := (blk_cell Bg26.out 4).trans rfl; have hg26f4 := blk_frozen Bg26.out 4; have hg26z5 : wc.cell? ⟨g26, 5, none⟩ = some (.bool false) := (blk_cell Bg26.out 5).trans rfl; have hg26f5 := blk_frozen Bg26.out 5; have hg26z6 : wc.cell? ⟨g26, 6, none⟩ = some (.slice none 0 0) := (blk_cell Bg26.out 6).trans rfl; have hg26f6 := blk_frozen Bg26.out 6; have hg27z0 : wc.cell? ⟨g27, 0, none⟩ = some (.int .i64 0) := (blk_cell Bg27.out 0).trans rfl; have hg27f0 := blk_frozen Bg27.out 0; have hg27z1 : wc.cell? ⟨g27, 1, none⟩ = some (.int .i64 X1) := (blk_cell Bg27.out 1).trans rfl; have hg27f1 := blk_frozen Bg27.out 1; have hg27z2 : wc.cell? ⟨g27, 2, none⟩ = some (.int .i64 X2) := (blk_cell Bg27.out 2).trans rfl; have hg27f2 := blk_frozen Bg27.out 2; have hg27z3 : wc.cell? ⟨g27, 3, none⟩ = some (.int .i64 X3) := (blk_cell Bg27.out 3).trans rfl; have hg27f3 := blk_frozen Bg27.out 3; have hg27z4 : wc.cell? ⟨g27, 4, none⟩ = some (.int .i64 0) := (blk_cell Bg27.out 4).trans rfl; have hg27f4 := blk_frozen Bg27.out 4; have hg27z5 : wc.cell? ⟨g27, 5, none⟩ = some (.bool false) := (blk_cell Bg27.out 5).trans rfl; have hg27f5 := blk_frozen Bg27.out 5; have hg27z6 : wc.cell? ⟨g27, 6, none⟩ = some (.slice none 0 0) := (blk_cell Bg27.out 6).trans rfl; have hg27f6 := blk_frozen Bg27.out 6; clear hb) | (go_at_call 16; with_reducible refine (StickC _ _ _ _ _ _ _ _ (by assumption) _).mono ?_; rintro e wc ⟨rfl, hb⟩; have BX := Aside0.mk (blk_below BX.out hb); have HB := Aside0.mk (HB.out.trans (hb.mono HB.out.size)); clear hb) | (go_at_call 17; with_reducible refine (RStickC _ _ _ _ _ _ _ _ (by assumption) _).mono ?_; rintro e wc ⟨rfl, hb⟩; have BX := Aside0.mk (blk_below BX.out hb); have HB := Aside0.mk (HB.out.trans (hb.mono HB.out.size)); clear hb))
  go_ret
  exact ⟨rfl, HB.out⟩
end Go.Proofs.Ytaclpkcoaifjfaa.P
