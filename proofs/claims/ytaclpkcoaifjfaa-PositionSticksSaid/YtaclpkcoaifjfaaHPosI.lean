import Derived.Test.YtaclpkcoaifjfaaHPosH
set_option linter.unusedVariables false
set_option linter.unusedSimpArgs false
namespace Go.Proofs.Ytaclpkcoaifjfaa.P
open Go.RowKit Go.Proofs.YtaclpkcoaifjfaaW.PrintWords Go.Proofs.YtaclpkcoaifjfaaW.PrintLast Go.Proofs.YtaclpkcoaifjfaaW.PrintMore
attribute [local go_sem] Oper.semAt_some
theorem WidthC (s : Nat → Int) (room a e : Int) (h : WidthP s room = (a, e)) (w : World) : Calls Try.prog 9 #[sv s, .int .i64 room] w fun x w' => x = .returned (.tuple #[.int .i64 a, .int .i64 e]) ∧ Below w.heap.size w w' := by
  have := Width_calls s room w; rw [h] at this; exact this
theorem RWidthC (s : Nat → Int) (room a e : Int) (h : WidthR s room = (a, e)) (w : World) : Calls Try.prog 10 #[sv s, .int .i64 room] w fun x w' => x = .returned (.tuple #[.int .i64 a, .int .i64 e]) ∧ Below w.heap.size w w' := by
  have := RWidth_calls s room w; rw [h] at this; exact this
theorem InnerC (s : Nat → Int) (x a b e : Int) (h : InnerP s x = (a, b, e)) (w : World) : Calls Try.prog 11 #[sv s, .int .i64 x] w fun y w' => y = .returned (.tuple #[.int .i64 a, .int .i64 b, .int .i64 e]) ∧ Below w.heap.size w w' := by
  have := Inner_calls s x w; rw [h] at this; exact this
theorem RInnerC (s : Nat → Int) (x a b e : Int) (h : InnerP s x = (a, b, e)) (w : World) : Calls Try.prog 12 #[sv s, .int .i64 x] w fun y w' => y = .returned (.tuple #[.int .i64 a, .int .i64 b, .int .i64 e]) ∧ Below w.heap.size w w' := by
  have := RInner_calls s x w; rw [h] at this; exact this
theorem AbsC (s : Nat → Int) (x y room a b c e : Int) (h : AbsP widthP s x y room = ((a, b, c), e)) (w : World) : Calls Try.prog 13 #[sv s, .int .i64 x, .int .i64 y, .int .i64 room] w fun z w' => z = .returned (.tuple #[.agg #[.int .i64 0, .int .i64 a, .int .i64 b, .int .i64 c, .int .i64 0, .bool false, .slice none 0 0], .int .i64 e]) ∧ Below w.heap.size w w' := by
  have := Abs_calls s x y room w; rw [h] at this; exact this
theorem RAbsC (s : Nat → Int) (x y room a b c e : Int) (h : AbsP widthR s x y room = ((a, b, c), e)) (w : World) : Calls Try.prog 14 #[sv s, .int .i64 x, .int .i64 y, .int .i64 room] w fun z w' => z = .returned (.tuple #[.agg #[.int .i64 0, .int .i64 a, .int .i64 b, .int .i64 c, .int .i64 0, .bool false, .slice none 0 0], .int .i64 e]) ∧ Below w.heap.size w w' := by
  have := RAbs_calls s x y room w; rw [h] at this; exact this
theorem StickC (y h fr un tp sc a e : Int) (hh : StickP y h fr un tp sc = (a, e)) (w : World) : Calls Try.prog 16 #[.int .i64 y, .int .i64 h, .int .i64 fr, .int .i64 un, .int .i64 tp, .int .i64 sc] w fun x w' => x = .returned (.tuple #[.int .i64 a, .int .i64 e]) ∧ Below w.heap.size w w' := by
  have := Stick_calls y h fr un tp sc w; rw [hh] at this; exact this
theorem BareC (x y c : Int) (w : World) : Calls Try.prog 15 #[.agg #[.int .i64 0, .int .i64 x, .int .i64 y, .int .i64 c, .int .i64 0, .bool false, .slice none 0 0]] w fun e w' => e = .returned (.bool true) ∧ Below w.heap.size w w' :=
  formeref22_Bare.calls 0 x y c 0 false none 0 [] true w ⟨rfl, by simp, by simp⟩ (Nat.le_refl _) (by simp [formeref22_Bare.f])
theorem styleC (a b c d e f : Int) (s : Nat → Int) (h : styleV a b c d e f = s) (w : World) : Calls Try.prog 19 #[.int .i64 a, .int .i64 b, .int .i64 c, .int .i64 d, .int .i64 e, .int .i64 f] w fun e_ w' => e_ = .returned (sv s) ∧ Below w.heap.size w w' := by
  subst h; exact style_calls a b c d e f w
set_option maxRecDepth 100000 in
set_option maxHeartbeats 8000000 in
theorem head_calls (w : World) : Calls Try.prog 8 #[] w fun e w' => e = .returned (.bool true) ∧ Below w.heap.size w w' := by
  obtain ⟨S, hS⟩ : ∃ S, styleV 0 30 50 4 (-3) 7 = S := ⟨_, rfl⟩
  have hA : WidthP S 80 = (50, 0) := by subst hS; kernel_rfl
  have hB : WidthP S 40 = (40, 0) := by subst hS; kernel_rfl
  have hC : WidthP S 10 = (30, 0) := by subst hS; kernel_rfl
  have hD : InnerP S 50 = (4, 42, 0) := by subst hS; kernel_rfl
  have hE : InnerP S 7 = (4, 0, 0) := by subst hS; kernel_rfl
  have hF : AbsP widthP S 100 200 40 = ((97, 207, 40), 0) := by subst hS; kernel_rfl
  have hG : StickP 100 10 90 200 5 95 = (100, 0) := by rfl
  have hH : StickP 100 10 90 200 5 120 = (125, 0) := by rfl
  have hI : StickP 100 10 90 200 5 186 = (190, 0) := by rfl
  go_enter Try.func8, Try.ntmps8
  go_upto_region 8 with (first | (go_at_call 19; with_reducible refine (styleC _ _ _ _ _ _ _ (by assumption) _).mono ?_; rintro e wc ⟨rfl, hb⟩; have HB := Aside0.mk hb; clear hb) | ((with_reducible refine gate_dst (N := 1) rfl ?_); refine wp_alloc rfl (N := 1) rfl rfl ?_; intro g1 hg w1 hbox hb; have BX0 := Aside0.mk hbox; have HG : Aside0 (w.heap.size ≤ g1) := ⟨by have := HB.out.size; omega⟩; have HB := Aside0.mk (HB.out.trans (hb.mono HB.out.size)); clear hbox hb hg) | (refine wp_store rfl _ _ rfl _ rfl S _ rfl BX0.out ?_; intro w5 hw5; have BX := Aside0.mk (by rw [hw5]; exact setRow_heap _ g1 _ (cells S) 23 (0, 0) BX0.out : w5.heap[g1]? = some (.cells (cells S) 23 (0, 0))); have HB := Aside0.mk (by rw [hw5]; exact HB.out.grown (setRow_grown _ g1 _) HB.out.size (fun k e => by cases e; exact HG.out) : Below w.heap.size w w5); clear hw5 BX0) | ((with_reducible refine gate_dst (N := 25) rfl ?_); refine wp_load rfl 23 _ u23 _ rfl _ rfl S BX.out ?_) | ((with_reducible refine gate_dst (N := 30) rfl ?_); refine wp_load rfl 23 _ u23 _ rfl _ rfl S BX.out ?_) | ((with_reducible refine gate_dst (N := 35) rfl ?_); refine wp_load rfl 23 _ u23 _ rfl _ rfl S BX.out ?_) | ((with_reducible refine gate_dst (N := 40) rfl ?_); refine wp_load rfl 23 _ u23 _ rfl _ rfl S BX.out ?_) | ((with_reducible refine gate_dst (N := 46) rfl ?_); refine wp_load rfl 23 _ u23 _ rfl _ rfl S BX.out ?_) | ((with_reducible refine gate_dst (N := 52) rfl ?_); refine wp_load rfl 23 _ u23 _ rfl _ rfl S BX.out ?_) | (go_at_call 9; with_reducible refine (WidthC _ _ _ _ (by assumption) _).mono ?_; rintro e wc ⟨rfl, hb⟩; have BX := Aside0.mk (blk_below BX.out hb); have HB := Aside0.mk (HB.out.trans (hb.mono HB.out.size)); clear hb) | (go_at_call 11; with_reducible refine (InnerC _ _ _ _ _ (by assumption) _).mono ?_; rintro e wc ⟨rfl, hb⟩; have BX := Aside0.mk (blk_below BX.out hb); have HB := Aside0.mk (HB.out.trans (hb.mono HB.out.size)); clear hb) | (go_at_call 13; with_reducible refine (AbsC _ _ _ _ _ _ _ _ (by assumption) _).mono ?_; rintro e wc ⟨rfl, hb⟩; have BX := Aside0.mk (blk_below BX.out hb); have HB := Aside0.mk (HB.out.trans (hb.mono HB.out.size)); clear hb) | ((with_reducible refine gate_dst (N := 14) rfl ?_); refine box_event ?hg (N := 14) ?hd (cs := #[.int .i64 0, .int .i64 0, .int .i64 0, .int .i64 0, .int .i64 0, .bool false, .slice none 0 0]) (t := 32) ?hr ?_; (case hd => rfl); (case hg => rfl); (case hr => first | (go_simp; done) | (go_simp; rfl)); intro g14 hg W_ hbox hb; have BX := Aside0.mk (blk_below BX.out hb); have BB := Aside0.mk hbox; have HG14 : Aside0 (w.heap.size ≤ g14) := ⟨by have := HB.out.size; omega⟩; have HB := Aside0.mk (HB.out.trans (hb.mono HB.out.size)); have hz0 : W_.cell? ⟨g14, 0, none⟩ = some (.int .i64 0) := (blk_cell BB.out 0).trans rfl; have hf0 := blk_frozen BB.out 0; have hz1 : W_.cell? ⟨g14, 1, none⟩ = some (.int .i64 0) := (blk_cell BB.out 1).trans rfl; have hf1 := blk_frozen BB.out 1; have hz2 : W_.cell? ⟨g14, 2, none⟩ = some (.int .i64 0) := (blk_cell BB.out 2).trans rfl; have hf2 := blk_frozen BB.out 2; have hz3 : W_.cell? ⟨g14, 3, none⟩ = some (.int .i64 0) := (blk_cell BB.out 3).trans rfl; have hf3 := blk_frozen BB.out 3; have hz4 : W_.cell? ⟨g14, 4, none⟩ = some (.int .i64 0) := (blk_cell BB.out 4).trans rfl; have hf4 := blk_frozen BB.out 4; have hz5 : W_.cell? ⟨g14, 5, none⟩ = some (.bool false) := (blk_cell BB.out 5).trans rfl; have hf5 := blk_frozen BB.out 5; have hz6 : W_.cell? ⟨g14, 6, none⟩ = some (.slice none 0 0) := (blk_cell BB.out 6).trans rfl; have hf6 := blk_frozen BB.out 6; clear hbox hb hg))
  obtain ⟨w9, hw9⟩ : ∃ w9 : World, (((((((W_.setCell ⟨g14, 0, none⟩ (.int .i64 0)).setCell ⟨g14, 1, none⟩ (.int .i64 97)).setCell ⟨g14, 2, none⟩ (.int .i64 207)).setCell ⟨g14, 3, none⟩ (.int .i64 40)).setCell ⟨g14, 4, none⟩ (.int .i64 0)).setCell ⟨g14, 5, none⟩ (.bool false)).setCell ⟨g14, 6, none⟩ (.slice none 0 0)) = w9 := ⟨_, rfl⟩
  rw [hw9]
  have BB9 := Aside0.mk (show w9.heap[g14]? = some (.cells #[.int .i64 0, .int .i64 97, .int .i64 207, .int .i64 40, .int .i64 0, .bool false, .slice none 0 0] 32 (0, 0)) by rw [← hw9]; exact seven BB.out _ _ _ _ _ _ _)
  have HB9 := Aside0.mk (show Below w.heap.size w w9 by rw [← hw9]; exact below7 HB.out HG14.out _ _ _ _ _ _ _)
  clear hw9 BX BB HB
  have BB := BB9
  have HB := HB9
  clear BB9 HB9
  go_wp2_with (first | (go_at_call 16; with_reducible refine (StickC _ _ _ _ _ _ _ _ (by assumption) _).mono ?_; rintro e W_ ⟨rfl, hb⟩; have BB := Aside0.mk (blk_below BB.out hb); have HB := Aside0.mk (HB.out.trans (hb.mono HB.out.size)); have hz0 : W_.cell? ⟨g14, 0, none⟩ = some (.int .i64 0) := (blk_cell BB.out 0).trans rfl; have hf0 := blk_frozen BB.out 0; have hz1 : W_.cell? ⟨g14, 1, none⟩ = some (.int .i64 97) := (blk_cell BB.out 1).trans rfl; have hf1 := blk_frozen BB.out 1; have hz2 : W_.cell? ⟨g14, 2, none⟩ = some (.int .i64 207) := (blk_cell BB.out 2).trans rfl; have hf2 := blk_frozen BB.out 2; have hz3 : W_.cell? ⟨g14, 3, none⟩ = some (.int .i64 40) := (blk_cell BB.out 3).trans rfl; have hf3 := blk_frozen BB.out 3; have hz4 : W_.cell? ⟨g14, 4, none⟩ = some (.int .i64 0) := (blk_cell BB.out 4).trans rfl; have hf4 := blk_frozen BB.out 4; have hz5 : W_.cell? ⟨g14, 5, none⟩ = some (.bool false) := (blk_cell BB.out 5).trans rfl; have hf5 := blk_frozen BB.out 5; have hz6 : W_.cell? ⟨g14, 6, none⟩ = some (.slice none 0 0) := (blk_cell BB.out 6).trans rfl; have hf6 := blk_frozen BB.out 6; clear hb) | (go_at_call 15; with_reducible refine (BareC _ _ _ _).mono ?_; rintro e W_ ⟨rfl, hb⟩; have HB := Aside0.mk (HB.out.trans (hb.mono HB.out.size)); clear hb))
  go_ret
  exact ⟨rfl, HB.out⟩
end Go.Proofs.Ytaclpkcoaifjfaa.P
