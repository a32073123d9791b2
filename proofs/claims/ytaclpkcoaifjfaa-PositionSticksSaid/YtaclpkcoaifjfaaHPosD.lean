import Derived.Test.YtaclpkcoaifjfaaHPosC
set_option linter.unusedVariables false
set_option linter.unusedSimpArgs false
namespace Go.Proofs.Ytaclpkcoaifjfaa.P
open Go.RowKit Go.Proofs.YtaclpkcoaifjfaaW.PrintWords Go.Proofs.YtaclpkcoaifjfaaW.PrintLast Go.Proofs.YtaclpkcoaifjfaaW.PrintMore
attribute [local go_sem] Oper.semAt_some
theorem rightC (s : Nat → Int) (b : Bool) (h : rightP s = b) (w : World) : Calls Try.prog 20 #[sv s] w fun e w' => e = .returned (.bool b) ∧ Below w.heap.size w w' := by rw [← h]; exact right_calls s w
theorem rrightC (s : Nat → Int) (b : Bool) (h : rightP s = b) (w : World) : Calls Try.prog 18 #[sv s] w fun e w' => e = .returned (.bool b) ∧ Below w.heap.size w w' := by rw [← h]; exact rright_calls s w
def WidthP (s : Nat → Int) (room : Int) : Int × Int := if (rightP s && lenP room) = true then (widthP s room, 0) else (0, 1)
def WidthR (s : Nat → Int) (room : Int) : Int × Int := if (rightP s && lenP room) = true then (widthR s room, 0) else (0, 1)
def InnerP (s : Nat → Int) (w : Int) : Int × Int × Int := if (rightP s && lenP w) = true then (s 3, mx 0 (wrap64 (w - wrap64 (2 * s 3))), 0) else (0, 0, 1)
set_option maxRecDepth 100000 in
set_option maxHeartbeats 8000000 in
theorem Width_calls (s : Nat → Int) (room : Int) (w : World) : Calls Try.prog 9 #[sv s, .int .i64 room] w fun e w' => e = .returned (.tuple #[.int .i64 (WidthP s room).1, .int .i64 (WidthP s room).2]) ∧ Below w.heap.size w w' := by
  unfold WidthP
  cases h1 : rightP s
  · go_enter Try.func9, Try.ntmps9
    go_wp2_with (first | ((with_reducible refine gate_dst (N := 2) rfl ?_); refine wp_box rfl (N := 2) rfl 23 _ rfl s rfl ?_; intro gb hg w1 hbox hb; have BX := Aside0.mk hbox; have HB := Aside0.mk hb; clear hbox hb; clear hg) | ((with_reducible refine gate_dst (N := 6) rfl ?_); refine wp_load rfl 23 _ u23 _ rfl _ rfl s BX.out ?_) | ((with_reducible refine gate_dst (N := 14) rfl ?_); refine wp_load rfl 23 _ u23 _ rfl _ rfl s BX.out ?_) | (go_at_call 20; with_reducible refine (rightC s _ (by assumption) _).mono ?_; rintro e wc ⟨rfl, hb⟩; have BX := Aside0.mk (blk_below BX.out hb); have HB := Aside0.mk (HB.out.trans (hb.mono HB.out.size)); clear hb) | (go_at_call 21; with_reducible refine (lenC room _ (by assumption) _).mono ?_; rintro e wc ⟨rfl, hd⟩; have BX := Aside0.mk (blk_below BX.out hd.below); have HB := Aside0.mk (HB.out.trans (hd.below.mono HB.out.size)); clear hd) | (go_at_call 22; with_reducible refine (width_calls s room _).mono ?_; rintro e wc ⟨rfl, hb⟩; have BX := Aside0.mk (blk_below BX.out hb); have HB := Aside0.mk (HB.out.trans (hb.mono HB.out.size)); clear hb))
    refine bodyPost_ret (results_tmp2 rfl _ _ _) rfl ?_
    exact ⟨rfl, HB.out⟩
  · cases h2 : lenP room
    · go_enter Try.func9, Try.ntmps9
      go_wp2_with (first | ((with_reducible refine gate_dst (N := 2) rfl ?_); refine wp_box rfl (N := 2) rfl 23 _ rfl s rfl ?_; intro gb hg w1 hbox hb; have BX := Aside0.mk hbox; have HB := Aside0.mk hb; clear hbox hb; clear hg) | ((with_reducible refine gate_dst (N := 6) rfl ?_); refine wp_load rfl 23 _ u23 _ rfl _ rfl s BX.out ?_) | ((with_reducible refine gate_dst (N := 14) rfl ?_); refine wp_load rfl 23 _ u23 _ rfl _ rfl s BX.out ?_) | (go_at_call 20; with_reducible refine (rightC s _ (by assumption) _).mono ?_; rintro e wc ⟨rfl, hb⟩; have BX := Aside0.mk (blk_below BX.out hb); have HB := Aside0.mk (HB.out.trans (hb.mono HB.out.size)); clear hb) | (go_at_call 21; with_reducible refine (lenC room _ (by assumption) _).mono ?_; rintro e wc ⟨rfl, hd⟩; have BX := Aside0.mk (blk_below BX.out hd.below); have HB := Aside0.mk (HB.out.trans (hd.below.mono HB.out.size)); clear hd) | (go_at_call 22; with_reducible refine (width_calls s room _).mono ?_; rintro e wc ⟨rfl, hb⟩; have BX := Aside0.mk (blk_below BX.out hb); have HB := Aside0.mk (HB.out.trans (hb.mono HB.out.size)); clear hb))
      refine bodyPost_ret (results_tmp2 rfl _ _ _) rfl ?_
      exact ⟨rfl, HB.out⟩
    · go_enter Try.func9, Try.ntmps9
      go_wp2_with (first | ((with_reducible refine gate_dst (N := 2) rfl ?_); refine wp_box rfl (N := 2) rfl 23 _ rfl s rfl ?_; intro gb hg w1 hbox hb; have BX := Aside0.mk hbox; have HB := Aside0.mk hb; clear hbox hb; clear hg) | ((with_reducible refine gate_dst (N := 6) rfl ?_); refine wp_load rfl 23 _ u23 _ rfl _ rfl s BX.out ?_) | ((with_reducible refine gate_dst (N := 14) rfl ?_); refine wp_load rfl 23 _ u23 _ rfl _ rfl s BX.out ?_) | (go_at_call 20; with_reducible refine (rightC s _ (by assumption) _).mono ?_; rintro e wc ⟨rfl, hb⟩; have BX := Aside0.mk (blk_below BX.out hb); have HB := Aside0.mk (HB.out.trans (hb.mono HB.out.size)); clear hb) | (go_at_call 21; with_reducible refine (lenC room _ (by assumption) _).mono ?_; rintro e wc ⟨rfl, hd⟩; have BX := Aside0.mk (blk_below BX.out hd.below); have HB := Aside0.mk (HB.out.trans (hd.below.mono HB.out.size)); clear hd) | (go_at_call 22; with_reducible refine (width_calls s room _).mono ?_; rintro e wc ⟨rfl, hb⟩; have BX := Aside0.mk (blk_below BX.out hb); have HB := Aside0.mk (HB.out.trans (hb.mono HB.out.size)); clear hb))
      refine bodyPost_ret (results_tmp2 rfl _ _ _) rfl ?_
      exact ⟨rfl, HB.out⟩
set_option maxRecDepth 100000 in
set_option maxHeartbeats 8000000 in
theorem RWidth_calls (s : Nat → Int) (room : Int) (w : World) : Calls Try.prog 10 #[sv s, .int .i64 room] w fun e w' => e = .returned (.tuple #[.int .i64 (WidthR s room).1, .int .i64 (WidthR s room).2]) ∧ Below w.heap.size w w' := by
  unfold WidthR
  cases h1 : rightP s
  · go_enter Try.func10, Try.ntmps10
    go_wp2_with (first | ((with_reducible refine gate_dst (N := 2) rfl ?_); refine wp_box rfl (N := 2) rfl 23 _ rfl s rfl ?_; intro gb hg w1 hbox hb; have BX := Aside0.mk hbox; have HB := Aside0.mk hb; clear hbox hb; clear hg) | ((with_reducible refine gate_dst (N := 7) rfl ?_); refine wp_load rfl 23 _ u23 _ rfl _ rfl s BX.out ?_) | ((with_reducible refine gate_dst (N := 16) rfl ?_); refine wp_load rfl 23 _ u23 _ rfl _ rfl s BX.out ?_) | (go_at_call 18; with_reducible refine (rrightC s _ (by assumption) _).mono ?_; rintro e wc ⟨rfl, hb⟩; have BX := Aside0.mk (blk_below BX.out hb); have HB := Aside0.mk (HB.out.trans (hb.mono HB.out.size)); clear hb) | (go_at_call 23; with_reducible refine (rlenC room _ (by assumption) _).mono ?_; rintro e wc ⟨rfl, hd⟩; have BX := Aside0.mk (blk_below BX.out hd.below); have HB := Aside0.mk (HB.out.trans (hd.below.mono HB.out.size)); clear hd) | (go_at_call 24; with_reducible refine (rwidth_calls s room _).mono ?_; rintro e wc ⟨rfl, hb⟩; have BX := Aside0.mk (blk_below BX.out hb); have HB := Aside0.mk (HB.out.trans (hb.mono HB.out.size)); clear hb))
    refine bodyPost_ret (results_tmp2 rfl _ _ _) rfl ?_
    exact ⟨rfl, HB.out⟩
  · cases h2 : lenP room
    · go_enter Try.func10, Try.ntmps10
      go_wp2_with (first | ((with_reducible refine gate_dst (N := 2) rfl ?_); refine wp_box rfl (N := 2) rfl 23 _ rfl s rfl ?_; intro gb hg w1 hbox hb; have BX := Aside0.mk hbox; have HB := Aside0.mk hb; clear hbox hb; clear hg) | ((with_reducible refine gate_dst (N := 7) rfl ?_); refine wp_load rfl 23 _ u23 _ rfl _ rfl s BX.out ?_) | ((with_reducible refine gate_dst (N := 16) rfl ?_); refine wp_load rfl 23 _ u23 _ rfl _ rfl s BX.out ?_) | (go_at_call 18; with_reducible refine (rrightC s _ (by assumption) _).mono ?_; rintro e wc ⟨rfl, hb⟩; have BX := Aside0.mk (blk_below BX.out hb); have HB := Aside0.mk (HB.out.trans (hb.mono HB.out.size)); clear hb) | (go_at_call 23; with_reducible refine (rlenC room _ (by assumption) _).mono ?_; rintro e wc ⟨rfl, hd⟩; have BX := Aside0.mk (blk_below BX.out hd.below); have HB := Aside0.mk (HB.out.trans (hd.below.mono HB.out.size)); clear hd) | (go_at_call 24; with_reducible refine (rwidth_calls s room _).mono ?_; rintro e wc ⟨rfl, hb⟩; have BX := Aside0.mk (blk_below BX.out hb); have HB := Aside0.mk (HB.out.trans (hb.mono HB.out.size)); clear hb))
      refine bodyPost_ret (results_tmp2 rfl _ _ _) rfl ?_
      exact ⟨rfl, HB.out⟩
    · go_enter Try.func10, Try.ntmps10
      go_wp2_with (first | ((with_reducible refine gate_dst (N := 2) rfl ?_); refine wp_box rfl (N := 2) rfl 23 _ rfl s rfl ?_; intro gb hg w1 hbox hb; have BX := Aside0.mk hbox; have HB := Aside0.mk hb; clear hbox hb; clear hg) | ((with_reducible refine gate_dst (N := 7) rfl ?_); refine wp_load rfl 23 _ u23 _ rfl _ rfl s BX.out ?_) | ((with_reducible refine gate_dst (N := 16) rfl ?_); refine wp_load rfl 23 _ u23 _ rfl _ rfl s BX.out ?_) | (go_at_call 18; with_reducible refine (rrightC s _ (by assumption) _).mono ?_; rintro e wc ⟨rfl, hb⟩; have BX := Aside0.mk (blk_below BX.out hb); have HB := Aside0.mk (HB.out.trans (hb.mono HB.out.size)); clear hb) | (go_at_call 23; with_reducible refine (rlenC room _ (by assumption) _).mono ?_; rintro e wc ⟨rfl, hd⟩; have BX := Aside0.mk (blk_below BX.out hd.below); have HB := Aside0.mk (HB.out.trans (hd.below.mono HB.out.size)); clear hd) | (go_at_call 24; with_reducible refine (rwidth_calls s room _).mono ?_; rintro e wc ⟨rfl, hb⟩; have BX := Aside0.mk (blk_below BX.out hb); have HB := Aside0.mk (HB.out.trans (hb.mono HB.out.size)); clear hb))
      refine bodyPost_ret (results_tmp2 rfl _ _ _) rfl ?_
      exact ⟨rfl, HB.out⟩
set_option maxRecDepth 100000 in
set_option maxHeartbeats 8000000 in
theorem Inner_calls (s : Nat → Int) (x : Int) (w : World) : Calls Try.prog 11 #[sv s, .int .i64 x] w fun e w' => e = .returned (.tuple #[.int .i64 (InnerP s x).1, .int .i64 (InnerP s x).2.1, .int .i64 (InnerP s x).2.2]) ∧ Below w.heap.size w w' := by
  unfold InnerP
  cases h1 : rightP s
  · go_enter Try.func11, Try.ntmps11
    go_wp2_with (first | ((with_reducible refine gate_dst (N := 2) rfl ?_); refine wp_box rfl (N := 2) rfl 23 _ rfl s rfl ?_; intro gb hg w1 hbox hb; have BX := Aside0.mk hbox; have HB := Aside0.mk hb; clear hbox hb; clear hg) | ((with_reducible refine gate_dst (N := 7) rfl ?_); refine wp_load rfl 23 _ u23 _ rfl _ rfl s BX.out ?_) | (go_at_call 20; with_reducible refine (rightC s _ (by assumption) _).mono ?_; rintro e wc ⟨rfl, hb⟩; have BX := Aside0.mk (blk_below BX.out hb); have HB := Aside0.mk (HB.out.trans (hb.mono HB.out.size)); clear hb) | (go_at_call 21; with_reducible refine (lenC x _ (by assumption) _).mono ?_; rintro e wc ⟨rfl, hd⟩; have BX := Aside0.mk (blk_below BX.out hd.below); have HB := Aside0.mk (HB.out.trans (hd.below.mono HB.out.size)); clear hd))
    refine bodyPost_ret (results_tmp3 rfl _ _ _) rfl ?_
    exact ⟨rfl, HB.out⟩
  · cases h2 : lenP x
    · go_enter Try.func11, Try.ntmps11
      go_wp2_with (first | ((with_reducible refine gate_dst (N := 2) rfl ?_); refine wp_box rfl (N := 2) rfl 23 _ rfl s rfl ?_; intro gb hg w1 hbox hb; have BX := Aside0.mk hbox; have HB := Aside0.mk hb; clear hbox hb; clear hg) | ((with_reducible refine gate_dst (N := 7) rfl ?_); refine wp_load rfl 23 _ u23 _ rfl _ rfl s BX.out ?_) | (go_at_call 20; with_reducible refine (rightC s _ (by assumption) _).mono ?_; rintro e wc ⟨rfl, hb⟩; have BX := Aside0.mk (blk_below BX.out hb); have HB := Aside0.mk (HB.out.trans (hb.mono HB.out.size)); clear hb) | (go_at_call 21; with_reducible refine (lenC x _ (by assumption) _).mono ?_; rintro e wc ⟨rfl, hd⟩; have BX := Aside0.mk (blk_below BX.out hd.below); have HB := Aside0.mk (HB.out.trans (hd.below.mono HB.out.size)); clear hd))
      refine bodyPost_ret (results_tmp3 rfl _ _ _) rfl ?_
      exact ⟨rfl, HB.out⟩
    · obtain ⟨R, hR⟩ : ∃ R, mx 0 (wrap64 (x - wrap64 (2 * s 3))) = R := ⟨_, rfl⟩
      have hR_ : (if 0 < wrap64 (x - wrap64 (2 * s 3)) then wrap64 (x - wrap64 (2 * s 3)) else 0) = R := hR
      have hR2 : (if 0 < IntKind.i64.wrap (x - IntKind.i64.wrap (2 * s 3)) then IntKind.i64.wrap (x - IntKind.i64.wrap (2 * s 3)) else 0) = R := by simp only [i64_w]; exact hR
      go_enter Try.func11, Try.ntmps11
      go_upto_region 3 with (first | ((with_reducible refine gate_dst (N := 2) rfl ?_); refine wp_box rfl (N := 2) rfl 23 _ rfl s rfl ?_; intro gb hg w1 hbox hb; have BX := Aside0.mk hbox; have HB := Aside0.mk hb; clear hbox hb; clear hg) | ((with_reducible refine gate_dst (N := 7) rfl ?_); refine wp_load rfl 23 _ u23 _ rfl _ rfl s BX.out ?_) | (go_at_call 20; with_reducible refine (rightC s _ (by assumption) _).mono ?_; rintro e wc ⟨rfl, hb⟩; have BX := Aside0.mk (blk_below BX.out hb); have HB := Aside0.mk (HB.out.trans (hb.mono HB.out.size)); clear hb) | (go_at_call 21; with_reducible refine (lenC x _ (by assumption) _).mono ?_; rintro e wc ⟨rfl, hd⟩; have BX := Aside0.mk (blk_below BX.out hd.below); have HB := Aside0.mk (HB.out.trans (hd.below.mono HB.out.size)); clear hd))
      have hc3 := cell_at BX.out 3 (by omega)
      go_wp2
      refine bodyPost_ret (results_tmp3 rfl _ _ _) rfl ?_
      exact ⟨by first | rfl | simp [hR], HB.out⟩
set_option maxRecDepth 100000 in
set_option maxHeartbeats 8000000 in
theorem RInner_calls (s : Nat → Int) (x : Int) (w : World) : Calls Try.prog 12 #[sv s, .int .i64 x] w fun e w' => e = .returned (.tuple #[.int .i64 (InnerP s x).1, .int .i64 (InnerP s x).2.1, .int .i64 (InnerP s x).2.2]) ∧ Below w.heap.size w w' := by
  unfold InnerP
  cases h1 : rightP s
  · go_enter Try.func12, Try.ntmps12
    go_wp2_with (first | ((with_reducible refine gate_dst (N := 2) rfl ?_); refine wp_box rfl (N := 2) rfl 23 _ rfl s rfl ?_; intro gb hg w1 hbox hb; have BX := Aside0.mk hbox; have HB := Aside0.mk hb; clear hbox hb; clear hg) | ((with_reducible refine gate_dst (N := 9) rfl ?_); refine wp_load rfl 23 _ u23 _ rfl _ rfl s BX.out ?_) | (go_at_call 18; with_reducible refine (rrightC s _ (by assumption) _).mono ?_; rintro e wc ⟨rfl, hb⟩; have BX := Aside0.mk (blk_below BX.out hb); have HB := Aside0.mk (HB.out.trans (hb.mono HB.out.size)); clear hb) | (go_at_call 23; with_reducible refine (rlenC x _ (by assumption) _).mono ?_; rintro e wc ⟨rfl, hd⟩; have BX := Aside0.mk (blk_below BX.out hd.below); have HB := Aside0.mk (HB.out.trans (hd.below.mono HB.out.size)); clear hd))
    refine bodyPost_ret (results_tmp3 rfl _ _ _) rfl ?_
    exact ⟨rfl, HB.out⟩
  · cases h2 : lenP x
    · go_enter Try.func12, Try.ntmps12
      go_wp2_with (first | ((with_reducible refine gate_dst (N := 2) rfl ?_); refine wp_box rfl (N := 2) rfl 23 _ rfl s rfl ?_; intro gb hg w1 hbox hb; have BX := Aside0.mk hbox; have HB := Aside0.mk hb; clear hbox hb; clear hg) | ((with_reducible refine gate_dst (N := 9) rfl ?_); refine wp_load rfl 23 _ u23 _ rfl _ rfl s BX.out ?_) | (go_at_call 18; with_reducible refine (rrightC s _ (by assumption) _).mono ?_; rintro e wc ⟨rfl, hb⟩; have BX := Aside0.mk (blk_below BX.out hb); have HB := Aside0.mk (HB.out.trans (hb.mono HB.out.size)); clear hb) | (go_at_call 23; with_reducible refine (rlenC x _ (by assumption) _).mono ?_; rintro e wc ⟨rfl, hd⟩; have BX := Aside0.mk (blk_below BX.out hd.below); have HB := Aside0.mk (HB.out.trans (hd.below.mono HB.out.size)); clear hd))
      refine bodyPost_ret (results_tmp3 rfl _ _ _) rfl ?_
      exact ⟨rfl, HB.out⟩
    · obtain ⟨R, hR⟩ : ∃ R, mx 0 (wrap64 (x - wrap64 (2 * s 3))) = R := ⟨_, rfl⟩
      have hR_ : (if 0 < wrap64 (x - wrap64 (2 * s 3)) then wrap64 (x - wrap64 (2 * s 3)) else 0) = R := hR
      have hR2 : (if 0 < IntKind.i64.wrap (x - IntKind.i64.wrap (2 * s 3)) then IntKind.i64.wrap (x - IntKind.i64.wrap (2 * s 3)) else 0) = R := by simp only [i64_w]; exact hR
      go_enter Try.func12, Try.ntmps12
      go_upto_region 4 with (first | ((with_reducible refine gate_dst (N := 2) rfl ?_); refine wp_box rfl (N := 2) rfl 23 _ rfl s rfl ?_; intro gb hg w1 hbox hb; have BX := Aside0.mk hbox; have HB := Aside0.mk hb; clear hbox hb; clear hg) | ((with_reducible refine gate_dst (N := 9) rfl ?_); refine wp_load rfl 23 _ u23 _ rfl _ rfl s BX.out ?_) | (go_at_call 18; with_reducible refine (rrightC s _ (by assumption) _).mono ?_; rintro e wc ⟨rfl, hb⟩; have BX := Aside0.mk (blk_below BX.out hb); have HB := Aside0.mk (HB.out.trans (hb.mono HB.out.size)); clear hb) | (go_at_call 23; with_reducible refine (rlenC x _ (by assumption) _).mono ?_; rintro e wc ⟨rfl, hd⟩; have BX := Aside0.mk (blk_below BX.out hd.below); have HB := Aside0.mk (HB.out.trans (hd.below.mono HB.out.size)); clear hd))
      have hc3 := cell_at BX.out 3 (by omega)
      go_wp2
      refine bodyPost_ret (results_tmp3 rfl _ _ _) rfl ?_
      exact ⟨by first | rfl | simp [hR], HB.out⟩
end Go.Proofs.Ytaclpkcoaifjfaa.P
