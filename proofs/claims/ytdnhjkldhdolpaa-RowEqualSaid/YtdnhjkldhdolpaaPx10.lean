-- Laid by a program of this session (wip/fam.sh) over the kit's words: Lean checks it.
import Derived.Test.YtdnhjkldhdolpaaPx0
import Derived.Test.YtdnhjkldhdolpaaPx6
namespace Go.Proofs.Ytdnhjkldhdolpaa.P
open Go.RowKit Go.Proofs.YtdnhjkldhdolpaaW.PrintWords Go.Proofs.YtdnhjkldhdolpaaW.PrintLast Go.Proofs.YtdnhjkldhdolpaaW.PrintMore
attribute [local go_sem] max2_int min2_int max_two min_two max_three min_three max_four min_four   -- for this text's walks alone
set_option linter.unusedVariables false
set_option linter.unusedSimpArgs false

/-! ### formelaw25_RowEqual: function 7 -/
mutual
def formelaw25_RowEqual.l0 : Nat → Bool → Int → Int → Int → Int → Int → List Int → List Int → Int → Int → Option (Bool)
 | 0, _, _, _, _, _, _, _, _, _, _ => none
 | k + 1, x11, x12, x13, x14, x15, x16, x17, x18, x42, x43 => if x43 < x42 then (if x17.length < 17592186044416 then (if x18.length < 17592186044416 then (formelaw25_RowEqual.l0 k x11 x12 x13 x14 x15 x16 (x17 ++ [x13]) (x18 ++ [x14]) x42 (wrap64 (x43 + 1))) else (none)) else (none)) else ((row_Widths.f k x17 x18 x15 x16).bind fun bt326 => (if bt326.2 = 0 then (formelaw25_RowEqual.j1 k x11 x12 x13 x15 x16 bt326.1 ((bt326.1.length : Int) != x12)) else (formelaw25_RowEqual.j1 k x11 x12 x13 x15 x16 bt326.1 true)))
def formelaw25_RowEqual.j1 : Nat → Bool → Int → Int → Int → Int → List Int → Bool → Option (Bool)
 | 0, _, _, _, _, _, _, _ => none
 | k + 1, x11, x12, x13, x15, x16, x19, x69 => if x69 = true then (some false) else (if 0 < (x19.length : Int) then (formelaw25_RowEqual.l1 k x11 x12 x13 x15 x16 (rd x19 0) (rd x19 0) x19 (x19.length : Int) 0) else (none))
def formelaw25_RowEqual.l1 : Nat → Bool → Int → Int → Int → Int → Int → Int → List Int → Int → Int → Option (Bool)
 | 0, _, _, _, _, _, _, _, _, _, _ => none
 | k + 1, x11, x12, x13, x15, x16, x21, x22, x76, x77, x78 => if x78 < x77 then (if 0 ≤ x78 then (if x78 < (x76.length : Int) then (formelaw25_RowEqual.l1 k x11 x12 x13 x15 x16 (mn x21 (rd x76 x78)) (mx x22 (rd x76 x78)) x76 x77 (wrap64 (x78 + 1))) else (none)) else (none)) else (if x11 = true then (if (wrap64 (x22 - x21)) ≤ 1 then (if x12 = 0 then (none) else (if ((mx 0 (wrap64 ((wrap64 (x15 - (wrap64 (x12 * x13)))) - (wrap64 ((wrap64 (x12 - 1)) * x16))))) % x12) = 0 then (some (x22 == x21)) else (some true))) else (some false)) else (some false))
end
def formelaw25_RowEqual.f (k : Nat) (a0 : Int) (a1 : Int) (a2 : Int) (a3 : Int) (a4 : Int) : Option (Bool) := (formelaw25_head.f k).bind fun t319 => (if t319 = true then (formelaw25_RowEqual.l0 k true (wrap64 (1 + (Int.tmod (wrap64 (a0)) 64))) (wrap64 (Int.tmod a1 1000001)) (Int.tmod (wrap64 (a2)) 1001) (wrap64 (Int.tmod a3 1000001)) (wrap64 (a4)) ([] : List Int) ([] : List Int) (wrap64 (1 + (Int.tmod (wrap64 (a0)) 64))) 0) else (none))
theorem formelaw25_RowEqual.mono_l : ∀ k, (∀ y0 y1 y2 y3 y4 y5 y6 y7 y8 y9, LeO (formelaw25_RowEqual.l0 k y0 y1 y2 y3 y4 y5 y6 y7 y8 y9) (formelaw25_RowEqual.l0 (k + 1) y0 y1 y2 y3 y4 y5 y6 y7 y8 y9)) ∧ (∀ y0 y1 y2 y3 y4 y5 y6, LeO (formelaw25_RowEqual.j1 k y0 y1 y2 y3 y4 y5 y6) (formelaw25_RowEqual.j1 (k + 1) y0 y1 y2 y3 y4 y5 y6)) ∧ (∀ y0 y1 y2 y3 y4 y5 y6 y7 y8 y9, LeO (formelaw25_RowEqual.l1 k y0 y1 y2 y3 y4 y5 y6 y7 y8 y9) (formelaw25_RowEqual.l1 (k + 1) y0 y1 y2 y3 y4 y5 y6 y7 y8 y9))
 | 0 => ⟨fun _ _ _ _ _ _ _ _ _ _ r h => by simp [formelaw25_RowEqual.l0] at h, fun _ _ _ _ _ _ _ r h => by simp [formelaw25_RowEqual.j1] at h, fun _ _ _ _ _ _ _ _ _ _ r h => by simp [formelaw25_RowEqual.l1] at h⟩
 | k + 1 => by
  obtain ⟨ih0, ih1, ih2⟩ := formelaw25_RowEqual.mono_l k
  refine ⟨?_, ?_, ?_⟩
  ·
   intro y0 y1 y2 y3 y4 y5 y6 y7 y8 y9
   unfold formelaw25_RowEqual.l0
   repeat' first
   | (with_reducible exact ih0 _ _ _ _ _ _ _ _ _ _)
   | (with_reducible exact ih1 _ _ _ _ _ _ _)
   | (with_reducible exact ih2 _ _ _ _ _ _ _ _ _ _)
   | (with_reducible exact formelaw25_head.mono _)
   | (with_reducible exact row_Widths.mono _ _ _ _ _)
   | (with_reducible exact LeO.refl _)
   | (with_reducible exact LeO.none _)
   | (with_reducible refine LeO.ite ?_ ?_)
   | (with_reducible refine LeO.bind ?_ (fun _ => ?_))
   | exact ih0 _ _ _ _ _ _ _ _ _ _
   | exact ih1 _ _ _ _ _ _ _
   | exact ih2 _ _ _ _ _ _ _ _ _ _
   | exact formelaw25_head.mono _
   | exact row_Widths.mono _ _ _ _ _
   | exact LeO.none _
   | refine LeO.ite ?_ ?_
   | refine LeO.bind ?_ (fun _ => ?_)
  ·
   intro y0 y1 y2 y3 y4 y5 y6
   unfold formelaw25_RowEqual.j1
   repeat' first
   | (with_reducible exact ih0 _ _ _ _ _ _ _ _ _ _)
   | (with_reducible exact ih1 _ _ _ _ _ _ _)
   | (with_reducible exact ih2 _ _ _ _ _ _ _ _ _ _)
   | (with_reducible exact formelaw25_head.mono _)
   | (with_reducible exact row_Widths.mono _ _ _ _ _)
   | (with_reducible exact LeO.refl _)
   | (with_reducible exact LeO.none _)
   | (with_reducible refine LeO.ite ?_ ?_)
   | (with_reducible refine LeO.bind ?_ (fun _ => ?_))
   | exact ih0 _ _ _ _ _ _ _ _ _ _
   | exact ih1 _ _ _ _ _ _ _
   | exact ih2 _ _ _ _ _ _ _ _ _ _
   | exact formelaw25_head.mono _
   | exact row_Widths.mono _ _ _ _ _
   | exact LeO.none _
   | refine LeO.ite ?_ ?_
   | refine LeO.bind ?_ (fun _ => ?_)
  ·
   intro y0 y1 y2 y3 y4 y5 y6 y7 y8 y9
   unfold formelaw25_RowEqual.l1
   repeat' first
   | (with_reducible exact ih0 _ _ _ _ _ _ _ _ _ _)
   | (with_reducible exact ih1 _ _ _ _ _ _ _)
   | (with_reducible exact ih2 _ _ _ _ _ _ _ _ _ _)
   | (with_reducible exact formelaw25_head.mono _)
   | (with_reducible exact row_Widths.mono _ _ _ _ _)
   | (with_reducible exact LeO.refl _)
   | (with_reducible exact LeO.none _)
   | (with_reducible refine LeO.ite ?_ ?_)
   | (with_reducible refine LeO.bind ?_ (fun _ => ?_))
   | exact ih0 _ _ _ _ _ _ _ _ _ _
   | exact ih1 _ _ _ _ _ _ _
   | exact ih2 _ _ _ _ _ _ _ _ _ _
   | exact formelaw25_head.mono _
   | exact row_Widths.mono _ _ _ _ _
   | exact LeO.none _
   | refine LeO.ite ?_ ?_
   | refine LeO.bind ?_ (fun _ => ?_)
theorem formelaw25_RowEqual.mono : ∀ a0 a1 a2 a3 a4 k, LeO (formelaw25_RowEqual.f k a0 a1 a2 a3 a4) (formelaw25_RowEqual.f (k + 1) a0 a1 a2 a3 a4) := by
 intro a0 a1 a2 a3 a4 k
 obtain ⟨ih0, ih1, ih2⟩ := formelaw25_RowEqual.mono_l k
 unfold formelaw25_RowEqual.f
 repeat' first
   | (with_reducible exact ih0 _ _ _ _ _ _ _ _ _ _)
   | (with_reducible exact ih1 _ _ _ _ _ _ _)
   | (with_reducible exact ih2 _ _ _ _ _ _ _ _ _ _)
   | (with_reducible exact formelaw25_head.mono _)
   | (with_reducible exact row_Widths.mono _ _ _ _ _)
   | (with_reducible exact LeO.refl _)
   | (with_reducible exact LeO.none _)
   | (with_reducible refine LeO.ite ?_ ?_)
   | (with_reducible refine LeO.bind ?_ (fun _ => ?_))
   | exact ih0 _ _ _ _ _ _ _ _ _ _
   | exact ih1 _ _ _ _ _ _ _
   | exact ih2 _ _ _ _ _ _ _ _ _ _
   | exact formelaw25_head.mono _
   | exact row_Widths.mono _ _ _ _ _
   | exact LeO.none _
   | refine LeO.ite ?_ ?_
   | refine LeO.bind ?_ (fun _ => ?_)
set_option maxHeartbeats 8000000 in
set_option maxRecDepth 100000 in
theorem formelaw25_RowEqual.calls (k : Nat) (a0 : Int) (a1 : Int) (a2 : Int) (a3 : Int) (a4 : Int) (r : Bool) (w : World) (h : formelaw25_RowEqual.f k a0 a1 a2 a3 a4 = some r) :
  Calls Try.prog 7 #[.int .u8 a0, .int .u32 a1, .int .u16 a2, .int .u32 a3, .int .u16 a4] w fun e w' => e = .returned (.bool r) ∧ Below w.heap.size w w' := by
 have HB := Aside0.mk (Below.refl w.heap.size w)
 have H : ((formelaw25_head.f k).bind fun t319 => (if t319 = true then (formelaw25_RowEqual.l0 k true (wrap64 (1 + (Int.tmod (wrap64 (a0)) 64))) (wrap64 (Int.tmod a1 1000001)) (Int.tmod (wrap64 (a2)) 1001) (wrap64 (Int.tmod a3 1000001)) (wrap64 (a4)) ([] : List Int) ([] : List Int) (wrap64 (1 + (Int.tmod (wrap64 (a0)) 64))) 0) else (none))) = some r := h
 clear h
 replace H := Option.bind_eq_some_iff.mp H
 obtain ⟨t319, A60, H⟩ := H
 replace H : (if t319 = true then (formelaw25_RowEqual.l0 k true (wrap64 (1 + (Int.tmod (wrap64 (a0)) 64))) (wrap64 (Int.tmod a1 1000001)) (Int.tmod (wrap64 (a2)) 1001) (wrap64 (Int.tmod a3 1000001)) (wrap64 (a4)) ([] : List Int) ([] : List Int) (wrap64 (1 + (Int.tmod (wrap64 (a0)) 64))) 0) else (none)) = some r := H
 have A6 := Aside0.mk A60
 clear A60
 by_cases c7 : t319 = true
 ·
  subst c7
  have H1 : (formelaw25_RowEqual.l0 k true (wrap64 (1 + (Int.tmod (wrap64 (a0)) 64))) (wrap64 (Int.tmod a1 1000001)) (Int.tmod (wrap64 (a2)) 1001) (wrap64 (Int.tmod a3 1000001)) (wrap64 (a4)) ([] : List Int) ([] : List Int) (wrap64 (1 + (Int.tmod (wrap64 (a0)) 64))) 0) = some r := by rw [if_pos rfl] at H; exact H
  clear H
  have H := H1
  clear H1
  have H' := Aside0.mk H
  clear H
  go_enter Try.func7, Try.ntmps7
  go_wp2_with (first | (go_at_call 8; (with_reducible refine (formelaw25_head.calls k  true _ A6.out).mono ?_); rintro e w8 ⟨rfl, hb⟩; have n0_ := Aside0.mk (below_step (by repeat (first | (with_reducible first | exact HB.out | apply below_alloc | apply pw_below_drewN | apply below_drew1) | exact HB.out)) hb); clear HB; have HB := n0_; clear n0_; (try clear hb); (try clear hb2); (try clear hk); (try clear hi)))
  repeat (go_quiet (fail); try go_wp2_with (first | (go_at_call 8; (with_reducible refine (formelaw25_head.calls k  true _ A6.out).mono ?_); rintro e w8 ⟨rfl, hb⟩; have n0_ := Aside0.mk (below_step (by repeat (first | (with_reducible first | exact HB.out | apply below_alloc | apply pw_below_drewN | apply below_drew1) | exact HB.out)) hb); clear HB; have HB := n0_; clear n0_; (try clear hb); (try clear hb2); (try clear hk); (try clear hi))))
  go_loopg [17, 18, 43] k (fun kq v17 v18 v43 w' => ∃ (x17_1 : List Int) (x18_1 : List Int) (x43_1 : Int), v43 = .int .i64 x43_1 ∧ Aside0 (formelaw25_RowEqual.l0 kq true (wrap64 (1 + (Int.tmod (wrap64 (a0)) 64))) (wrap64 (Int.tmod a1 1000001)) (Int.tmod (wrap64 (a2)) 1001) (wrap64 (Int.tmod a3 1000001)) (wrap64 (a4)) x17_1 x18_1 (wrap64 (1 + (Int.tmod (wrap64 (a0)) 64))) x43_1 = some r) ∧ Aside0 (kq ≤ k) ∧ Aside0 (Kd.R (Kd.int .i64) 3 w' w.heap.size (fun k_ => some k_ ≠ (v18 : Value).ownBlock) v17 x17_1) ∧ Aside0 (Kd.R (Kd.int .i64) 3 w' w.heap.size (fun k_ => some k_ ≠ (v17 : Value).ownBlock) v18 x18_1) ∧ Aside0 (Below w.heap.size w w'))
  case atStart => exact ⟨(([] : List Int)), (([] : List Int)), (0), (by first | rfl | (simp; done) | (simp [*]; done)), H', ⟨Nat.le_refl _⟩, ⟨by first | exact Kd.R_nil _ _ _ _ _ | exact Kd.N_nil _ _ _ _ _ | exact Kd.V_nil _ _ _ _ _ | exact Kd.Q_nil _ _ _ _ _ | exact Kd.S_nil _ _ _ _ _⟩, ⟨by first | exact Kd.R_nil _ _ _ _ _ | exact Kd.N_nil _ _ _ _ _ | exact Kd.V_nil _ _ _ _ _ | exact Kd.Q_nil _ _ _ _ _ | exact Kd.S_nil _ _ _ _ _⟩, ⟨by repeat (first | (with_reducible first | exact HB.out | apply below_alloc | apply pw_below_drewN | apply below_drew1) | exact HB.out)⟩⟩
  case round =>
   clear H'
   try clear p2
   try clear p6
   try clear c7
   obtain ⟨x17_1, x18_1, x43_1, rfl, HA, HK1, HO_17, HO_18, HB⟩ := hrel
   cases gk with
   | zero => exact absurd HA.out (by simp [formelaw25_RowEqual.l0])
   | succ k1 =>
    have H := HA.out
    clear HA
    simp only [formelaw25_RowEqual.l0] at H
    by_cases c9 : x43_1 < (wrap64 (1 + (Int.tmod (wrap64 (a0)) 64)))
    ·
     rw [if_pos c9] at H
     have c9b0 : decide (x43_1 < (wrap64 (1 + (Int.tmod (wrap64 (a0)) 64)))) = true := decide_eq_true c9
     clear c9
     by_cases c10 : x17_1.length < 17592186044416
     ·
      rw [if_pos c10] at H
      have LMc10 := Aside0.mk c10
      clear c10
      obtain ⟨y320, hy320⟩ : ∃ y_ : List Int, y_ = (x17_1 ++ [(wrap64 (Int.tmod a1 1000001))]) := ⟨_, rfl⟩
      replace H : (if x18_1.length < 17592186044416 then (formelaw25_RowEqual.l0 k1 true (wrap64 (1 + (Int.tmod (wrap64 (a0)) 64))) (wrap64 (Int.tmod a1 1000001)) (Int.tmod (wrap64 (a2)) 1001) (wrap64 (Int.tmod a3 1000001)) (wrap64 (a4)) y320 (x18_1 ++ [(Int.tmod (wrap64 (a2)) 1001)]) (wrap64 (1 + (Int.tmod (wrap64 (a0)) 64))) (wrap64 (x43_1 + 1))) else (none)) = some r := by first | (rw [hy320]; with_reducible exact H) | (have H2_ := (Option.bind_some _ _).symm.trans H; rw [hy320]; with_reducible exact H2_) | (have H2_ := (Option.bind_some _ _).symm.trans H; with_reducible exact H2_) | with_reducible exact H | (rw [hy320]; exact H) | exact H
      have Ny320 := Aside0.mk hy320
      clear hy320
      by_cases c11 : x18_1.length < 17592186044416
      ·
       rw [if_pos c11] at H
       have LMc11 := Aside0.mk c11
       clear c11
       obtain ⟨y323, hy323⟩ : ∃ y_ : List Int, y_ = (x18_1 ++ [(Int.tmod (wrap64 (a2)) 1001)]) := ⟨_, rfl⟩
       replace H : (formelaw25_RowEqual.l0 k1 true (wrap64 (1 + (Int.tmod (wrap64 (a0)) 64))) (wrap64 (Int.tmod a1 1000001)) (Int.tmod (wrap64 (a2)) 1001) (wrap64 (Int.tmod a3 1000001)) (wrap64 (a4)) y320 y323 (wrap64 (1 + (Int.tmod (wrap64 (a0)) 64))) (wrap64 (x43_1 + 1))) = some r := by first | (rw [hy323]; with_reducible exact H) | (have H2_ := (Option.bind_some _ _).symm.trans H; rw [hy323]; with_reducible exact H2_) | (have H2_ := (Option.bind_some _ _).symm.trans H; with_reducible exact H2_) | with_reducible exact H | (rw [hy323]; exact H) | exact H
       have Ny323 := Aside0.mk hy323
       clear hy323
       have H' := Aside0.mk H
       clear H
       go_wp2_with (first | ((with_reducible refine gate_builtin (b := .append) (xs := #[.tmp 45, .tmp 47]) rfl ?_); (try (refine gate_guard (by rfl) ?_; dsimp only)); at_builtin; refine Kd.R_append (Kd.int .i64) (w0 := w) w.heap.size rfl (.tmp 45) (.tmp 47) 22 3 (.int .i64 0) 8 rfl Try.underlying22 info3 rfl (by decide) (by omega) u17 x17_1 (wrap64 (Int.tmod a1 1000001)) [.int .i64 (wrap64 (Int.tmod a1 1000001))] (fun k_ => some k_ ≠ (u18 : Value).ownBlock) (fun _ => False) rfl rfl ?aP (fun _ hk => hk.elim) ?aF ?aO ?aB ?aS ?aL ?_; (case aP => exact rfl); (case aB => exact (by repeat (first | (with_reducible first | exact HB.out | apply below_alloc | apply pw_below_drewN | apply below_drew1) | exact HB.out))); (case aF => exact (fun k_ hk => Kd.fresh' (Kd.R_lt (by (with_reducible repeat (first | apply Kd.R_alloc | apply Kd.R_drewN | apply Kd.R_drew)); exact HO_18.out)) k_ hk)); (case aO => exact (by (with_reducible repeat (first | apply Kd.R_alloc | apply Kd.R_drewN | apply Kd.R_drew)); exact HO_17.out)); (case aS => exact (below_size (by repeat (first | (with_reducible first | exact HB.out | apply below_alloc | apply pw_below_drewN | apply below_drew1) | exact HB.out)))); (case aL => have := LMc10.out; omega); intro v321 w12 ho hb hg hat; rw [← Ny320.out] at ho; have n0_ := Aside0.mk (Kd.R_after (ok := (fun _ => True)) (by (with_reducible repeat (first | apply Kd.R_alloc | apply Kd.R_drewN | apply Kd.R_drew)); exact Kd.R_mono HO_18.out (fun _ hk => ⟨trivial, hk⟩)) hg hat); have n1_ := Aside0.mk (hb); have n2_ := Aside0.mk (ho); clear HO_18; clear HB; clear HO_17; have HO_18 := n0_; have HB := n1_; have HO322 := n2_; clear n0_ n1_ n2_; clear ho hb hg hat) | ((with_reducible refine gate_builtin (b := .append) (xs := #[.tmp 49, .tmp 51]) rfl ?_); (try (refine gate_guard (by rfl) ?_; dsimp only)); at_builtin; refine Kd.R_append (Kd.int .i64) (w0 := w) w.heap.size rfl (.tmp 49) (.tmp 51) 22 3 (.int .i64 0) 8 rfl Try.underlying22 info3 rfl (by decide) (by omega) u18 x18_1 (Int.tmod (wrap64 (a2)) 1001) [.int .i64 (Int.tmod (wrap64 (a2)) 1001)] (fun k_ => some k_ ≠ (v321 : Value).ownBlock) (fun _ => False) rfl rfl ?aP (fun _ hk => hk.elim) ?aF ?aO ?aB ?aS ?aL ?_; (case aP => exact rfl); (case aB => exact (by repeat (first | (with_reducible first | exact HB.out | apply below_alloc | apply pw_below_drewN | apply below_drew1) | exact HB.out))); (case aF => exact (fun k_ hk => Kd.fresh' (Kd.R_lt (by (with_reducible repeat (first | apply Kd.R_alloc | apply Kd.R_drewN | apply Kd.R_drew)); exact HO322.out)) k_ hk)); (case aO => exact (by (with_reducible repeat (first | apply Kd.R_alloc | apply Kd.R_drewN | apply Kd.R_drew)); exact Kd.R_mono HO_18.out (fun _ hk => hk.2))); (case aS => exact (below_size (by repeat (first | (with_reducible first | exact HB.out | apply below_alloc | apply pw_below_drewN | apply below_drew1) | exact HB.out)))); (case aL => have := LMc11.out; omega); intro v324 w13 ho hb hg hat; rw [← Ny323.out] at ho; have n0_ := Aside0.mk (Kd.R_after (ok := (fun _ => True)) (by (with_reducible repeat (first | apply Kd.R_alloc | apply Kd.R_drewN | apply Kd.R_drew)); exact Kd.R_mono HO322.out (fun _ hk => ⟨trivial, hk⟩)) hg hat); have n1_ := Aside0.mk (hb); have n2_ := Aside0.mk (ho); clear HO322; clear HB; clear HO_18; have HO322 := n0_; have HB := n1_; have HO325 := n2_; clear n0_ n1_ n2_; clear ho hb hg hat))
       repeat (go_quiet (fail); try go_wp2_with (first | ((with_reducible refine gate_builtin (b := .append) (xs := #[.tmp 45, .tmp 47]) rfl ?_); (try (refine gate_guard (by rfl) ?_; dsimp only)); at_builtin; refine Kd.R_append (Kd.int .i64) (w0 := w) w.heap.size rfl (.tmp 45) (.tmp 47) 22 3 (.int .i64 0) 8 rfl Try.underlying22 info3 rfl (by decide) (by omega) u17 x17_1 (wrap64 (Int.tmod a1 1000001)) [.int .i64 (wrap64 (Int.tmod a1 1000001))] (fun k_ => some k_ ≠ (u18 : Value).ownBlock) (fun _ => False) rfl rfl ?aP (fun _ hk => hk.elim) ?aF ?aO ?aB ?aS ?aL ?_; (case aP => exact rfl); (case aB => exact (by repeat (first | (with_reducible first | exact HB.out | apply below_alloc | apply pw_below_drewN | apply below_drew1) | exact HB.out))); (case aF => exact (fun k_ hk => Kd.fresh' (Kd.R_lt (by (with_reducible repeat (first | apply Kd.R_alloc | apply Kd.R_drewN | apply Kd.R_drew)); exact HO_18.out)) k_ hk)); (case aO => exact (by (with_reducible repeat (first | apply Kd.R_alloc | apply Kd.R_drewN | apply Kd.R_drew)); exact HO_17.out)); (case aS => exact (below_size (by repeat (first | (with_reducible first | exact HB.out | apply below_alloc | apply pw_below_drewN | apply below_drew1) | exact HB.out)))); (case aL => have := LMc10.out; omega); intro v321 w12 ho hb hg hat; rw [← Ny320.out] at ho; have n0_ := Aside0.mk (Kd.R_after (ok := (fun _ => True)) (by (with_reducible repeat (first | apply Kd.R_alloc | apply Kd.R_drewN | apply Kd.R_drew)); exact Kd.R_mono HO_18.out (fun _ hk => ⟨trivial, hk⟩)) hg hat); have n1_ := Aside0.mk (hb); have n2_ := Aside0.mk (ho); clear HO_18; clear HB; clear HO_17; have HO_18 := n0_; have HB := n1_; have HO322 := n2_; clear n0_ n1_ n2_; clear ho hb hg hat) | ((with_reducible refine gate_builtin (b := .append) (xs := #[.tmp 49, .tmp 51]) rfl ?_); (try (refine gate_guard (by rfl) ?_; dsimp only)); at_builtin; refine Kd.R_append (Kd.int .i64) (w0 := w) w.heap.size rfl (.tmp 49) (.tmp 51) 22 3 (.int .i64 0) 8 rfl Try.underlying22 info3 rfl (by decide) (by omega) u18 x18_1 (Int.tmod (wrap64 (a2)) 1001) [.int .i64 (Int.tmod (wrap64 (a2)) 1001)] (fun k_ => some k_ ≠ (v321 : Value).ownBlock) (fun _ => False) rfl rfl ?aP (fun _ hk => hk.elim) ?aF ?aO ?aB ?aS ?aL ?_; (case aP => exact rfl); (case aB => exact (by repeat (first | (with_reducible first | exact HB.out | apply below_alloc | apply pw_below_drewN | apply below_drew1) | exact HB.out))); (case aF => exact (fun k_ hk => Kd.fresh' (Kd.R_lt (by (with_reducible repeat (first | apply Kd.R_alloc | apply Kd.R_drewN | apply Kd.R_drew)); exact HO322.out)) k_ hk)); (case aO => exact (by (with_reducible repeat (first | apply Kd.R_alloc | apply Kd.R_drewN | apply Kd.R_drew)); exact Kd.R_mono HO_18.out (fun _ hk => hk.2))); (case aS => exact (below_size (by repeat (first | (with_reducible first | exact HB.out | apply below_alloc | apply pw_below_drewN | apply below_drew1) | exact HB.out)))); (case aL => have := LMc11.out; omega); intro v324 w13 ho hb hg hat; rw [← Ny323.out] at ho; have n0_ := Aside0.mk (Kd.R_after (ok := (fun _ => True)) (by (with_reducible repeat (first | apply Kd.R_alloc | apply Kd.R_drewN | apply Kd.R_drew)); exact Kd.R_mono HO322.out (fun _ hk => ⟨trivial, hk⟩)) hg hat); have n1_ := Aside0.mk (hb); have n2_ := Aside0.mk (ho); clear HO322; clear HB; clear HO_18; have HO322 := n0_; have HB := n1_; have HO325 := n2_; clear n0_ n1_ n2_; clear ho hb hg hat)))
       go_roundg k1
       case measure => have := HK1.out; omega
       case rel => exact ⟨(y320), (y323), (wrap64 (x43_1 + 1)), (by first | rfl | (simp; done) | (simp [*]; done)), H', ⟨by have := HK1.out; omega⟩, ⟨by (with_reducible repeat (first | apply Kd.R_alloc | apply Kd.R_drewN | apply Kd.R_drew)); exact Kd.R_mono HO322.out (fun _ hk => hk.2)⟩, ⟨by (with_reducible repeat (first | apply Kd.R_alloc | apply Kd.R_drewN | apply Kd.R_drew)); exact HO325.out⟩, ⟨by repeat (first | (with_reducible first | exact HB.out | apply below_alloc | apply pw_below_drewN | apply below_drew1) | exact HB.out)⟩⟩
      ·
       rw [if_neg c11] at H
       exact absurd H (by simp)
     ·
      rw [if_neg c10] at H
      exact absurd H (by simp)
    ·
     rw [if_neg c9] at H
     have c9b0 : decide (x43_1 < (wrap64 (1 + (Int.tmod (wrap64 (a0)) 64)))) = false := decide_eq_false c9
     clear c9
     replace H := Option.bind_eq_some_iff.mp H
     obtain ⟨⟨t326, t327⟩, A140, H⟩ := H
     replace H : (if t327 = 0 then (formelaw25_RowEqual.j1 k1 true (wrap64 (1 + (Int.tmod (wrap64 (a0)) 64))) (wrap64 (Int.tmod a1 1000001)) (wrap64 (Int.tmod a3 1000001)) (wrap64 (a4)) t326 ((t326.length : Int) != (wrap64 (1 + (Int.tmod (wrap64 (a0)) 64))))) else (formelaw25_RowEqual.j1 k1 true (wrap64 (1 + (Int.tmod (wrap64 (a0)) 64))) (wrap64 (Int.tmod a1 1000001)) (wrap64 (Int.tmod a3 1000001)) (wrap64 (a4)) t326 true)) = some r := H
     have A14 := Aside0.mk A140
     clear A140
     have HC15 := Aside0.mk H
     clear H
     obtain ⟨Ao16, co16, eo16⟩ := Kd.R_slice HO_17.out
     subst eo16
     obtain ⟨Ao17, co17, eo17⟩ := Kd.R_slice HO_18.out
     subst eo17
     go_upto_region 11 with (first | (go_at_call 10; (with_reducible refine (row_Widths.calls k1 _ _ x17_1 _ _ x18_1 (wrap64 (Int.tmod a3 1000001)) (wrap64 (a4)) t326 t327 _ ?side1 ?side2 ?side3 ?side4 A14.out).mono ?_); (case side1 => repeat (first | exact (Kd.R_reads' HO_17.out).2.2 | (with_reducible refine Kd.C_alloc ?_ _) | (with_reducible refine Kd.C_drewN ?_ _) | (with_reducible refine Kd.C_drew ?_))); (case side2 => exact (Kd.R_reads' HO_17.out).2.1); (case side3 => repeat (first | exact (Kd.R_reads' HO_18.out).2.2 | (with_reducible refine Kd.C_alloc ?_ _) | (with_reducible refine Kd.C_drewN ?_ _) | (with_reducible refine Kd.C_drew ?_))); (case side4 => exact (Kd.R_reads' HO_18.out).2.1); rintro e w18 ⟨v328, rfl, ho0, hb⟩; have n0_ := Aside0.mk (Kd.R_elder' (by (with_reducible repeat (first | apply Kd.R_alloc | apply Kd.R_drewN | apply Kd.R_drew)); exact HO_17.out) (Kd.R_base ho0) hb); have n1_ := Aside0.mk (Kd.R_elder' (by (with_reducible repeat (first | apply Kd.R_alloc | apply Kd.R_drewN | apply Kd.R_drew)); exact HO_18.out) (Kd.R_base ho0) hb); have n2_ := Aside0.mk (Kd.R_lower (Kd.R_new' (Kd.R_new' ho0 (Kd.R_lt (by (with_reducible repeat (first | apply Kd.R_alloc | apply Kd.R_drewN | apply Kd.R_drew)); exact HO_17.out))) (Kd.R_lt (by (with_reducible repeat (first | apply Kd.R_alloc | apply Kd.R_drewN | apply Kd.R_drew)); exact HO_18.out))) (below_size (by repeat (first | (with_reducible first | exact HB.out | apply below_alloc | apply pw_below_drewN | apply below_drew1) | exact HB.out)))); have n3_ := Aside0.mk (below_step (by repeat (first | (with_reducible first | exact HB.out | apply below_alloc | apply pw_below_drewN | apply below_drew1) | exact HB.out)) hb); clear HO_17; clear HO_18; clear HB; have HO_17 := n0_; have HO_18 := n1_; have HO329 := n2_; have HB := n3_; clear n0_ n1_ n2_ n3_; (try clear hb); (try clear hb2); (try clear hk); (try clear hi); (try clear ho0)))
     repeat (go_quiet (fail); go_upto_region 11 with (first | (go_at_call 10; (with_reducible refine (row_Widths.calls k1 _ _ x17_1 _ _ x18_1 (wrap64 (Int.tmod a3 1000001)) (wrap64 (a4)) t326 t327 _ ?side1 ?side2 ?side3 ?side4 A14.out).mono ?_); (case side1 => repeat (first | exact (Kd.R_reads' HO_17.out).2.2 | (with_reducible refine Kd.C_alloc ?_ _) | (with_reducible refine Kd.C_drewN ?_ _) | (with_reducible refine Kd.C_drew ?_))); (case side2 => exact (Kd.R_reads' HO_17.out).2.1); (case side3 => repeat (first | exact (Kd.R_reads' HO_18.out).2.2 | (with_reducible refine Kd.C_alloc ?_ _) | (with_reducible refine Kd.C_drewN ?_ _) | (with_reducible refine Kd.C_drew ?_))); (case side4 => exact (Kd.R_reads' HO_18.out).2.1); rintro e w18 ⟨v328, rfl, ho0, hb⟩; have n0_ := Aside0.mk (Kd.R_elder' (by (with_reducible repeat (first | apply Kd.R_alloc | apply Kd.R_drewN | apply Kd.R_drew)); exact HO_17.out) (Kd.R_base ho0) hb); have n1_ := Aside0.mk (Kd.R_elder' (by (with_reducible repeat (first | apply Kd.R_alloc | apply Kd.R_drewN | apply Kd.R_drew)); exact HO_18.out) (Kd.R_base ho0) hb); have n2_ := Aside0.mk (Kd.R_lower (Kd.R_new' (Kd.R_new' ho0 (Kd.R_lt (by (with_reducible repeat (first | apply Kd.R_alloc | apply Kd.R_drewN | apply Kd.R_drew)); exact HO_17.out))) (Kd.R_lt (by (with_reducible repeat (first | apply Kd.R_alloc | apply Kd.R_drewN | apply Kd.R_drew)); exact HO_18.out))) (below_size (by repeat (first | (with_reducible first | exact HB.out | apply below_alloc | apply pw_below_drewN | apply below_drew1) | exact HB.out)))); have n3_ := Aside0.mk (below_step (by repeat (first | (with_reducible first | exact HB.out | apply below_alloc | apply pw_below_drewN | apply below_drew1) | exact HB.out)) hb); clear HO_17; clear HO_18; clear HB; have HO_17 := n0_; have HO_18 := n1_; have HO329 := n2_; have HB := n3_; clear n0_ n1_ n2_ n3_; (try clear hb); (try clear hb2); (try clear hk); (try clear hi); (try clear ho0))))
     (try simp only [Act.put, List.setIfInBounds_toArray, List.set_cons_zero, List.set_cons_succ])
     go_cut [69] (fun v69 wc => ∃ (kq : Nat) (x69_14 : Bool), v69 = .bool x69_14 ∧ Aside0 (formelaw25_RowEqual.j1 kq true (wrap64 (1 + (Int.tmod (wrap64 (a0)) 64))) (wrap64 (Int.tmod a1 1000001)) (wrap64 (Int.tmod a3 1000001)) (wrap64 (a4)) t326 x69_14 = some r) ∧ Aside0 (kq ≤ k1) ∧ Aside0 (Kd.R (Kd.int .i64) 3 wc w.heap.size (fun _ => True) v328 t326) ∧ Aside0 (Below w.heap.size w wc))
     case first =>
      have H := HC15.out
      clear HC15
      by_cases c19 : t327 = 0
      ·
       rw [if_pos c19] at H
       have c19b0 : (t327 == 0) = true := beq_iff_eq.mpr c19
       have c19b1 : (t327 != 0) = false := bne_eq_false_iff_eq.mpr c19
       clear c19
       (first | rw [c19b0] | (simp only [i64_w, i32_w]; rw [c19b0]) | skip)
       have H' := Aside0.mk H
       clear H
       obtain ⟨Ao20, co20, eo20⟩ := Kd.R_slice HO329.out
       subst eo20
       go_wp2
       repeat (go_quiet (fail); try go_wp2)
       go_meet
       case rel => exact ⟨_, (((t326.length : Int) != (wrap64 (1 + (Int.tmod (wrap64 (a0)) 64))))), (by first | rfl | (simp; done) | (simp [*]; done)), H', ⟨by have := HK1.out; first | omega | exact Nat.le_refl _⟩, ⟨by (with_reducible repeat (first | apply Kd.R_alloc | apply Kd.R_drewN | apply Kd.R_drew)); exact Kd.R_mono HO329.out (fun _ hk => trivial)⟩, ⟨by repeat (first | (with_reducible first | exact HB.out | apply below_alloc | apply pw_below_drewN | apply below_drew1) | exact HB.out)⟩⟩
      ·
       rw [if_neg c19] at H
       have c19b0 : (t327 == 0) = false := beq_eq_false_iff_ne.mpr c19
       have c19b1 : (t327 != 0) = true := bne_iff_ne.mpr c19
       (first | rw [c19b0] | (simp only [i64_w, i32_w]; rw [c19b0]) | skip)
       have H' := Aside0.mk H
       clear H
       go_wp2
       repeat (go_quiet (fail); try go_wp2)
       go_meet
       case rel => exact ⟨_, (true), (by first | rfl | (simp; done) | (simp [*]; done)), H', ⟨by have := HK1.out; first | omega | exact Nat.le_refl _⟩, ⟨by (with_reducible repeat (first | apply Kd.R_alloc | apply Kd.R_drewN | apply Kd.R_drew)); exact Kd.R_mono HO329.out (fun _ hk => trivial)⟩, ⟨by repeat (first | (with_reducible first | exact HB.out | apply below_alloc | apply pw_below_drewN | apply below_drew1) | exact HB.out)⟩⟩
     case rest =>
      clear HC15
      try clear c1
      try clear p2
      try clear p6
      try clear c7
      try clear c9
      try clear c9b0
      try clear c10
      try clear c11
      try clear c19
      try clear c19b0
      try clear c19b1
      try clear p2
      try clear p6
      obtain ⟨kq, x69_14, rfl, HA, HJ14, HO_19, HB⟩ := hcut
      cases kq with
      | zero => exact absurd HA.out (by simp [formelaw25_RowEqual.j1])
      | succ kj14 =>
       have H := HA.out
       clear HA
       simp only [formelaw25_RowEqual.j1] at H
       by_cases c21 : x69_14 = true
       ·
        subst c21
        have H1 : (some false) = some r := by rw [if_pos rfl] at H; exact H
        clear H
        have H := H1
        clear H1
        obtain rfl := Option.some.inj H
        go_wp2
        repeat (go_quiet (fail); try go_wp2)
        go_ret
        exact ⟨by first | rfl | (simp [errW_none, errW_some] <;> rfl) | (simp [*, errW_none, errW_some] <;> rfl), by repeat (first | (with_reducible first | exact HB.out | apply below_alloc | apply pw_below_drewN | apply below_drew1) | exact HB.out)⟩
       ·
        replace c21 := Bool.eq_false_iff.mpr c21
        subst c21
        have H1 : (if 0 < (t326.length : Int) then (formelaw25_RowEqual.l1 kj14 true (wrap64 (1 + (Int.tmod (wrap64 (a0)) 64))) (wrap64 (Int.tmod a1 1000001)) (wrap64 (Int.tmod a3 1000001)) (wrap64 (a4)) (rd t326 0) (rd t326 0) t326 (t326.length : Int) 0) else (none)) = some r := by rw [if_neg (show ¬ (false = true) by decide)] at H; exact H
        clear H
        have H := H1
        clear H1
        by_cases c22 : 0 < (t326.length : Int)
        ·
         rw [if_pos c22] at H
         have c22b0 : decide (0 < (t326.length : Int)) = true := decide_eq_true c22
         have c22b1 : decide (0 < t326.length) = true := decide_eq_true (by omega)
         clear c22
         have H' := Aside0.mk H
         clear H
         obtain ⟨Ao23, co23, eo23⟩ := Kd.R_slice HO_19.out
         subst eo23
         have p330 : 0 ≤ (0 : Int) := (by omega)
         have q330 : 0 < (t326.length : Int) := of_decide_eq_true (by first | (with_reducible assumption) | assumption)
         obtain ⟨ad330, e330, hx330_0⟩ := Kd.at_int (Kd.R_reads' HO_19.out).2.2 0 p330 q330
         cases e330
         have qi330 : (0 < t326.length) = True := eq_true (by omega)
         (try rw [show ((0 : Int)).toNat = 0 from rfl] at hx330_0)
         (try rw [Addr.add_zero'] at hx330_0)
         replace p330 := eq_true p330
         replace q330 := eq_true q330
         have p331 : 0 ≤ (0 : Int) := (by omega)
         have q331 : 0 < (t326.length : Int) := of_decide_eq_true (by first | (with_reducible assumption) | assumption)
         obtain ⟨ad331, e331, hx331_0⟩ := Kd.at_int (Kd.R_reads' HO_19.out).2.2 0 p331 q331
         obtain rfl : ad330 = ad331 := (by injection e331)
         have qi331 : (0 < t326.length) = True := eq_true (by omega)
         (try rw [show ((0 : Int)).toNat = 0 from rfl] at hx331_0)
         (try rw [Addr.add_zero'] at hx331_0)
         replace p331 := eq_true p331
         replace q331 := eq_true q331
         go_wp2
         repeat (go_quiet (fail); try go_wp2)
         go_loopg [21, 22, 78] kj14 (fun kq v21 v22 v78 w' => ∃ (x21_3 : Int) (x22_3 : Int) (x78_3 : Int), v21 = .int .i64 x21_3 ∧ v22 = .int .i64 x22_3 ∧ v78 = .int .i64 x78_3 ∧ Aside0 (formelaw25_RowEqual.l1 kq true (wrap64 (1 + (Int.tmod (wrap64 (a0)) 64))) (wrap64 (Int.tmod a1 1000001)) (wrap64 (Int.tmod a3 1000001)) (wrap64 (a4)) x21_3 x22_3 t326 (t326.length : Int) x78_3 = some r) ∧ Aside0 (kq ≤ kj14) ∧ Aside0 (Kd.R (Kd.int .i64) 3 w' w.heap.size (fun _ => True) (.slice (some ad330) t326.length co23) t326) ∧ Aside0 (Below w.heap.size w w'))
         case atStart => exact ⟨(rd t326 0), (rd t326 0), (0), (by first | rfl | (simp; done) | (simp [*]; done)), (by first | rfl | (simp; done) | (simp [*]; done)), (by first | rfl | (simp; done) | (simp [*]; done)), H', ⟨Nat.le_refl _⟩, ⟨by (with_reducible repeat (first | apply Kd.R_alloc | apply Kd.R_drewN | apply Kd.R_drew)); exact HO_19.out⟩, ⟨by repeat (first | (with_reducible first | exact HB.out | apply below_alloc | apply pw_below_drewN | apply below_drew1) | exact HB.out)⟩⟩
         case round =>
          clear H'
          try clear c1
          try clear c2
          try clear p2
          try clear p3
          try clear q3
          try clear hx3
          try clear qi3
          try clear p6
          try clear c7
          try clear c9
          try clear c9b0
          try clear c10
          try clear c11
          try clear c19
          try clear c19b0
          try clear c19b1
          try clear c21
          try clear c22
          try clear c22b0
          try clear c22b1
          try clear hx330_0
          try clear hx331_0
          try clear p2
          try clear p330
          try clear p331
          try clear p6
          try clear q330
          try clear q331
          obtain ⟨x21_3, x22_3, x78_3, rfl, rfl, rfl, HA, HK3, HO_76, HB⟩ := hrel
          cases gk with
          | zero => exact absurd HA.out (by simp [formelaw25_RowEqual.l1])
          | succ k3 =>
           have H := HA.out
           clear HA
           simp only [formelaw25_RowEqual.l1] at H
           by_cases c24 : x78_3 < (t326.length : Int)
           ·
            rw [if_pos c24] at H
            have c24b0 : decide (x78_3 < (t326.length : Int)) = true := decide_eq_true c24
            clear c24
            by_cases c25 : 0 ≤ x78_3
            ·
             rw [if_pos c25] at H
             have c25b0 : decide (0 ≤ x78_3) = true := decide_eq_true c25
             clear c25
             by_cases c26 : x78_3 < (t326.length : Int)
             ·
              rw [if_pos c26] at H
              have c26b0 : decide (x78_3 < (t326.length : Int)) = true := decide_eq_true c26
              clear c26
              obtain ⟨ji27, hji27⟩ : ∃ j_ : Int, (mn x21_3 (rd t326 x78_3)) = j_ := ⟨_, rfl⟩
              replace H : (formelaw25_RowEqual.l1 k3 true (wrap64 (1 + (Int.tmod (wrap64 (a0)) 64))) (wrap64 (Int.tmod a1 1000001)) (wrap64 (Int.tmod a3 1000001)) (wrap64 (a4)) ji27 (mx x22_3 (rd t326 x78_3)) t326 (t326.length : Int) (wrap64 (x78_3 + 1))) = some r := by first | (rw [hji27] at H; exact H) | (simp only [hji27] at H ⊢; exact H)
              have hji27_ : (if (rd t326 x78_3) < x21_3 then (rd t326 x78_3) else x21_3) = ji27 := hji27
              obtain ⟨ji28, hji28⟩ : ∃ j_ : Int, (mx x22_3 (rd t326 x78_3)) = j_ := ⟨_, rfl⟩
              replace H : (formelaw25_RowEqual.l1 k3 true (wrap64 (1 + (Int.tmod (wrap64 (a0)) 64))) (wrap64 (Int.tmod a1 1000001)) (wrap64 (Int.tmod a3 1000001)) (wrap64 (a4)) ji27 ji28 t326 (t326.length : Int) (wrap64 (x78_3 + 1))) = some r := by first | (rw [hji28] at H; exact H) | (simp only [hji28] at H ⊢; exact H)
              have hji28_ : (if x22_3 < (rd t326 x78_3) then (rd t326 x78_3) else x22_3) = ji28 := hji28
              have H' := Aside0.mk H
              clear H
              have p332 : 0 ≤ (x78_3 : Int) := of_decide_eq_true (by first | (with_reducible assumption) | assumption)
              have q332 : x78_3 < (t326.length : Int) := of_decide_eq_true (by first | (with_reducible assumption) | assumption)
              obtain ⟨ad332, e332, hx332_0⟩ := Kd.at_int (Kd.R_reads' HO_76.out).2.2 x78_3 p332 q332
              obtain rfl : ad330 = ad332 := (by injection e332)
              replace p332 := eq_true p332
              replace q332 := eq_true q332
              go_wp2
              repeat (go_quiet (fail); try go_wp2)
              go_roundg k3
              case measure => have := HK1.out; have := HJ14.out; have := HK3.out; omega
              case rel => exact ⟨(ji27), (ji28), (wrap64 (x78_3 + 1)), (by first | rfl | (simp; done) | (simp only [← hji27] <;> (first | rfl | simp)) | (simp [*]; done)), (by first | rfl | (simp; done) | (simp only [← hji28] <;> (first | rfl | simp)) | (simp [*]; done)), (by first | rfl | (simp; done) | (simp [*]; done)), H', ⟨by have := HK1.out; have := HJ14.out; have := HK3.out; omega⟩, ⟨by (with_reducible repeat (first | apply Kd.R_alloc | apply Kd.R_drewN | apply Kd.R_drew)); exact HO_76.out⟩, ⟨by repeat (first | (with_reducible first | exact HB.out | apply below_alloc | apply pw_below_drewN | apply below_drew1) | exact HB.out)⟩⟩
             ·
              rw [if_neg c26] at H
              exact absurd H (by simp)
            ·
             rw [if_neg c25] at H
             exact absurd H (by simp)
           ·
            rw [if_neg c24] at H
            have c24b0 : decide (x78_3 < (t326.length : Int)) = false := decide_eq_false c24
            clear c24
            obtain ⟨ji29, hji29⟩ : ∃ j_ : Int, (mx 0 (wrap64 ((wrap64 ((wrap64 (Int.tmod a3 1000001)) - (wrap64 ((wrap64 (1 + (Int.tmod (wrap64 (a0)) 64))) * (wrap64 (Int.tmod a1 1000001)))))) - (wrap64 ((wrap64 ((wrap64 (1 + (Int.tmod (wrap64 (a0)) 64))) - 1)) * (wrap64 (a4))))))) = j_ := ⟨_, rfl⟩
            replace H : (if true = true then (if (wrap64 (x22_3 - x21_3)) ≤ 1 then (if (wrap64 (1 + (Int.tmod (wrap64 (a0)) 64))) = 0 then (none) else (if ((ji29) % (wrap64 (1 + (Int.tmod (wrap64 (a0)) 64)))) = 0 then (some (x22_3 == x21_3)) else (some true))) else (some false)) else (some false)) = some r := by first | (rw [hji29] at H; exact H) | (simp only [hji29] at H ⊢; exact H)
            have hji29_ : (if 0 < (wrap64 ((wrap64 ((wrap64 (Int.tmod a3 1000001)) - (wrap64 ((wrap64 (1 + (Int.tmod (wrap64 (a0)) 64))) * (wrap64 (Int.tmod a1 1000001)))))) - (wrap64 ((wrap64 ((wrap64 (1 + (Int.tmod (wrap64 (a0)) 64))) - 1)) * (wrap64 (a4)))))) then (wrap64 ((wrap64 ((wrap64 (Int.tmod a3 1000001)) - (wrap64 ((wrap64 (1 + (Int.tmod (wrap64 (a0)) 64))) * (wrap64 (Int.tmod a1 1000001)))))) - (wrap64 ((wrap64 ((wrap64 (1 + (Int.tmod (wrap64 (a0)) 64))) - 1)) * (wrap64 (a4)))))) else 0) = ji29 := hji29
            (first | rw [if_pos (rfl : true = true)] at H | rw [if_pos True.intro] at H)
            by_cases c30 : (wrap64 (x22_3 - x21_3)) ≤ 1
            ·
             rw [if_pos c30] at H
             have c30b0 : decide ((wrap64 (x22_3 - x21_3)) ≤ 1) = true := decide_eq_true c30
             clear c30
             by_cases c31 : (wrap64 (1 + (Int.tmod (wrap64 (a0)) 64))) = 0
             ·
              rw [if_pos c31] at H
              exact absurd H (by simp)
             ·
              rw [if_neg c31] at H
              have c31b0 : ((wrap64 (1 + (Int.tmod (wrap64 (a0)) 64))) == 0) = false := beq_eq_false_iff_ne.mpr c31
              have c31b1 : ((wrap64 (1 + (Int.tmod (wrap64 (a0)) 64))) != 0) = true := bne_iff_ne.mpr c31
              by_cases c32 : ((ji29) % (wrap64 (1 + (Int.tmod (wrap64 (a0)) 64)))) = 0
              ·
               rw [if_pos c32] at H
               have c32b0 : (((ji29) % (wrap64 (1 + (Int.tmod (wrap64 (a0)) 64)))) == 0) = true := beq_iff_eq.mpr c32
               have c32b1 : (((ji29) % (wrap64 (1 + (Int.tmod (wrap64 (a0)) 64)))) != 0) = false := bne_eq_false_iff_eq.mpr c32
               clear c32
               obtain rfl := Option.some.inj H
               go_wp2
               repeat (go_quiet (fail); try go_wp2)
               go_ret
               exact ⟨by first | rfl | (simp [errW_none, errW_some] <;> rfl) | (simp only [← hji29]; first | rfl | (simp [errW_none, errW_some] <;> rfl)) | (simp [*, errW_none, errW_some] <;> rfl), by repeat (first | (with_reducible first | exact HB.out | apply below_alloc | apply pw_below_drewN | apply below_drew1) | exact HB.out)⟩
              ·
               rw [if_neg c32] at H
               have c32b0 : (((ji29) % (wrap64 (1 + (Int.tmod (wrap64 (a0)) 64)))) == 0) = false := beq_eq_false_iff_ne.mpr c32
               have c32b1 : (((ji29) % (wrap64 (1 + (Int.tmod (wrap64 (a0)) 64)))) != 0) = true := bne_iff_ne.mpr c32
               obtain rfl := Option.some.inj H
               go_wp2
               repeat (go_quiet (fail); try go_wp2)
               go_ret
               exact ⟨by first | rfl | (simp [errW_none, errW_some] <;> rfl) | (simp only [← hji29]; first | rfl | (simp [errW_none, errW_some] <;> rfl)) | (simp [*, errW_none, errW_some] <;> rfl), by repeat (first | (with_reducible first | exact HB.out | apply below_alloc | apply pw_below_drewN | apply below_drew1) | exact HB.out)⟩
            ·
             rw [if_neg c30] at H
             have c30b0 : decide ((wrap64 (x22_3 - x21_3)) ≤ 1) = false := decide_eq_false c30
             clear c30
             obtain rfl := Option.some.inj H
             go_wp2
             repeat (go_quiet (fail); try go_wp2)
             go_ret
             exact ⟨by first | rfl | (simp [errW_none, errW_some] <;> rfl) | (simp only [← hji29]; first | rfl | (simp [errW_none, errW_some] <;> rfl)) | (simp [*, errW_none, errW_some] <;> rfl), by repeat (first | (with_reducible first | exact HB.out | apply below_alloc | apply pw_below_drewN | apply below_drew1) | exact HB.out)⟩
        ·
         rw [if_neg c22] at H
         exact absurd H (by simp)
 ·
  replace c7 := Bool.eq_false_iff.mpr c7
  subst c7
  have H1 : (none) = some r := by rw [if_neg (show ¬ (false = true) by decide)] at H; exact H
  clear H
  have H := H1
  clear H1
  exact absurd H (by simp)

/-- THE ONE PURE STATEMENT of formelaw25_RowEqual: yours. -/
def formelaw25_RowEqual.Pure : Prop := ∀ (a0 : Int) (a1 : Int) (a2 : Int) (a3 : Int) (a4 : Int), (Lit.int .u8 a0).wf = true → (Lit.int .u32 a1).wf = true → (Lit.int .u16 a2).wf = true → (Lit.int .u32 a3).wf = true → (Lit.int .u16 a4).wf = true → ∃ k, formelaw25_RowEqual.f k a0 a1 a2 a3 a4 = some true
theorem formelaw25_RowEqual.walk (P : formelaw25_RowEqual.Pure) (a0 : Int) (a1 : Int) (a2 : Int) (a3 : Int) (a4 : Int) (w : World) (w0 : (Lit.int .u8 a0).wf = true) (w1 : (Lit.int .u32 a1).wf = true) (w2 : (Lit.int .u16 a2).wf = true) (w3 : (Lit.int .u32 a3).wf = true) (w4 : (Lit.int .u16 a4).wf = true) :
  Calls Try.prog 7 #[.int .u8 a0, .int .u32 a1, .int .u16 a2, .int .u32 a3, .int .u16 a4] w fun e w' => e = .returned (.bool true) ∧ Below w.heap.size w w' := by
 obtain ⟨k, h⟩ := P a0 a1 a2 a3 a4 w0 w1 w2 w3 w4
 refine (formelaw25_RowEqual.calls k a0 a1 a2 a3 a4 true w h).mono ?_
 rintro e w' ⟨rfl, hd⟩
 exact ⟨rfl, hd⟩

end Go.Proofs.Ytdnhjkldhdolpaa.P
