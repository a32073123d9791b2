-- Laid by a program of this session (wip/fam.sh) over the kit's words: Lean checks it.
import Derived.Test.YtbllpiboodlepaaPx0
import Derived.Test.YtbllpiboodlepaaPx1
import Derived.Test.YtbllpiboodlepaaPx6
import Derived.Test.YtbllpiboodlepaaPx7
import Derived.Test.YtbllpiboodlepaaHWhere
namespace Go.Proofs.Ytbllpiboodlepaa.P
open Go.RowKit Go.Proofs.YtbllpiboodlepaaW.PrintWords Go.Proofs.YtbllpiboodlepaaW.PrintLast Go.Proofs.YtbllpiboodlepaaW.PrintMore
attribute [local go_sem] max2_int min2_int max_two min_two max_three min_three max_four min_four   -- for this text's walks alone
set_option linter.unusedVariables false
set_option linter.unusedSimpArgs false

attribute [local go_sem high] eqA29
/-! ### formelaw42_ImposeWhere: function 8 -/
mutual
def formelaw42_ImposeWhere.j0 : Nat → Int → Int → Bool → List (S29) → Bool → Bool → Option (Bool)
  | 0, _, _, _, _, _, _ => none
  | k + 1, x0, x1, x5, x6, x8, x27 => if x27 = true then (if x5 = true then (some x8) else (some false)) else ((impose_Where.f x0 x1).bind fun bt353 => (if x1 < 1 then (formelaw42_ImposeWhere.j1 k x1 x5 x6 bt353.2.2.2.2.1 bt353.2.2.2.2.2 true bt353.1 bt353.2.1 bt353.2.2.1 bt353.2.2.2.1) else (formelaw42_ImposeWhere.j1 k x1 x5 x6 bt353.2.2.2.2.1 bt353.2.2.2.2.2 (decide (x1 > x0)) bt353.1 bt353.2.1 bt353.2.2.1 bt353.2.2.2.1)))
def formelaw42_ImposeWhere.j1 : Nat → Int → Bool → List (S29) → Bool → Int → Bool → Int → Bool → Int → Int → Option (Bool)
  | 0, _, _, _, _, _, _, _, _, _, _ => none
  | k + 1, x1, x5, x6, x10, x11, x45, x360000, x360001, x360002, x360003 => if x45 = true then (if x5 = true then (if x11 = 4 then (if (x360000 == 0 && (!x360001 && (x360002 == 0 && (x360003 == 0)))) = true then (some (!x10)) else (some false)) else (some false)) else (some false)) else (formelaw42_ImposeWhere.l0 k x1 x5 x10 x11 false x6 (x6.length : Int) 0 x360000 x360001 x360002 x360003)
def formelaw42_ImposeWhere.l0 : Nat → Int → Bool → Bool → Int → Bool → List (S29) → Int → Int → Int → Bool → Int → Int → Option (Bool)
  | 0, _, _, _, _, _, _, _, _, _, _, _, _ => none
  | k + 1, x1, x5, x10, x11, x12, x60, x61, x62, x360000, x360001, x360002, x360003 => if x62 < x61 then (if 0 ≤ x62 then (if x62 < (x60.length : Int) then (if x12 = true then (formelaw42_ImposeWhere.l0 k x1 x5 x10 x11 true x60 x61 (wrap64 (x62 + 1)) x360000 x360001 x360002 x360003) else (formelaw42_ImposeWhere.l0 k x1 x5 x10 x11 (((rd_T29 x60 x62).f0) == x360000 && (((rd_T29 x60 x62).f1) == x360001 && (((rd_T29 x60 x62).f2) == x360002 && (((rd_T29 x60 x62).f3) == x360003)))) x60 x61 (wrap64 (x62 + 1)) x360000 x360001 x360002 x360003)) else (none)) else (none)) else (if x5 = true then (if x11 = 0 then (if x12 = true then (if x10 = true then (if x360003 = x1 then (some true) else (some false)) else (some (x360002 == x1))) else (some false)) else (some false)) else (some false))
end
def formelaw42_ImposeWhere.f (k : Nat) (a0 : Int) (a1 : Int) : Option (Bool) := (formelaw42_head.f k).bind fun t347 => (if t347 = true then ((formelaw42_faces.f a0).bind fun bt348 => (if bt348.2.1 = true then (formelaw42_ImposeWhere.j0 k a0 a1 true bt348.1 bt348.2.2 (!bt348.2.2)) else (formelaw42_ImposeWhere.j0 k a0 a1 true bt348.1 bt348.2.2 true))) else (none))
theorem formelaw42_ImposeWhere.mono_l : ∀ k, (∀ y0 y1 y2 y3 y4 y5, LeO (formelaw42_ImposeWhere.j0 k y0 y1 y2 y3 y4 y5) (formelaw42_ImposeWhere.j0 (k + 1) y0 y1 y2 y3 y4 y5)) ∧ (∀ y0 y1 y2 y3 y4 y5 y6 y7 y8 y9, LeO (formelaw42_ImposeWhere.j1 k y0 y1 y2 y3 y4 y5 y6 y7 y8 y9) (formelaw42_ImposeWhere.j1 (k + 1) y0 y1 y2 y3 y4 y5 y6 y7 y8 y9)) ∧ (∀ y0 y1 y2 y3 y4 y5 y6 y7 y8 y9 y10 y11, LeO (formelaw42_ImposeWhere.l0 k y0 y1 y2 y3 y4 y5 y6 y7 y8 y9 y10 y11) (formelaw42_ImposeWhere.l0 (k + 1) y0 y1 y2 y3 y4 y5 y6 y7 y8 y9 y10 y11))
  | 0 => ⟨fun _ _ _ _ _ _ r h => by simp [formelaw42_ImposeWhere.j0] at h, fun _ _ _ _ _ _ _ _ _ _ r h => by simp [formelaw42_ImposeWhere.j1] at h, fun _ _ _ _ _ _ _ _ _ _ _ _ r h => by simp [formelaw42_ImposeWhere.l0] at h⟩
  | k + 1 => by
    obtain ⟨ih0, ih1, ih2⟩ := formelaw42_ImposeWhere.mono_l k
    refine ⟨?_, ?_, ?_⟩
    · intro y0 y1 y2 y3 y4 y5
      unfold formelaw42_ImposeWhere.j0
      repeat' first
      | (with_reducible exact ih0 _ _ _ _ _ _)
      | (with_reducible exact ih1 _ _ _ _ _ _ _ _ _ _)
      | (with_reducible exact ih2 _ _ _ _ _ _ _ _ _ _ _ _)
      | (with_reducible exact formelaw42_head.mono _)
      | (with_reducible exact LeO.refl _)
      | (with_reducible exact LeO.none _)
      | (with_reducible refine LeO.ite ?_ ?_)
      | (with_reducible refine LeO.bind ?_ (fun _ => ?_))
      | exact ih0 _ _ _ _ _ _
      | exact ih1 _ _ _ _ _ _ _ _ _ _
      | exact ih2 _ _ _ _ _ _ _ _ _ _ _ _
      | exact formelaw42_head.mono _
      | exact LeO.none _
      | refine LeO.ite ?_ ?_
      | refine LeO.bind ?_ (fun _ => ?_)
    · intro y0 y1 y2 y3 y4 y5 y6 y7 y8 y9
      unfold formelaw42_ImposeWhere.j1
      repeat' first
      | (with_reducible exact ih0 _ _ _ _ _ _)
      | (with_reducible exact ih1 _ _ _ _ _ _ _ _ _ _)
      | (with_reducible exact ih2 _ _ _ _ _ _ _ _ _ _ _ _)
      | (with_reducible exact formelaw42_head.mono _)
      | (with_reducible exact LeO.refl _)
      | (with_reducible exact LeO.none _)
      | (with_reducible refine LeO.ite ?_ ?_)
      | (with_reducible refine LeO.bind ?_ (fun _ => ?_))
      | exact ih0 _ _ _ _ _ _
      | exact ih1 _ _ _ _ _ _ _ _ _ _
      | exact ih2 _ _ _ _ _ _ _ _ _ _ _ _
      | exact formelaw42_head.mono _
      | exact LeO.none _
      | refine LeO.ite ?_ ?_
      | refine LeO.bind ?_ (fun _ => ?_)
    · intro y0 y1 y2 y3 y4 y5 y6 y7 y8 y9 y10 y11
      unfold formelaw42_ImposeWhere.l0
      repeat' first
      | (with_reducible exact ih0 _ _ _ _ _ _)
      | (with_reducible exact ih1 _ _ _ _ _ _ _ _ _ _)
      | (with_reducible exact ih2 _ _ _ _ _ _ _ _ _ _ _ _)
      | (with_reducible exact formelaw42_head.mono _)
      | (with_reducible exact LeO.refl _)
      | (with_reducible exact LeO.none _)
      | (with_reducible refine LeO.ite ?_ ?_)
      | (with_reducible refine LeO.bind ?_ (fun _ => ?_))
      | exact ih0 _ _ _ _ _ _
      | exact ih1 _ _ _ _ _ _ _ _ _ _
      | exact ih2 _ _ _ _ _ _ _ _ _ _ _ _
      | exact formelaw42_head.mono _
      | exact LeO.none _
      | refine LeO.ite ?_ ?_
      | refine LeO.bind ?_ (fun _ => ?_)
theorem formelaw42_ImposeWhere.mono : ∀ a0 a1 k, LeO (formelaw42_ImposeWhere.f k a0 a1) (formelaw42_ImposeWhere.f (k + 1) a0 a1) := by
  intro a0 a1 k
  obtain ⟨ih0, ih1, ih2⟩ := formelaw42_ImposeWhere.mono_l k
  unfold formelaw42_ImposeWhere.f
  repeat' first
      | (with_reducible exact ih0 _ _ _ _ _ _)
      | (with_reducible exact ih1 _ _ _ _ _ _ _ _ _ _)
      | (with_reducible exact ih2 _ _ _ _ _ _ _ _ _ _ _ _)
      | (with_reducible exact formelaw42_head.mono _)
      | (with_reducible exact LeO.refl _)
      | (with_reducible exact LeO.none _)
      | (with_reducible refine LeO.ite ?_ ?_)
      | (with_reducible refine LeO.bind ?_ (fun _ => ?_))
      | exact ih0 _ _ _ _ _ _
      | exact ih1 _ _ _ _ _ _ _ _ _ _
      | exact ih2 _ _ _ _ _ _ _ _ _ _ _ _
      | exact formelaw42_head.mono _
      | exact LeO.none _
      | refine LeO.ite ?_ ?_
      | refine LeO.bind ?_ (fun _ => ?_)
set_option maxHeartbeats 8000000 in
set_option maxRecDepth 100000 in
theorem formelaw42_ImposeWhere.calls (k : Nat) (a0 : Int) (a1 : Int) (r : Bool) (w : World) (h : formelaw42_ImposeWhere.f k a0 a1 = some r) :
    Calls Try.prog 8 #[.int .i64 a0, .int .i64 a1] w fun e w' => e = .returned (.bool r) ∧ Below w.heap.size w w' := by
  have hu29 := Try.underlying29
  have HB := Aside0.mk (Below.refl w.heap.size w)
  have H : ((formelaw42_head.f k).bind fun t347 => (if t347 = true then ((formelaw42_faces.f a0).bind fun bt348 => (if bt348.2.1 = true then (formelaw42_ImposeWhere.j0 k a0 a1 true bt348.1 bt348.2.2 (!bt348.2.2)) else (formelaw42_ImposeWhere.j0 k a0 a1 true bt348.1 bt348.2.2 true))) else (none))) = some r := h
  clear h
  replace H := Option.bind_eq_some_iff.mp H
  obtain ⟨t347, A30, H⟩ := H
  replace H : (if t347 = true then ((formelaw42_faces.f a0).bind fun bt348 => (if bt348.2.1 = true then (formelaw42_ImposeWhere.j0 k a0 a1 true bt348.1 bt348.2.2 (!bt348.2.2)) else (formelaw42_ImposeWhere.j0 k a0 a1 true bt348.1 bt348.2.2 true))) else (none)) = some r := H
  have A3 := Aside0.mk A30
  clear A30
  by_cases c4 : t347 = true
  · subst c4
    have H1 : ((formelaw42_faces.f a0).bind fun bt348 => (if bt348.2.1 = true then (formelaw42_ImposeWhere.j0 k a0 a1 true bt348.1 bt348.2.2 (!bt348.2.2)) else (formelaw42_ImposeWhere.j0 k a0 a1 true bt348.1 bt348.2.2 true))) = some r := by rw [if_pos rfl] at H; exact H
    clear H
    have H := H1
    clear H1
    replace H := Option.bind_eq_some_iff.mp H
    obtain ⟨⟨t348, t349, t350⟩, A50, H⟩ := H
    replace H : (if t349 = true then (formelaw42_ImposeWhere.j0 k a0 a1 true t348 t350 (!t350)) else (formelaw42_ImposeWhere.j0 k a0 a1 true t348 t350 true)) = some r := H
    have A5 := Aside0.mk A50
    clear A50
    have HC6 := Aside0.mk H
    clear H
    go_enter Try.func8, Try.ntmps8
    go_upto_region 3 with (first | ((with_reducible refine gate_callee (f := 10) rfl ?_); refine goesL_ (some 15) rfl rfl Try.func10 (by kernel_rfl) rfl #[] rfl (by (try simp only [List.map_toArray, List.map_cons, List.map_nil]); first | done | rfl | (simp only [List.length_drop, List.length_take]; rfl)) ?_; (with_reducible refine (formelaw42_head.calls k  true _ A3.out).mono ?_); rintro e w7 ⟨rfl, hb⟩; refine ⟨_, rfl, ?_⟩; have n0_ := Aside0.mk (below_step (by repeat (first | (with_reducible first | exact HB.out | apply below_alloc | apply pw_below_drewN | apply below_drew1) | exact HB.out)) hb); clear HB; have HB := n0_; clear n0_; (try clear hb); (try clear hb2); (try clear hk); (try clear hi)) | ((with_reducible refine gate_callee (f := 19) rfl ?_); refine goesL_ (some 18) rfl rfl Try.func19 (by kernel_rfl) rfl #[.int .i64 a0] rfl (by (try simp only [List.map_toArray, List.map_cons, List.map_nil]); first | done | rfl | (simp only [List.length_drop, List.length_take]; rfl)) ?_; (with_reducible refine (formelaw42_faces.calls a0 t348 t349 t350 _ A5.out).mono ?_); rintro e w8 ⟨v351, rfl, ho0, hb⟩; refine ⟨_, rfl, ?_⟩; have n0_ := Aside0.mk (Kd.R_lower ho0 (below_size (by repeat (first | (with_reducible first | exact HB.out | apply below_alloc | apply pw_below_drewN | apply below_drew1) | exact HB.out)))); have n1_ := Aside0.mk (below_step (by repeat (first | (with_reducible first | exact HB.out | apply below_alloc | apply pw_below_drewN | apply below_drew1) | exact HB.out)) hb); clear HB; have HO352 := n0_; have HB := n1_; clear n0_ n1_; (try clear hb); (try clear hb2); (try clear hk); (try clear hi); (try clear ho0)))
    (try simp only [Act.put, List.setIfInBounds_toArray, List.set_cons_zero, List.set_cons_succ])
    go_cut [27] (fun v27 wc => ∃ (kq : Nat) (x27_5 : Bool), v27 = .bool x27_5 ∧ Aside0 (formelaw42_ImposeWhere.j0 kq a0 a1 true t348 t350 x27_5 = some r) ∧ Aside0 (kq ≤ k) ∧ Aside0 (Kd.R k29 29 wc w.heap.size (fun _ => True) v351 t348) ∧ Aside0 (Below w.heap.size w wc))
    case first =>
      have H := HC6.out
      clear HC6
      by_cases c9 : t349 = true
      · subst c9
        have H1 : (formelaw42_ImposeWhere.j0 k a0 a1 true t348 t350 (!t350)) = some r := by rw [if_pos rfl] at H; exact H
        clear H
        have H := H1
        clear H1
        have H' := Aside0.mk H
        clear H
        go_wp2
        go_meet
        case rel => exact ⟨_, (!t350), (by first | rfl | (simp; done) | (simp [*]; done)), H', ⟨by first | omega | exact Nat.le_refl _⟩, ⟨by (with_reducible repeat (first | apply Kd.R_alloc | apply Kd.R_drewN | apply Kd.R_drew)); exact HO352.out⟩, ⟨by repeat (first | (with_reducible first | exact HB.out | apply below_alloc | apply pw_below_drewN | apply below_drew1) | exact HB.out)⟩⟩
      · replace c9 := Bool.eq_false_iff.mpr c9
        subst c9
        have H1 : (formelaw42_ImposeWhere.j0 k a0 a1 true t348 t350 true) = some r := by rw [if_neg (show ¬ (false = true) by decide)] at H; exact H
        clear H
        have H := H1
        clear H1
        have H' := Aside0.mk H
        clear H
        go_wp2
        go_meet
        case rel => exact ⟨_, (true), (by first | rfl | (simp; done) | (simp [*]; done)), H', ⟨by first | omega | exact Nat.le_refl _⟩, ⟨by (with_reducible repeat (first | apply Kd.R_alloc | apply Kd.R_drewN | apply Kd.R_drew)); exact HO352.out⟩, ⟨by repeat (first | (with_reducible first | exact HB.out | apply below_alloc | apply pw_below_drewN | apply below_drew1) | exact HB.out)⟩⟩
    case rest =>
      clear HC6
      try clear c1
      try clear p2
      try clear c4
      try clear c8
      try clear c9
      obtain ⟨kq, x27_5, rfl, HA, HJ5, HO_6, HB⟩ := hcut
      cases kq with
      | zero => exact absurd HA.out (by simp [formelaw42_ImposeWhere.j0])
      | succ kj5 =>
        have H := HA.out
        clear HA
        simp only [formelaw42_ImposeWhere.j0] at H
        by_cases c10 : x27_5 = true
        · subst c10
          have H1 : (if true = true then (some t350) else (some false)) = some r := by rw [if_pos rfl] at H; exact H
          clear H
          have H := H1
          clear H1
          (first | rw [if_pos (rfl : true = true)] at H | rw [if_pos True.intro] at H)
          obtain rfl := Option.some.inj H
          go_wp2
          go_ret
          exact ⟨by first | rfl | (simp [errW_none, errW_some] <;> rfl) | (simp [*, errW_none, errW_some] <;> rfl), by repeat (first | (with_reducible first | exact HB.out | apply below_alloc | apply pw_below_drewN | apply below_drew1) | exact HB.out)⟩
        · replace c10 := Bool.eq_false_iff.mpr c10
          subst c10
          have H1 : ((impose_Where.f a0 a1).bind fun bt353 => (if a1 < 1 then (formelaw42_ImposeWhere.j1 kj5 a1 true t348 bt353.2.2.2.2.1 bt353.2.2.2.2.2 true bt353.1 bt353.2.1 bt353.2.2.1 bt353.2.2.2.1) else (formelaw42_ImposeWhere.j1 kj5 a1 true t348 bt353.2.2.2.2.1 bt353.2.2.2.2.2 (decide (a1 > a0)) bt353.1 bt353.2.1 bt353.2.2.1 bt353.2.2.2.1))) = some r := by rw [if_neg (show ¬ (false = true) by decide)] at H; exact H
          clear H
          have H := H1
          clear H1
          replace H := Option.bind_eq_some_iff.mp H
          obtain ⟨⟨t353, t354, t355, t356, t357, t358⟩, A110, H⟩ := H
          replace H : (if a1 < 1 then (formelaw42_ImposeWhere.j1 kj5 a1 true t348 t357 t358 true t353 t354 t355 t356) else (formelaw42_ImposeWhere.j1 kj5 a1 true t348 t357 t358 (decide (a1 > a0)) t353 t354 t355 t356)) = some r := H
          have A11 := Aside0.mk A110
          clear A110
          have HC12 := Aside0.mk H
          clear H
          go_upto_region 6 with (first | ((with_reducible refine gate_callee (f := 14) rfl ?_); refine goesL_ (some 35) rfl rfl Try.func14 (by kernel_rfl) rfl #[.int .i64 a0, .int .i64 a1] rfl (by (try simp only [List.map_toArray, List.map_cons, List.map_nil]); first | done | rfl | (simp only [List.length_drop, List.length_take]; rfl)) ?_; (with_reducible refine (impose_Where.calls a0 a1 t353 t354 t355 t356 t357 t358 _ A11.out).mono ?_); rintro e w13 ⟨rfl, hb⟩; refine ⟨_, rfl, ?_⟩; have n0_ := Aside0.mk (Kd.R_below (by (with_reducible repeat (first | apply Kd.R_alloc | apply Kd.R_drewN | apply Kd.R_drew)); exact HO_6.out) hb); have n1_ := Aside0.mk (below_step (by repeat (first | (with_reducible first | exact HB.out | apply below_alloc | apply pw_below_drewN | apply below_drew1) | exact HB.out)) hb); clear HO_6; clear HB; have HO_6 := n0_; have HB := n1_; clear n0_ n1_; (try clear hb); (try clear hb2); (try clear hk); (try clear hi)) | ((with_reducible refine gate_dst (N := 9) rfl ?_); refine box_event ?hg (N := 9) ?hd (cs := #[.int .i64 0, .bool false, .int .i64 0, .int .i64 0]) (t := 29) ?hr ?_; (case hd => rfl); (case hg => rfl); (case hr => first | (go_simp; done) | (go_simp; rfl)); intro gb359 hg w14 hbox hb; have n0_ := Aside0.mk (Kd.R_below (Kd.R_elderB (by (with_reducible repeat (first | apply Kd.R_alloc | apply Kd.R_drewN | apply Kd.R_drew)); exact HO_6.out) gb359 (Nat.le_of_eq hg.symm)) hb); have n1_ := Aside0.mk (below_step (by repeat (first | (with_reducible first | exact HB.out | apply below_alloc | apply pw_below_drewN | apply below_drew1) | exact HB.out)) hb); have n2_ := Aside0.mk (hbox); have n3_ := Aside0.mk ((by rw [hg]; exact (below_size (by repeat (first | (with_reducible first | exact HB.out | apply below_alloc | apply pw_below_drewN | apply below_drew1) | exact HB.out))) : w.heap.size ≤ gb359)); have n4_ := Aside0.mk ((by rw [hg]; exact (below_size (by repeat (first | (with_reducible first | exact HB.out | apply below_alloc | apply pw_below_drewN | apply below_drew1) | exact HB.out))) : w.heap.size ≤ gb359)); clear HO_6; clear HB; have HO_6 := n0_; have HB := n1_; have BK359 := n2_; have GW359 := n3_; have GE359 := n4_; clear n0_ n1_ n2_ n3_ n4_; clear hb hbox hg; have hcz15_0 : w14.cell? ⟨gb359, 0, none⟩ = some (.int .i64 0) := (blk_cell BK359.out 0).trans rfl; have hcz15_1 : w14.cell? ⟨gb359, 1, none⟩ = some (.bool false) := (blk_cell BK359.out 1).trans rfl; have hcz15_2 : w14.cell? ⟨gb359, 2, none⟩ = some (.int .i64 0) := (blk_cell BK359.out 2).trans rfl; have hcz15_3 : w14.cell? ⟨gb359, 3, none⟩ = some (.int .i64 0) := (blk_cell BK359.out 3).trans rfl; have hfz15_0 := blk_frozen BK359.out 0; have hfz15_1 := blk_frozen BK359.out 1; have hfz15_2 := blk_frozen BK359.out 2; have hfz15_3 := blk_frozen BK359.out 3))
          (try simp only [Act.put, List.setIfInBounds_toArray, List.set_cons_zero, List.set_cons_succ])
          go_cut [45] (fun v45 wc => ∃ (kq : Nat) (x45_11 : Bool), v45 = .bool x45_11 ∧ Aside0 (formelaw42_ImposeWhere.j1 kq a1 true t348 t357 t358 x45_11 t353 t354 t355 t356 = some r) ∧ Aside0 (kq ≤ kj5) ∧ Aside0 (Kd.R k29 29 wc w.heap.size (fun k_ => k_ ≠ gb359) v351 t348) ∧ Aside0 (wc.heap[gb359]? = some (.cells #[.int .i64 t353, .bool t354, .int .i64 t355, .int .i64 t356] 29 (0, 0))) ∧ Aside0 (Below w.heap.size w wc))
          case first =>
            have H := HC12.out
            clear HC12
            by_cases c16 : a1 < 1
            · rw [if_pos c16] at H
              have c16b0 : decide (a1 < 1) = true := decide_eq_true c16
              clear c16
              (first | rw [c16b0] | (simp only [i64_w, i32_w]; rw [c16b0]) | skip)
              have H' := Aside0.mk H
              clear H
              go_wp2
              go_meet
              case rel => exact ⟨_, (true), (by first | rfl | (simp; done) | (simp [*]; done)), H', ⟨by have := HJ5.out; first | omega | exact Nat.le_refl _⟩, ⟨by (with_reducible repeat (first | apply Kd.R_alloc | apply Kd.R_drewN | apply Kd.R_drew)); exact Kd.R_mono (Kd.R_far (p := ⟨gb359, 3, none⟩) (Kd.R_far (p := ⟨gb359, 2, none⟩) (Kd.R_far (p := ⟨gb359, 1, none⟩) (Kd.R_far (p := ⟨gb359, 0, none⟩) (Kd.R_mono HO_6.out (fun k_ hk => (⟨hk, hk.2⟩ : _ ∧ k_ ≠ gb359))) (fun _ hk => hk.2) (.int .i64 t353)) (fun _ hk => hk.2) (.bool t354)) (fun _ hk => hk.2) (.int .i64 t355)) (fun _ hk => hk.2) (.int .i64 t356)) (fun _ hk => hk.1.2)⟩, ⟨by (with_reducible repeat (first | refine blk_drewN ?_ _ | refine blk_drew ?_ | refine blk_alloc ?_ _)); refine blk_put (cs := #[.int .i64 t353, .bool t354, .int .i64 t355, .int .i64 0]) ?_ 3 _ rfl; (with_reducible repeat (first | refine blk_drewN ?_ _ | refine blk_drew ?_ | refine blk_alloc ?_ _)); refine blk_put (cs := #[.int .i64 t353, .bool t354, .int .i64 0, .int .i64 0]) ?_ 2 _ rfl; (with_reducible repeat (first | refine blk_drewN ?_ _ | refine blk_drew ?_ | refine blk_alloc ?_ _)); refine blk_put (cs := #[.int .i64 t353, .bool false, .int .i64 0, .int .i64 0]) ?_ 1 _ rfl; (with_reducible repeat (first | refine blk_drewN ?_ _ | refine blk_drew ?_ | refine blk_alloc ?_ _)); refine blk_put (cs := #[.int .i64 0, .bool false, .int .i64 0, .int .i64 0]) ?_ 0 _ rfl; (with_reducible repeat (first | refine blk_drewN ?_ _ | refine blk_drew ?_ | refine blk_alloc ?_ _)); exact BK359.out⟩, ⟨by repeat (first | (with_reducible first | exact HB.out | apply below_alloc | apply pw_below_drewN | apply below_drew1 | refine below_set ?_ GE359.out) | exact HB.out)⟩⟩
            · rw [if_neg c16] at H
              have c16b0 : decide (a1 < 1) = false := decide_eq_false c16
              clear c16
              (first | rw [c16b0] | (simp only [i64_w, i32_w]; rw [c16b0]) | skip)
              have H' := Aside0.mk H
              clear H
              go_wp2
              go_meet
              case rel => exact ⟨_, (decide (a1 > a0)), (by first | rfl | (simp; done) | (simp [*]; done)), H', ⟨by have := HJ5.out; first | omega | exact Nat.le_refl _⟩, ⟨by (with_reducible repeat (first | apply Kd.R_alloc | apply Kd.R_drewN | apply Kd.R_drew)); exact Kd.R_mono (Kd.R_far (p := ⟨gb359, 3, none⟩) (Kd.R_far (p := ⟨gb359, 2, none⟩) (Kd.R_far (p := ⟨gb359, 1, none⟩) (Kd.R_far (p := ⟨gb359, 0, none⟩) (Kd.R_mono HO_6.out (fun k_ hk => (⟨hk, hk.2⟩ : _ ∧ k_ ≠ gb359))) (fun _ hk => hk.2) (.int .i64 t353)) (fun _ hk => hk.2) (.bool t354)) (fun _ hk => hk.2) (.int .i64 t355)) (fun _ hk => hk.2) (.int .i64 t356)) (fun _ hk => hk.1.2)⟩, ⟨by (with_reducible repeat (first | refine blk_drewN ?_ _ | refine blk_drew ?_ | refine blk_alloc ?_ _)); refine blk_put (cs := #[.int .i64 t353, .bool t354, .int .i64 t355, .int .i64 0]) ?_ 3 _ rfl; (with_reducible repeat (first | refine blk_drewN ?_ _ | refine blk_drew ?_ | refine blk_alloc ?_ _)); refine blk_put (cs := #[.int .i64 t353, .bool t354, .int .i64 0, .int .i64 0]) ?_ 2 _ rfl; (with_reducible repeat (first | refine blk_drewN ?_ _ | refine blk_drew ?_ | refine blk_alloc ?_ _)); refine blk_put (cs := #[.int .i64 t353, .bool false, .int .i64 0, .int .i64 0]) ?_ 1 _ rfl; (with_reducible repeat (first | refine blk_drewN ?_ _ | refine blk_drew ?_ | refine blk_alloc ?_ _)); refine blk_put (cs := #[.int .i64 0, .bool false, .int .i64 0, .int .i64 0]) ?_ 0 _ rfl; (with_reducible repeat (first | refine blk_drewN ?_ _ | refine blk_drew ?_ | refine blk_alloc ?_ _)); exact BK359.out⟩, ⟨by repeat (first | (with_reducible first | exact HB.out | apply below_alloc | apply pw_below_drewN | apply below_drew1 | refine below_set ?_ GE359.out) | exact HB.out)⟩⟩
          case rest =>
            clear HC12
            try clear c1
            try clear p2
            try clear c4
            try clear c8
            try clear c9
            try clear c10
            try clear c14
            try clear c16
            try clear c16b0
            try clear hcz15_0
            try clear hcz15_1
            try clear hcz15_2
            try clear hcz15_3
            try clear hfz15_0
            try clear hfz15_1
            try clear hfz15_2
            try clear hfz15_3
            try clear p2
            obtain ⟨kq, x45_11, rfl, HA, HJ11, HO_6, BK359, HB⟩ := hcut
            cases kq with
            | zero => exact absurd HA.out (by simp [formelaw42_ImposeWhere.j1])
            | succ kj11 =>
              have H := HA.out
              clear HA
              simp only [formelaw42_ImposeWhere.j1] at H
              by_cases c17 : x45_11 = true
              · subst c17
                have H1 : (if true = true then (if t358 = 4 then (if (t353 == 0 && (!t354 && (t355 == 0 && (t356 == 0)))) = true then (some (!t357)) else (some false)) else (some false)) else (some false)) = some r := by rw [if_pos rfl] at H; exact H
                clear H
                have H := H1
                clear H1
                (first | rw [if_pos (rfl : true = true)] at H | rw [if_pos True.intro] at H)
                by_cases c18 : t358 = 4
                · rw [if_pos c18] at H
                  have c18b0 : (t358 == 4) = true := beq_iff_eq.mpr c18
                  have c18b1 : (t358 != 4) = false := bne_eq_false_iff_eq.mpr c18
                  clear c18
                  by_cases c19 : (t353 == 0 && (!t354 && (t355 == 0 && (t356 == 0)))) = true
                  · rw [if_pos c19] at H
                    have c19b0 : (t353 == 0 && (!t354 && (t355 == 0 && (t356 == 0)))) = true := c19
                    (try (have c19b1 : decide (t353 = 0 && (!t354 && (t355 == 0 && (t356 == 0)))) = true := by simpa using c19))
                    (try (have c19b2 : (t353 == 0 && (!t354 && (t355 == 0 && (t356 == 0)))) = true := by simpa using c19))
                    clear c19
                    obtain rfl := Option.some.inj H
                    have hcz20_0 : wc.cell? ⟨gb359, 0, none⟩ = some (.int .i64 t353) := (blk_cell BK359.out 0).trans rfl
                    have hcz20_1 : wc.cell? ⟨gb359, 1, none⟩ = some (.bool t354) := (blk_cell BK359.out 1).trans rfl
                    have hcz20_2 : wc.cell? ⟨gb359, 2, none⟩ = some (.int .i64 t355) := (blk_cell BK359.out 2).trans rfl
                    have hcz20_3 : wc.cell? ⟨gb359, 3, none⟩ = some (.int .i64 t356) := (blk_cell BK359.out 3).trans rfl
                    have hfz20_0 := blk_frozen BK359.out 0
                    have hfz20_1 := blk_frozen BK359.out 1
                    have hfz20_2 := blk_frozen BK359.out 2
                    have hfz20_3 := blk_frozen BK359.out 3
                    go_wp2
                    go_ret
                    exact ⟨by first | rfl | (simp [errW_none, errW_some] <;> rfl) | (simp [*, errW_none, errW_some] <;> rfl), by repeat (first | (with_reducible first | exact HB.out | apply below_alloc | apply pw_below_drewN | apply below_drew1 | refine below_set ?_ GE359.out) | exact HB.out)⟩
                  · rw [if_neg c19] at H
                    have c19b0 : (t353 == 0 && (!t354 && (t355 == 0 && (t356 == 0)))) = false := by simpa using c19
                    (try (have c19b1 : decide (t353 = 0 && (!t354 && (t355 == 0 && (t356 == 0)))) = false := by simpa using c19))
                    (try (have c19b2 : (t353 == 0 && (!t354 && (t355 == 0 && (t356 == 0)))) = false := by simpa using c19))
                    (try (have c19b3 : ¬ (t353 = 0 && (!t354 && (t355 == 0 && (t356 == 0)))) := by simpa using c19))
                    clear c19
                    obtain rfl := Option.some.inj H
                    have hcz21_0 : wc.cell? ⟨gb359, 0, none⟩ = some (.int .i64 t353) := (blk_cell BK359.out 0).trans rfl
                    have hcz21_1 : wc.cell? ⟨gb359, 1, none⟩ = some (.bool t354) := (blk_cell BK359.out 1).trans rfl
                    have hcz21_2 : wc.cell? ⟨gb359, 2, none⟩ = some (.int .i64 t355) := (blk_cell BK359.out 2).trans rfl
                    have hcz21_3 : wc.cell? ⟨gb359, 3, none⟩ = some (.int .i64 t356) := (blk_cell BK359.out 3).trans rfl
                    have hfz21_0 := blk_frozen BK359.out 0
                    have hfz21_1 := blk_frozen BK359.out 1
                    have hfz21_2 := blk_frozen BK359.out 2
                    have hfz21_3 := blk_frozen BK359.out 3
                    go_wp2
                    go_ret
                    exact ⟨by first | rfl | (simp [errW_none, errW_some] <;> rfl) | (simp [*, errW_none, errW_some] <;> rfl), by repeat (first | (with_reducible first | exact HB.out | apply below_alloc | apply pw_below_drewN | apply below_drew1 | refine below_set ?_ GE359.out) | exact HB.out)⟩
                · rw [if_neg c18] at H
                  have c18b0 : (t358 == 4) = false := beq_eq_false_iff_ne.mpr c18
                  have c18b1 : (t358 != 4) = true := bne_iff_ne.mpr c18
                  obtain rfl := Option.some.inj H
                  go_wp2
                  go_ret
                  exact ⟨by first | rfl | (simp [errW_none, errW_some] <;> rfl) | (simp [*, errW_none, errW_some] <;> rfl), by repeat (first | (with_reducible first | exact HB.out | apply below_alloc | apply pw_below_drewN | apply below_drew1 | refine below_set ?_ GE359.out) | exact HB.out)⟩
              · replace c17 := Bool.eq_false_iff.mpr c17
                subst c17
                have H1 : (formelaw42_ImposeWhere.l0 kj11 a1 true t357 t358 false t348 (t348.length : Int) 0 t353 t354 t355 t356) = some r := by rw [if_neg (show ¬ (false = true) by decide)] at H; exact H
                clear H
                have H := H1
                clear H1
                have H' := Aside0.mk H
                clear H
                obtain ⟨Ao22, co22, eo22⟩ := Kd.R_slice HO_6.out
                subst eo22
                go_wp2
                go_loopg [12, 62] kj11 (fun kq v12 v62 w' => ∃ (x12_3 : Bool) (x62_3 : Int), v12 = .bool x12_3 ∧ v62 = .int .i64 x62_3 ∧ Aside0 (formelaw42_ImposeWhere.l0 kq a1 true t357 t358 x12_3 t348 (t348.length : Int) x62_3 t353 t354 t355 t356 = some r) ∧ Aside0 (kq ≤ kj11) ∧ Aside0 (Kd.R k29 29 w' w.heap.size (fun k_ => k_ ≠ gb359) (.slice Ao22 t348.length co22) t348) ∧ Aside0 (w'.heap[gb359]? = some (.cells #[.int .i64 t353, .bool t354, .int .i64 t355, .int .i64 t356] 29 (0, 0))) ∧ Aside0 (Below w.heap.size w w'))
                case atStart => exact ⟨(false), (0), (by first | rfl | (simp; done) | (simp [*]; done)), (by first | rfl | (simp; done) | (simp [*]; done)), H', ⟨Nat.le_refl _⟩, ⟨by (with_reducible repeat (first | apply Kd.R_alloc | apply Kd.R_drewN | apply Kd.R_drew)); exact HO_6.out⟩, ⟨by (with_reducible repeat (first | refine blk_drewN ?_ _ | refine blk_drew ?_ | refine blk_alloc ?_ _)); exact BK359.out⟩, ⟨by repeat (first | (with_reducible first | exact HB.out | apply below_alloc | apply pw_below_drewN | apply below_drew1 | refine below_set ?_ GE359.out) | exact HB.out)⟩⟩
                case round =>
                  clear H'
                  try clear c1
                  try clear p2
                  try clear c4
                  try clear c8
                  try clear c9
                  try clear c10
                  try clear c14
                  try clear c16
                  try clear c16b0
                  try clear c17
                  try clear c18
                  try clear c18b0
                  try clear c18b1
                  try clear c19
                  try clear c19b0
                  try clear c19b1
                  try clear c19b2
                  try clear hcz15_0
                  try clear hcz15_1
                  try clear hcz15_2
                  try clear hcz15_3
                  try clear hcz20_0
                  try clear hcz20_1
                  try clear hcz20_2
                  try clear hcz20_3
                  try clear hcz21_0
                  try clear hcz21_1
                  try clear hcz21_2
                  try clear hcz21_3
                  try clear hfz15_0
                  try clear hfz15_1
                  try clear hfz15_2
                  try clear hfz15_3
                  try clear hfz20_0
                  try clear hfz20_1
                  try clear hfz20_2
                  try clear hfz20_3
                  try clear hfz21_0
                  try clear hfz21_1
                  try clear hfz21_2
                  try clear hfz21_3
                  try clear p2
                  obtain ⟨x12_3, x62_3, rfl, rfl, HA, HK3, HO_60, BK359, HB⟩ := hrel
                  cases gk with
                  | zero => exact absurd HA.out (by simp [formelaw42_ImposeWhere.l0])
                  | succ k3 =>
                    have H := HA.out
                    clear HA
                    simp only [formelaw42_ImposeWhere.l0] at H
                    by_cases c23 : x62_3 < (t348.length : Int)
                    · rw [if_pos c23] at H
                      have c23b0 : decide (x62_3 < (t348.length : Int)) = true := decide_eq_true c23
                      clear c23
                      by_cases c24 : 0 ≤ x62_3
                      · rw [if_pos c24] at H
                        have c24b0 : decide (0 ≤ x62_3) = true := decide_eq_true c24
                        clear c24
                        by_cases c25 : x62_3 < (t348.length : Int)
                        · rw [if_pos c25] at H
                          have c25b0 : decide (x62_3 < (t348.length : Int)) = true := decide_eq_true c25
                          clear c25
                          by_cases c26 : x12_3 = true
                          · subst c26
                            have H1 : (formelaw42_ImposeWhere.l0 k3 a1 true t357 t358 true t348 (t348.length : Int) (wrap64 (x62_3 + 1)) t353 t354 t355 t356) = some r := by rw [if_pos rfl] at H; exact H
                            clear H
                            have H := H1
                            clear H1
                            have H' := Aside0.mk H
                            clear H
                            have p360 : 0 ≤ (x62_3 : Int) := of_decide_eq_true (by first | (with_reducible assumption) | assumption)
                            have q360 : x62_3 < (t348.length : Int) := of_decide_eq_true (by first | (with_reducible assumption) | assumption)
                            obtain ⟨ad360, e360, hx360_0, hx360_1, hx360_2, hx360_3⟩ := at_T29 (Kd.R_reads' HO_60.out).2.2 x62_3 p360 q360
                            cases e360
                            replace p360 := eq_true p360
                            replace q360 := eq_true q360
                            go_wp2_with (first | ((with_reducible refine gate_dst (N := 14) rfl ?_); refine box_event ?hg (N := 14) ?hd (cs := #[.int .i64 0, .bool false, .int .i64 0, .int .i64 0]) (t := 29) ?hr ?_; (case hd => rfl); (case hg => rfl); (case hr => first | (go_simp; done) | (go_simp; rfl)); intro gb361 hg w27 hbox hb; have n0_ := Aside0.mk (Kd.R_below (Kd.R_elderB (by (with_reducible repeat (first | apply Kd.R_alloc | apply Kd.R_drewN | apply Kd.R_drew)); exact HO_60.out) gb361 (Nat.le_of_eq hg.symm)) hb); have n1_ := Aside0.mk (blk_below (g := gb359) (o := .cells #[.int .i64 t353, .bool t354, .int .i64 t355, .int .i64 t356] 29 (0, 0)) (by (with_reducible repeat (first | refine blk_drewN ?_ _ | refine blk_drew ?_ | refine blk_alloc ?_ _)); exact BK359.out) hb); have n2_ := Aside0.mk (below_step (by repeat (first | (with_reducible first | exact HB.out | apply below_alloc | apply pw_below_drewN | apply below_drew1 | refine below_set ?_ GE359.out) | exact HB.out)) hb); have n3_ := Aside0.mk (hbox); have n4_ := Aside0.mk ((by rw [hg]; exact (below_size (by repeat (first | (with_reducible first | exact HB.out | apply below_alloc | apply pw_below_drewN | apply below_drew1 | refine below_set ?_ GE359.out) | exact HB.out))) : w.heap.size ≤ gb361)); have n5_ := Aside0.mk ((by rw [hg]; exact (below_size (by repeat (first | (with_reducible first | exact HB.out | apply below_alloc | apply pw_below_drewN | apply below_drew1 | refine below_set ?_ GE359.out) | exact HB.out))) : w.heap.size ≤ gb361)); have n6_ := Aside0.mk ((by rw [hg]; exact Nat.ne_of_lt (blk_lt (g := gb359) (o := .cells #[.int .i64 t353, .bool t354, .int .i64 t355, .int .i64 t356] 29 (0, 0)) (by (with_reducible repeat (first | refine blk_drewN ?_ _ | refine blk_drew ?_ | refine blk_alloc ?_ _)); exact BK359.out)) : gb359 ≠ gb361)); have n7_ := Aside0.mk ((by rw [hg]; exact Nat.ne_of_gt (blk_lt (g := gb359) (o := .cells #[.int .i64 t353, .bool t354, .int .i64 t355, .int .i64 t356] 29 (0, 0)) (by (with_reducible repeat (first | refine blk_drewN ?_ _ | refine blk_drew ?_ | refine blk_alloc ?_ _)); exact BK359.out)) : gb361 ≠ gb359)); clear HO_60; clear BK359; clear HB; have HO_60 := n0_; have BK359 := n1_; have HB := n2_; have BK361 := n3_; have GW361 := n4_; have GE361 := n5_; have NB359_361 := n6_; have NB361_359 := n7_; clear n0_ n1_ n2_ n3_ n4_ n5_ n6_ n7_; clear hb hbox hg; have hnb28 := NB361_359.out; have hnc28 := NB359_361.out; have hcz29_0 : w27.cell? ⟨gb361, 0, none⟩ = some (.int .i64 0) := (blk_cell BK361.out 0).trans rfl; have hcz29_1 : w27.cell? ⟨gb361, 1, none⟩ = some (.bool false) := (blk_cell BK361.out 1).trans rfl; have hcz29_2 : w27.cell? ⟨gb361, 2, none⟩ = some (.int .i64 0) := (blk_cell BK361.out 2).trans rfl; have hcz29_3 : w27.cell? ⟨gb361, 3, none⟩ = some (.int .i64 0) := (blk_cell BK361.out 3).trans rfl; have hfz29_0 := blk_frozen BK361.out 0; have hfz29_1 := blk_frozen BK361.out 1; have hfz29_2 := blk_frozen BK361.out 2; have hfz29_3 := blk_frozen BK361.out 3))
                            go_roundg k3
                            case measure => have := HJ5.out; have := HJ11.out; have := HK3.out; omega
                            case rel => exact ⟨(true), (wrap64 (x62_3 + 1)), (by first | rfl | (simp; done) | (simp [*]; done)), (by first | rfl | (simp; done) | (simp [*]; done)), H', ⟨by have := HJ5.out; have := HJ11.out; have := HK3.out; omega⟩, ⟨by (with_reducible repeat (first | apply Kd.R_alloc | apply Kd.R_drewN | apply Kd.R_drew)); exact Kd.R_mono (Kd.R_far (p := ⟨gb361, 3, none⟩) (Kd.R_far (p := ⟨gb361, 2, none⟩) (Kd.R_far (p := ⟨gb361, 1, none⟩) (Kd.R_far (p := ⟨gb361, 0, none⟩) (Kd.R_mono HO_60.out (fun k_ hk => (⟨hk, hk.2⟩ : _ ∧ k_ ≠ gb361))) (fun _ hk => hk.2) (.int .i64 ((rd_T29 t348 x62_3).f0))) (fun _ hk => hk.2) (.bool ((rd_T29 t348 x62_3).f1))) (fun _ hk => hk.2) (.int .i64 ((rd_T29 t348 x62_3).f2))) (fun _ hk => hk.2) (.int .i64 ((rd_T29 t348 x62_3).f3))) (fun _ hk => hk.1.1)⟩, ⟨by (with_reducible repeat (first | refine blk_drewN ?_ _ | refine blk_drew ?_ | refine blk_alloc ?_ _)); refine blk_far ?_ NB359_361.out _; (with_reducible repeat (first | refine blk_drewN ?_ _ | refine blk_drew ?_ | refine blk_alloc ?_ _)); refine blk_far ?_ NB359_361.out _; (with_reducible repeat (first | refine blk_drewN ?_ _ | refine blk_drew ?_ | refine blk_alloc ?_ _)); refine blk_far ?_ NB359_361.out _; (with_reducible repeat (first | refine blk_drewN ?_ _ | refine blk_drew ?_ | refine blk_alloc ?_ _)); refine blk_far ?_ NB359_361.out _; (with_reducible repeat (first | refine blk_drewN ?_ _ | refine blk_drew ?_ | refine blk_alloc ?_ _)); exact BK359.out⟩, ⟨by repeat (first | (with_reducible first | exact HB.out | apply below_alloc | apply pw_below_drewN | apply below_drew1 | refine below_set ?_ GE359.out | refine below_set ?_ GE361.out) | exact HB.out)⟩⟩
                          · replace c26 := Bool.eq_false_iff.mpr c26
                            subst c26
                            have H1 : (formelaw42_ImposeWhere.l0 k3 a1 true t357 t358 (((rd_T29 t348 x62_3).f0) == t353 && (((rd_T29 t348 x62_3).f1) == t354 && (((rd_T29 t348 x62_3).f2) == t355 && (((rd_T29 t348 x62_3).f3) == t356)))) t348 (t348.length : Int) (wrap64 (x62_3 + 1)) t353 t354 t355 t356) = some r := by rw [if_neg (show ¬ (false = true) by decide)] at H; exact H
                            clear H
                            have H := H1
                            clear H1
                            have H' := Aside0.mk H
                            clear H
                            have p360 : 0 ≤ (x62_3 : Int) := of_decide_eq_true (by first | (with_reducible assumption) | assumption)
                            have q360 : x62_3 < (t348.length : Int) := of_decide_eq_true (by first | (with_reducible assumption) | assumption)
                            obtain ⟨ad360, e360, hx360_0, hx360_1, hx360_2, hx360_3⟩ := at_T29 (Kd.R_reads' HO_60.out).2.2 x62_3 p360 q360
                            cases e360
                            replace p360 := eq_true p360
                            replace q360 := eq_true q360
                            go_wp2_with (first | ((with_reducible refine gate_dst (N := 14) rfl ?_); refine box_event ?hg (N := 14) ?hd (cs := #[.int .i64 0, .bool false, .int .i64 0, .int .i64 0]) (t := 29) ?hr ?_; (case hd => rfl); (case hg => rfl); (case hr => first | (go_simp; done) | (go_simp; rfl)); intro gb361 hg w30 hbox hb; have n0_ := Aside0.mk (Kd.R_below (Kd.R_elderB (by (with_reducible repeat (first | apply Kd.R_alloc | apply Kd.R_drewN | apply Kd.R_drew)); exact HO_60.out) gb361 (Nat.le_of_eq hg.symm)) hb); have n1_ := Aside0.mk (blk_below (g := gb359) (o := .cells #[.int .i64 t353, .bool t354, .int .i64 t355, .int .i64 t356] 29 (0, 0)) (by (with_reducible repeat (first | refine blk_drewN ?_ _ | refine blk_drew ?_ | refine blk_alloc ?_ _)); exact BK359.out) hb); have n2_ := Aside0.mk (below_step (by repeat (first | (with_reducible first | exact HB.out | apply below_alloc | apply pw_below_drewN | apply below_drew1 | refine below_set ?_ GE359.out) | exact HB.out)) hb); have n3_ := Aside0.mk (hbox); have n4_ := Aside0.mk ((by rw [hg]; exact (below_size (by repeat (first | (with_reducible first | exact HB.out | apply below_alloc | apply pw_below_drewN | apply below_drew1 | refine below_set ?_ GE359.out) | exact HB.out))) : w.heap.size ≤ gb361)); have n5_ := Aside0.mk ((by rw [hg]; exact (below_size (by repeat (first | (with_reducible first | exact HB.out | apply below_alloc | apply pw_below_drewN | apply below_drew1 | refine below_set ?_ GE359.out) | exact HB.out))) : w.heap.size ≤ gb361)); have n6_ := Aside0.mk ((by rw [hg]; exact Nat.ne_of_lt (blk_lt (g := gb359) (o := .cells #[.int .i64 t353, .bool t354, .int .i64 t355, .int .i64 t356] 29 (0, 0)) (by (with_reducible repeat (first | refine blk_drewN ?_ _ | refine blk_drew ?_ | refine blk_alloc ?_ _)); exact BK359.out)) : gb359 ≠ gb361)); have n7_ := Aside0.mk ((by rw [hg]; exact Nat.ne_of_gt (blk_lt (g := gb359) (o := .cells #[.int .i64 t353, .bool t354, .int .i64 t355, .int .i64 t356] 29 (0, 0)) (by (with_reducible repeat (first | refine blk_drewN ?_ _ | refine blk_drew ?_ | refine blk_alloc ?_ _)); exact BK359.out)) : gb361 ≠ gb359)); clear HO_60; clear BK359; clear HB; have HO_60 := n0_; have BK359 := n1_; have HB := n2_; have BK361 := n3_; have GW361 := n4_; have GE361 := n5_; have NB359_361 := n6_; have NB361_359 := n7_; clear n0_ n1_ n2_ n3_ n4_ n5_ n6_ n7_; clear hb hbox hg; have hnb31 := NB361_359.out; have hnc31 := NB359_361.out; have hcz32_0 : w30.cell? ⟨gb361, 0, none⟩ = some (.int .i64 0) := (blk_cell BK361.out 0).trans rfl; have hcz32_1 : w30.cell? ⟨gb361, 1, none⟩ = some (.bool false) := (blk_cell BK361.out 1).trans rfl; have hcz32_2 : w30.cell? ⟨gb361, 2, none⟩ = some (.int .i64 0) := (blk_cell BK361.out 2).trans rfl; have hcz32_3 : w30.cell? ⟨gb361, 3, none⟩ = some (.int .i64 0) := (blk_cell BK361.out 3).trans rfl; have hfz32_0 := blk_frozen BK361.out 0; have hfz32_1 := blk_frozen BK361.out 1; have hfz32_2 := blk_frozen BK361.out 2; have hfz32_3 := blk_frozen BK361.out 3; have hcz33_0 : w30.cell? ⟨gb359, 0, none⟩ = some (.int .i64 t353) := (blk_cell BK359.out 0).trans rfl; have hcz33_1 : w30.cell? ⟨gb359, 1, none⟩ = some (.bool t354) := (blk_cell BK359.out 1).trans rfl; have hcz33_2 : w30.cell? ⟨gb359, 2, none⟩ = some (.int .i64 t355) := (blk_cell BK359.out 2).trans rfl; have hcz33_3 : w30.cell? ⟨gb359, 3, none⟩ = some (.int .i64 t356) := (blk_cell BK359.out 3).trans rfl; have hfz33_0 := blk_frozen BK359.out 0; have hfz33_1 := blk_frozen BK359.out 1; have hfz33_2 := blk_frozen BK359.out 2; have hfz33_3 := blk_frozen BK359.out 3))
                            go_roundg k3
                            case measure => have := HJ5.out; have := HJ11.out; have := HK3.out; omega
                            case rel => exact ⟨((((rd_T29 t348 x62_3).f0) == t353 && (((rd_T29 t348 x62_3).f1) == t354 && (((rd_T29 t348 x62_3).f2) == t355 && (((rd_T29 t348 x62_3).f3) == t356))))), (wrap64 (x62_3 + 1)), (by first | rfl | (simp; done) | (simp [*]; done)), (by first | rfl | (simp; done) | (simp [*]; done)), H', ⟨by have := HJ5.out; have := HJ11.out; have := HK3.out; omega⟩, ⟨by (with_reducible repeat (first | apply Kd.R_alloc | apply Kd.R_drewN | apply Kd.R_drew)); exact Kd.R_mono (Kd.R_far (p := ⟨gb361, 3, none⟩) (Kd.R_far (p := ⟨gb361, 2, none⟩) (Kd.R_far (p := ⟨gb361, 1, none⟩) (Kd.R_far (p := ⟨gb361, 0, none⟩) (Kd.R_mono HO_60.out (fun k_ hk => (⟨hk, hk.2⟩ : _ ∧ k_ ≠ gb361))) (fun _ hk => hk.2) (.int .i64 ((rd_T29 t348 x62_3).f0))) (fun _ hk => hk.2) (.bool ((rd_T29 t348 x62_3).f1))) (fun _ hk => hk.2) (.int .i64 ((rd_T29 t348 x62_3).f2))) (fun _ hk => hk.2) (.int .i64 ((rd_T29 t348 x62_3).f3))) (fun _ hk => hk.1.1)⟩, ⟨by (with_reducible repeat (first | refine blk_drewN ?_ _ | refine blk_drew ?_ | refine blk_alloc ?_ _)); refine blk_far ?_ NB359_361.out _; (with_reducible repeat (first | refine blk_drewN ?_ _ | refine blk_drew ?_ | refine blk_alloc ?_ _)); refine blk_far ?_ NB359_361.out _; (with_reducible repeat (first | refine blk_drewN ?_ _ | refine blk_drew ?_ | refine blk_alloc ?_ _)); refine blk_far ?_ NB359_361.out _; (with_reducible repeat (first | refine blk_drewN ?_ _ | refine blk_drew ?_ | refine blk_alloc ?_ _)); refine blk_far ?_ NB359_361.out _; (with_reducible repeat (first | refine blk_drewN ?_ _ | refine blk_drew ?_ | refine blk_alloc ?_ _)); exact BK359.out⟩, ⟨by repeat (first | (with_reducible first | exact HB.out | apply below_alloc | apply pw_below_drewN | apply below_drew1 | refine below_set ?_ GE359.out | refine below_set ?_ GE361.out) | exact HB.out)⟩⟩
                        · rw [if_neg c25] at H
                          exact absurd H (by simp)
                      · rw [if_neg c24] at H
                        exact absurd H (by simp)
                    · rw [if_neg c23] at H
                      have c23b0 : decide (x62_3 < (t348.length : Int)) = false := decide_eq_false c23
                      clear c23
                      (first | rw [if_pos (rfl : true = true)] at H | rw [if_pos True.intro] at H)
                      by_cases c34 : t358 = 0
                      · rw [if_pos c34] at H
                        have c34b0 : (t358 == 0) = true := beq_iff_eq.mpr c34
                        have c34b1 : (t358 != 0) = false := bne_eq_false_iff_eq.mpr c34
                        clear c34
                        by_cases c35 : x12_3 = true
                        · subst c35
                          have H1 : (if t357 = true then (if t356 = a1 then (some true) else (some false)) else (some (t355 == a1))) = some r := by rw [if_pos rfl] at H; exact H
                          clear H
                          have H := H1
                          clear H1
                          by_cases c36 : t357 = true
                          · subst c36
                            have H1 : (if t356 = a1 then (some true) else (some false)) = some r := by rw [if_pos rfl] at H; exact H
                            clear H
                            have H := H1
                            clear H1
                            by_cases c37 : t356 = a1
                            · rw [if_pos c37] at H
                              have c37b0 : (t356 == a1) = true := beq_iff_eq.mpr c37
                              have c37b1 : (t356 != a1) = false := bne_eq_false_iff_eq.mpr c37
                              clear c37
                              obtain rfl := Option.some.inj H
                              have hcz38_0 : wr.cell? ⟨gb359, 0, none⟩ = some (.int .i64 t353) := (blk_cell BK359.out 0).trans rfl
                              have hcz38_1 : wr.cell? ⟨gb359, 1, none⟩ = some (.bool t354) := (blk_cell BK359.out 1).trans rfl
                              have hcz38_2 : wr.cell? ⟨gb359, 2, none⟩ = some (.int .i64 t355) := (blk_cell BK359.out 2).trans rfl
                              have hcz38_3 : wr.cell? ⟨gb359, 3, none⟩ = some (.int .i64 t356) := (blk_cell BK359.out 3).trans rfl
                              have hfz38_0 := blk_frozen BK359.out 0
                              have hfz38_1 := blk_frozen BK359.out 1
                              have hfz38_2 := blk_frozen BK359.out 2
                              have hfz38_3 := blk_frozen BK359.out 3
                              go_wp2
                              go_ret
                              exact ⟨by first | rfl | (simp [errW_none, errW_some] <;> rfl) | (simp [*, errW_none, errW_some] <;> rfl), by repeat (first | (with_reducible first | exact HB.out | apply below_alloc | apply pw_below_drewN | apply below_drew1 | refine below_set ?_ GE359.out) | exact HB.out)⟩
                            · rw [if_neg c37] at H
                              have c37b0 : (t356 == a1) = false := beq_eq_false_iff_ne.mpr c37
                              have c37b1 : (t356 != a1) = true := bne_iff_ne.mpr c37
                              obtain rfl := Option.some.inj H
                              have hcz39_0 : wr.cell? ⟨gb359, 0, none⟩ = some (.int .i64 t353) := (blk_cell BK359.out 0).trans rfl
                              have hcz39_1 : wr.cell? ⟨gb359, 1, none⟩ = some (.bool t354) := (blk_cell BK359.out 1).trans rfl
                              have hcz39_2 : wr.cell? ⟨gb359, 2, none⟩ = some (.int .i64 t355) := (blk_cell BK359.out 2).trans rfl
                              have hcz39_3 : wr.cell? ⟨gb359, 3, none⟩ = some (.int .i64 t356) := (blk_cell BK359.out 3).trans rfl
                              have hfz39_0 := blk_frozen BK359.out 0
                              have hfz39_1 := blk_frozen BK359.out 1
                              have hfz39_2 := blk_frozen BK359.out 2
                              have hfz39_3 := blk_frozen BK359.out 3
                              go_wp2
                              go_ret
                              exact ⟨by first | rfl | (simp [errW_none, errW_some] <;> rfl) | (simp [*, errW_none, errW_some] <;> rfl), by repeat (first | (with_reducible first | exact HB.out | apply below_alloc | apply pw_below_drewN | apply below_drew1 | refine below_set ?_ GE359.out) | exact HB.out)⟩
                          · replace c36 := Bool.eq_false_iff.mpr c36
                            subst c36
                            have H1 : (some (t355 == a1)) = some r := by rw [if_neg (show ¬ (false = true) by decide)] at H; exact H
                            clear H
                            have H := H1
                            clear H1
                            obtain rfl := Option.some.inj H
                            have hcz40_0 : wr.cell? ⟨gb359, 0, none⟩ = some (.int .i64 t353) := (blk_cell BK359.out 0).trans rfl
                            have hcz40_1 : wr.cell? ⟨gb359, 1, none⟩ = some (.bool t354) := (blk_cell BK359.out 1).trans rfl
                            have hcz40_2 : wr.cell? ⟨gb359, 2, none⟩ = some (.int .i64 t355) := (blk_cell BK359.out 2).trans rfl
                            have hcz40_3 : wr.cell? ⟨gb359, 3, none⟩ = some (.int .i64 t356) := (blk_cell BK359.out 3).trans rfl
                            have hfz40_0 := blk_frozen BK359.out 0
                            have hfz40_1 := blk_frozen BK359.out 1
                            have hfz40_2 := blk_frozen BK359.out 2
                            have hfz40_3 := blk_frozen BK359.out 3
                            go_wp2
                            go_ret
                            exact ⟨by first | rfl | (simp [errW_none, errW_some] <;> rfl) | (simp [*, errW_none, errW_some] <;> rfl), by repeat (first | (with_reducible first | exact HB.out | apply below_alloc | apply pw_below_drewN | apply below_drew1 | refine below_set ?_ GE359.out) | exact HB.out)⟩
                        · replace c35 := Bool.eq_false_iff.mpr c35
                          subst c35
                          have H1 : (some false) = some r := by rw [if_neg (show ¬ (false = true) by decide)] at H; exact H
                          clear H
                          have H := H1
                          clear H1
                          obtain rfl := Option.some.inj H
                          go_wp2
                          go_ret
                          exact ⟨by first | rfl | (simp [errW_none, errW_some] <;> rfl) | (simp [*, errW_none, errW_some] <;> rfl), by repeat (first | (with_reducible first | exact HB.out | apply below_alloc | apply pw_below_drewN | apply below_drew1 | refine below_set ?_ GE359.out) | exact HB.out)⟩
                      · rw [if_neg c34] at H
                        have c34b0 : (t358 == 0) = false := beq_eq_false_iff_ne.mpr c34
                        have c34b1 : (t358 != 0) = true := bne_iff_ne.mpr c34
                        obtain rfl := Option.some.inj H
                        go_wp2
                        go_ret
                        exact ⟨by first | rfl | (simp [errW_none, errW_some] <;> rfl) | (simp [*, errW_none, errW_some] <;> rfl), by repeat (first | (with_reducible first | exact HB.out | apply below_alloc | apply pw_below_drewN | apply below_drew1 | refine below_set ?_ GE359.out) | exact HB.out)⟩
  · replace c4 := Bool.eq_false_iff.mpr c4
    subst c4
    have H1 : (none) = some r := by rw [if_neg (show ¬ (false = true) by decide)] at H; exact H
    clear H
    have H := H1
    clear H1
    exact absurd H (by simp)

/-- THE ONE PURE STATEMENT of formelaw42_ImposeWhere: yours. -/
def formelaw42_ImposeWhere.Pure : Prop := ∀ (a0 : Int) (a1 : Int), (Lit.int .i64 a0).wf = true → (Lit.int .i64 a1).wf = true → ∃ k, formelaw42_ImposeWhere.f k a0 a1 = some true
theorem formelaw42_ImposeWhere.walk (P : formelaw42_ImposeWhere.Pure) (a0 : Int) (a1 : Int) (w : World) (w0 : (Lit.int .i64 a0).wf = true) (w1 : (Lit.int .i64 a1).wf = true) :
    Calls Try.prog 8 #[.int .i64 a0, .int .i64 a1] w fun e w' => e = .returned (.bool true) ∧ Below w.heap.size w w' := by
  obtain ⟨k, h⟩ := P a0 a1 w0 w1
  refine (formelaw42_ImposeWhere.calls k a0 a1 true w h).mono ?_
  rintro e w' ⟨rfl, hd⟩
  exact ⟨rfl, hd⟩

end Go.Proofs.Ytbllpiboodlepaa.P
