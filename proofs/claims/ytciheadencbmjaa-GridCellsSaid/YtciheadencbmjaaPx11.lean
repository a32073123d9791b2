-- Laid by a program of this session (wip/fam.sh) over the kit's words: Lean checks it.
import Derived.Test.YtciheadencbmjaaPx0
import Derived.Test.YtciheadencbmjaaPx1
import Derived.Test.YtciheadencbmjaaPx8
import Derived.Test.YtciheadencbmjaaPx9
import Derived.Test.YtciheadencbmjaaHCells
namespace Go.Proofs.Ytciheadencbmjaa.P
open Go.RowKit Go.Proofs.YtciheadencbmjaaW.PrintWords Go.Proofs.YtciheadencbmjaaW.PrintLast Go.Proofs.YtciheadencbmjaaW.PrintMore
attribute [local go_sem] max2_int min2_int max_two min_two max_three min_three max_four min_four   -- for this text's walks alone
set_option linter.unusedVariables false
set_option linter.unusedSimpArgs false

attribute [local go_sem high] eqA39
/-! ### formelaw24_GridCells: function 4 -/
def formelaw24_GridCells.l0 : Nat → Int → List Int → Bool → List (S39) → List (S39) → Int → Int → Option (Bool)
 | 0, _, _, _, _, _, _, _ => none
 | k + 1, x0, x1, x5, x6, x34, x35, x36 => if x36 < x35 then (if 0 ≤ x36 then (if x36 < (x34.length : Int) then (if x36 < (x1.length : Int) then (if x36 > 0 then (if 0 ≤ (wrap64 (x36 - 1)) then (if (wrap64 (x36 - 1)) < (x6.length : Int) then (if (wrap64 (x36 - 1)) < (x1.length : Int) then (if (wrap64 ((wrap64 (((rd_T39 x6 (wrap64 (x36 - 1))).f1) + (mn (rd x1 (wrap64 (x36 - 1))) x0))) + (mn (rd x1 x36) x0))) > x0 then (if x5 = true then (if (((rd_T39 x34 x36).f0) == (wrap64 (((rd_T39 x6 (wrap64 (x36 - 1))).f0) + 1)) && (((rd_T39 x34 x36).f1) == 0)) = true then (formelaw24_GridCells.l0 k x0 x1 (decide ((wrap64 (((rd_T39 x34 x36).f1) + (mn (rd x1 x36) x0))) ≤ x0)) x6 x34 x35 (wrap64 (x36 + 1))) else (none)) else (none)) else (if x5 = true then (if (((rd_T39 x34 x36).f0) == ((rd_T39 x6 (wrap64 (x36 - 1))).f0) && (((rd_T39 x34 x36).f1) == (wrap64 (((rd_T39 x6 (wrap64 (x36 - 1))).f1) + (mn (rd x1 (wrap64 (x36 - 1))) x0))))) = true then (formelaw24_GridCells.l0 k x0 x1 (decide ((wrap64 (((rd_T39 x34 x36).f1) + (mn (rd x1 x36) x0))) ≤ x0)) x6 x34 x35 (wrap64 (x36 + 1))) else (none)) else (none))) else (none)) else (none)) else (none)) else (if x5 = true then (if (((rd_T39 x34 x36).f0) == 0 && (((rd_T39 x34 x36).f1) == 0)) = true then (formelaw24_GridCells.l0 k x0 x1 (decide ((wrap64 (((rd_T39 x34 x36).f1) + (mn (rd x1 x36) x0))) ≤ x0)) x6 x34 x35 (wrap64 (x36 + 1))) else (none)) else (none))) else (none)) else (none)) else (none)) else (some x5)
def formelaw24_GridCells.f (k : Nat) (a0 : Int) (l1 : List Int) : Option (Bool) := (formelaw24_head.f k).bind fun t365 => (if t365 = true then ((formelaw24_usable.f k a0 l1).bind fun t366 => (if t366 = true then ((grid_Cells.f a0 l1).bind fun bt367 => (if bt367.2 = 0 then (if (bt367.1.length : Int) = (l1.length : Int) then (formelaw24_GridCells.l0 k a0 l1 true bt367.1 bt367.1 (bt367.1.length : Int) 0) else (none)) else (none))) else (some true))) else (none))
theorem formelaw24_GridCells.mono_l : ∀ k, (∀ y0 y1 y2 y3 y4 y5 y6, LeO (formelaw24_GridCells.l0 k y0 y1 y2 y3 y4 y5 y6) (formelaw24_GridCells.l0 (k + 1) y0 y1 y2 y3 y4 y5 y6))
 | 0 => fun _ _ _ _ _ _ _ r h => by simp [formelaw24_GridCells.l0] at h
 | k + 1 => by
  have ih0 := formelaw24_GridCells.mono_l k
  ·
   intro y0 y1 y2 y3 y4 y5 y6
   unfold formelaw24_GridCells.l0
   repeat' first
   | (with_reducible exact ih0 _ _ _ _ _ _ _)
   | (with_reducible exact formelaw24_head.mono _)
   | (with_reducible exact formelaw24_usable.mono _ _ _)
   | (with_reducible exact LeO.refl _)
   | (with_reducible exact LeO.none _)
   | (with_reducible refine LeO.ite ?_ ?_)
   | (with_reducible refine LeO.bind ?_ (fun _ => ?_))
   | exact ih0 _ _ _ _ _ _ _
   | exact formelaw24_head.mono _
   | exact formelaw24_usable.mono _ _ _
   | exact LeO.none _
   | refine LeO.ite ?_ ?_
   | refine LeO.bind ?_ (fun _ => ?_)
theorem formelaw24_GridCells.mono : ∀ a0 a1 k, LeO (formelaw24_GridCells.f k a0 a1) (formelaw24_GridCells.f (k + 1) a0 a1) := by
 intro a0 a1 k
 have ih0 := formelaw24_GridCells.mono_l k
 unfold formelaw24_GridCells.f
 repeat' first
   | (with_reducible exact ih0 _ _ _ _ _ _ _)
   | (with_reducible exact formelaw24_head.mono _)
   | (with_reducible exact formelaw24_usable.mono _ _ _)
   | (with_reducible exact LeO.refl _)
   | (with_reducible exact LeO.none _)
   | (with_reducible refine LeO.ite ?_ ?_)
   | (with_reducible refine LeO.bind ?_ (fun _ => ?_))
   | exact ih0 _ _ _ _ _ _ _
   | exact formelaw24_head.mono _
   | exact formelaw24_usable.mono _ _ _
   | exact LeO.none _
   | refine LeO.ite ?_ ?_
   | refine LeO.bind ?_ (fun _ => ?_)
def formelaw24_GridCells.T14 : Bool × List (List Nat × List Nat) := (true, [([], []), ([0], [0]), ([], []), ([2], [2]), ([], []), ([], []), ([5], [5]), ([4, 6], [4, 6]), ([7], [7]), ([], []), ([8, 9], [8, 9]), ([3, 10], [3, 10]), ([1, 11], [1, 11]), ([12, 0, 1, 2, 3, 4, 5, 6, 7, 8, 9, 10, 11, 12], [12])])
def formelaw24_GridCells.B14 : List Nat := [0, 1, 0, 4, 0, 0, 32, 112, 240, 0, 1008, 2044, 4095, 8191]
theorem formelaw24_GridCells.tab14 : rtab .any (opsOf Try.f4 14) = formelaw24_GridCells.T14 := by kernel_rfl
theorem formelaw24_GridCells.bits14 : waitsOk formelaw24_GridCells.T14.2 formelaw24_GridCells.B14 = true := by kernel_rfl
set_option maxHeartbeats 8000000 in
set_option maxRecDepth 100000 in
theorem formelaw24_GridCells.calls (k : Nat) (a0 : Int) (A1 : Option Addr) (c1 : Nat) (l1 : List Int) (r : Bool) (w : World) (hr1 : Kd.C (Kd.int .i64) w A1 l1.length l1) (hc1 : l1.length ≤ c1) (h : formelaw24_GridCells.f k a0 l1 = some r) :
  Calls Try.prog 4 #[.int .i64 a0, .slice A1 l1.length c1] w fun e w' => e = .returned (.bool r) ∧ Below w.heap.size w w' := by
 have hu39 := Try.underlying39
 have HR1 := Aside0.mk hr1
 have HC1 := Aside0.mk hc1
 clear hr1 hc1
 have HB := Aside0.mk (Below.refl w.heap.size w)
 have H : ((formelaw24_head.f k).bind fun t365 => (if t365 = true then ((formelaw24_usable.f k a0 l1).bind fun t366 => (if t366 = true then ((grid_Cells.f a0 l1).bind fun bt367 => (if bt367.2 = 0 then (if (bt367.1.length : Int) = (l1.length : Int) then (formelaw24_GridCells.l0 k a0 l1 true bt367.1 bt367.1 (bt367.1.length : Int) 0) else (none)) else (none))) else (some true))) else (none))) = some r := h
 clear h
 replace H := Option.bind_eq_some_iff.mp H
 obtain ⟨t365, A30, H⟩ := H
 replace H : (if t365 = true then ((formelaw24_usable.f k a0 l1).bind fun t366 => (if t366 = true then ((grid_Cells.f a0 l1).bind fun bt367 => (if bt367.2 = 0 then (if (bt367.1.length : Int) = (l1.length : Int) then (formelaw24_GridCells.l0 k a0 l1 true bt367.1 bt367.1 (bt367.1.length : Int) 0) else (none)) else (none))) else (some true))) else (none)) = some r := H
 have A3 := Aside0.mk A30
 clear A30
 by_cases c4 : t365 = true
 ·
  subst c4
  have H1 : ((formelaw24_usable.f k a0 l1).bind fun t366 => (if t366 = true then ((grid_Cells.f a0 l1).bind fun bt367 => (if bt367.2 = 0 then (if (bt367.1.length : Int) = (l1.length : Int) then (formelaw24_GridCells.l0 k a0 l1 true bt367.1 bt367.1 (bt367.1.length : Int) 0) else (none)) else (none))) else (some true))) = some r := by rw [if_pos rfl] at H; exact H
  clear H
  have H := H1
  clear H1
  replace H := Option.bind_eq_some_iff.mp H
  obtain ⟨t366, A50, H⟩ := H
  replace H : (if t366 = true then ((grid_Cells.f a0 l1).bind fun bt367 => (if bt367.2 = 0 then (if (bt367.1.length : Int) = (l1.length : Int) then (formelaw24_GridCells.l0 k a0 l1 true bt367.1 bt367.1 (bt367.1.length : Int) 0) else (none)) else (none))) else (some true)) = some r := H
  have A5 := Aside0.mk A50
  clear A50
  by_cases c6 : t366 = true
  ·
   subst c6
   have H1 : ((grid_Cells.f a0 l1).bind fun bt367 => (if bt367.2 = 0 then (if (bt367.1.length : Int) = (l1.length : Int) then (formelaw24_GridCells.l0 k a0 l1 true bt367.1 bt367.1 (bt367.1.length : Int) 0) else (none)) else (none))) = some r := by rw [if_pos rfl] at H; exact H
   clear H
   have H := H1
   clear H1
   replace H := Option.bind_eq_some_iff.mp H
   obtain ⟨⟨t367, t368⟩, A70, H⟩ := H
   replace H : (if t368 = 0 then (if (t367.length : Int) = (l1.length : Int) then (formelaw24_GridCells.l0 k a0 l1 true t367 t367 (t367.length : Int) 0) else (none)) else (none)) = some r := H
   have A7 := Aside0.mk A70
   clear A70
   by_cases c8 : t368 = 0
   ·
    rw [if_pos c8] at H
    have c8b0 : (t368 == 0) = true := beq_iff_eq.mpr c8
    have c8b1 : (t368 != 0) = false := bne_eq_false_iff_eq.mpr c8
    clear c8
    by_cases c9 : (t367.length : Int) = (l1.length : Int)
    ·
     rw [if_pos c9] at H
     have c9b0 : ((t367.length : Int) == (l1.length : Int)) = true := beq_iff_eq.mpr c9
     have c9b1 : ((t367.length : Int) != (l1.length : Int)) = false := bne_eq_false_iff_eq.mpr c9
     have c9b2 : (t367.length == l1.length) = true := by first | simpa using c9 | (simp at c9 ⊢; omega)
     clear c9
     have H' := Aside0.mk H
     clear H
     go_enter Try.func4, Try.ntmps4
     go_wp2_with (first | ((with_reducible refine gate_callee (f := 9) rfl ?_); refine goesL_ (some 13) rfl rfl Try.func9 (by kernel_rfl) rfl #[] rfl (by (try simp only [List.map_toArray, List.map_cons, List.map_nil]); first | done | rfl | (simp only [List.length_drop, List.length_take]; rfl)) ?_; (with_reducible refine (formelaw24_head.calls k  true _ A3.out).mono ?_); rintro e w10 ⟨rfl, hb⟩; refine ⟨_, rfl, ?_⟩; have n0_ := Aside0.mk (below_step (by repeat (first | (with_reducible first | exact HB.out | apply below_alloc | apply pw_below_drewN | apply below_drew1) | exact HB.out)) hb); clear HB; have HB := n0_; clear n0_; (try clear hb); (try clear hb2); (try clear hk); (try clear hi)) | ((with_reducible refine gate_callee (f := 20) rfl ?_); refine goesL_ (some 16) rfl rfl Try.func20 (by kernel_rfl) rfl #[.int .i64 a0, .slice A1 l1.length c1] rfl (by (try simp only [List.map_toArray, List.map_cons, List.map_nil]); first | done | rfl | (simp only [List.length_drop, List.length_take]; rfl)) ?_; (with_reducible refine (formelaw24_usable.calls k a0 _ _ l1 true _ ?side1 ?side2 A5.out).mono ?_); (case side1 => repeat (first | exact (Kd.C_below HR1.out HB.out) | (with_reducible refine Kd.C_alloc ?_ _) | (with_reducible refine Kd.C_drewN ?_ _) | (with_reducible refine Kd.C_drew ?_))); (case side2 => exact HC1.out); rintro e w11 ⟨rfl, hb⟩; refine ⟨_, rfl, ?_⟩; have n0_ := Aside0.mk (below_step (by repeat (first | (with_reducible first | exact HB.out | apply below_alloc | apply pw_below_drewN | apply below_drew1) | exact HB.out)) hb); clear HB; have HB := n0_; clear n0_; (try clear hb); (try clear hb2); (try clear hk); (try clear hi)) | ((with_reducible refine gate_callee (f := 10) rfl ?_); refine goesL_ (some 22) rfl rfl Try.func10 (by kernel_rfl) rfl #[.int .i64 a0, .slice A1 l1.length c1] rfl (by (try simp only [List.map_toArray, List.map_cons, List.map_nil]); first | done | rfl | (simp only [List.length_drop, List.length_take]; rfl)) ?_; (with_reducible refine (grid_Cells.calls a0 _ _ l1 t367 t368 _ ?side1 ?side2 A7.out).mono ?_); (case side1 => repeat (first | exact (Kd.C_below HR1.out HB.out) | (with_reducible refine Kd.C_alloc ?_ _) | (with_reducible refine Kd.C_drewN ?_ _) | (with_reducible refine Kd.C_drew ?_))); (case side2 => exact HC1.out); rintro e w12 ⟨v369, rfl, ho0, hb⟩; refine ⟨_, rfl, ?_⟩; have n0_ := Aside0.mk (Kd.R_lower ho0 (below_size (by repeat (first | (with_reducible first | exact HB.out | apply below_alloc | apply pw_below_drewN | apply below_drew1) | exact HB.out)))); have n1_ := Aside0.mk (below_step (by repeat (first | (with_reducible first | exact HB.out | apply below_alloc | apply pw_below_drewN | apply below_drew1) | exact HB.out)) hb); clear HB; have HO370 := n0_; have HB := n1_; clear n0_ n1_; (try clear hb); (try clear hb2); (try clear hk); (try clear hi); (try clear ho0); obtain ⟨Ao13, co13, eo13⟩ := Kd.R_slice HO370.out; subst eo13))
     go_loopg [5, 36] k (fun kq v5 v36 w' => ∃ (x5_1 : Bool) (x36_1 : Int), v5 = .bool x5_1 ∧ v36 = .int .i64 x36_1 ∧ Aside0 (formelaw24_GridCells.l0 kq a0 l1 x5_1 t367 t367 (t367.length : Int) x36_1 = some r) ∧ Aside0 (kq ≤ k) ∧ Aside0 (Kd.R k39 39 w' w.heap.size (fun _ => True) (.slice Ao13 t367.length co13) t367) ∧ Aside0 (Kd.R k39 39 w' w.heap.size (fun _ => True) (.slice Ao13 t367.length co13) t367) ∧ Aside0 (Below w.heap.size w w'))
     case atStart => exact ⟨(true), (0), (by first | rfl | (simp; done) | (simp [*]; done)), (by first | rfl | (simp; done) | (simp [*]; done)), H', ⟨Nat.le_refl _⟩, ⟨by (with_reducible repeat (first | apply Kd.R_alloc | apply Kd.R_drewN | apply Kd.R_drew)); exact HO370.out⟩, ⟨by (with_reducible repeat (first | apply Kd.R_alloc | apply Kd.R_drewN | apply Kd.R_drew)); exact HO370.out⟩, ⟨by repeat (first | (with_reducible first | exact HB.out | apply below_alloc | apply pw_below_drewN | apply below_drew1) | exact HB.out)⟩⟩
     case round =>
      clear H'
      try clear c1
      try clear c2
      try clear p2
      try clear c4
      try clear c6
      try clear c8
      try clear c8b0
      try clear c8b1
      try clear c9
      try clear c9b0
      try clear c9b1
      try clear c9b2
      try clear c10
      obtain ⟨x5_1, x36_1, rfl, rfl, HA, HK1, HO_6, HO_34, HB⟩ := hrel
      cases gk with
      | zero => exact absurd HA.out (by simp [formelaw24_GridCells.l0])
      | succ k1 =>
       have H := HA.out
       clear HA
       simp only [formelaw24_GridCells.l0] at H
       by_cases c14 : x36_1 < (t367.length : Int)
       ·
        rw [if_pos c14] at H
        have c14b0 : decide (x36_1 < (t367.length : Int)) = true := decide_eq_true c14
        clear c14
        by_cases c15 : 0 ≤ x36_1
        ·
         rw [if_pos c15] at H
         have c15b0 : decide (0 ≤ x36_1) = true := decide_eq_true c15
         clear c15
         by_cases c16 : x36_1 < (t367.length : Int)
         ·
          rw [if_pos c16] at H
          have c16b0 : decide (x36_1 < (t367.length : Int)) = true := decide_eq_true c16
          clear c16
          by_cases c17 : x36_1 < (l1.length : Int)
          ·
           rw [if_pos c17] at H
           have c17b0 : decide (x36_1 < (l1.length : Int)) = true := decide_eq_true c17
           clear c17
           obtain ⟨ji18, hji18⟩ : ∃ j_ : Int, (mn (rd l1 x36_1) a0) = j_ := ⟨_, rfl⟩
           replace H : (if x36_1 > 0 then (if 0 ≤ (wrap64 (x36_1 - 1)) then (if (wrap64 (x36_1 - 1)) < (t367.length : Int) then (if (wrap64 (x36_1 - 1)) < (l1.length : Int) then (if (wrap64 ((wrap64 (((rd_T39 t367 (wrap64 (x36_1 - 1))).f1) + (mn (rd l1 (wrap64 (x36_1 - 1))) a0))) + (ji18))) > a0 then (if x5_1 = true then (if (((rd_T39 t367 x36_1).f0) == (wrap64 (((rd_T39 t367 (wrap64 (x36_1 - 1))).f0) + 1)) && (((rd_T39 t367 x36_1).f1) == 0)) = true then (formelaw24_GridCells.l0 k1 a0 l1 (decide ((wrap64 (((rd_T39 t367 x36_1).f1) + (ji18))) ≤ a0)) t367 t367 (t367.length : Int) (wrap64 (x36_1 + 1))) else (none)) else (none)) else (if x5_1 = true then (if (((rd_T39 t367 x36_1).f0) == ((rd_T39 t367 (wrap64 (x36_1 - 1))).f0) && (((rd_T39 t367 x36_1).f1) == (wrap64 (((rd_T39 t367 (wrap64 (x36_1 - 1))).f1) + (mn (rd l1 (wrap64 (x36_1 - 1))) a0))))) = true then (formelaw24_GridCells.l0 k1 a0 l1 (decide ((wrap64 (((rd_T39 t367 x36_1).f1) + (ji18))) ≤ a0)) t367 t367 (t367.length : Int) (wrap64 (x36_1 + 1))) else (none)) else (none))) else (none)) else (none)) else (none)) else (if x5_1 = true then (if (((rd_T39 t367 x36_1).f0) == 0 && (((rd_T39 t367 x36_1).f1) == 0)) = true then (formelaw24_GridCells.l0 k1 a0 l1 (decide ((wrap64 (((rd_T39 t367 x36_1).f1) + (ji18))) ≤ a0)) t367 t367 (t367.length : Int) (wrap64 (x36_1 + 1))) else (none)) else (none))) = some r := by first | (rw [hji18] at H; exact H) | (simp only [hji18] at H ⊢; exact H)
           have hji18_ : (if a0 < (rd l1 x36_1) then a0 else (rd l1 x36_1)) = ji18 := hji18
           by_cases c19 : x36_1 > 0
           ·
            rw [if_pos c19] at H
            have c19b0 : decide (0 < x36_1) = true := decide_eq_true c19
            clear c19
            obtain ⟨ji20, hji20⟩ : ∃ j_ : Int, (wrap64 (x36_1 - 1)) = j_ := ⟨_, rfl⟩
            replace H : (if 0 ≤ (ji20) then (if (ji20) < (t367.length : Int) then (if (ji20) < (l1.length : Int) then (if (wrap64 ((wrap64 (((rd_T39 t367 (ji20)).f1) + (mn (rd l1 (ji20)) a0))) + (ji18))) > a0 then (if x5_1 = true then (if (((rd_T39 t367 x36_1).f0) == (wrap64 (((rd_T39 t367 (ji20)).f0) + 1)) && (((rd_T39 t367 x36_1).f1) == 0)) = true then (formelaw24_GridCells.l0 k1 a0 l1 (decide ((wrap64 (((rd_T39 t367 x36_1).f1) + (ji18))) ≤ a0)) t367 t367 (t367.length : Int) (wrap64 (x36_1 + 1))) else (none)) else (none)) else (if x5_1 = true then (if (((rd_T39 t367 x36_1).f0) == ((rd_T39 t367 (ji20)).f0) && (((rd_T39 t367 x36_1).f1) == (wrap64 (((rd_T39 t367 (ji20)).f1) + (mn (rd l1 (ji20)) a0))))) = true then (formelaw24_GridCells.l0 k1 a0 l1 (decide ((wrap64 (((rd_T39 t367 x36_1).f1) + (ji18))) ≤ a0)) t367 t367 (t367.length : Int) (wrap64 (x36_1 + 1))) else (none)) else (none))) else (none)) else (none)) else (none)) = some r := by first | (rw [hji20] at H; exact H) | (simp only [hji20] at H ⊢; exact H)
            have hji20w : (IntKind.i64.wrap (x36_1 - 1)) = ji20 := (i64_w _).trans hji20
            by_cases c21 : 0 ≤ (ji20)
            ·
             rw [if_pos c21] at H
             have c21b0 : decide (0 ≤ (ji20)) = true := decide_eq_true c21
             clear c21
             by_cases c22 : (ji20) < (t367.length : Int)
             ·
              rw [if_pos c22] at H
              have c22b0 : decide ((ji20) < (t367.length : Int)) = true := decide_eq_true c22
              clear c22
              by_cases c23 : (ji20) < (l1.length : Int)
              ·
               rw [if_pos c23] at H
               have c23b0 : decide ((ji20) < (l1.length : Int)) = true := decide_eq_true c23
               clear c23
               obtain ⟨ji24, hji24⟩ : ∃ j_ : Int, (mn (rd l1 (ji20)) a0) = j_ := ⟨_, rfl⟩
               replace H : (if (wrap64 ((wrap64 (((rd_T39 t367 (ji20)).f1) + (ji24))) + (ji18))) > a0 then (if x5_1 = true then (if (((rd_T39 t367 x36_1).f0) == (wrap64 (((rd_T39 t367 (ji20)).f0) + 1)) && (((rd_T39 t367 x36_1).f1) == 0)) = true then (formelaw24_GridCells.l0 k1 a0 l1 (decide ((wrap64 (((rd_T39 t367 x36_1).f1) + (ji18))) ≤ a0)) t367 t367 (t367.length : Int) (wrap64 (x36_1 + 1))) else (none)) else (none)) else (if x5_1 = true then (if (((rd_T39 t367 x36_1).f0) == ((rd_T39 t367 (ji20)).f0) && (((rd_T39 t367 x36_1).f1) == (wrap64 (((rd_T39 t367 (ji20)).f1) + (ji24))))) = true then (formelaw24_GridCells.l0 k1 a0 l1 (decide ((wrap64 (((rd_T39 t367 x36_1).f1) + (ji18))) ≤ a0)) t367 t367 (t367.length : Int) (wrap64 (x36_1 + 1))) else (none)) else (none))) = some r := by first | (rw [hji24] at H; exact H) | (simp only [hji24] at H ⊢; exact H)
               have hji24_ : (if a0 < (rd l1 (ji20)) then a0 else (rd l1 (ji20))) = ji24 := hji24
               by_cases c25 : (wrap64 ((wrap64 (((rd_T39 t367 (ji20)).f1) + (ji24))) + (ji18))) > a0
               ·
                rw [if_pos c25] at H
                have c25b0 : decide (a0 < (wrap64 ((wrap64 (((rd_T39 t367 (ji20)).f1) + (ji24))) + (ji18)))) = true := decide_eq_true c25
                clear c25
                by_cases c26 : x5_1 = true
                ·
                 subst c26
                 have H1 : (if (((rd_T39 t367 x36_1).f0) == (wrap64 (((rd_T39 t367 (ji20)).f0) + 1)) && (((rd_T39 t367 x36_1).f1) == 0)) = true then (formelaw24_GridCells.l0 k1 a0 l1 (decide ((wrap64 (((rd_T39 t367 x36_1).f1) + (ji18))) ≤ a0)) t367 t367 (t367.length : Int) (wrap64 (x36_1 + 1))) else (none)) = some r := by rw [if_pos rfl] at H; exact H
                 clear H
                 have H := H1
                 clear H1
                 by_cases c27 : (((rd_T39 t367 x36_1).f0) == (wrap64 (((rd_T39 t367 (ji20)).f0) + 1)) && (((rd_T39 t367 x36_1).f1) == 0)) = true
                 ·
                  rw [if_pos c27] at H
                  have c27b0 : (((rd_T39 t367 x36_1).f0) == (wrap64 (((rd_T39 t367 (ji20)).f0) + 1)) && (((rd_T39 t367 x36_1).f1) == 0)) = true := c27
                  (try (have c27b1 : decide (((rd_T39 t367 x36_1).f0) = (wrap64 (((rd_T39 t367 (ji20)).f0) + 1)) && (((rd_T39 t367 x36_1).f1) == 0)) = true := by simpa using c27))
                  (try (have c27b2 : (((rd_T39 t367 x36_1).f0) == (wrap64 (((rd_T39 t367 (ji20)).f0) + 1)) && (((rd_T39 t367 x36_1).f1) == 0)) = true := by simpa using c27))
                  clear c27
                  have H' := Aside0.mk H
                  clear H
                  have p371 : 0 ≤ (x36_1 : Int) := of_decide_eq_true (by first | (with_reducible assumption) | assumption)
                  have q371 : x36_1 < (t367.length : Int) := of_decide_eq_true (by first | (with_reducible assumption) | assumption)
                  obtain ⟨ad371, e371, hx371_0, hx371_1⟩ := at_T39 (Kd.R_reads' HO_34.out).2.2 x36_1 p371 q371
                  cases e371
                  replace p371 := eq_true p371
                  replace q371 := eq_true q371
                  try go_wp2_with (first | ((with_reducible refine gate_dst (N := 9) rfl ?_); (try (refine gate_guard (by rfl) ?_; dsimp only)); refine box_event ?hg (N := 9) ?hd (cs := #[.int .i64 0, .int .i64 0]) (t := 39) ?hr ?_; (case hd => rfl); (case hg => rfl); (case hr => first | (go_simp; done) | (go_simp; rfl)); intro gb372 hg w28 hbox hb; have n0_ := Aside0.mk (Kd.R_below (Kd.R_elderB (by (with_reducible repeat (first | apply Kd.R_alloc | apply Kd.R_drewN | apply Kd.R_drew)); exact HO_6.out) gb372 (Nat.le_of_eq hg.symm)) hb); have n1_ := Aside0.mk (Kd.R_below (Kd.R_elderB (by (with_reducible repeat (first | apply Kd.R_alloc | apply Kd.R_drewN | apply Kd.R_drew)); exact HO_34.out) gb372 (Nat.le_of_eq hg.symm)) hb); have n2_ := Aside0.mk (below_step (by repeat (first | (with_reducible first | exact HB.out | apply below_alloc | apply pw_below_drewN | apply below_drew1) | exact HB.out)) hb); have n3_ := Aside0.mk (hbox); have n4_ := Aside0.mk ((by rw [hg]; exact (below_size (by repeat (first | (with_reducible first | exact HB.out | apply below_alloc | apply pw_below_drewN | apply below_drew1) | exact HB.out))) : w.heap.size ≤ gb372)); have n5_ := Aside0.mk ((by rw [hg]; exact (below_size (by repeat (first | (with_reducible first | exact HB.out | apply below_alloc | apply pw_below_drewN | apply below_drew1) | exact HB.out))) : w.heap.size ≤ gb372)); clear HO_6; clear HO_34; clear HB; have HO_6 := n0_; have HO_34 := n1_; have HB := n2_; have BK372 := n3_; have GW372 := n4_; have GE372 := n5_; clear n0_ n1_ n2_ n3_ n4_ n5_; clear hb hbox hg; have hcz29_0 : w28.cell? ⟨gb372, 0, none⟩ = some (.int .i64 0) := (blk_cell BK372.out 0).trans rfl; have hcz29_1 : w28.cell? ⟨gb372, 1, none⟩ = some (.int .i64 0) := (blk_cell BK372.out 1).trans rfl; have hfz29_0 := blk_frozen BK372.out 0; have hfz29_1 := blk_frozen BK372.out 1; have p373 : 0 ≤ (x36_1 : Int) := of_decide_eq_true (by first | (with_reducible assumption) | assumption); have q373 : x36_1 < (l1.length : Int) := of_decide_eq_true (by first | (with_reducible assumption) | assumption); obtain ⟨ad373, e373, hx373_0⟩ := Kd.at_int HR1.out x36_1 p373 q373; cases e373; have hn373_0 : ad373.block ≠ gb372 := Nat.ne_of_lt (Nat.lt_of_lt_of_le (by have := World.block_lt_of_cell? _ _ hx373_0; first | rwa [add_block] at this | exact this) GW372.out); have hn373_1 : ad373.block ≠ gb372 := Nat.ne_of_lt (Nat.lt_of_lt_of_le (by have := World.block_lt_of_cell? _ _ hx373_0; first | rwa [add_block] at this | exact this) GW372.out); replace hx373_0 := (HB.out.cell (World.block_lt_of_cell? w _ hx373_0)).trans hx373_0; replace hx373_0 := (cell_far (p := ⟨gb372, 0, none⟩) (by first | (rw [add_block]; exact hn373_0) | (show (Addr.add _ _).block ≠ _; rw [add_block]; exact hn373_0) | exact hn373_0) (.int .i64 ((rd_T39 t367 x36_1).f0))).trans hx373_0; replace hx373_0 := (cell_far (p := ⟨gb372, 1, none⟩) (by first | (rw [add_block]; exact hn373_1) | (show (Addr.add _ _).block ≠ _; rw [add_block]; exact hn373_1) | exact hn373_1) (.int .i64 ((rd_T39 t367 x36_1).f1))).trans hx373_0; clear hn373_0; clear hn373_1; replace p373 := eq_true p373; replace q373 := eq_true q373) | ((with_reducible refine gate_dst (N := 11) rfl ?_); (try (refine gate_guard (by rfl) ?_; dsimp only)); refine box_event ?hg (N := 11) ?hd (cs := #[.int .i64 0, .int .i64 0]) (t := 39) ?hr ?_; (case hd => rfl); (case hg => rfl); (case hr => first | (go_simp; done) | (go_simp; rfl)); intro gb374 hg w30 hbox hb; have n0_ := Aside0.mk (Kd.R_below (Kd.R_elderB (by (with_reducible repeat (first | apply Kd.R_alloc | apply Kd.R_drewN | apply Kd.R_drew)); exact (Kd.R_mono (Kd.R_far (p := ⟨gb372, 1, none⟩) (Kd.R_far (p := ⟨gb372, 0, none⟩) (Kd.R_mono HO_6.out (fun k_ hk => (⟨hk, hk.2⟩ : _ ∧ k_ ≠ gb372))) (fun _ hk => hk.2) (.int .i64 ((rd_T39 t367 x36_1).f0))) (fun _ hk => hk.2) (.int .i64 ((rd_T39 t367 x36_1).f1))) (fun _ h_ => h_.1))) gb374 (Nat.le_of_eq hg.symm)) hb); have n1_ := Aside0.mk (Kd.R_below (Kd.R_elderB (by (with_reducible repeat (first | apply Kd.R_alloc | apply Kd.R_drewN | apply Kd.R_drew)); exact (Kd.R_mono (Kd.R_far (p := ⟨gb372, 1, none⟩) (Kd.R_far (p := ⟨gb372, 0, none⟩) (Kd.R_mono HO_34.out (fun k_ hk => (⟨hk, hk.2⟩ : _ ∧ k_ ≠ gb372))) (fun _ hk => hk.2) (.int .i64 ((rd_T39 t367 x36_1).f0))) (fun _ hk => hk.2) (.int .i64 ((rd_T39 t367 x36_1).f1))) (fun _ h_ => h_.1))) gb374 (Nat.le_of_eq hg.symm)) hb); have n2_ := Aside0.mk (blk_below (g := gb372) (o := .cells #[.int .i64 ((rd_T39 t367 x36_1).f0), .int .i64 ((rd_T39 t367 x36_1).f1)] 39 (0, 0)) (by (with_reducible repeat (first | refine blk_drewN ?_ _ | refine blk_drew ?_ | refine blk_alloc ?_ _)); refine blk_put (cs := #[.int .i64 ((rd_T39 t367 x36_1).f0), .int .i64 0]) ?_ 1 _ rfl; (with_reducible repeat (first | refine blk_drewN ?_ _ | refine blk_drew ?_ | refine blk_alloc ?_ _)); refine blk_put (cs := #[.int .i64 0, .int .i64 0]) ?_ 0 _ rfl; (with_reducible repeat (first | refine blk_drewN ?_ _ | refine blk_drew ?_ | refine blk_alloc ?_ _)); exact BK372.out) hb); have n3_ := Aside0.mk (below_step (by repeat (first | (with_reducible first | exact HB.out | apply below_alloc | apply pw_below_drewN | apply below_drew1 | refine below_set ?_ GE372.out) | exact HB.out)) hb); have n4_ := Aside0.mk (hbox); have n5_ := Aside0.mk ((by rw [hg]; exact (below_size (by repeat (first | (with_reducible first | exact HB.out | apply below_alloc | apply pw_below_drewN | apply below_drew1 | refine below_set ?_ GE372.out) | exact HB.out))) : w.heap.size ≤ gb374)); have n6_ := Aside0.mk ((by rw [hg]; exact (below_size (by repeat (first | (with_reducible first | exact HB.out | apply below_alloc | apply pw_below_drewN | apply below_drew1 | refine below_set ?_ GE372.out) | exact HB.out))) : w.heap.size ≤ gb374)); have n7_ := Aside0.mk ((by rw [hg]; exact Nat.ne_of_lt (blk_lt (g := gb372) (o := .cells #[.int .i64 ((rd_T39 t367 x36_1).f0), .int .i64 ((rd_T39 t367 x36_1).f1)] 39 (0, 0)) (by (with_reducible repeat (first | refine blk_drewN ?_ _ | refine blk_drew ?_ | refine blk_alloc ?_ _)); refine blk_put (cs := #[.int .i64 ((rd_T39 t367 x36_1).f0), .int .i64 0]) ?_ 1 _ rfl; (with_reducible repeat (first | refine blk_drewN ?_ _ | refine blk_drew ?_ | refine blk_alloc ?_ _)); refine blk_put (cs := #[.int .i64 0, .int .i64 0]) ?_ 0 _ rfl; (with_reducible repeat (first | refine blk_drewN ?_ _ | refine blk_drew ?_ | refine blk_alloc ?_ _)); exact BK372.out)) : gb372 ≠ gb374)); have n8_ := Aside0.mk ((by rw [hg]; exact Nat.ne_of_gt (blk_lt (g := gb372) (o := .cells #[.int .i64 ((rd_T39 t367 x36_1).f0), .int .i64 ((rd_T39 t367 x36_1).f1)] 39 (0, 0)) (by (with_reducible repeat (first | refine blk_drewN ?_ _ | refine blk_drew ?_ | refine blk_alloc ?_ _)); refine blk_put (cs := #[.int .i64 ((rd_T39 t367 x36_1).f0), .int .i64 0]) ?_ 1 _ rfl; (with_reducible repeat (first | refine blk_drewN ?_ _ | refine blk_drew ?_ | refine blk_alloc ?_ _)); refine blk_put (cs := #[.int .i64 0, .int .i64 0]) ?_ 0 _ rfl; (with_reducible repeat (first | refine blk_drewN ?_ _ | refine blk_drew ?_ | refine blk_alloc ?_ _)); exact BK372.out)) : gb374 ≠ gb372)); clear HO_6; clear HO_34; clear BK372; clear HB; have HO_6 := n0_; have HO_34 := n1_; have BK372 := n2_; have HB := n3_; have BK374 := n4_; have GW374 := n5_; have GE374 := n6_; have NB372_374 := n7_; have NB374_372 := n8_; clear n0_ n1_ n2_ n3_ n4_ n5_ n6_ n7_ n8_; clear hb hbox hg; have hnb31 := NB374_372.out; have hnc31 := NB372_374.out; have hcz32_0 : w30.cell? ⟨gb374, 0, none⟩ = some (.int .i64 0) := (blk_cell BK374.out 0).trans rfl; have hcz32_1 : w30.cell? ⟨gb374, 1, none⟩ = some (.int .i64 0) := (blk_cell BK374.out 1).trans rfl; have hfz32_0 := blk_frozen BK374.out 0; have hfz32_1 := blk_frozen BK374.out 1; have p375 : 0 ≤ ((ji20) : Int) := of_decide_eq_true (by first | (with_reducible assumption) | assumption); have q375 : (ji20) < (t367.length : Int) := of_decide_eq_true (by first | (with_reducible assumption) | assumption); obtain ⟨ad375, e375, hx375_0, hx375_1⟩ := at_T39 (Kd.R_reads' HO_6.out).2.2 (ji20) p375 q375; obtain rfl : ad371 = ad375 := (by injection e375); have hn375_0 : ad371.block ≠ gb374 := Kd.own_blk (by first | exact Kd.R_ne HO_6.out BK374.out (by decide) | exact (fun e_ => by have h_ := HO_6.out.1 _ e_.symm; simp at h_)); have hn375_1 : ad371.block ≠ gb374 := Kd.own_blk (by first | exact Kd.R_ne HO_6.out BK374.out (by decide) | exact (fun e_ => by have h_ := HO_6.out.1 _ e_.symm; simp at h_)); replace hx375_0 := (cell_far (p := ⟨gb374, 0, none⟩) (by first | (rw [add_block]; exact hn375_0) | (show (Addr.add _ _).block ≠ _; rw [add_block]; exact hn375_0) | exact hn375_0) (.int .i64 0)).trans hx375_0; replace hx375_1 := (cell_far (p := ⟨gb374, 0, none⟩) (by first | (rw [add_block]; exact hn375_0) | (show (Addr.add _ _).block ≠ _; rw [add_block]; exact hn375_0) | exact hn375_0) (.int .i64 0)).trans hx375_1; replace hx375_0 := (cell_far (p := ⟨gb374, 1, none⟩) (by first | (rw [add_block]; exact hn375_1) | (show (Addr.add _ _).block ≠ _; rw [add_block]; exact hn375_1) | exact hn375_1) (.int .i64 0)).trans hx375_0; replace hx375_1 := (cell_far (p := ⟨gb374, 1, none⟩) (by first | (rw [add_block]; exact hn375_1) | (show (Addr.add _ _).block ≠ _; rw [add_block]; exact hn375_1) | exact hn375_1) (.int .i64 0)).trans hx375_1; clear hn375_0; clear hn375_1; replace p375 := eq_true p375; replace q375 := eq_true q375) | ((with_reducible refine gate_dst (N := 12) rfl ?_); (try (refine gate_guard (by rfl) ?_; dsimp only)); refine box_event ?hg (N := 12) ?hd (cs := #[.int .i64 0, .int .i64 0]) (t := 39) ?hr ?_; (case hd => rfl); (case hg => rfl); (case hr => first | (go_simp; done) | (go_simp; rfl)); intro gb376 hg w33 hbox hb; have n0_ := Aside0.mk (Kd.R_below (Kd.R_elderB (by (with_reducible repeat (first | apply Kd.R_alloc | apply Kd.R_drewN | apply Kd.R_drew)); exact (Kd.R_mono (Kd.R_far (p := ⟨gb374, 1, none⟩) (Kd.R_far (p := ⟨gb374, 0, none⟩) (Kd.R_mono HO_6.out (fun k_ hk => (⟨hk, hk.2⟩ : _ ∧ k_ ≠ gb374))) (fun _ hk => hk.2) (.int .i64 0)) (fun _ hk => hk.2) (.int .i64 0)) (fun _ h_ => h_.1))) gb376 (Nat.le_of_eq hg.symm)) hb); have n1_ := Aside0.mk (Kd.R_below (Kd.R_elderB (by (with_reducible repeat (first | apply Kd.R_alloc | apply Kd.R_drewN | apply Kd.R_drew)); exact (Kd.R_mono (Kd.R_far (p := ⟨gb374, 1, none⟩) (Kd.R_far (p := ⟨gb374, 0, none⟩) (Kd.R_mono HO_34.out (fun k_ hk => (⟨hk, hk.2⟩ : _ ∧ k_ ≠ gb374))) (fun _ hk => hk.2) (.int .i64 0)) (fun _ hk => hk.2) (.int .i64 0)) (fun _ h_ => h_.1))) gb376 (Nat.le_of_eq hg.symm)) hb); have n2_ := Aside0.mk (blk_below (g := gb372) (o := .cells #[.int .i64 ((rd_T39 t367 x36_1).f0), .int .i64 ((rd_T39 t367 x36_1).f1)] 39 (0, 0)) (by (with_reducible repeat (first | refine blk_drewN ?_ _ | refine blk_drew ?_ | refine blk_alloc ?_ _)); refine blk_far ?_ NB372_374.out _; (with_reducible repeat (first | refine blk_drewN ?_ _ | refine blk_drew ?_ | refine blk_alloc ?_ _)); refine blk_far ?_ NB372_374.out _; (with_reducible repeat (first | refine blk_drewN ?_ _ | refine blk_drew ?_ | refine blk_alloc ?_ _)); exact BK372.out) hb); have n3_ := Aside0.mk (blk_below (g := gb374) (o := .cells #[.int .i64 0, .int .i64 0] 39 (0, 0)) (by (with_reducible repeat (first | refine blk_drewN ?_ _ | refine blk_drew ?_ | refine blk_alloc ?_ _)); refine blk_put (cs := #[.int .i64 0, .int .i64 0]) ?_ 1 _ rfl; (with_reducible repeat (first | refine blk_drewN ?_ _ | refine blk_drew ?_ | refine blk_alloc ?_ _)); refine blk_put (cs := #[.int .i64 0, .int .i64 0]) ?_ 0 _ rfl; (with_reducible repeat (first | refine blk_drewN ?_ _ | refine blk_drew ?_ | refine blk_alloc ?_ _)); exact BK374.out) hb); have n4_ := Aside0.mk (below_step (by repeat (first | (with_reducible first | exact HB.out | apply below_alloc | apply pw_below_drewN | apply below_drew1 | refine below_set ?_ GE372.out | refine below_set ?_ GE374.out) | exact HB.out)) hb); have n5_ := Aside0.mk (hbox); have n6_ := Aside0.mk ((by rw [hg]; exact (below_size (by repeat (first | (with_reducible first | exact HB.out | apply below_alloc | apply pw_below_drewN | apply below_drew1 | refine below_set ?_ GE372.out | refine below_set ?_ GE374.out) | exact HB.out))) : w.heap.size ≤ gb376)); have n7_ := Aside0.mk ((by rw [hg]; exact (below_size (by repeat (first | (with_reducible first | exact HB.out | apply below_alloc | apply pw_below_drewN | apply below_drew1 | refine below_set ?_ GE372.out | refine below_set ?_ GE374.out) | exact HB.out))) : w.heap.size ≤ gb376)); have n8_ := Aside0.mk ((by rw [hg]; exact Nat.ne_of_lt (blk_lt (g := gb372) (o := .cells #[.int .i64 ((rd_T39 t367 x36_1).f0), .int .i64 ((rd_T39 t367 x36_1).f1)] 39 (0, 0)) (by (with_reducible repeat (first | refine blk_drewN ?_ _ | refine blk_drew ?_ | refine blk_alloc ?_ _)); refine blk_far ?_ NB372_374.out _; (with_reducible repeat (first | refine blk_drewN ?_ _ | refine blk_drew ?_ | refine blk_alloc ?_ _)); refine blk_far ?_ NB372_374.out _; (with_reducible repeat (first | refine blk_drewN ?_ _ | refine blk_drew ?_ | refine blk_alloc ?_ _)); exact BK372.out)) : gb372 ≠ gb376)); have n9_ := Aside0.mk ((by rw [hg]; exact Nat.ne_of_gt (blk_lt (g := gb372) (o := .cells #[.int .i64 ((rd_T39 t367 x36_1).f0), .int .i64 ((rd_T39 t367 x36_1).f1)] 39 (0, 0)) (by (with_reducible repeat (first | refine blk_drewN ?_ _ | refine blk_drew ?_ | refine blk_alloc ?_ _)); refine blk_far ?_ NB372_374.out _; (with_reducible repeat (first | refine blk_drewN ?_ _ | refine blk_drew ?_ | refine blk_alloc ?_ _)); refine blk_far ?_ NB372_374.out _; (with_reducible repeat (first | refine blk_drewN ?_ _ | refine blk_drew ?_ | refine blk_alloc ?_ _)); exact BK372.out)) : gb376 ≠ gb372)); have n10_ := Aside0.mk ((by rw [hg]; exact Nat.ne_of_lt (blk_lt (g := gb374) (o := .cells #[.int .i64 0, .int .i64 0] 39 (0, 0)) (by (with_reducible repeat (first | refine blk_drewN ?_ _ | refine blk_drew ?_ | refine blk_alloc ?_ _)); refine blk_put (cs := #[.int .i64 0, .int .i64 0]) ?_ 1 _ rfl; (with_reducible repeat (first | refine blk_drewN ?_ _ | refine blk_drew ?_ | refine blk_alloc ?_ _)); refine blk_put (cs := #[.int .i64 0, .int .i64 0]) ?_ 0 _ rfl; (with_reducible repeat (first | refine blk_drewN ?_ _ | refine blk_drew ?_ | refine blk_alloc ?_ _)); exact BK374.out)) : gb374 ≠ gb376)); have n11_ := Aside0.mk ((by rw [hg]; exact Nat.ne_of_gt (blk_lt (g := gb374) (o := .cells #[.int .i64 0, .int .i64 0] 39 (0, 0)) (by (with_reducible repeat (first | refine blk_drewN ?_ _ | refine blk_drew ?_ | refine blk_alloc ?_ _)); refine blk_put (cs := #[.int .i64 0, .int .i64 0]) ?_ 1 _ rfl; (with_reducible repeat (first | refine blk_drewN ?_ _ | refine blk_drew ?_ | refine blk_alloc ?_ _)); refine blk_put (cs := #[.int .i64 0, .int .i64 0]) ?_ 0 _ rfl; (with_reducible repeat (first | refine blk_drewN ?_ _ | refine blk_drew ?_ | refine blk_alloc ?_ _)); exact BK374.out)) : gb376 ≠ gb374)); clear HO_6; clear HO_34; clear BK372; clear BK374; clear HB; have HO_6 := n0_; have HO_34 := n1_; have BK372 := n2_; have BK374 := n3_; have HB := n4_; have BK376 := n5_; have GW376 := n6_; have GE376 := n7_; have NB372_376 := n8_; have NB376_372 := n9_; have NB374_376 := n10_; have NB376_374 := n11_; clear n0_ n1_ n2_ n3_ n4_ n5_ n6_ n7_ n8_ n9_ n10_ n11_; clear hb hbox hg; have hnb34 := NB376_372.out; have hnc34 := NB372_376.out; have hnb35 := NB376_374.out; have hnc35 := NB374_376.out; have hcz36_0 : w33.cell? ⟨gb376, 0, none⟩ = some (.int .i64 0) := (blk_cell BK376.out 0).trans rfl; have hcz36_1 : w33.cell? ⟨gb376, 1, none⟩ = some (.int .i64 0) := (blk_cell BK376.out 1).trans rfl; have hfz36_0 := blk_frozen BK376.out 0; have hfz36_1 := blk_frozen BK376.out 1))
                  have n0_ : Aside0 (Kd.R k39 39 ((w33.setCell ⟨gb376, 0, none⟩ (.int .i64 ((rd_T39 t367 (ji20)).f0))).setCell ⟨gb376, 1, none⟩ (.int .i64 ((rd_T39 t367 (ji20)).f1))) w.heap.size (fun k_ => k_ ≠ gb372 ∧ k_ ≠ gb374 ∧ k_ ≠ gb376) (.slice (some ad371) t367.length co13) t367) := ⟨by (with_reducible repeat (first | apply Kd.R_alloc | apply Kd.R_drewN | apply Kd.R_drew)); exact Kd.R_mono (Kd.R_far (p := ⟨gb376, 1, none⟩) (Kd.R_far (p := ⟨gb376, 0, none⟩) (Kd.R_mono HO_6.out (fun k_ hk => (⟨hk, hk.2⟩ : _ ∧ k_ ≠ gb376))) (fun _ hk => hk.2) (.int .i64 ((rd_T39 t367 (ji20)).f0))) (fun _ hk => hk.2) (.int .i64 ((rd_T39 t367 (ji20)).f1))) (fun _ hk => ⟨hk.1.1.1.2, ⟨hk.1.1.2, hk.1.2⟩⟩)⟩
                  have n1_ : Aside0 (Kd.R k39 39 ((w33.setCell ⟨gb376, 0, none⟩ (.int .i64 ((rd_T39 t367 (ji20)).f0))).setCell ⟨gb376, 1, none⟩ (.int .i64 ((rd_T39 t367 (ji20)).f1))) w.heap.size (fun k_ => k_ ≠ gb372 ∧ k_ ≠ gb374 ∧ k_ ≠ gb376) (.slice (some ad371) t367.length co13) t367) := ⟨by (with_reducible repeat (first | apply Kd.R_alloc | apply Kd.R_drewN | apply Kd.R_drew)); exact Kd.R_mono (Kd.R_far (p := ⟨gb376, 1, none⟩) (Kd.R_far (p := ⟨gb376, 0, none⟩) (Kd.R_mono HO_34.out (fun k_ hk => (⟨hk, hk.2⟩ : _ ∧ k_ ≠ gb376))) (fun _ hk => hk.2) (.int .i64 ((rd_T39 t367 (ji20)).f0))) (fun _ hk => hk.2) (.int .i64 ((rd_T39 t367 (ji20)).f1))) (fun _ hk => ⟨hk.1.1.1.2, ⟨hk.1.1.2, hk.1.2⟩⟩)⟩
                  have n2_ : Aside0 (((w33.setCell ⟨gb376, 0, none⟩ (.int .i64 ((rd_T39 t367 (ji20)).f0))).setCell ⟨gb376, 1, none⟩ (.int .i64 ((rd_T39 t367 (ji20)).f1))).heap[gb372]? = some (.cells #[.int .i64 ((rd_T39 t367 x36_1).f0), .int .i64 ((rd_T39 t367 x36_1).f1)] 39 (0, 0))) := ⟨by (with_reducible repeat (first | refine blk_drewN ?_ _ | refine blk_drew ?_ | refine blk_alloc ?_ _)); refine blk_far ?_ NB372_376.out _; (with_reducible repeat (first | refine blk_drewN ?_ _ | refine blk_drew ?_ | refine blk_alloc ?_ _)); refine blk_far ?_ NB372_376.out _; (with_reducible repeat (first | refine blk_drewN ?_ _ | refine blk_drew ?_ | refine blk_alloc ?_ _)); exact BK372.out⟩
                  have n3_ : Aside0 (((w33.setCell ⟨gb376, 0, none⟩ (.int .i64 ((rd_T39 t367 (ji20)).f0))).setCell ⟨gb376, 1, none⟩ (.int .i64 ((rd_T39 t367 (ji20)).f1))).heap[gb374]? = some (.cells #[.int .i64 0, .int .i64 0] 39 (0, 0))) := ⟨by (with_reducible repeat (first | refine blk_drewN ?_ _ | refine blk_drew ?_ | refine blk_alloc ?_ _)); refine blk_far ?_ NB374_376.out _; (with_reducible repeat (first | refine blk_drewN ?_ _ | refine blk_drew ?_ | refine blk_alloc ?_ _)); refine blk_far ?_ NB374_376.out _; (with_reducible repeat (first | refine blk_drewN ?_ _ | refine blk_drew ?_ | refine blk_alloc ?_ _)); exact BK374.out⟩
                  have n4_ : Aside0 (((w33.setCell ⟨gb376, 0, none⟩ (.int .i64 ((rd_T39 t367 (ji20)).f0))).setCell ⟨gb376, 1, none⟩ (.int .i64 ((rd_T39 t367 (ji20)).f1))).heap[gb376]? = some (.cells #[.int .i64 ((rd_T39 t367 (ji20)).f0), .int .i64 ((rd_T39 t367 (ji20)).f1)] 39 (0, 0))) := ⟨by (with_reducible repeat (first | refine blk_drewN ?_ _ | refine blk_drew ?_ | refine blk_alloc ?_ _)); refine blk_put (cs := #[.int .i64 ((rd_T39 t367 (ji20)).f0), .int .i64 0]) ?_ 1 _ rfl; (with_reducible repeat (first | refine blk_drewN ?_ _ | refine blk_drew ?_ | refine blk_alloc ?_ _)); refine blk_put (cs := #[.int .i64 0, .int .i64 0]) ?_ 0 _ rfl; (with_reducible repeat (first | refine blk_drewN ?_ _ | refine blk_drew ?_ | refine blk_alloc ?_ _)); exact BK376.out⟩
                  have n5_ : Aside0 (Below w.heap.size w ((w33.setCell ⟨gb376, 0, none⟩ (.int .i64 ((rd_T39 t367 (ji20)).f0))).setCell ⟨gb376, 1, none⟩ (.int .i64 ((rd_T39 t367 (ji20)).f1)))) := ⟨by repeat (first | (with_reducible first | exact HB.out | apply below_alloc | apply pw_below_drewN | apply below_drew1 | refine below_set ?_ GE372.out | refine below_set ?_ GE374.out | refine below_set ?_ GE376.out) | exact HB.out)⟩
                  (try clear HO_6)
                  (try clear HO_34)
                  (try clear BK372)
                  (try clear BK374)
                  (try clear BK376)
                  (try clear HB)
                  generalize ((w33.setCell ⟨gb376, 0, none⟩ (.int .i64 ((rd_T39 t367 (ji20)).f0))).setCell ⟨gb376, 1, none⟩ (.int .i64 ((rd_T39 t367 (ji20)).f1))) = w37 at n0_ n1_ n2_ n3_ n4_ n5_ ⊢
                  have HO_6 := n0_
                  have HO_34 := n1_
                  have BK372 := n2_
                  have BK374 := n3_
                  have BK376 := n4_
                  have HB := n5_
                  clear n0_ n1_ n2_ n3_ n4_ n5_
                  have n0_ := Aside0.mk (Kd.R_drew HO_6.out)
                  have n1_ := Aside0.mk (Kd.R_drew HO_34.out)
                  have n2_ := Aside0.mk (blk_drew BK372.out)
                  have n3_ := Aside0.mk (blk_drew BK374.out)
                  have n4_ := Aside0.mk (blk_drew BK376.out)
                  have n5_ := Aside0.mk (below_drew1 HB.out)
                  clear HO_6
                  clear HO_34
                  clear BK372
                  clear BK374
                  clear BK376
                  clear HB
                  have HO_6 := n0_
                  have HO_34 := n1_
                  have BK372 := n2_
                  have BK374 := n3_
                  have BK376 := n4_
                  have HB := n5_
                  clear n0_ n1_ n2_ n3_ n4_ n5_
                  have p377 : 0 ≤ ((ji20) : Int) := of_decide_eq_true (by first | (with_reducible assumption) | assumption)
                  have q377 : (ji20) < (l1.length : Int) := of_decide_eq_true (by first | (with_reducible assumption) | assumption)
                  obtain ⟨ad377, e377, hx377_0⟩ := Kd.at_int HR1.out (ji20) p377 q377
                  have hw377_0 := hx377_0
                  obtain rfl : ad373 = ad377 := (by injection e377)
                  replace hx377_0 := (HB.out.cell (World.block_lt_of_cell? w _ hx377_0)).trans hx377_0
                  replace p377 := eq_true p377
                  replace q377 := eq_true q377
                  refine start_ (n := 14) (S := fun w' => w'.cell? ⟨gb376, 0, none⟩ = some (.int .i64 ((rd_T39 t367 (ji20)).f0)) ∧ w'.cell? ⟨gb376, 1, none⟩ = some (.int .i64 ((rd_T39 t367 (ji20)).f1)) ∧ w'.cell? (ad373.add ((ji20)).toNat) = some (.int .i64 (rd l1 (ji20)))) (ds := []) #[false, false, false, false, false, false, false, false, false, false, false, false, false, false] (by kernel_rfl) rfl rfl ⟨(blk_cell BK376.out 0).trans rfl, (blk_cell BK376.out 1).trans rfl, ((HB.out.cell (World.block_lt_of_cell? w _ hw377_0)).trans hw377_0)⟩ (fun hHeld => ?_); refine with_tabW formelaw24_GridCells.tab14 formelaw24_GridCells.bits14 (fun HT_ HW_ => ?_)
                  generalize w37.drew = w38 at HO_6 HO_34 BK372 BK374 BK376 HB hx377_0 hHeld ⊢
                  refine pure_ (i := 0) (N := some 55) (v := ?_) (a' := ?_) #[true, false, false, false, false, false, false, false, false, false, false, false, false, false] rfl rfl (any_of HT_.out (by kernel_rfl)) (fun _ _ _ h => h) (Or.inl ⟨by rfl, ?_⟩) ?_ ?_
                  rotate_left
                  ·
                   intro w'
                   go_simp
                   with_reducible rfl
                  rotate_left
                  ·
                   simp only [Act.put, List.setIfInBounds_toArray, List.set_cons_zero, List.set_cons_succ, i64_w, i32_w]
                   rfl
                  refine pure_ (i := 2) (N := some 57) (v := ?_) (a' := ?_) #[true, false, true, false, false, false, false, false, false, false, false, false, false, false] rfl rfl (any_of HT_.out (by kernel_rfl)) (fun _ _ _ h => h) (Or.inl ⟨by rfl, ?_⟩) ?_ ?_
                  rotate_left
                  ·
                   intro w'
                   go_simp
                   with_reducible rfl
                  rotate_left
                  ·
                   simp only [Act.put, List.setIfInBounds_toArray, List.set_cons_zero, List.set_cons_succ, i64_w, i32_w]
                   rfl
                  refine pure_ (i := 4) (N := some 59) (v := ?_) (a' := ?_) #[true, false, true, false, true, false, false, false, false, false, false, false, false, false] rfl rfl (any_of HT_.out (by kernel_rfl)) (fun _ _ _ h => h) (Or.inl ⟨by rfl, ?_⟩) ?_ ?_
                  rotate_left
                  ·
                   intro w'
                   go_simp
                   with_reducible rfl
                  rotate_left
                  ·
                   simp only [Act.put, List.setIfInBounds_toArray, List.set_cons_zero, List.set_cons_succ, i64_w, i32_w]
                   rfl
                  refine pure_ (i := 5) (N := some 60) (v := ?_) (a' := ?_) #[true, false, true, false, true, true, false, false, false, false, false, false, false, false] rfl rfl (any_of HT_.out (by kernel_rfl)) (fun _ _ _ h => h) (Or.inl ⟨by rfl, ?_⟩) ?_ ?_
                  rotate_left
                  ·
                   intro w'
                   go_simp
                   with_reducible rfl
                  rotate_left
                  ·
                   simp only [Act.put, List.setIfInBounds_toArray, List.set_cons_zero, List.set_cons_succ, i64_w, i32_w]
                   rfl
                  refine pure_ (i := 6) (N := some 61) (v := ?_) (a' := ?_) #[true, false, true, false, true, true, true, false, false, false, false, false, false, false] rfl rfl (any_of HT_.out (by kernel_rfl)) (fun _ _ _ h => h) (Or.inl ⟨by rfl, ?_⟩) ?_ ?_
                  rotate_left
                  ·
                   intro w'
                   go_simp
                   with_reducible rfl
                  rotate_left
                  ·
                   simp only [Act.put, List.setIfInBounds_toArray, List.set_cons_zero, List.set_cons_succ, i64_w, i32_w]
                   rfl
                  refine pure_ (i := 7) (N := some 62) (v := ?_) (a' := ?_) #[true, false, true, false, true, true, true, true, false, false, false, false, false, false] rfl rfl (any_of HT_.out (by kernel_rfl)) (fun _ _ _ h => h) (Or.inl ⟨by rfl, ?_⟩) ?_ ?_
                  rotate_left
                  ·
                   intro w'
                   go_simp
                   with_reducible rfl
                  rotate_left
                  ·
                   simp only [Act.put, List.setIfInBounds_toArray, List.set_cons_zero, List.set_cons_succ, i64_w, i32_w]
                   rfl
                  refine pure_ (i := 9) (N := some 64) (v := ?_) (a' := ?_) #[true, false, true, false, true, true, true, true, false, true, false, false, false, false] rfl rfl (any_of HT_.out (by kernel_rfl)) (fun _ _ _ h => h) (Or.inl ⟨by rfl, ?_⟩) ?_ ?_
                  rotate_left
                  ·
                   intro w'
                   go_simp
                   with_reducible rfl
                  rotate_left
                  ·
                   simp only [Act.put, List.setIfInBounds_toArray, List.set_cons_zero, List.set_cons_succ, i64_w, i32_w]
                   rfl
                  refine take_ (i := 1) (N := some 56) (v := ?_) (a' := ?_) #[true, true, true, false, true, true, true, true, false, true, false, false, false, false] rfl rfl (take_ofW HT_.out HW_.out (by kernel_rfl)) (fun _ _ _ h => h) (Or.inl ⟨by rfl, ?_⟩) hHeld ?_ ?_
                  rotate_left
                  ·
                   rintro w' ⟨s0, s1, s2⟩
                   go_simp
                   with_reducible rfl
                  rotate_left
                  ·
                   simp only [Act.put, List.setIfInBounds_toArray, List.set_cons_zero, List.set_cons_succ, i64_w, i32_w]
                   rfl
                  refine take_ (i := 3) (N := some 58) (v := ?_) (a' := ?_) #[true, true, true, true, true, true, true, true, false, true, false, false, false, false] rfl rfl (take_ofW HT_.out HW_.out (by kernel_rfl)) (fun _ _ _ h => h) (Or.inl ⟨by rfl, ?_⟩) hHeld ?_ ?_
                  rotate_left
                  ·
                   rintro w' ⟨s0, s1, s2⟩
                   go_simp
                   with_reducible rfl
                  rotate_left
                  ·
                   simp only [Act.put, List.setIfInBounds_toArray, List.set_cons_zero, List.set_cons_succ, i64_w, i32_w]
                   rfl
                  refine take_ (i := 8) (N := some 63) (v := ?_) (a' := ?_) #[true, true, true, true, true, true, true, true, true, true, false, false, false, false] rfl rfl (take_ofW HT_.out HW_.out (by kernel_rfl)) (fun _ _ _ h => h) (Or.inl ⟨by rfl, ?_⟩) hHeld ?_ ?_
                  rotate_left
                  ·
                   rintro w' ⟨s0, s1, s2⟩
                   go_simp
                   with_reducible rfl
                  rotate_left
                  ·
                   simp only [Act.put, List.setIfInBounds_toArray, List.set_cons_zero, List.set_cons_succ, i64_w, i32_w]
                   rfl
                  refine pure_ (i := 10) (N := some 65) (v := ?_) (a' := ?_) #[true, true, true, true, true, true, true, true, true, true, true, false, false, false] rfl rfl (any_of HT_.out (by kernel_rfl)) (fun _ _ _ h => h) (Or.inl ⟨by rfl, ?_⟩) ?_ ?_
                  rotate_left
                  ·
                   intro w'
                   go_simp
                   with_reducible rfl
                  rotate_left
                  ·
                   simp only [Act.put, List.setIfInBounds_toArray, List.set_cons_zero, List.set_cons_succ, i64_w, i32_w]
                   rfl
                  refine pure_ (i := 11) (N := some 66) (v := ?_) (a' := ?_) #[true, true, true, true, true, true, true, true, true, true, true, true, false, false] rfl rfl (any_of HT_.out (by kernel_rfl)) (fun _ _ _ h => h) (Or.inl ⟨by rfl, ?_⟩) ?_ ?_
                  rotate_left
                  ·
                   intro w'
                   go_simp
                   with_reducible rfl
                  rotate_left
                  ·
                   simp only [Act.put, List.setIfInBounds_toArray, List.set_cons_zero, List.set_cons_succ, i64_w, i32_w]
                   rfl
                  refine pure_ (i := 12) (N := some 67) (v := ?_) (a' := ?_) #[true, true, true, true, true, true, true, true, true, true, true, true, true, false] rfl rfl (any_of HT_.out (by kernel_rfl)) (fun _ _ _ h => h) (Or.inl ⟨by rfl, ?_⟩) ?_ ?_
                  rotate_left
                  ·
                   intro w'
                   go_simp
                   with_reducible rfl
                  rotate_left
                  ·
                   simp only [Act.put, List.setIfInBounds_toArray, List.set_cons_zero, List.set_cons_succ, i64_w, i32_w]
                   rfl
                  refine one_ (i := 13) (N := none) #[true, true, true, true, true, true, true, true, true, true, true, true, true, true] rfl rfl (one_of HT_.out (by kernel_rfl)) (by decide) (fun K hK => ?_)
                  have hs39 : w38.cell? ⟨gb374, 0, none⟩ = some (.int .i64 0) := (blk_cell BK374.out 0).trans rfl
                  have hfs39 := blk_frozen BK374.out 0
                  have hns39_0 := NB372_374.out
                  have hns39_2 := NB376_374.out
                  have hms39_0 := NB374_372.out
                  have hms39_2 := NB374_376.out
                  have hs40 : w38.cell? ⟨gb374, 1, none⟩ = some (.int .i64 0) := (blk_cell BK374.out 1).trans rfl
                  have hfs40 := blk_frozen BK374.out 1
                  have hns40_0 := NB372_374.out
                  have hns40_2 := NB376_374.out
                  have hms40_0 := NB374_372.out
                  have hms40_2 := NB374_376.out
                  refine skip_ (w1 := ?_) (by rfl) rfl ?_ ?_
                  rotate_left
                  ·
                   go_simp
                   rfl
                  refine hK.out _ _ ⟨((cell_far (p := ⟨gb374, _, none⟩) NB376_374.out _).trans (((cell_far (p := ⟨gb374, _, none⟩) NB376_374.out _).trans (hHeld.1)))), ((cell_far (p := ⟨gb374, _, none⟩) NB376_374.out _).trans (((cell_far (p := ⟨gb374, _, none⟩) NB376_374.out _).trans (hHeld.2.1)))), ((cell_far (p := ⟨gb374, _, none⟩) (by first | exact Nat.ne_of_lt (Nat.lt_of_lt_of_le (by have := World.block_lt_of_cell? _ _ hw377_0; first | rwa [add_block] at this | exact this) GW374.out) | (rw [add_block]; exact Nat.ne_of_lt (Nat.lt_of_lt_of_le (by have := World.block_lt_of_cell? _ _ hw377_0; first | rwa [add_block] at this | exact this) GW374.out)) | (show (Addr.add _ _).block ≠ _; rw [add_block]; exact Nat.ne_of_lt (Nat.lt_of_lt_of_le (by have := World.block_lt_of_cell? _ _ hw377_0; first | rwa [add_block] at this | exact this) GW374.out)) | (dsimp only; exact Nat.ne_of_lt (Nat.lt_of_lt_of_le (by have := World.block_lt_of_cell? _ _ hw377_0; first | rwa [add_block] at this | exact this) GW374.out))) _).trans (((cell_far (p := ⟨gb374, _, none⟩) (by first | exact Nat.ne_of_lt (Nat.lt_of_lt_of_le (by have := World.block_lt_of_cell? _ _ hw377_0; first | rwa [add_block] at this | exact this) GW374.out) | (rw [add_block]; exact Nat.ne_of_lt (Nat.lt_of_lt_of_le (by have := World.block_lt_of_cell? _ _ hw377_0; first | rwa [add_block] at this | exact this) GW374.out)) | (show (Addr.add _ _).block ≠ _; rw [add_block]; exact Nat.ne_of_lt (Nat.lt_of_lt_of_le (by have := World.block_lt_of_cell? _ _ hw377_0; first | rwa [add_block] at this | exact this) GW374.out)) | (dsimp only; exact Nat.ne_of_lt (Nat.lt_of_lt_of_le (by have := World.block_lt_of_cell? _ _ hw377_0; first | rwa [add_block] at this | exact this) GW374.out))) _).trans (hHeld.2.2))))⟩ (fun hHeld => ?_)
                  clear hK K
                  refine done_ (done_of HT_.out (by kernel_rfl)) ?_
                  have hcz41_0 : w38.cell? ⟨gb374, 0, none⟩ = some (.int .i64 0) := (blk_cell BK374.out 0).trans rfl
                  have hcz41_1 : w38.cell? ⟨gb374, 1, none⟩ = some (.int .i64 0) := (blk_cell BK374.out 1).trans rfl
                  have hfz41_0 := blk_frozen BK374.out 0
                  have hfz41_1 := blk_frozen BK374.out 1
                  have hcz42_0 : w38.cell? ⟨gb376, 0, none⟩ = some (.int .i64 ((rd_T39 t367 (ji20)).f0)) := (blk_cell BK376.out 0).trans rfl
                  have hcz42_1 : w38.cell? ⟨gb376, 1, none⟩ = some (.int .i64 ((rd_T39 t367 (ji20)).f1)) := (blk_cell BK376.out 1).trans rfl
                  have hfz42_0 := blk_frozen BK376.out 0
                  have hfz42_1 := blk_frozen BK376.out 1
                  have hcz43_0 : w38.cell? ⟨gb372, 0, none⟩ = some (.int .i64 ((rd_T39 t367 x36_1).f0)) := (blk_cell BK372.out 0).trans rfl
                  have hcz43_1 : w38.cell? ⟨gb372, 1, none⟩ = some (.int .i64 ((rd_T39 t367 x36_1).f1)) := (blk_cell BK372.out 1).trans rfl
                  have hfz43_0 := blk_frozen BK372.out 0
                  have hfz43_1 := blk_frozen BK372.out 1
                  have bz1 := blk_put (cs' := #[.int .i64 ((rd_T39 t367 ji20).f0), .int .i64 0]) BK374.out 0 (.int .i64 ((rd_T39 t367 ji20).f0)) rfl
                  have bz2 := blk_put (cs' := #[.int .i64 ((rd_T39 t367 ji20).f0), .int .i64 (wrap64 ((rd_T39 t367 ji20).f1 + ji24))]) bz1 1 (.int .i64 (wrap64 ((rd_T39 t367 ji20).f1 + ji24))) rfl
                  have bz3 := blk_put (cs' := #[.int .i64 (wrap64 ((rd_T39 t367 ji20).f0 + 1)), .int .i64 (wrap64 ((rd_T39 t367 ji20).f1 + ji24))]) bz2 0 (.int .i64 (wrap64 ((rd_T39 t367 ji20).f0 + 1))) rfl
                  have bz4 := blk_put (cs' := #[.int .i64 (wrap64 ((rd_T39 t367 ji20).f0 + 1)), .int .i64 0]) bz3 1 (.int .i64 0) rfl
                  have hbz0 : ((((w38.setCell ⟨gb374, 0, none⟩ (.int .i64 ((rd_T39 t367 ji20).f0))).setCell ⟨gb374, 1, none⟩ (.int .i64 (wrap64 ((rd_T39 t367 ji20).f1 + ji24)))).setCell ⟨gb374, 0, none⟩ (.int .i64 (wrap64 ((rd_T39 t367 ji20).f0 + 1)))).setCell ⟨gb374, 1, none⟩ (.int .i64 0)).cell? ⟨gb374, 0, none⟩ = some (.int .i64 (wrap64 ((rd_T39 t367 ji20).f0 + 1))) := (blk_cell bz4 0).trans rfl
                  have hbz1 : ((((w38.setCell ⟨gb374, 0, none⟩ (.int .i64 ((rd_T39 t367 ji20).f0))).setCell ⟨gb374, 1, none⟩ (.int .i64 (wrap64 ((rd_T39 t367 ji20).f1 + ji24)))).setCell ⟨gb374, 0, none⟩ (.int .i64 (wrap64 ((rd_T39 t367 ji20).f0 + 1)))).setCell ⟨gb374, 1, none⟩ (.int .i64 0)).cell? ⟨gb374, 1, none⟩ = some (.int .i64 0) := (blk_cell bz4 1).trans rfl
                  clear bz1 bz2 bz3 bz4
                  try go_wp2
                  go_roundg k1
                  case measure => have := HK1.out; omega
                  case rel => exact ⟨(decide ((wrap64 (((rd_T39 t367 x36_1).f1) + (ji18))) ≤ a0)), (wrap64 (x36_1 + 1)), (by first | rfl | (simp; done) | (simp only [← hji18] <;> (first | rfl | simp)) | (simp [*]; done)), (by first | rfl | (simp; done) | (simp [*]; done)), H', ⟨by have := HK1.out; omega⟩, ⟨by (with_reducible repeat (first | apply Kd.R_alloc | apply Kd.R_drewN | apply Kd.R_drew)); exact Kd.R_mono (Kd.R_far (p := ⟨gb374, 1, none⟩) (Kd.R_far (p := ⟨gb374, 0, none⟩) (Kd.R_far (p := ⟨gb374, 1, none⟩) (Kd.R_far (p := ⟨gb374, 0, none⟩) (Kd.R_mono HO_6.out (fun k_ hk => (⟨hk, hk.2.1⟩ : _ ∧ k_ ≠ gb374))) (fun _ hk => hk.2) (.int .i64 ((rd_T39 t367 (ji20)).f0))) (fun _ hk => hk.2) (.int .i64 (wrap64 (((rd_T39 t367 (ji20)).f1) + (ji24))))) (fun _ hk => hk.2) (.int .i64 (wrap64 (((rd_T39 t367 (ji20)).f0) + 1)))) (fun _ hk => hk.2) (.int .i64 0)) (fun _ hk => trivial)⟩, ⟨by (with_reducible repeat (first | apply Kd.R_alloc | apply Kd.R_drewN | apply Kd.R_drew)); exact Kd.R_mono (Kd.R_far (p := ⟨gb374, 1, none⟩) (Kd.R_far (p := ⟨gb374, 0, none⟩) (Kd.R_far (p := ⟨gb374, 1, none⟩) (Kd.R_far (p := ⟨gb374, 0, none⟩) (Kd.R_mono HO_34.out (fun k_ hk => (⟨hk, hk.2.1⟩ : _ ∧ k_ ≠ gb374))) (fun _ hk => hk.2) (.int .i64 ((rd_T39 t367 (ji20)).f0))) (fun _ hk => hk.2) (.int .i64 (wrap64 (((rd_T39 t367 (ji20)).f1) + (ji24))))) (fun _ hk => hk.2) (.int .i64 (wrap64 (((rd_T39 t367 (ji20)).f0) + 1)))) (fun _ hk => hk.2) (.int .i64 0)) (fun _ hk => trivial)⟩, ⟨by repeat (first | (with_reducible first | exact HB.out | apply below_alloc | apply pw_below_drewN | apply below_drew1 | refine below_set ?_ GE372.out | refine below_set ?_ GE374.out | refine below_set ?_ GE376.out) | exact HB.out)⟩⟩
                 ·
                  rw [if_neg c27] at H
                  exact absurd H (by simp)
                ·
                 replace c26 := Bool.eq_false_iff.mpr c26
                 subst c26
                 have H1 : (none) = some r := by rw [if_neg (show ¬ (false = true) by decide)] at H; exact H
                 clear H
                 have H := H1
                 clear H1
                 exact absurd H (by simp)
               ·
                rw [if_neg c25] at H
                have c25b0 : decide (a0 < (wrap64 ((wrap64 (((rd_T39 t367 (ji20)).f1) + (ji24))) + (ji18)))) = false := decide_eq_false c25
                clear c25
                by_cases c44 : x5_1 = true
                ·
                 subst c44
                 have H1 : (if (((rd_T39 t367 x36_1).f0) == ((rd_T39 t367 (ji20)).f0) && (((rd_T39 t367 x36_1).f1) == (wrap64 (((rd_T39 t367 (ji20)).f1) + (ji24))))) = true then (formelaw24_GridCells.l0 k1 a0 l1 (decide ((wrap64 (((rd_T39 t367 x36_1).f1) + (ji18))) ≤ a0)) t367 t367 (t367.length : Int) (wrap64 (x36_1 + 1))) else (none)) = some r := by rw [if_pos rfl] at H; exact H
                 clear H
                 have H := H1
                 clear H1
                 by_cases c45 : (((rd_T39 t367 x36_1).f0) == ((rd_T39 t367 (ji20)).f0) && (((rd_T39 t367 x36_1).f1) == (wrap64 (((rd_T39 t367 (ji20)).f1) + (ji24))))) = true
                 ·
                  rw [if_pos c45] at H
                  have c45b0 : (((rd_T39 t367 x36_1).f0) == ((rd_T39 t367 (ji20)).f0) && (((rd_T39 t367 x36_1).f1) == (wrap64 (((rd_T39 t367 (ji20)).f1) + (ji24))))) = true := c45
                  (try (have c45b1 : decide (((rd_T39 t367 x36_1).f0) = ((rd_T39 t367 (ji20)).f0) && (((rd_T39 t367 x36_1).f1) == (wrap64 (((rd_T39 t367 (ji20)).f1) + (ji24))))) = true := by simpa using c45))
                  (try (have c45b2 : (((rd_T39 t367 x36_1).f0) == ((rd_T39 t367 (ji20)).f0) && (((rd_T39 t367 x36_1).f1) == (wrap64 (((rd_T39 t367 (ji20)).f1) + (ji24))))) = true := by simpa using c45))
                  clear c45
                  have H' := Aside0.mk H
                  clear H
                  have p371 : 0 ≤ (x36_1 : Int) := of_decide_eq_true (by first | (with_reducible assumption) | assumption)
                  have q371 : x36_1 < (t367.length : Int) := of_decide_eq_true (by first | (with_reducible assumption) | assumption)
                  obtain ⟨ad371, e371, hx371_0, hx371_1⟩ := at_T39 (Kd.R_reads' HO_34.out).2.2 x36_1 p371 q371
                  cases e371
                  replace p371 := eq_true p371
                  replace q371 := eq_true q371
                  try go_wp2_with (first | ((with_reducible refine gate_dst (N := 9) rfl ?_); (try (refine gate_guard (by rfl) ?_; dsimp only)); refine box_event ?hg (N := 9) ?hd (cs := #[.int .i64 0, .int .i64 0]) (t := 39) ?hr ?_; (case hd => rfl); (case hg => rfl); (case hr => first | (go_simp; done) | (go_simp; rfl)); intro gb372 hg w46 hbox hb; have n0_ := Aside0.mk (Kd.R_below (Kd.R_elderB (by (with_reducible repeat (first | apply Kd.R_alloc | apply Kd.R_drewN | apply Kd.R_drew)); exact HO_6.out) gb372 (Nat.le_of_eq hg.symm)) hb); have n1_ := Aside0.mk (Kd.R_below (Kd.R_elderB (by (with_reducible repeat (first | apply Kd.R_alloc | apply Kd.R_drewN | apply Kd.R_drew)); exact HO_34.out) gb372 (Nat.le_of_eq hg.symm)) hb); have n2_ := Aside0.mk (below_step (by repeat (first | (with_reducible first | exact HB.out | apply below_alloc | apply pw_below_drewN | apply below_drew1) | exact HB.out)) hb); have n3_ := Aside0.mk (hbox); have n4_ := Aside0.mk ((by rw [hg]; exact (below_size (by repeat (first | (with_reducible first | exact HB.out | apply below_alloc | apply pw_below_drewN | apply below_drew1) | exact HB.out))) : w.heap.size ≤ gb372)); have n5_ := Aside0.mk ((by rw [hg]; exact (below_size (by repeat (first | (with_reducible first | exact HB.out | apply below_alloc | apply pw_below_drewN | apply below_drew1) | exact HB.out))) : w.heap.size ≤ gb372)); clear HO_6; clear HO_34; clear HB; have HO_6 := n0_; have HO_34 := n1_; have HB := n2_; have BK372 := n3_; have GW372 := n4_; have GE372 := n5_; clear n0_ n1_ n2_ n3_ n4_ n5_; clear hb hbox hg; have hcz47_0 : w46.cell? ⟨gb372, 0, none⟩ = some (.int .i64 0) := (blk_cell BK372.out 0).trans rfl; have hcz47_1 : w46.cell? ⟨gb372, 1, none⟩ = some (.int .i64 0) := (blk_cell BK372.out 1).trans rfl; have hfz47_0 := blk_frozen BK372.out 0; have hfz47_1 := blk_frozen BK372.out 1; have p373 : 0 ≤ (x36_1 : Int) := of_decide_eq_true (by first | (with_reducible assumption) | assumption); have q373 : x36_1 < (l1.length : Int) := of_decide_eq_true (by first | (with_reducible assumption) | assumption); obtain ⟨ad373, e373, hx373_0⟩ := Kd.at_int HR1.out x36_1 p373 q373; cases e373; have hn373_0 : ad373.block ≠ gb372 := Nat.ne_of_lt (Nat.lt_of_lt_of_le (by have := World.block_lt_of_cell? _ _ hx373_0; first | rwa [add_block] at this | exact this) GW372.out); have hn373_1 : ad373.block ≠ gb372 := Nat.ne_of_lt (Nat.lt_of_lt_of_le (by have := World.block_lt_of_cell? _ _ hx373_0; first | rwa [add_block] at this | exact this) GW372.out); replace hx373_0 := (HB.out.cell (World.block_lt_of_cell? w _ hx373_0)).trans hx373_0; replace hx373_0 := (cell_far (p := ⟨gb372, 0, none⟩) (by first | (rw [add_block]; exact hn373_0) | (show (Addr.add _ _).block ≠ _; rw [add_block]; exact hn373_0) | exact hn373_0) (.int .i64 ((rd_T39 t367 x36_1).f0))).trans hx373_0; replace hx373_0 := (cell_far (p := ⟨gb372, 1, none⟩) (by first | (rw [add_block]; exact hn373_1) | (show (Addr.add _ _).block ≠ _; rw [add_block]; exact hn373_1) | exact hn373_1) (.int .i64 ((rd_T39 t367 x36_1).f1))).trans hx373_0; clear hn373_0; clear hn373_1; replace p373 := eq_true p373; replace q373 := eq_true q373) | ((with_reducible refine gate_dst (N := 11) rfl ?_); (try (refine gate_guard (by rfl) ?_; dsimp only)); refine box_event ?hg (N := 11) ?hd (cs := #[.int .i64 0, .int .i64 0]) (t := 39) ?hr ?_; (case hd => rfl); (case hg => rfl); (case hr => first | (go_simp; done) | (go_simp; rfl)); intro gb374 hg w48 hbox hb; have n0_ := Aside0.mk (Kd.R_below (Kd.R_elderB (by (with_reducible repeat (first | apply Kd.R_alloc | apply Kd.R_drewN | apply Kd.R_drew)); exact (Kd.R_mono (Kd.R_far (p := ⟨gb372, 1, none⟩) (Kd.R_far (p := ⟨gb372, 0, none⟩) (Kd.R_mono HO_6.out (fun k_ hk => (⟨hk, hk.2⟩ : _ ∧ k_ ≠ gb372))) (fun _ hk => hk.2) (.int .i64 ((rd_T39 t367 x36_1).f0))) (fun _ hk => hk.2) (.int .i64 ((rd_T39 t367 x36_1).f1))) (fun _ h_ => h_.1))) gb374 (Nat.le_of_eq hg.symm)) hb); have n1_ := Aside0.mk (Kd.R_below (Kd.R_elderB (by (with_reducible repeat (first | apply Kd.R_alloc | apply Kd.R_drewN | apply Kd.R_drew)); exact (Kd.R_mono (Kd.R_far (p := ⟨gb372, 1, none⟩) (Kd.R_far (p := ⟨gb372, 0, none⟩) (Kd.R_mono HO_34.out (fun k_ hk => (⟨hk, hk.2⟩ : _ ∧ k_ ≠ gb372))) (fun _ hk => hk.2) (.int .i64 ((rd_T39 t367 x36_1).f0))) (fun _ hk => hk.2) (.int .i64 ((rd_T39 t367 x36_1).f1))) (fun _ h_ => h_.1))) gb374 (Nat.le_of_eq hg.symm)) hb); have n2_ := Aside0.mk (blk_below (g := gb372) (o := .cells #[.int .i64 ((rd_T39 t367 x36_1).f0), .int .i64 ((rd_T39 t367 x36_1).f1)] 39 (0, 0)) (by (with_reducible repeat (first | refine blk_drewN ?_ _ | refine blk_drew ?_ | refine blk_alloc ?_ _)); refine blk_put (cs := #[.int .i64 ((rd_T39 t367 x36_1).f0), .int .i64 0]) ?_ 1 _ rfl; (with_reducible repeat (first | refine blk_drewN ?_ _ | refine blk_drew ?_ | refine blk_alloc ?_ _)); refine blk_put (cs := #[.int .i64 0, .int .i64 0]) ?_ 0 _ rfl; (with_reducible repeat (first | refine blk_drewN ?_ _ | refine blk_drew ?_ | refine blk_alloc ?_ _)); exact BK372.out) hb); have n3_ := Aside0.mk (below_step (by repeat (first | (with_reducible first | exact HB.out | apply below_alloc | apply pw_below_drewN | apply below_drew1 | refine below_set ?_ GE372.out) | exact HB.out)) hb); have n4_ := Aside0.mk (hbox); have n5_ := Aside0.mk ((by rw [hg]; exact (below_size (by repeat (first | (with_reducible first | exact HB.out | apply below_alloc | apply pw_below_drewN | apply below_drew1 | refine below_set ?_ GE372.out) | exact HB.out))) : w.heap.size ≤ gb374)); have n6_ := Aside0.mk ((by rw [hg]; exact (below_size (by repeat (first | (with_reducible first | exact HB.out | apply below_alloc | apply pw_below_drewN | apply below_drew1 | refine below_set ?_ GE372.out) | exact HB.out))) : w.heap.size ≤ gb374)); have n7_ := Aside0.mk ((by rw [hg]; exact Nat.ne_of_lt (blk_lt (g := gb372) (o := .cells #[.int .i64 ((rd_T39 t367 x36_1).f0), .int .i64 ((rd_T39 t367 x36_1).f1)] 39 (0, 0)) (by (with_reducible repeat (first | refine blk_drewN ?_ _ | refine blk_drew ?_ | refine blk_alloc ?_ _)); refine blk_put (cs := #[.int .i64 ((rd_T39 t367 x36_1).f0), .int .i64 0]) ?_ 1 _ rfl; (with_reducible repeat (first | refine blk_drewN ?_ _ | refine blk_drew ?_ | refine blk_alloc ?_ _)); refine blk_put (cs := #[.int .i64 0, .int .i64 0]) ?_ 0 _ rfl; (with_reducible repeat (first | refine blk_drewN ?_ _ | refine blk_drew ?_ | refine blk_alloc ?_ _)); exact BK372.out)) : gb372 ≠ gb374)); have n8_ := Aside0.mk ((by rw [hg]; exact Nat.ne_of_gt (blk_lt (g := gb372) (o := .cells #[.int .i64 ((rd_T39 t367 x36_1).f0), .int .i64 ((rd_T39 t367 x36_1).f1)] 39 (0, 0)) (by (with_reducible repeat (first | refine blk_drewN ?_ _ | refine blk_drew ?_ | refine blk_alloc ?_ _)); refine blk_put (cs := #[.int .i64 ((rd_T39 t367 x36_1).f0), .int .i64 0]) ?_ 1 _ rfl; (with_reducible repeat (first | refine blk_drewN ?_ _ | refine blk_drew ?_ | refine blk_alloc ?_ _)); refine blk_put (cs := #[.int .i64 0, .int .i64 0]) ?_ 0 _ rfl; (with_reducible repeat (first | refine blk_drewN ?_ _ | refine blk_drew ?_ | refine blk_alloc ?_ _)); exact BK372.out)) : gb374 ≠ gb372)); clear HO_6; clear HO_34; clear BK372; clear HB; have HO_6 := n0_; have HO_34 := n1_; have BK372 := n2_; have HB := n3_; have BK374 := n4_; have GW374 := n5_; have GE374 := n6_; have NB372_374 := n7_; have NB374_372 := n8_; clear n0_ n1_ n2_ n3_ n4_ n5_ n6_ n7_ n8_; clear hb hbox hg; have hnb49 := NB374_372.out; have hnc49 := NB372_374.out; have hcz50_0 : w48.cell? ⟨gb374, 0, none⟩ = some (.int .i64 0) := (blk_cell BK374.out 0).trans rfl; have hcz50_1 : w48.cell? ⟨gb374, 1, none⟩ = some (.int .i64 0) := (blk_cell BK374.out 1).trans rfl; have hfz50_0 := blk_frozen BK374.out 0; have hfz50_1 := blk_frozen BK374.out 1; have p375 : 0 ≤ ((ji20) : Int) := of_decide_eq_true (by first | (with_reducible assumption) | assumption); have q375 : (ji20) < (t367.length : Int) := of_decide_eq_true (by first | (with_reducible assumption) | assumption); obtain ⟨ad375, e375, hx375_0, hx375_1⟩ := at_T39 (Kd.R_reads' HO_6.out).2.2 (ji20) p375 q375; obtain rfl : ad371 = ad375 := (by injection e375); have hn375_0 : ad371.block ≠ gb374 := Kd.own_blk (by first | exact Kd.R_ne HO_6.out BK374.out (by decide) | exact (fun e_ => by have h_ := HO_6.out.1 _ e_.symm; simp at h_)); have hn375_1 : ad371.block ≠ gb374 := Kd.own_blk (by first | exact Kd.R_ne HO_6.out BK374.out (by decide) | exact (fun e_ => by have h_ := HO_6.out.1 _ e_.symm; simp at h_)); replace hx375_0 := (cell_far (p := ⟨gb374, 0, none⟩) (by first | (rw [add_block]; exact hn375_0) | (show (Addr.add _ _).block ≠ _; rw [add_block]; exact hn375_0) | exact hn375_0) (.int .i64 0)).trans hx375_0; replace hx375_1 := (cell_far (p := ⟨gb374, 0, none⟩) (by first | (rw [add_block]; exact hn375_0) | (show (Addr.add _ _).block ≠ _; rw [add_block]; exact hn375_0) | exact hn375_0) (.int .i64 0)).trans hx375_1; replace hx375_0 := (cell_far (p := ⟨gb374, 1, none⟩) (by first | (rw [add_block]; exact hn375_1) | (show (Addr.add _ _).block ≠ _; rw [add_block]; exact hn375_1) | exact hn375_1) (.int .i64 0)).trans hx375_0; replace hx375_1 := (cell_far (p := ⟨gb374, 1, none⟩) (by first | (rw [add_block]; exact hn375_1) | (show (Addr.add _ _).block ≠ _; rw [add_block]; exact hn375_1) | exact hn375_1) (.int .i64 0)).trans hx375_1; clear hn375_0; clear hn375_1; replace p375 := eq_true p375; replace q375 := eq_true q375) | ((with_reducible refine gate_dst (N := 12) rfl ?_); (try (refine gate_guard (by rfl) ?_; dsimp only)); refine box_event ?hg (N := 12) ?hd (cs := #[.int .i64 0, .int .i64 0]) (t := 39) ?hr ?_; (case hd => rfl); (case hg => rfl); (case hr => first | (go_simp; done) | (go_simp; rfl)); intro gb376 hg w51 hbox hb; have n0_ := Aside0.mk (Kd.R_below (Kd.R_elderB (by (with_reducible repeat (first | apply Kd.R_alloc | apply Kd.R_drewN | apply Kd.R_drew)); exact (Kd.R_mono (Kd.R_far (p := ⟨gb374, 1, none⟩) (Kd.R_far (p := ⟨gb374, 0, none⟩) (Kd.R_mono HO_6.out (fun k_ hk => (⟨hk, hk.2⟩ : _ ∧ k_ ≠ gb374))) (fun _ hk => hk.2) (.int .i64 0)) (fun _ hk => hk.2) (.int .i64 0)) (fun _ h_ => h_.1))) gb376 (Nat.le_of_eq hg.symm)) hb); have n1_ := Aside0.mk (Kd.R_below (Kd.R_elderB (by (with_reducible repeat (first | apply Kd.R_alloc | apply Kd.R_drewN | apply Kd.R_drew)); exact (Kd.R_mono (Kd.R_far (p := ⟨gb374, 1, none⟩) (Kd.R_far (p := ⟨gb374, 0, none⟩) (Kd.R_mono HO_34.out (fun k_ hk => (⟨hk, hk.2⟩ : _ ∧ k_ ≠ gb374))) (fun _ hk => hk.2) (.int .i64 0)) (fun _ hk => hk.2) (.int .i64 0)) (fun _ h_ => h_.1))) gb376 (Nat.le_of_eq hg.symm)) hb); have n2_ := Aside0.mk (blk_below (g := gb372) (o := .cells #[.int .i64 ((rd_T39 t367 x36_1).f0), .int .i64 ((rd_T39 t367 x36_1).f1)] 39 (0, 0)) (by (with_reducible repeat (first | refine blk_drewN ?_ _ | refine blk_drew ?_ | refine blk_alloc ?_ _)); refine blk_far ?_ NB372_374.out _; (with_reducible repeat (first | refine blk_drewN ?_ _ | refine blk_drew ?_ | refine blk_alloc ?_ _)); refine blk_far ?_ NB372_374.out _; (with_reducible repeat (first | refine blk_drewN ?_ _ | refine blk_drew ?_ | refine blk_alloc ?_ _)); exact BK372.out) hb); have n3_ := Aside0.mk (blk_below (g := gb374) (o := .cells #[.int .i64 0, .int .i64 0] 39 (0, 0)) (by (with_reducible repeat (first | refine blk_drewN ?_ _ | refine blk_drew ?_ | refine blk_alloc ?_ _)); refine blk_put (cs := #[.int .i64 0, .int .i64 0]) ?_ 1 _ rfl; (with_reducible repeat (first | refine blk_drewN ?_ _ | refine blk_drew ?_ | refine blk_alloc ?_ _)); refine blk_put (cs := #[.int .i64 0, .int .i64 0]) ?_ 0 _ rfl; (with_reducible repeat (first | refine blk_drewN ?_ _ | refine blk_drew ?_ | refine blk_alloc ?_ _)); exact BK374.out) hb); have n4_ := Aside0.mk (below_step (by repeat (first | (with_reducible first | exact HB.out | apply below_alloc | apply pw_below_drewN | apply below_drew1 | refine below_set ?_ GE372.out | refine below_set ?_ GE374.out) | exact HB.out)) hb); have n5_ := Aside0.mk (hbox); have n6_ := Aside0.mk ((by rw [hg]; exact (below_size (by repeat (first | (with_reducible first | exact HB.out | apply below_alloc | apply pw_below_drewN | apply below_drew1 | refine below_set ?_ GE372.out | refine below_set ?_ GE374.out) | exact HB.out))) : w.heap.size ≤ gb376)); have n7_ := Aside0.mk ((by rw [hg]; exact (below_size (by repeat (first | (with_reducible first | exact HB.out | apply below_alloc | apply pw_below_drewN | apply below_drew1 | refine below_set ?_ GE372.out | refine below_set ?_ GE374.out) | exact HB.out))) : w.heap.size ≤ gb376)); have n8_ := Aside0.mk ((by rw [hg]; exact Nat.ne_of_lt (blk_lt (g := gb372) (o := .cells #[.int .i64 ((rd_T39 t367 x36_1).f0), .int .i64 ((rd_T39 t367 x36_1).f1)] 39 (0, 0)) (by (with_reducible repeat (first | refine blk_drewN ?_ _ | refine blk_drew ?_ | refine blk_alloc ?_ _)); refine blk_far ?_ NB372_374.out _; (with_reducible repeat (first | refine blk_drewN ?_ _ | refine blk_drew ?_ | refine blk_alloc ?_ _)); refine blk_far ?_ NB372_374.out _; (with_reducible repeat (first | refine blk_drewN ?_ _ | refine blk_drew ?_ | refine blk_alloc ?_ _)); exact BK372.out)) : gb372 ≠ gb376)); have n9_ := Aside0.mk ((by rw [hg]; exact Nat.ne_of_gt (blk_lt (g := gb372) (o := .cells #[.int .i64 ((rd_T39 t367 x36_1).f0), .int .i64 ((rd_T39 t367 x36_1).f1)] 39 (0, 0)) (by (with_reducible repeat (first | refine blk_drewN ?_ _ | refine blk_drew ?_ | refine blk_alloc ?_ _)); refine blk_far ?_ NB372_374.out _; (with_reducible repeat (first | refine blk_drewN ?_ _ | refine blk_drew ?_ | refine blk_alloc ?_ _)); refine blk_far ?_ NB372_374.out _; (with_reducible repeat (first | refine blk_drewN ?_ _ | refine blk_drew ?_ | refine blk_alloc ?_ _)); exact BK372.out)) : gb376 ≠ gb372)); have n10_ := Aside0.mk ((by rw [hg]; exact Nat.ne_of_lt (blk_lt (g := gb374) (o := .cells #[.int .i64 0, .int .i64 0] 39 (0, 0)) (by (with_reducible repeat (first | refine blk_drewN ?_ _ | refine blk_drew ?_ | refine blk_alloc ?_ _)); refine blk_put (cs := #[.int .i64 0, .int .i64 0]) ?_ 1 _ rfl; (with_reducible repeat (first | refine blk_drewN ?_ _ | refine blk_drew ?_ | refine blk_alloc ?_ _)); refine blk_put (cs := #[.int .i64 0, .int .i64 0]) ?_ 0 _ rfl; (with_reducible repeat (first | refine blk_drewN ?_ _ | refine blk_drew ?_ | refine blk_alloc ?_ _)); exact BK374.out)) : gb374 ≠ gb376)); have n11_ := Aside0.mk ((by rw [hg]; exact Nat.ne_of_gt (blk_lt (g := gb374) (o := .cells #[.int .i64 0, .int .i64 0] 39 (0, 0)) (by (with_reducible repeat (first | refine blk_drewN ?_ _ | refine blk_drew ?_ | refine blk_alloc ?_ _)); refine blk_put (cs := #[.int .i64 0, .int .i64 0]) ?_ 1 _ rfl; (with_reducible repeat (first | refine blk_drewN ?_ _ | refine blk_drew ?_ | refine blk_alloc ?_ _)); refine blk_put (cs := #[.int .i64 0, .int .i64 0]) ?_ 0 _ rfl; (with_reducible repeat (first | refine blk_drewN ?_ _ | refine blk_drew ?_ | refine blk_alloc ?_ _)); exact BK374.out)) : gb376 ≠ gb374)); clear HO_6; clear HO_34; clear BK372; clear BK374; clear HB; have HO_6 := n0_; have HO_34 := n1_; have BK372 := n2_; have BK374 := n3_; have HB := n4_; have BK376 := n5_; have GW376 := n6_; have GE376 := n7_; have NB372_376 := n8_; have NB376_372 := n9_; have NB374_376 := n10_; have NB376_374 := n11_; clear n0_ n1_ n2_ n3_ n4_ n5_ n6_ n7_ n8_ n9_ n10_ n11_; clear hb hbox hg; have hnb52 := NB376_372.out; have hnc52 := NB372_376.out; have hnb53 := NB376_374.out; have hnc53 := NB374_376.out; have hcz54_0 : w51.cell? ⟨gb376, 0, none⟩ = some (.int .i64 0) := (blk_cell BK376.out 0).trans rfl; have hcz54_1 : w51.cell? ⟨gb376, 1, none⟩ = some (.int .i64 0) := (blk_cell BK376.out 1).trans rfl; have hfz54_0 := blk_frozen BK376.out 0; have hfz54_1 := blk_frozen BK376.out 1))
                  have n0_ : Aside0 (Kd.R k39 39 ((w51.setCell ⟨gb376, 0, none⟩ (.int .i64 ((rd_T39 t367 (ji20)).f0))).setCell ⟨gb376, 1, none⟩ (.int .i64 ((rd_T39 t367 (ji20)).f1))) w.heap.size (fun k_ => k_ ≠ gb372 ∧ k_ ≠ gb374 ∧ k_ ≠ gb376) (.slice (some ad371) t367.length co13) t367) := ⟨by (with_reducible repeat (first | apply Kd.R_alloc | apply Kd.R_drewN | apply Kd.R_drew)); exact Kd.R_mono (Kd.R_far (p := ⟨gb376, 1, none⟩) (Kd.R_far (p := ⟨gb376, 0, none⟩) (Kd.R_mono HO_6.out (fun k_ hk => (⟨hk, hk.2⟩ : _ ∧ k_ ≠ gb376))) (fun _ hk => hk.2) (.int .i64 ((rd_T39 t367 (ji20)).f0))) (fun _ hk => hk.2) (.int .i64 ((rd_T39 t367 (ji20)).f1))) (fun _ hk => ⟨hk.1.1.1.2, ⟨hk.1.1.2, hk.1.2⟩⟩)⟩
                  have n1_ : Aside0 (Kd.R k39 39 ((w51.setCell ⟨gb376, 0, none⟩ (.int .i64 ((rd_T39 t367 (ji20)).f0))).setCell ⟨gb376, 1, none⟩ (.int .i64 ((rd_T39 t367 (ji20)).f1))) w.heap.size (fun k_ => k_ ≠ gb372 ∧ k_ ≠ gb374 ∧ k_ ≠ gb376) (.slice (some ad371) t367.length co13) t367) := ⟨by (with_reducible repeat (first | apply Kd.R_alloc | apply Kd.R_drewN | apply Kd.R_drew)); exact Kd.R_mono (Kd.R_far (p := ⟨gb376, 1, none⟩) (Kd.R_far (p := ⟨gb376, 0, none⟩) (Kd.R_mono HO_34.out (fun k_ hk => (⟨hk, hk.2⟩ : _ ∧ k_ ≠ gb376))) (fun _ hk => hk.2) (.int .i64 ((rd_T39 t367 (ji20)).f0))) (fun _ hk => hk.2) (.int .i64 ((rd_T39 t367 (ji20)).f1))) (fun _ hk => ⟨hk.1.1.1.2, ⟨hk.1.1.2, hk.1.2⟩⟩)⟩
                  have n2_ : Aside0 (((w51.setCell ⟨gb376, 0, none⟩ (.int .i64 ((rd_T39 t367 (ji20)).f0))).setCell ⟨gb376, 1, none⟩ (.int .i64 ((rd_T39 t367 (ji20)).f1))).heap[gb372]? = some (.cells #[.int .i64 ((rd_T39 t367 x36_1).f0), .int .i64 ((rd_T39 t367 x36_1).f1)] 39 (0, 0))) := ⟨by (with_reducible repeat (first | refine blk_drewN ?_ _ | refine blk_drew ?_ | refine blk_alloc ?_ _)); refine blk_far ?_ NB372_376.out _; (with_reducible repeat (first | refine blk_drewN ?_ _ | refine blk_drew ?_ | refine blk_alloc ?_ _)); refine blk_far ?_ NB372_376.out _; (with_reducible repeat (first | refine blk_drewN ?_ _ | refine blk_drew ?_ | refine blk_alloc ?_ _)); exact BK372.out⟩
                  have n3_ : Aside0 (((w51.setCell ⟨gb376, 0, none⟩ (.int .i64 ((rd_T39 t367 (ji20)).f0))).setCell ⟨gb376, 1, none⟩ (.int .i64 ((rd_T39 t367 (ji20)).f1))).heap[gb374]? = some (.cells #[.int .i64 0, .int .i64 0] 39 (0, 0))) := ⟨by (with_reducible repeat (first | refine blk_drewN ?_ _ | refine blk_drew ?_ | refine blk_alloc ?_ _)); refine blk_far ?_ NB374_376.out _; (with_reducible repeat (first | refine blk_drewN ?_ _ | refine blk_drew ?_ | refine blk_alloc ?_ _)); refine blk_far ?_ NB374_376.out _; (with_reducible repeat (first | refine blk_drewN ?_ _ | refine blk_drew ?_ | refine blk_alloc ?_ _)); exact BK374.out⟩
                  have n4_ : Aside0 (((w51.setCell ⟨gb376, 0, none⟩ (.int .i64 ((rd_T39 t367 (ji20)).f0))).setCell ⟨gb376, 1, none⟩ (.int .i64 ((rd_T39 t367 (ji20)).f1))).heap[gb376]? = some (.cells #[.int .i64 ((rd_T39 t367 (ji20)).f0), .int .i64 ((rd_T39 t367 (ji20)).f1)] 39 (0, 0))) := ⟨by (with_reducible repeat (first | refine blk_drewN ?_ _ | refine blk_drew ?_ | refine blk_alloc ?_ _)); refine blk_put (cs := #[.int .i64 ((rd_T39 t367 (ji20)).f0), .int .i64 0]) ?_ 1 _ rfl; (with_reducible repeat (first | refine blk_drewN ?_ _ | refine blk_drew ?_ | refine blk_alloc ?_ _)); refine blk_put (cs := #[.int .i64 0, .int .i64 0]) ?_ 0 _ rfl; (with_reducible repeat (first | refine blk_drewN ?_ _ | refine blk_drew ?_ | refine blk_alloc ?_ _)); exact BK376.out⟩
                  have n5_ : Aside0 (Below w.heap.size w ((w51.setCell ⟨gb376, 0, none⟩ (.int .i64 ((rd_T39 t367 (ji20)).f0))).setCell ⟨gb376, 1, none⟩ (.int .i64 ((rd_T39 t367 (ji20)).f1)))) := ⟨by repeat (first | (with_reducible first | exact HB.out | apply below_alloc | apply pw_below_drewN | apply below_drew1 | refine below_set ?_ GE372.out | refine below_set ?_ GE374.out | refine below_set ?_ GE376.out) | exact HB.out)⟩
                  (try clear HO_6)
                  (try clear HO_34)
                  (try clear BK372)
                  (try clear BK374)
                  (try clear BK376)
                  (try clear HB)
                  generalize ((w51.setCell ⟨gb376, 0, none⟩ (.int .i64 ((rd_T39 t367 (ji20)).f0))).setCell ⟨gb376, 1, none⟩ (.int .i64 ((rd_T39 t367 (ji20)).f1))) = w55 at n0_ n1_ n2_ n3_ n4_ n5_ ⊢
                  have HO_6 := n0_
                  have HO_34 := n1_
                  have BK372 := n2_
                  have BK374 := n3_
                  have BK376 := n4_
                  have HB := n5_
                  clear n0_ n1_ n2_ n3_ n4_ n5_
                  have n0_ := Aside0.mk (Kd.R_drew HO_6.out)
                  have n1_ := Aside0.mk (Kd.R_drew HO_34.out)
                  have n2_ := Aside0.mk (blk_drew BK372.out)
                  have n3_ := Aside0.mk (blk_drew BK374.out)
                  have n4_ := Aside0.mk (blk_drew BK376.out)
                  have n5_ := Aside0.mk (below_drew1 HB.out)
                  clear HO_6
                  clear HO_34
                  clear BK372
                  clear BK374
                  clear BK376
                  clear HB
                  have HO_6 := n0_
                  have HO_34 := n1_
                  have BK372 := n2_
                  have BK374 := n3_
                  have BK376 := n4_
                  have HB := n5_
                  clear n0_ n1_ n2_ n3_ n4_ n5_
                  have p377 : 0 ≤ ((ji20) : Int) := of_decide_eq_true (by first | (with_reducible assumption) | assumption)
                  have q377 : (ji20) < (l1.length : Int) := of_decide_eq_true (by first | (with_reducible assumption) | assumption)
                  obtain ⟨ad377, e377, hx377_0⟩ := Kd.at_int HR1.out (ji20) p377 q377
                  have hw377_0 := hx377_0
                  obtain rfl : ad373 = ad377 := (by injection e377)
                  replace hx377_0 := (HB.out.cell (World.block_lt_of_cell? w _ hx377_0)).trans hx377_0
                  replace p377 := eq_true p377
                  replace q377 := eq_true q377
                  refine start_ (n := 14) (S := fun w' => w'.cell? ⟨gb376, 0, none⟩ = some (.int .i64 ((rd_T39 t367 (ji20)).f0)) ∧ w'.cell? ⟨gb376, 1, none⟩ = some (.int .i64 ((rd_T39 t367 (ji20)).f1)) ∧ w'.cell? (ad373.add ((ji20)).toNat) = some (.int .i64 (rd l1 (ji20)))) (ds := []) #[false, false, false, false, false, false, false, false, false, false, false, false, false, false] (by kernel_rfl) rfl rfl ⟨(blk_cell BK376.out 0).trans rfl, (blk_cell BK376.out 1).trans rfl, ((HB.out.cell (World.block_lt_of_cell? w _ hw377_0)).trans hw377_0)⟩ (fun hHeld => ?_); refine with_tabW formelaw24_GridCells.tab14 formelaw24_GridCells.bits14 (fun HT_ HW_ => ?_)
                  generalize w55.drew = w56 at HO_6 HO_34 BK372 BK374 BK376 HB hx377_0 hHeld ⊢
                  refine pure_ (i := 0) (N := some 55) (v := ?_) (a' := ?_) #[true, false, false, false, false, false, false, false, false, false, false, false, false, false] rfl rfl (any_of HT_.out (by kernel_rfl)) (fun _ _ _ h => h) (Or.inl ⟨by rfl, ?_⟩) ?_ ?_
                  rotate_left
                  ·
                   intro w'
                   go_simp
                   with_reducible rfl
                  rotate_left
                  ·
                   simp only [Act.put, List.setIfInBounds_toArray, List.set_cons_zero, List.set_cons_succ, i64_w, i32_w]
                   rfl
                  refine pure_ (i := 2) (N := some 57) (v := ?_) (a' := ?_) #[true, false, true, false, false, false, false, false, false, false, false, false, false, false] rfl rfl (any_of HT_.out (by kernel_rfl)) (fun _ _ _ h => h) (Or.inl ⟨by rfl, ?_⟩) ?_ ?_
                  rotate_left
                  ·
                   intro w'
                   go_simp
                   with_reducible rfl
                  rotate_left
                  ·
                   simp only [Act.put, List.setIfInBounds_toArray, List.set_cons_zero, List.set_cons_succ, i64_w, i32_w]
                   rfl
                  refine pure_ (i := 4) (N := some 59) (v := ?_) (a' := ?_) #[true, false, true, false, true, false, false, false, false, false, false, false, false, false] rfl rfl (any_of HT_.out (by kernel_rfl)) (fun _ _ _ h => h) (Or.inl ⟨by rfl, ?_⟩) ?_ ?_
                  rotate_left
                  ·
                   intro w'
                   go_simp
                   with_reducible rfl
                  rotate_left
                  ·
                   simp only [Act.put, List.setIfInBounds_toArray, List.set_cons_zero, List.set_cons_succ, i64_w, i32_w]
                   rfl
                  refine pure_ (i := 5) (N := some 60) (v := ?_) (a' := ?_) #[true, false, true, false, true, true, false, false, false, false, false, false, false, false] rfl rfl (any_of HT_.out (by kernel_rfl)) (fun _ _ _ h => h) (Or.inl ⟨by rfl, ?_⟩) ?_ ?_
                  rotate_left
                  ·
                   intro w'
                   go_simp
                   with_reducible rfl
                  rotate_left
                  ·
                   simp only [Act.put, List.setIfInBounds_toArray, List.set_cons_zero, List.set_cons_succ, i64_w, i32_w]
                   rfl
                  refine pure_ (i := 6) (N := some 61) (v := ?_) (a' := ?_) #[true, false, true, false, true, true, true, false, false, false, false, false, false, false] rfl rfl (any_of HT_.out (by kernel_rfl)) (fun _ _ _ h => h) (Or.inl ⟨by rfl, ?_⟩) ?_ ?_
                  rotate_left
                  ·
                   intro w'
                   go_simp
                   with_reducible rfl
                  rotate_left
                  ·
                   simp only [Act.put, List.setIfInBounds_toArray, List.set_cons_zero, List.set_cons_succ, i64_w, i32_w]
                   rfl
                  refine pure_ (i := 7) (N := some 62) (v := ?_) (a' := ?_) #[true, false, true, false, true, true, true, true, false, false, false, false, false, false] rfl rfl (any_of HT_.out (by kernel_rfl)) (fun _ _ _ h => h) (Or.inl ⟨by rfl, ?_⟩) ?_ ?_
                  rotate_left
                  ·
                   intro w'
                   go_simp
                   with_reducible rfl
                  rotate_left
                  ·
                   simp only [Act.put, List.setIfInBounds_toArray, List.set_cons_zero, List.set_cons_succ, i64_w, i32_w]
                   rfl
                  refine pure_ (i := 9) (N := some 64) (v := ?_) (a' := ?_) #[true, false, true, false, true, true, true, true, false, true, false, false, false, false] rfl rfl (any_of HT_.out (by kernel_rfl)) (fun _ _ _ h => h) (Or.inl ⟨by rfl, ?_⟩) ?_ ?_
                  rotate_left
                  ·
                   intro w'
                   go_simp
                   with_reducible rfl
                  rotate_left
                  ·
                   simp only [Act.put, List.setIfInBounds_toArray, List.set_cons_zero, List.set_cons_succ, i64_w, i32_w]
                   rfl
                  refine take_ (i := 1) (N := some 56) (v := ?_) (a' := ?_) #[true, true, true, false, true, true, true, true, false, true, false, false, false, false] rfl rfl (take_ofW HT_.out HW_.out (by kernel_rfl)) (fun _ _ _ h => h) (Or.inl ⟨by rfl, ?_⟩) hHeld ?_ ?_
                  rotate_left
                  ·
                   rintro w' ⟨s0, s1, s2⟩
                   go_simp
                   with_reducible rfl
                  rotate_left
                  ·
                   simp only [Act.put, List.setIfInBounds_toArray, List.set_cons_zero, List.set_cons_succ, i64_w, i32_w]
                   rfl
                  refine take_ (i := 3) (N := some 58) (v := ?_) (a' := ?_) #[true, true, true, true, true, true, true, true, false, true, false, false, false, false] rfl rfl (take_ofW HT_.out HW_.out (by kernel_rfl)) (fun _ _ _ h => h) (Or.inl ⟨by rfl, ?_⟩) hHeld ?_ ?_
                  rotate_left
                  ·
                   rintro w' ⟨s0, s1, s2⟩
                   go_simp
                   with_reducible rfl
                  rotate_left
                  ·
                   simp only [Act.put, List.setIfInBounds_toArray, List.set_cons_zero, List.set_cons_succ, i64_w, i32_w]
                   rfl
                  refine take_ (i := 8) (N := some 63) (v := ?_) (a' := ?_) #[true, true, true, true, true, true, true, true, true, true, false, false, false, false] rfl rfl (take_ofW HT_.out HW_.out (by kernel_rfl)) (fun _ _ _ h => h) (Or.inl ⟨by rfl, ?_⟩) hHeld ?_ ?_
                  rotate_left
                  ·
                   rintro w' ⟨s0, s1, s2⟩
                   go_simp
                   with_reducible rfl
                  rotate_left
                  ·
                   simp only [Act.put, List.setIfInBounds_toArray, List.set_cons_zero, List.set_cons_succ, i64_w, i32_w]
                   rfl
                  refine pure_ (i := 10) (N := some 65) (v := ?_) (a' := ?_) #[true, true, true, true, true, true, true, true, true, true, true, false, false, false] rfl rfl (any_of HT_.out (by kernel_rfl)) (fun _ _ _ h => h) (Or.inl ⟨by rfl, ?_⟩) ?_ ?_
                  rotate_left
                  ·
                   intro w'
                   go_simp
                   with_reducible rfl
                  rotate_left
                  ·
                   simp only [Act.put, List.setIfInBounds_toArray, List.set_cons_zero, List.set_cons_succ, i64_w, i32_w]
                   rfl
                  refine pure_ (i := 11) (N := some 66) (v := ?_) (a' := ?_) #[true, true, true, true, true, true, true, true, true, true, true, true, false, false] rfl rfl (any_of HT_.out (by kernel_rfl)) (fun _ _ _ h => h) (Or.inl ⟨by rfl, ?_⟩) ?_ ?_
                  rotate_left
                  ·
                   intro w'
                   go_simp
                   with_reducible rfl
                  rotate_left
                  ·
                   simp only [Act.put, List.setIfInBounds_toArray, List.set_cons_zero, List.set_cons_succ, i64_w, i32_w]
                   rfl
                  refine pure_ (i := 12) (N := some 67) (v := ?_) (a' := ?_) #[true, true, true, true, true, true, true, true, true, true, true, true, true, false] rfl rfl (any_of HT_.out (by kernel_rfl)) (fun _ _ _ h => h) (Or.inl ⟨by rfl, ?_⟩) ?_ ?_
                  rotate_left
                  ·
                   intro w'
                   go_simp
                   with_reducible rfl
                  rotate_left
                  ·
                   simp only [Act.put, List.setIfInBounds_toArray, List.set_cons_zero, List.set_cons_succ, i64_w, i32_w]
                   rfl
                  refine one_ (i := 13) (N := none) #[true, true, true, true, true, true, true, true, true, true, true, true, true, true] rfl rfl (one_of HT_.out (by kernel_rfl)) (by decide) (fun K hK => ?_)
                  have hs57 : w56.cell? ⟨gb374, 0, none⟩ = some (.int .i64 0) := (blk_cell BK374.out 0).trans rfl
                  have hfs57 := blk_frozen BK374.out 0
                  have hns57_0 := NB372_374.out
                  have hns57_2 := NB376_374.out
                  have hms57_0 := NB374_372.out
                  have hms57_2 := NB374_376.out
                  have hs58 : w56.cell? ⟨gb374, 1, none⟩ = some (.int .i64 0) := (blk_cell BK374.out 1).trans rfl
                  have hfs58 := blk_frozen BK374.out 1
                  have hns58_0 := NB372_374.out
                  have hns58_2 := NB376_374.out
                  have hms58_0 := NB374_372.out
                  have hms58_2 := NB374_376.out
                  refine skip_ (w1 := ?_) (by rfl) rfl ?_ ?_
                  rotate_left
                  ·
                   go_simp
                   rfl
                  refine hK.out _ _ ⟨((cell_far (p := ⟨gb374, _, none⟩) NB376_374.out _).trans (((cell_far (p := ⟨gb374, _, none⟩) NB376_374.out _).trans (hHeld.1)))), ((cell_far (p := ⟨gb374, _, none⟩) NB376_374.out _).trans (((cell_far (p := ⟨gb374, _, none⟩) NB376_374.out _).trans (hHeld.2.1)))), ((cell_far (p := ⟨gb374, _, none⟩) (by first | exact Nat.ne_of_lt (Nat.lt_of_lt_of_le (by have := World.block_lt_of_cell? _ _ hw377_0; first | rwa [add_block] at this | exact this) GW374.out) | (rw [add_block]; exact Nat.ne_of_lt (Nat.lt_of_lt_of_le (by have := World.block_lt_of_cell? _ _ hw377_0; first | rwa [add_block] at this | exact this) GW374.out)) | (show (Addr.add _ _).block ≠ _; rw [add_block]; exact Nat.ne_of_lt (Nat.lt_of_lt_of_le (by have := World.block_lt_of_cell? _ _ hw377_0; first | rwa [add_block] at this | exact this) GW374.out)) | (dsimp only; exact Nat.ne_of_lt (Nat.lt_of_lt_of_le (by have := World.block_lt_of_cell? _ _ hw377_0; first | rwa [add_block] at this | exact this) GW374.out))) _).trans (((cell_far (p := ⟨gb374, _, none⟩) (by first | exact Nat.ne_of_lt (Nat.lt_of_lt_of_le (by have := World.block_lt_of_cell? _ _ hw377_0; first | rwa [add_block] at this | exact this) GW374.out) | (rw [add_block]; exact Nat.ne_of_lt (Nat.lt_of_lt_of_le (by have := World.block_lt_of_cell? _ _ hw377_0; first | rwa [add_block] at this | exact this) GW374.out)) | (show (Addr.add _ _).block ≠ _; rw [add_block]; exact Nat.ne_of_lt (Nat.lt_of_lt_of_le (by have := World.block_lt_of_cell? _ _ hw377_0; first | rwa [add_block] at this | exact this) GW374.out)) | (dsimp only; exact Nat.ne_of_lt (Nat.lt_of_lt_of_le (by have := World.block_lt_of_cell? _ _ hw377_0; first | rwa [add_block] at this | exact this) GW374.out))) _).trans (hHeld.2.2))))⟩ (fun hHeld => ?_)
                  clear hK K
                  refine done_ (done_of HT_.out (by kernel_rfl)) ?_
                  have hcz59_0 : w56.cell? ⟨gb374, 0, none⟩ = some (.int .i64 0) := (blk_cell BK374.out 0).trans rfl
                  have hcz59_1 : w56.cell? ⟨gb374, 1, none⟩ = some (.int .i64 0) := (blk_cell BK374.out 1).trans rfl
                  have hfz59_0 := blk_frozen BK374.out 0
                  have hfz59_1 := blk_frozen BK374.out 1
                  have hcz60_0 : w56.cell? ⟨gb372, 0, none⟩ = some (.int .i64 ((rd_T39 t367 x36_1).f0)) := (blk_cell BK372.out 0).trans rfl
                  have hcz60_1 : w56.cell? ⟨gb372, 1, none⟩ = some (.int .i64 ((rd_T39 t367 x36_1).f1)) := (blk_cell BK372.out 1).trans rfl
                  have hfz60_0 := blk_frozen BK372.out 0
                  have hfz60_1 := blk_frozen BK372.out 1
                  try go_wp2
                  go_roundg k1
                  case measure => have := HK1.out; omega
                  case rel => exact ⟨(decide ((wrap64 (((rd_T39 t367 x36_1).f1) + (ji18))) ≤ a0)), (wrap64 (x36_1 + 1)), (by first | rfl | (simp; done) | (simp only [← hji18] <;> (first | rfl | simp)) | (simp [*]; done)), (by first | rfl | (simp; done) | (simp [*]; done)), H', ⟨by have := HK1.out; omega⟩, ⟨by (with_reducible repeat (first | apply Kd.R_alloc | apply Kd.R_drewN | apply Kd.R_drew)); exact Kd.R_mono (Kd.R_far (p := ⟨gb374, 1, none⟩) (Kd.R_far (p := ⟨gb374, 0, none⟩) (Kd.R_mono HO_6.out (fun k_ hk => (⟨hk, hk.2.1⟩ : _ ∧ k_ ≠ gb374))) (fun _ hk => hk.2) (.int .i64 ((rd_T39 t367 (ji20)).f0))) (fun _ hk => hk.2) (.int .i64 (wrap64 (((rd_T39 t367 (ji20)).f1) + (ji24))))) (fun _ hk => trivial)⟩, ⟨by (with_reducible repeat (first | apply Kd.R_alloc | apply Kd.R_drewN | apply Kd.R_drew)); exact Kd.R_mono (Kd.R_far (p := ⟨gb374, 1, none⟩) (Kd.R_far (p := ⟨gb374, 0, none⟩) (Kd.R_mono HO_34.out (fun k_ hk => (⟨hk, hk.2.1⟩ : _ ∧ k_ ≠ gb374))) (fun _ hk => hk.2) (.int .i64 ((rd_T39 t367 (ji20)).f0))) (fun _ hk => hk.2) (.int .i64 (wrap64 (((rd_T39 t367 (ji20)).f1) + (ji24))))) (fun _ hk => trivial)⟩, ⟨by repeat (first | (with_reducible first | exact HB.out | apply below_alloc | apply pw_below_drewN | apply below_drew1 | refine below_set ?_ GE372.out | refine below_set ?_ GE374.out | refine below_set ?_ GE376.out) | exact HB.out)⟩⟩
                 ·
                  rw [if_neg c45] at H
                  exact absurd H (by simp)
                ·
                 replace c44 := Bool.eq_false_iff.mpr c44
                 subst c44
                 have H1 : (none) = some r := by rw [if_neg (show ¬ (false = true) by decide)] at H; exact H
                 clear H
                 have H := H1
                 clear H1
                 exact absurd H (by simp)
              ·
               rw [if_neg c23] at H
               exact absurd H (by simp)
             ·
              rw [if_neg c22] at H
              exact absurd H (by simp)
            ·
             rw [if_neg c21] at H
             exact absurd H (by simp)
           ·
            rw [if_neg c19] at H
            have c19b0 : decide (0 < x36_1) = false := decide_eq_false c19
            clear c19
            by_cases c61 : x5_1 = true
            ·
             subst c61
             have H1 : (if (((rd_T39 t367 x36_1).f0) == 0 && (((rd_T39 t367 x36_1).f1) == 0)) = true then (formelaw24_GridCells.l0 k1 a0 l1 (decide ((wrap64 (((rd_T39 t367 x36_1).f1) + (ji18))) ≤ a0)) t367 t367 (t367.length : Int) (wrap64 (x36_1 + 1))) else (none)) = some r := by rw [if_pos rfl] at H; exact H
             clear H
             have H := H1
             clear H1
             by_cases c62 : (((rd_T39 t367 x36_1).f0) == 0 && (((rd_T39 t367 x36_1).f1) == 0)) = true
             ·
              rw [if_pos c62] at H
              have c62b0 : (((rd_T39 t367 x36_1).f0) == 0 && (((rd_T39 t367 x36_1).f1) == 0)) = true := c62
              (try (have c62b1 : decide (((rd_T39 t367 x36_1).f0) = 0 && (((rd_T39 t367 x36_1).f1) == 0)) = true := by simpa using c62))
              (try (have c62b2 : (((rd_T39 t367 x36_1).f0) == 0 && (((rd_T39 t367 x36_1).f1) == 0)) = true := by simpa using c62))
              clear c62
              have H' := Aside0.mk H
              clear H
              have p371 : 0 ≤ (x36_1 : Int) := of_decide_eq_true (by first | (with_reducible assumption) | assumption)
              have q371 : x36_1 < (t367.length : Int) := of_decide_eq_true (by first | (with_reducible assumption) | assumption)
              obtain ⟨ad371, e371, hx371_0, hx371_1⟩ := at_T39 (Kd.R_reads' HO_34.out).2.2 x36_1 p371 q371
              cases e371
              replace p371 := eq_true p371
              replace q371 := eq_true q371
              go_wp2_with (first | ((with_reducible refine gate_dst (N := 9) rfl ?_); (try (refine gate_guard (by rfl) ?_; dsimp only)); refine box_event ?hg (N := 9) ?hd (cs := #[.int .i64 0, .int .i64 0]) (t := 39) ?hr ?_; (case hd => rfl); (case hg => rfl); (case hr => first | (go_simp; done) | (go_simp; rfl)); intro gb372 hg w63 hbox hb; have n0_ := Aside0.mk (Kd.R_below (Kd.R_elderB (by (with_reducible repeat (first | apply Kd.R_alloc | apply Kd.R_drewN | apply Kd.R_drew)); exact HO_6.out) gb372 (Nat.le_of_eq hg.symm)) hb); have n1_ := Aside0.mk (Kd.R_below (Kd.R_elderB (by (with_reducible repeat (first | apply Kd.R_alloc | apply Kd.R_drewN | apply Kd.R_drew)); exact HO_34.out) gb372 (Nat.le_of_eq hg.symm)) hb); have n2_ := Aside0.mk (below_step (by repeat (first | (with_reducible first | exact HB.out | apply below_alloc | apply pw_below_drewN | apply below_drew1) | exact HB.out)) hb); have n3_ := Aside0.mk (hbox); have n4_ := Aside0.mk ((by rw [hg]; exact (below_size (by repeat (first | (with_reducible first | exact HB.out | apply below_alloc | apply pw_below_drewN | apply below_drew1) | exact HB.out))) : w.heap.size ≤ gb372)); have n5_ := Aside0.mk ((by rw [hg]; exact (below_size (by repeat (first | (with_reducible first | exact HB.out | apply below_alloc | apply pw_below_drewN | apply below_drew1) | exact HB.out))) : w.heap.size ≤ gb372)); clear HO_6; clear HO_34; clear HB; have HO_6 := n0_; have HO_34 := n1_; have HB := n2_; have BK372 := n3_; have GW372 := n4_; have GE372 := n5_; clear n0_ n1_ n2_ n3_ n4_ n5_; clear hb hbox hg; have hcz64_0 : w63.cell? ⟨gb372, 0, none⟩ = some (.int .i64 0) := (blk_cell BK372.out 0).trans rfl; have hcz64_1 : w63.cell? ⟨gb372, 1, none⟩ = some (.int .i64 0) := (blk_cell BK372.out 1).trans rfl; have hfz64_0 := blk_frozen BK372.out 0; have hfz64_1 := blk_frozen BK372.out 1; have p373 : 0 ≤ (x36_1 : Int) := of_decide_eq_true (by first | (with_reducible assumption) | assumption); have q373 : x36_1 < (l1.length : Int) := of_decide_eq_true (by first | (with_reducible assumption) | assumption); obtain ⟨ad373, e373, hx373_0⟩ := Kd.at_int HR1.out x36_1 p373 q373; cases e373; have hn373_0 : ad373.block ≠ gb372 := Nat.ne_of_lt (Nat.lt_of_lt_of_le (by have := World.block_lt_of_cell? _ _ hx373_0; first | rwa [add_block] at this | exact this) GW372.out); have hn373_1 : ad373.block ≠ gb372 := Nat.ne_of_lt (Nat.lt_of_lt_of_le (by have := World.block_lt_of_cell? _ _ hx373_0; first | rwa [add_block] at this | exact this) GW372.out); replace hx373_0 := (HB.out.cell (World.block_lt_of_cell? w _ hx373_0)).trans hx373_0; replace hx373_0 := (cell_far (p := ⟨gb372, 0, none⟩) (by first | (rw [add_block]; exact hn373_0) | (show (Addr.add _ _).block ≠ _; rw [add_block]; exact hn373_0) | exact hn373_0) (.int .i64 ((rd_T39 t367 x36_1).f0))).trans hx373_0; replace hx373_0 := (cell_far (p := ⟨gb372, 1, none⟩) (by first | (rw [add_block]; exact hn373_1) | (show (Addr.add _ _).block ≠ _; rw [add_block]; exact hn373_1) | exact hn373_1) (.int .i64 ((rd_T39 t367 x36_1).f1))).trans hx373_0; clear hn373_0; clear hn373_1; replace p373 := eq_true p373; replace q373 := eq_true q373) | ((with_reducible refine gate_dst (N := 11) rfl ?_); (try (refine gate_guard (by rfl) ?_; dsimp only)); refine box_event ?hg (N := 11) ?hd (cs := #[.int .i64 0, .int .i64 0]) (t := 39) ?hr ?_; (case hd => rfl); (case hg => rfl); (case hr => first | (go_simp; done) | (go_simp; rfl)); intro gb374 hg w65 hbox hb; have n0_ := Aside0.mk (Kd.R_below (Kd.R_elderB (by (with_reducible repeat (first | apply Kd.R_alloc | apply Kd.R_drewN | apply Kd.R_drew)); exact (Kd.R_mono (Kd.R_far (p := ⟨gb372, 1, none⟩) (Kd.R_far (p := ⟨gb372, 0, none⟩) (Kd.R_mono HO_6.out (fun k_ hk => (⟨hk, hk.2⟩ : _ ∧ k_ ≠ gb372))) (fun _ hk => hk.2) (.int .i64 ((rd_T39 t367 x36_1).f0))) (fun _ hk => hk.2) (.int .i64 ((rd_T39 t367 x36_1).f1))) (fun _ h_ => h_.1))) gb374 (Nat.le_of_eq hg.symm)) hb); have n1_ := Aside0.mk (Kd.R_below (Kd.R_elderB (by (with_reducible repeat (first | apply Kd.R_alloc | apply Kd.R_drewN | apply Kd.R_drew)); exact (Kd.R_mono (Kd.R_far (p := ⟨gb372, 1, none⟩) (Kd.R_far (p := ⟨gb372, 0, none⟩) (Kd.R_mono HO_34.out (fun k_ hk => (⟨hk, hk.2⟩ : _ ∧ k_ ≠ gb372))) (fun _ hk => hk.2) (.int .i64 ((rd_T39 t367 x36_1).f0))) (fun _ hk => hk.2) (.int .i64 ((rd_T39 t367 x36_1).f1))) (fun _ h_ => h_.1))) gb374 (Nat.le_of_eq hg.symm)) hb); have n2_ := Aside0.mk (blk_below (g := gb372) (o := .cells #[.int .i64 ((rd_T39 t367 x36_1).f0), .int .i64 ((rd_T39 t367 x36_1).f1)] 39 (0, 0)) (by (with_reducible repeat (first | refine blk_drewN ?_ _ | refine blk_drew ?_ | refine blk_alloc ?_ _)); refine blk_put (cs := #[.int .i64 ((rd_T39 t367 x36_1).f0), .int .i64 0]) ?_ 1 _ rfl; (with_reducible repeat (first | refine blk_drewN ?_ _ | refine blk_drew ?_ | refine blk_alloc ?_ _)); refine blk_put (cs := #[.int .i64 0, .int .i64 0]) ?_ 0 _ rfl; (with_reducible repeat (first | refine blk_drewN ?_ _ | refine blk_drew ?_ | refine blk_alloc ?_ _)); exact BK372.out) hb); have n3_ := Aside0.mk (below_step (by repeat (first | (with_reducible first | exact HB.out | apply below_alloc | apply pw_below_drewN | apply below_drew1 | refine below_set ?_ GE372.out) | exact HB.out)) hb); have n4_ := Aside0.mk (hbox); have n5_ := Aside0.mk ((by rw [hg]; exact (below_size (by repeat (first | (with_reducible first | exact HB.out | apply below_alloc | apply pw_below_drewN | apply below_drew1 | refine below_set ?_ GE372.out) | exact HB.out))) : w.heap.size ≤ gb374)); have n6_ := Aside0.mk ((by rw [hg]; exact (below_size (by repeat (first | (with_reducible first | exact HB.out | apply below_alloc | apply pw_below_drewN | apply below_drew1 | refine below_set ?_ GE372.out) | exact HB.out))) : w.heap.size ≤ gb374)); have n7_ := Aside0.mk ((by rw [hg]; exact Nat.ne_of_lt (blk_lt (g := gb372) (o := .cells #[.int .i64 ((rd_T39 t367 x36_1).f0), .int .i64 ((rd_T39 t367 x36_1).f1)] 39 (0, 0)) (by (with_reducible repeat (first | refine blk_drewN ?_ _ | refine blk_drew ?_ | refine blk_alloc ?_ _)); refine blk_put (cs := #[.int .i64 ((rd_T39 t367 x36_1).f0), .int .i64 0]) ?_ 1 _ rfl; (with_reducible repeat (first | refine blk_drewN ?_ _ | refine blk_drew ?_ | refine blk_alloc ?_ _)); refine blk_put (cs := #[.int .i64 0, .int .i64 0]) ?_ 0 _ rfl; (with_reducible repeat (first | refine blk_drewN ?_ _ | refine blk_drew ?_ | refine blk_alloc ?_ _)); exact BK372.out)) : gb372 ≠ gb374)); have n8_ := Aside0.mk ((by rw [hg]; exact Nat.ne_of_gt (blk_lt (g := gb372) (o := .cells #[.int .i64 ((rd_T39 t367 x36_1).f0), .int .i64 ((rd_T39 t367 x36_1).f1)] 39 (0, 0)) (by (with_reducible repeat (first | refine blk_drewN ?_ _ | refine blk_drew ?_ | refine blk_alloc ?_ _)); refine blk_put (cs := #[.int .i64 ((rd_T39 t367 x36_1).f0), .int .i64 0]) ?_ 1 _ rfl; (with_reducible repeat (first | refine blk_drewN ?_ _ | refine blk_drew ?_ | refine blk_alloc ?_ _)); refine blk_put (cs := #[.int .i64 0, .int .i64 0]) ?_ 0 _ rfl; (with_reducible repeat (first | refine blk_drewN ?_ _ | refine blk_drew ?_ | refine blk_alloc ?_ _)); exact BK372.out)) : gb374 ≠ gb372)); clear HO_6; clear HO_34; clear BK372; clear HB; have HO_6 := n0_; have HO_34 := n1_; have BK372 := n2_; have HB := n3_; have BK374 := n4_; have GW374 := n5_; have GE374 := n6_; have NB372_374 := n7_; have NB374_372 := n8_; clear n0_ n1_ n2_ n3_ n4_ n5_ n6_ n7_ n8_; clear hb hbox hg; have hnb66 := NB374_372.out; have hnc66 := NB372_374.out; have hcz67_0 : w65.cell? ⟨gb374, 0, none⟩ = some (.int .i64 0) := (blk_cell BK374.out 0).trans rfl; have hcz67_1 : w65.cell? ⟨gb374, 1, none⟩ = some (.int .i64 0) := (blk_cell BK374.out 1).trans rfl; have hfz67_0 := blk_frozen BK374.out 0; have hfz67_1 := blk_frozen BK374.out 1; have hcz68_0 : w65.cell? ⟨gb372, 0, none⟩ = some (.int .i64 ((rd_T39 t367 x36_1).f0)) := (blk_cell BK372.out 0).trans rfl; have hcz68_1 : w65.cell? ⟨gb372, 1, none⟩ = some (.int .i64 ((rd_T39 t367 x36_1).f1)) := (blk_cell BK372.out 1).trans rfl; have hfz68_0 := blk_frozen BK372.out 0; have hfz68_1 := blk_frozen BK372.out 1))
              go_roundg k1
              case measure => have := HK1.out; omega
              case rel => exact ⟨(decide ((wrap64 (((rd_T39 t367 x36_1).f1) + (ji18))) ≤ a0)), (wrap64 (x36_1 + 1)), (by first | rfl | (simp; done) | (simp only [← hji18] <;> (first | rfl | simp)) | (simp [*]; done)), (by first | rfl | (simp; done) | (simp [*]; done)), H', ⟨by have := HK1.out; omega⟩, ⟨by (with_reducible repeat (first | apply Kd.R_alloc | apply Kd.R_drewN | apply Kd.R_drew)); exact Kd.R_mono (Kd.R_far (p := ⟨gb374, 1, none⟩) (Kd.R_far (p := ⟨gb374, 0, none⟩) (Kd.R_mono HO_6.out (fun k_ hk => (⟨hk, hk.2⟩ : _ ∧ k_ ≠ gb374))) (fun _ hk => hk.2) (.int .i64 0)) (fun _ hk => hk.2) (.int .i64 0)) (fun _ hk => trivial)⟩, ⟨by (with_reducible repeat (first | apply Kd.R_alloc | apply Kd.R_drewN | apply Kd.R_drew)); exact Kd.R_mono (Kd.R_far (p := ⟨gb374, 1, none⟩) (Kd.R_far (p := ⟨gb374, 0, none⟩) (Kd.R_mono HO_34.out (fun k_ hk => (⟨hk, hk.2⟩ : _ ∧ k_ ≠ gb374))) (fun _ hk => hk.2) (.int .i64 0)) (fun _ hk => hk.2) (.int .i64 0)) (fun _ hk => trivial)⟩, ⟨by repeat (first | (with_reducible first | exact HB.out | apply below_alloc | apply pw_below_drewN | apply below_drew1 | refine below_set ?_ GE372.out | refine below_set ?_ GE374.out) | exact HB.out)⟩⟩
             ·
              rw [if_neg c62] at H
              exact absurd H (by simp)
            ·
             replace c61 := Bool.eq_false_iff.mpr c61
             subst c61
             have H1 : (none) = some r := by rw [if_neg (show ¬ (false = true) by decide)] at H; exact H
             clear H
             have H := H1
             clear H1
             exact absurd H (by simp)
          ·
           rw [if_neg c17] at H
           exact absurd H (by simp)
         ·
          rw [if_neg c16] at H
          exact absurd H (by simp)
        ·
         rw [if_neg c15] at H
         exact absurd H (by simp)
       ·
        rw [if_neg c14] at H
        have c14b0 : decide (x36_1 < (t367.length : Int)) = false := decide_eq_false c14
        clear c14
        obtain rfl := Option.some.inj H
        go_wp2
        go_ret
        exact ⟨by first | rfl | (simp [errW_none, errW_some] <;> rfl) | (simp [*, errW_none, errW_some] <;> rfl), by repeat (first | (with_reducible first | exact HB.out | apply below_alloc | apply pw_below_drewN | apply below_drew1) | exact HB.out)⟩
    ·
     rw [if_neg c9] at H
     exact absurd H (by simp)
   ·
    rw [if_neg c8] at H
    exact absurd H (by simp)
  ·
   replace c6 := Bool.eq_false_iff.mpr c6
   subst c6
   have H1 : (some true) = some r := by rw [if_neg (show ¬ (false = true) by decide)] at H; exact H
   clear H
   have H := H1
   clear H1
   obtain rfl := Option.some.inj H
   go_enter Try.func4, Try.ntmps4
   go_wp2_with (first | ((with_reducible refine gate_callee (f := 9) rfl ?_); refine goesL_ (some 13) rfl rfl Try.func9 (by kernel_rfl) rfl #[] rfl (by (try simp only [List.map_toArray, List.map_cons, List.map_nil]); first | done | rfl | (simp only [List.length_drop, List.length_take]; rfl)) ?_; (with_reducible refine (formelaw24_head.calls k  true _ A3.out).mono ?_); rintro e w69 ⟨rfl, hb⟩; refine ⟨_, rfl, ?_⟩; have n0_ := Aside0.mk (below_step (by repeat (first | (with_reducible first | exact HB.out | apply below_alloc | apply pw_below_drewN | apply below_drew1) | exact HB.out)) hb); clear HB; have HB := n0_; clear n0_; (try clear hb); (try clear hb2); (try clear hk); (try clear hi)) | ((with_reducible refine gate_callee (f := 20) rfl ?_); refine goesL_ (some 16) rfl rfl Try.func20 (by kernel_rfl) rfl #[.int .i64 a0, .slice A1 l1.length c1] rfl (by (try simp only [List.map_toArray, List.map_cons, List.map_nil]); first | done | rfl | (simp only [List.length_drop, List.length_take]; rfl)) ?_; (with_reducible refine (formelaw24_usable.calls k a0 _ _ l1 false _ ?side1 ?side2 A5.out).mono ?_); (case side1 => repeat (first | exact (Kd.C_below HR1.out HB.out) | (with_reducible refine Kd.C_alloc ?_ _) | (with_reducible refine Kd.C_drewN ?_ _) | (with_reducible refine Kd.C_drew ?_))); (case side2 => exact HC1.out); rintro e w70 ⟨rfl, hb⟩; refine ⟨_, rfl, ?_⟩; have n0_ := Aside0.mk (below_step (by repeat (first | (with_reducible first | exact HB.out | apply below_alloc | apply pw_below_drewN | apply below_drew1) | exact HB.out)) hb); clear HB; have HB := n0_; clear n0_; (try clear hb); (try clear hb2); (try clear hk); (try clear hi)))
   go_ret
   exact ⟨by first | rfl | (simp [errW_none, errW_some] <;> rfl) | (simp [*, errW_none, errW_some] <;> rfl), by repeat (first | (with_reducible first | exact HB.out | apply below_alloc | apply pw_below_drewN | apply below_drew1) | exact HB.out)⟩
 ·
  replace c4 := Bool.eq_false_iff.mpr c4
  subst c4
  have H1 : (none) = some r := by rw [if_neg (show ¬ (false = true) by decide)] at H; exact H
  clear H
  have H := H1
  clear H1
  exact absurd H (by simp)

/-- THE ONE PURE STATEMENT of formelaw24_GridCells: yours. -/
def formelaw24_GridCells.Pure : Prop := ∀ (a0 : Int) (l1 : List Int), (Lit.int .i64 a0).wf = true → l1.length ≤ maxLen → l1.length * 8 ≤ 140737488351232 → (∀ x ∈ l1, (Lit.int .i64 x).wf = true) → ∃ k, formelaw24_GridCells.f k a0 l1 = some true
theorem formelaw24_GridCells.walk (P : formelaw24_GridCells.Pure) (a0 : Int) (a1 : Option Addr) (len1 cap1 : Nat) (z1 : List Int) (w : World) (w0 : (Lit.int .i64 a0).wf = true) (w1 : (a1 = none ∧ len1 = 0 ∧ cap1 = 0 ∧ z1 = []) ∨ ∃ x, a1 = some x ∧ len1 ≤ cap1 ∧ cap1 ≤ maxLen ∧ z1.length = cap1 ∧ (∀ i, i < z1.length → w.cell? (x.add i) = some (.int .i64 (z1.getD i 0))) ∧ ∀ n ∈ z1, (Lit.int .i64 n).wf = true) (y1 : len1 * 8 ≤ 140737488351232) :
  Calls Try.prog 4 #[.int .i64 a0, .slice a1 len1 cap1] w fun e w' => e = .returned (.bool true) ∧ Below w.heap.size w w' := by
 obtain ⟨l1, rfl, hr1, hm1, hw1, hc1⟩ := ReadsInt.ofRowC w1
 obtain ⟨k, h⟩ := P a0 l1 w0 hm1 y1 hw1
 refine (formelaw24_GridCells.calls k a0 _ _ l1 true w (Kd.C_of_reads (d := (0 : Int)) (h1 := fun _ => rfl) hr1) hc1 h).mono ?_
 rintro e w' ⟨rfl, hd⟩
 exact ⟨rfl, hd⟩

end Go.Proofs.Ytciheadencbmjaa.P
