-- Laid by a program of this session (wip/fam.sh) over the kit's words: Lean checks it.
import Derived.Test.YtciheadencbmjaaPx0
import Derived.Test.YtciheadencbmjaaPx2
import Derived.Test.YtciheadencbmjaaPx8
import Derived.Test.YtciheadencbmjaaPx9
import Derived.Test.YtciheadencbmjaaHCells
import Derived.Test.YtciheadencbmjaaHPlace
import Derived.Test.YtciheadencbmjaaHWidths
namespace Go.Proofs.Ytciheadencbmjaa.P
open Go.RowKit Go.Proofs.YtciheadencbmjaaW.PrintWords Go.Proofs.YtciheadencbmjaaW.PrintLast Go.Proofs.YtciheadencbmjaaW.PrintMore
attribute [local go_sem] max2_int min2_int max_two min_two max_three min_three max_four min_four   -- for this text's walks alone
set_option linter.unusedVariables false
set_option linter.unusedSimpArgs false

/-! ### formelaw24_GridFirst: function 5 -/
mutual
def formelaw24_GridFirst.j0 : Nat → Int → List Int → List Int → Int → Int → Int → Bool → Bool → Option (Bool)
 | 0, _, _, _, _, _, _, _, _ => none
 | k + 1, x0, x1, x2, x3, x4, x5, x13, x45 => if x45 = true then (some x13) else (if (wrap64 ((x1.length : Int) + 1)) = 0 then (none) else ((grid_Cells.f x0 x1).bind fun bt380 => (if 0 ≤ (Int.tmod (wrap64 (x5)) (wrap64 ((x1.length : Int) + 1))) then (if (Int.tmod (wrap64 (x5)) (wrap64 ((x1.length : Int) + 1))) ≤ (x1.length : Int) then ((grid_Cells.f x0 (x1.take ((Int.tmod (wrap64 (x5)) (wrap64 ((x1.length : Int) + 1))) : Int).toNat)).bind fun bt385 => (if bt380.2 = 0 then (if bt385.2 = 0 then (if (bt380.1.length : Int) = (x1.length : Int) then (if (Int.tmod (wrap64 (x5)) (wrap64 ((x1.length : Int) + 1))) ≤ (bt380.1.length : Int) then ((formeref24_SameCells.f k (bt380.1.take ((Int.tmod (wrap64 (x5)) (wrap64 ((x1.length : Int) + 1))) : Int).toNat) bt385.1).bind fun t393 => (if t393 = true then ((grid_Widths.f x0 x1 x3 x4).bind fun bt394 => ((grid_Widths.f x0 (x1.take ((Int.tmod (wrap64 (x5)) (wrap64 ((x1.length : Int) + 1))) : Int).toNat) x3 x4).bind fun bt399 => (if bt394.2 = bt399.2 then (if bt394.2 = 0 then (if (bt394.1.length : Int) = (x1.length : Int) then (if (Int.tmod (wrap64 (x5)) (wrap64 ((x1.length : Int) + 1))) ≤ (bt394.1.length : Int) then ((formeref24_SameInts.f k (bt394.1.take ((Int.tmod (wrap64 (x5)) (wrap64 ((x1.length : Int) + 1))) : Int).toNat) bt399.1).bind fun t407 => (formelaw24_GridFirst.j1 k x0 x1 x2 x3 x4 x13 (Int.tmod (wrap64 (x5)) (wrap64 ((x1.length : Int) + 1))) (!t407))) else (none)) else (none)) else (formelaw24_GridFirst.j1 k x0 x1 x2 x3 x4 x13 (Int.tmod (wrap64 (x5)) (wrap64 ((x1.length : Int) + 1))) false)) else (none)))) else (some false))) else (none)) else (none)) else (none)) else (none))) else (none)) else (none))))
def formelaw24_GridFirst.j1 : Nat → Int → List Int → List Int → Int → Int → Bool → Int → Bool → Option (Bool)
 | 0, _, _, _, _, _, _, _, _ => none
 | k + 1, x0, x1, x2, x3, x4, x13, x14, x127 => if x127 = true then (some false) else ((grid_Place.f x0 x1 x2 x3 x4).bind fun bt408 => (if 0 ≤ x14 then (if x14 ≤ (x1.length : Int) then (if x14 ≤ (x2.length : Int) then ((grid_Place.f x0 (x1.take (x14 : Int).toNat) (x2.take (x14 : Int).toNat) x3 x4).bind fun bt415 => (if bt408.2.2 = 0 then (if x13 = true then (if bt415.2.2 = 0 then (if (bt408.1.length : Int) = (x1.length : Int) then (if x14 ≤ (bt408.1.length : Int) then ((formeref24_Same.f k (bt408.1.take (x14 : Int).toNat) bt415.1).bind fun t424 => (some t424)) else (none)) else (none)) else (none)) else (none)) else (some x13))) else (none)) else (none)) else (none)))
end
def formelaw24_GridFirst.f (k : Nat) (a0 : Int) (l1 : List Int) (l2 : List Int) (a3 : Int) (a4 : Int) (a5 : Int) : Option (Bool) := (formelaw24_head.f k).bind fun t378 => (if t378 = true then ((formelaw24_usable.f k a0 l1).bind fun t379 => (if t379 = true then (if (l2.length : Int) = (l1.length : Int) then (formelaw24_GridFirst.j0 k a0 l1 l2 a3 a4 a5 true ((l1.length : Int) == 0)) else (formelaw24_GridFirst.j0 k a0 l1 l2 a3 a4 a5 true true)) else (formelaw24_GridFirst.j0 k a0 l1 l2 a3 a4 a5 true true))) else (none))
theorem formelaw24_GridFirst.mono_l : ∀ k, (∀ y0 y1 y2 y3 y4 y5 y6 y7, LeO (formelaw24_GridFirst.j0 k y0 y1 y2 y3 y4 y5 y6 y7) (formelaw24_GridFirst.j0 (k + 1) y0 y1 y2 y3 y4 y5 y6 y7)) ∧ (∀ y0 y1 y2 y3 y4 y5 y6 y7, LeO (formelaw24_GridFirst.j1 k y0 y1 y2 y3 y4 y5 y6 y7) (formelaw24_GridFirst.j1 (k + 1) y0 y1 y2 y3 y4 y5 y6 y7))
 | 0 => ⟨fun _ _ _ _ _ _ _ _ r h => by simp [formelaw24_GridFirst.j0] at h, fun _ _ _ _ _ _ _ _ r h => by simp [formelaw24_GridFirst.j1] at h⟩
 | k + 1 => by
  obtain ⟨ih0, ih1⟩ := formelaw24_GridFirst.mono_l k
  refine ⟨?_, ?_⟩
  ·
   intro y0 y1 y2 y3 y4 y5 y6 y7
   unfold formelaw24_GridFirst.j0
   repeat' first
   | (with_reducible exact ih0 _ _ _ _ _ _ _ _)
   | (with_reducible exact ih1 _ _ _ _ _ _ _ _)
   | (with_reducible exact formelaw24_head.mono _)
   | (with_reducible exact formelaw24_usable.mono _ _ _)
   | (with_reducible exact formeref24_Same.mono _ _ _)
   | (with_reducible exact formeref24_SameCells.mono _ _ _)
   | (with_reducible exact formeref24_SameInts.mono _ _ _)
   | (with_reducible exact LeO.refl _)
   | (with_reducible exact LeO.none _)
   | (with_reducible refine LeO.ite ?_ ?_)
   | (with_reducible refine LeO.bind ?_ (fun _ => ?_))
   | exact ih0 _ _ _ _ _ _ _ _
   | exact ih1 _ _ _ _ _ _ _ _
   | exact formelaw24_head.mono _
   | exact formelaw24_usable.mono _ _ _
   | exact formeref24_Same.mono _ _ _
   | exact formeref24_SameCells.mono _ _ _
   | exact formeref24_SameInts.mono _ _ _
   | exact LeO.none _
   | refine LeO.ite ?_ ?_
   | refine LeO.bind ?_ (fun _ => ?_)
  ·
   intro y0 y1 y2 y3 y4 y5 y6 y7
   unfold formelaw24_GridFirst.j1
   repeat' first
   | (with_reducible exact ih0 _ _ _ _ _ _ _ _)
   | (with_reducible exact ih1 _ _ _ _ _ _ _ _)
   | (with_reducible exact formelaw24_head.mono _)
   | (with_reducible exact formelaw24_usable.mono _ _ _)
   | (with_reducible exact formeref24_Same.mono _ _ _)
   | (with_reducible exact formeref24_SameCells.mono _ _ _)
   | (with_reducible exact formeref24_SameInts.mono _ _ _)
   | (with_reducible exact LeO.refl _)
   | (with_reducible exact LeO.none _)
   | (with_reducible refine LeO.ite ?_ ?_)
   | (with_reducible refine LeO.bind ?_ (fun _ => ?_))
   | exact ih0 _ _ _ _ _ _ _ _
   | exact ih1 _ _ _ _ _ _ _ _
   | exact formelaw24_head.mono _
   | exact formelaw24_usable.mono _ _ _
   | exact formeref24_Same.mono _ _ _
   | exact formeref24_SameCells.mono _ _ _
   | exact formeref24_SameInts.mono _ _ _
   | exact LeO.none _
   | refine LeO.ite ?_ ?_
   | refine LeO.bind ?_ (fun _ => ?_)
theorem formelaw24_GridFirst.mono : ∀ a0 a1 a2 a3 a4 a5 k, LeO (formelaw24_GridFirst.f k a0 a1 a2 a3 a4 a5) (formelaw24_GridFirst.f (k + 1) a0 a1 a2 a3 a4 a5) := by
 intro a0 a1 a2 a3 a4 a5 k
 obtain ⟨ih0, ih1⟩ := formelaw24_GridFirst.mono_l k
 unfold formelaw24_GridFirst.f
 repeat' first
   | (with_reducible exact ih0 _ _ _ _ _ _ _ _)
   | (with_reducible exact ih1 _ _ _ _ _ _ _ _)
   | (with_reducible exact formelaw24_head.mono _)
   | (with_reducible exact formelaw24_usable.mono _ _ _)
   | (with_reducible exact formeref24_Same.mono _ _ _)
   | (with_reducible exact formeref24_SameCells.mono _ _ _)
   | (with_reducible exact formeref24_SameInts.mono _ _ _)
   | (with_reducible exact LeO.refl _)
   | (with_reducible exact LeO.none _)
   | (with_reducible refine LeO.ite ?_ ?_)
   | (with_reducible refine LeO.bind ?_ (fun _ => ?_))
   | exact ih0 _ _ _ _ _ _ _ _
   | exact ih1 _ _ _ _ _ _ _ _
   | exact formelaw24_head.mono _
   | exact formelaw24_usable.mono _ _ _
   | exact formeref24_Same.mono _ _ _
   | exact formeref24_SameCells.mono _ _ _
   | exact formeref24_SameInts.mono _ _ _
   | exact LeO.none _
   | refine LeO.ite ?_ ?_
   | refine LeO.bind ?_ (fun _ => ?_)
def formelaw24_GridFirst.T14 : Bool × List (List Nat × List Nat) := (true, [([], []), ([], []), ([], []), ([1, 2], [1, 2]), ([], []), ([], []), ([4, 5], [4, 5]), ([], []), ([], []), ([0, 3, 6, 7, 8], [0, 3, 6, 7, 8]), ([9], [9]), ([10], [10]), ([10], [10]), ([10], [10]), ([11, 9, 0, 1, 2, 3, 4, 5, 6, 7, 8, 9, 10, 11], [11]), ([12, 14, 0, 1, 2, 3, 4, 5, 6, 7, 8, 9, 10, 11, 12, 14], [12]), ([13, 15, 0, 1, 2, 3, 4, 5, 6, 7, 8, 9, 10, 11, 12, 13, 14, 15], [13])])
def formelaw24_GridFirst.B14 : List Nat := [0, 0, 0, 6, 0, 0, 48, 0, 0, 511, 1023, 2047, 2047, 2047, 4095, 24575, 65535]
theorem formelaw24_GridFirst.tab14 : rtab .any (opsOf Try.f5 14) = formelaw24_GridFirst.T14 := by kernel_rfl
theorem formelaw24_GridFirst.bits14 : waitsOk formelaw24_GridFirst.T14.2 formelaw24_GridFirst.B14 = true := by kernel_rfl
set_option maxHeartbeats 8000000 in
set_option maxRecDepth 100000 in
theorem formelaw24_GridFirst.calls (k : Nat) (a0 : Int) (A1 : Option Addr) (c1 : Nat) (l1 : List Int) (A2 : Option Addr) (c2 : Nat) (l2 : List Int) (a3 : Int) (a4 : Int) (a5 : Int) (r : Bool) (w : World) (hr1 : Kd.C (Kd.int .i64) w A1 l1.length l1) (hc1 : l1.length ≤ c1) (hr2 : Kd.C (Kd.int .i64) w A2 l2.length l2) (hc2 : l2.length ≤ c2) (h : formelaw24_GridFirst.f k a0 l1 l2 a3 a4 a5 = some r) :
  Calls Try.prog 5 #[.int .i64 a0, .slice A1 l1.length c1, .slice A2 l2.length c2, .int .i64 a3, .int .i64 a4, .int .u8 a5] w fun e w' => e = .returned (.bool r) ∧ Below w.heap.size w w' := by
 have HR1 := Aside0.mk hr1
 have HC1 := Aside0.mk hc1
 clear hr1 hc1
 have HR2 := Aside0.mk hr2
 have HC2 := Aside0.mk hc2
 clear hr2 hc2
 have HB := Aside0.mk (Below.refl w.heap.size w)
 have H : ((formelaw24_head.f k).bind fun t378 => (if t378 = true then ((formelaw24_usable.f k a0 l1).bind fun t379 => (if t379 = true then (if (l2.length : Int) = (l1.length : Int) then (formelaw24_GridFirst.j0 k a0 l1 l2 a3 a4 a5 true ((l1.length : Int) == 0)) else (formelaw24_GridFirst.j0 k a0 l1 l2 a3 a4 a5 true true)) else (formelaw24_GridFirst.j0 k a0 l1 l2 a3 a4 a5 true true))) else (none))) = some r := h
 clear h
 replace H := Option.bind_eq_some_iff.mp H
 obtain ⟨t378, A70, H⟩ := H
 replace H : (if t378 = true then ((formelaw24_usable.f k a0 l1).bind fun t379 => (if t379 = true then (if (l2.length : Int) = (l1.length : Int) then (formelaw24_GridFirst.j0 k a0 l1 l2 a3 a4 a5 true ((l1.length : Int) == 0)) else (formelaw24_GridFirst.j0 k a0 l1 l2 a3 a4 a5 true true)) else (formelaw24_GridFirst.j0 k a0 l1 l2 a3 a4 a5 true true))) else (none)) = some r := H
 have A7 := Aside0.mk A70
 clear A70
 by_cases c8 : t378 = true
 ·
  subst c8
  have H1 : ((formelaw24_usable.f k a0 l1).bind fun t379 => (if t379 = true then (if (l2.length : Int) = (l1.length : Int) then (formelaw24_GridFirst.j0 k a0 l1 l2 a3 a4 a5 true ((l1.length : Int) == 0)) else (formelaw24_GridFirst.j0 k a0 l1 l2 a3 a4 a5 true true)) else (formelaw24_GridFirst.j0 k a0 l1 l2 a3 a4 a5 true true))) = some r := by rw [if_pos rfl] at H; exact H
  clear H
  have H := H1
  clear H1
  have HC9 := Aside0.mk H
  clear H
  go_enter Try.func5, Try.ntmps5
  go_upto_region 2 with (first | ((with_reducible refine gate_callee (f := 9) rfl ?_); refine goesL_ (some 29) rfl rfl Try.func9 (by kernel_rfl) rfl #[] rfl (by (try simp only [List.map_toArray, List.map_cons, List.map_nil]); first | done | rfl | (simp only [List.length_drop, List.length_take]; rfl)) ?_; (with_reducible refine (formelaw24_head.calls k  true _ A7.out).mono ?_); rintro e w10 ⟨rfl, hb⟩; refine ⟨_, rfl, ?_⟩; have n0_ := Aside0.mk (below_step (by repeat (first | (with_reducible first | exact HB.out | apply below_alloc | apply pw_below_drewN | apply below_drew1) | exact HB.out)) hb); clear HB; have HB := n0_; clear n0_; (try clear hb); (try clear hb2); (try clear hk); (try clear hi)))
  (try simp only [Act.put, List.setIfInBounds_toArray, List.set_cons_zero, List.set_cons_succ])
  go_cut [45] (fun v45 wc => ∃ (kq : Nat) (x45_8 : Bool), v45 = .bool x45_8 ∧ Aside0 (formelaw24_GridFirst.j0 kq a0 l1 l2 a3 a4 a5 true x45_8 = some r) ∧ Aside0 (kq ≤ k) ∧ Aside0 (Below w.heap.size w wc))
  case first =>
   have H := HC9.out
   clear HC9
   replace H := Option.bind_eq_some_iff.mp H
   obtain ⟨t379, A110, H⟩ := H
   replace H : (if t379 = true then (if (l2.length : Int) = (l1.length : Int) then (formelaw24_GridFirst.j0 k a0 l1 l2 a3 a4 a5 true ((l1.length : Int) == 0)) else (formelaw24_GridFirst.j0 k a0 l1 l2 a3 a4 a5 true true)) else (formelaw24_GridFirst.j0 k a0 l1 l2 a3 a4 a5 true true)) = some r := H
   have A11 := Aside0.mk A110
   clear A110
   by_cases c12 : t379 = true
   ·
    subst c12
    have H1 : (if (l2.length : Int) = (l1.length : Int) then (formelaw24_GridFirst.j0 k a0 l1 l2 a3 a4 a5 true ((l1.length : Int) == 0)) else (formelaw24_GridFirst.j0 k a0 l1 l2 a3 a4 a5 true true)) = some r := by rw [if_pos rfl] at H; exact H
    clear H
    have H := H1
    clear H1
    by_cases c13 : (l2.length : Int) = (l1.length : Int)
    ·
     rw [if_pos c13] at H
     have c13b0 : ((l2.length : Int) == (l1.length : Int)) = true := beq_iff_eq.mpr c13
     have c13b1 : ((l2.length : Int) != (l1.length : Int)) = false := bne_eq_false_iff_eq.mpr c13
     have c13b2 : (l2.length == l1.length) = true := by first | simpa using c13 | (simp at c13 ⊢; omega)
     clear c13
     (first | rw [c13b0] | (simp only [i64_w, i32_w]; rw [c13b0]) | skip)
     have H' := Aside0.mk H
     clear H
     go_wp2_with (first | ((with_reducible refine gate_callee (f := 20) rfl ?_); refine goesL_ (some 32) rfl rfl Try.func20 (by kernel_rfl) rfl #[.int .i64 a0, .slice A1 l1.length c1] rfl (by (try simp only [List.map_toArray, List.map_cons, List.map_nil]); first | done | rfl | (simp only [List.length_drop, List.length_take]; rfl)) ?_; (with_reducible refine (formelaw24_usable.calls k a0 _ _ l1 true _ ?side1 ?side2 A11.out).mono ?_); (case side1 => repeat (first | exact (Kd.C_below HR1.out HB.out) | (with_reducible refine Kd.C_alloc ?_ _) | (with_reducible refine Kd.C_drewN ?_ _) | (with_reducible refine Kd.C_drew ?_))); (case side2 => exact HC1.out); rintro e w14 ⟨rfl, hb⟩; refine ⟨_, rfl, ?_⟩; have n0_ := Aside0.mk (below_step (by repeat (first | (with_reducible first | exact HB.out | apply below_alloc | apply pw_below_drewN | apply below_drew1) | exact HB.out)) hb); clear HB; have HB := n0_; clear n0_; (try clear hb); (try clear hb2); (try clear hk); (try clear hi)))
     go_meet
     case rel => exact ⟨_, (((l1.length : Int) == 0)), (by first | rfl | (simp; done) | (simp [*]; done)), H', ⟨by first | omega | exact Nat.le_refl _⟩, ⟨by repeat (first | (with_reducible first | exact HB.out | apply below_alloc | apply pw_below_drewN | apply below_drew1) | exact HB.out)⟩⟩
    ·
     rw [if_neg c13] at H
     have c13b0 : ((l2.length : Int) == (l1.length : Int)) = false := beq_eq_false_iff_ne.mpr c13
     have c13b1 : ((l2.length : Int) != (l1.length : Int)) = true := bne_iff_ne.mpr c13
     have c13b2 : (l2.length == l1.length) = false := by first | simpa using c13 | (simp at c13 ⊢; omega)
     (first | rw [c13b0] | (simp only [i64_w, i32_w]; rw [c13b0]) | skip)
     have H' := Aside0.mk H
     clear H
     go_wp2_with (first | ((with_reducible refine gate_callee (f := 20) rfl ?_); refine goesL_ (some 32) rfl rfl Try.func20 (by kernel_rfl) rfl #[.int .i64 a0, .slice A1 l1.length c1] rfl (by (try simp only [List.map_toArray, List.map_cons, List.map_nil]); first | done | rfl | (simp only [List.length_drop, List.length_take]; rfl)) ?_; (with_reducible refine (formelaw24_usable.calls k a0 _ _ l1 true _ ?side1 ?side2 A11.out).mono ?_); (case side1 => repeat (first | exact (Kd.C_below HR1.out HB.out) | (with_reducible refine Kd.C_alloc ?_ _) | (with_reducible refine Kd.C_drewN ?_ _) | (with_reducible refine Kd.C_drew ?_))); (case side2 => exact HC1.out); rintro e w15 ⟨rfl, hb⟩; refine ⟨_, rfl, ?_⟩; have n0_ := Aside0.mk (below_step (by repeat (first | (with_reducible first | exact HB.out | apply below_alloc | apply pw_below_drewN | apply below_drew1) | exact HB.out)) hb); clear HB; have HB := n0_; clear n0_; (try clear hb); (try clear hb2); (try clear hk); (try clear hi)))
     go_meet
     case rel => exact ⟨_, (true), (by first | rfl | (simp; done) | (simp [*]; done)), H', ⟨by first | omega | exact Nat.le_refl _⟩, ⟨by repeat (first | (with_reducible first | exact HB.out | apply below_alloc | apply pw_below_drewN | apply below_drew1) | exact HB.out)⟩⟩
   ·
    replace c12 := Bool.eq_false_iff.mpr c12
    subst c12
    have H1 : (formelaw24_GridFirst.j0 k a0 l1 l2 a3 a4 a5 true true) = some r := by rw [if_neg (show ¬ (false = true) by decide)] at H; exact H
    clear H
    have H := H1
    clear H1
    have H' := Aside0.mk H
    clear H
    go_wp2_with (first | ((with_reducible refine gate_callee (f := 20) rfl ?_); refine goesL_ (some 32) rfl rfl Try.func20 (by kernel_rfl) rfl #[.int .i64 a0, .slice A1 l1.length c1] rfl (by (try simp only [List.map_toArray, List.map_cons, List.map_nil]); first | done | rfl | (simp only [List.length_drop, List.length_take]; rfl)) ?_; (with_reducible refine (formelaw24_usable.calls k a0 _ _ l1 false _ ?side1 ?side2 A11.out).mono ?_); (case side1 => repeat (first | exact (Kd.C_below HR1.out HB.out) | (with_reducible refine Kd.C_alloc ?_ _) | (with_reducible refine Kd.C_drewN ?_ _) | (with_reducible refine Kd.C_drew ?_))); (case side2 => exact HC1.out); rintro e w16 ⟨rfl, hb⟩; refine ⟨_, rfl, ?_⟩; have n0_ := Aside0.mk (below_step (by repeat (first | (with_reducible first | exact HB.out | apply below_alloc | apply pw_below_drewN | apply below_drew1) | exact HB.out)) hb); clear HB; have HB := n0_; clear n0_; (try clear hb); (try clear hb2); (try clear hk); (try clear hi)))
    go_meet
    case rel => exact ⟨_, (true), (by first | rfl | (simp; done) | (simp [*]; done)), H', ⟨by first | omega | exact Nat.le_refl _⟩, ⟨by repeat (first | (with_reducible first | exact HB.out | apply below_alloc | apply pw_below_drewN | apply below_drew1) | exact HB.out)⟩⟩
  case rest =>
   clear HC9
   try clear c1
   try clear c2
   try clear p2
   try clear c5
   try clear c8
   try clear c9
   try clear c12
   try clear c13
   try clear c13b0
   try clear c13b1
   try clear c13b2
   obtain ⟨kq, x45_8, rfl, HA, HJ8, HB⟩ := hcut
   cases kq with
   | zero => exact absurd HA.out (by simp [formelaw24_GridFirst.j0])
   | succ kj8 =>
    have H := HA.out
    clear HA
    simp only [formelaw24_GridFirst.j0] at H
    by_cases c17 : x45_8 = true
    ·
     subst c17
     have H1 : (some true) = some r := by rw [if_pos rfl] at H; exact H
     clear H
     have H := H1
     clear H1
     obtain rfl := Option.some.inj H
     go_wp2
     go_ret
     exact ⟨by first | rfl | (simp [errW_none, errW_some] <;> rfl) | (simp [*, errW_none, errW_some] <;> rfl), by repeat (first | (with_reducible first | exact HB.out | apply below_alloc | apply pw_below_drewN | apply below_drew1) | exact HB.out)⟩
    ·
     replace c17 := Bool.eq_false_iff.mpr c17
     subst c17
     have H1 : (if (wrap64 ((l1.length : Int) + 1)) = 0 then (none) else ((grid_Cells.f a0 l1).bind fun bt380 => (if 0 ≤ (Int.tmod (wrap64 (a5)) (wrap64 ((l1.length : Int) + 1))) then (if (Int.tmod (wrap64 (a5)) (wrap64 ((l1.length : Int) + 1))) ≤ (l1.length : Int) then ((grid_Cells.f a0 (l1.take ((Int.tmod (wrap64 (a5)) (wrap64 ((l1.length : Int) + 1))) : Int).toNat)).bind fun bt385 => (if bt380.2 = 0 then (if bt385.2 = 0 then (if (bt380.1.length : Int) = (l1.length : Int) then (if (Int.tmod (wrap64 (a5)) (wrap64 ((l1.length : Int) + 1))) ≤ (bt380.1.length : Int) then ((formeref24_SameCells.f kj8 (bt380.1.take ((Int.tmod (wrap64 (a5)) (wrap64 ((l1.length : Int) + 1))) : Int).toNat) bt385.1).bind fun t393 => (if t393 = true then ((grid_Widths.f a0 l1 a3 a4).bind fun bt394 => ((grid_Widths.f a0 (l1.take ((Int.tmod (wrap64 (a5)) (wrap64 ((l1.length : Int) + 1))) : Int).toNat) a3 a4).bind fun bt399 => (if bt394.2 = bt399.2 then (if bt394.2 = 0 then (if (bt394.1.length : Int) = (l1.length : Int) then (if (Int.tmod (wrap64 (a5)) (wrap64 ((l1.length : Int) + 1))) ≤ (bt394.1.length : Int) then ((formeref24_SameInts.f kj8 (bt394.1.take ((Int.tmod (wrap64 (a5)) (wrap64 ((l1.length : Int) + 1))) : Int).toNat) bt399.1).bind fun t407 => (formelaw24_GridFirst.j1 kj8 a0 l1 l2 a3 a4 true (Int.tmod (wrap64 (a5)) (wrap64 ((l1.length : Int) + 1))) (!t407))) else (none)) else (none)) else (formelaw24_GridFirst.j1 kj8 a0 l1 l2 a3 a4 true (Int.tmod (wrap64 (a5)) (wrap64 ((l1.length : Int) + 1))) false)) else (none)))) else (some false))) else (none)) else (none)) else (none)) else (none))) else (none)) else (none)))) = some r := by rw [if_neg (show ¬ (false = true) by decide)] at H; exact H
     clear H
     have H := H1
     clear H1
     by_cases c18 : (wrap64 ((l1.length : Int) + 1)) = 0
     ·
      rw [if_pos c18] at H
      exact absurd H (by simp)
     ·
      rw [if_neg c18] at H
      have c18b0 : ((wrap64 ((l1.length : Int) + 1)) == 0) = false := beq_eq_false_iff_ne.mpr c18
      have c18b1 : ((wrap64 ((l1.length : Int) + 1)) != 0) = true := bne_iff_ne.mpr c18
      replace H := Option.bind_eq_some_iff.mp H
      obtain ⟨⟨t380, t381⟩, A190, H⟩ := H
      replace H : (if 0 ≤ (Int.tmod (wrap64 (a5)) (wrap64 ((l1.length : Int) + 1))) then (if (Int.tmod (wrap64 (a5)) (wrap64 ((l1.length : Int) + 1))) ≤ (l1.length : Int) then ((grid_Cells.f a0 (l1.take ((Int.tmod (wrap64 (a5)) (wrap64 ((l1.length : Int) + 1))) : Int).toNat)).bind fun bt385 => (if t381 = 0 then (if bt385.2 = 0 then (if (t380.length : Int) = (l1.length : Int) then (if (Int.tmod (wrap64 (a5)) (wrap64 ((l1.length : Int) + 1))) ≤ (t380.length : Int) then ((formeref24_SameCells.f kj8 (t380.take ((Int.tmod (wrap64 (a5)) (wrap64 ((l1.length : Int) + 1))) : Int).toNat) bt385.1).bind fun t393 => (if t393 = true then ((grid_Widths.f a0 l1 a3 a4).bind fun bt394 => ((grid_Widths.f a0 (l1.take ((Int.tmod (wrap64 (a5)) (wrap64 ((l1.length : Int) + 1))) : Int).toNat) a3 a4).bind fun bt399 => (if bt394.2 = bt399.2 then (if bt394.2 = 0 then (if (bt394.1.length : Int) = (l1.length : Int) then (if (Int.tmod (wrap64 (a5)) (wrap64 ((l1.length : Int) + 1))) ≤ (bt394.1.length : Int) then ((formeref24_SameInts.f kj8 (bt394.1.take ((Int.tmod (wrap64 (a5)) (wrap64 ((l1.length : Int) + 1))) : Int).toNat) bt399.1).bind fun t407 => (formelaw24_GridFirst.j1 kj8 a0 l1 l2 a3 a4 true (Int.tmod (wrap64 (a5)) (wrap64 ((l1.length : Int) + 1))) (!t407))) else (none)) else (none)) else (formelaw24_GridFirst.j1 kj8 a0 l1 l2 a3 a4 true (Int.tmod (wrap64 (a5)) (wrap64 ((l1.length : Int) + 1))) false)) else (none)))) else (some false))) else (none)) else (none)) else (none)) else (none))) else (none)) else (none)) = some r := H
      have A19 := Aside0.mk A190
      clear A190
      obtain ⟨ji20, hji20⟩ : ∃ j_ : Int, (Int.tmod (wrap64 (a5)) (wrap64 ((l1.length : Int) + 1))) = j_ := ⟨_, rfl⟩
      replace H : (if 0 ≤ (ji20) then (if (ji20) ≤ (l1.length : Int) then ((grid_Cells.f a0 (l1.take ((ji20) : Int).toNat)).bind fun bt385 => (if t381 = 0 then (if bt385.2 = 0 then (if (t380.length : Int) = (l1.length : Int) then (if (ji20) ≤ (t380.length : Int) then ((formeref24_SameCells.f kj8 (t380.take ((ji20) : Int).toNat) bt385.1).bind fun t393 => (if t393 = true then ((grid_Widths.f a0 l1 a3 a4).bind fun bt394 => ((grid_Widths.f a0 (l1.take ((ji20) : Int).toNat) a3 a4).bind fun bt399 => (if bt394.2 = bt399.2 then (if bt394.2 = 0 then (if (bt394.1.length : Int) = (l1.length : Int) then (if (ji20) ≤ (bt394.1.length : Int) then ((formeref24_SameInts.f kj8 (bt394.1.take ((ji20) : Int).toNat) bt399.1).bind fun t407 => (formelaw24_GridFirst.j1 kj8 a0 l1 l2 a3 a4 true ji20 (!t407))) else (none)) else (none)) else (formelaw24_GridFirst.j1 kj8 a0 l1 l2 a3 a4 true ji20 false)) else (none)))) else (some false))) else (none)) else (none)) else (none)) else (none))) else (none)) else (none)) = some r := by first | (rw [hji20] at H; exact H) | (simp only [hji20] at H ⊢; exact H)
      (try rw [hji20] at A19)
      by_cases c21 : 0 ≤ (ji20)
      ·
       rw [if_pos c21] at H
       have c21b0 := eq_true c21
       have c21b1 : decide (0 ≤ (ji20)) = true := decide_eq_true c21
       clear c21
       by_cases c22 : (ji20) ≤ (l1.length : Int)
       ·
        rw [if_pos c22] at H
        have c22b0 := eq_true c22
        have c22b1 : decide ((ji20) ≤ (l1.length : Int)) = true := decide_eq_true c22
        clear c22
        replace H := Option.bind_eq_some_iff.mp H
        obtain ⟨⟨t385, t386⟩, A230, H⟩ := H
        replace H : (if t381 = 0 then (if t386 = 0 then (if (t380.length : Int) = (l1.length : Int) then (if (ji20) ≤ (t380.length : Int) then ((formeref24_SameCells.f kj8 (t380.take ((ji20) : Int).toNat) t385).bind fun t393 => (if t393 = true then ((grid_Widths.f a0 l1 a3 a4).bind fun bt394 => ((grid_Widths.f a0 (l1.take ((ji20) : Int).toNat) a3 a4).bind fun bt399 => (if bt394.2 = bt399.2 then (if bt394.2 = 0 then (if (bt394.1.length : Int) = (l1.length : Int) then (if (ji20) ≤ (bt394.1.length : Int) then ((formeref24_SameInts.f kj8 (bt394.1.take ((ji20) : Int).toNat) bt399.1).bind fun t407 => (formelaw24_GridFirst.j1 kj8 a0 l1 l2 a3 a4 true ji20 (!t407))) else (none)) else (none)) else (formelaw24_GridFirst.j1 kj8 a0 l1 l2 a3 a4 true ji20 false)) else (none)))) else (some false))) else (none)) else (none)) else (none)) else (none)) = some r := H
        have A23 := Aside0.mk A230
        clear A230
        by_cases c24 : t381 = 0
        ·
         rw [if_pos c24] at H
         have c24b0 : (t381 == 0) = true := beq_iff_eq.mpr c24
         have c24b1 : (t381 != 0) = false := bne_eq_false_iff_eq.mpr c24
         clear c24
         by_cases c25 : t386 = 0
         ·
          rw [if_pos c25] at H
          have c25b0 : (t386 == 0) = true := beq_iff_eq.mpr c25
          have c25b1 : (t386 != 0) = false := bne_eq_false_iff_eq.mpr c25
          clear c25
          by_cases c26 : (t380.length : Int) = (l1.length : Int)
          ·
           rw [if_pos c26] at H
           have c26b0 : ((t380.length : Int) == (l1.length : Int)) = true := beq_iff_eq.mpr c26
           have c26b1 : ((t380.length : Int) != (l1.length : Int)) = false := bne_eq_false_iff_eq.mpr c26
           have c26b2 : (t380.length == l1.length) = true := by first | simpa using c26 | (simp at c26 ⊢; omega)
           clear c26
           have c27b0 := eq_true (of_decide_eq_true (by first | (with_reducible assumption) | assumption) : 0 ≤ (ji20))
           by_cases c28 : (ji20) ≤ (t380.length : Int)
           ·
            rw [if_pos c28] at H
            have c28b0 := eq_true c28
            have c28b1 : decide ((ji20) ≤ (t380.length : Int)) = true := decide_eq_true c28
            clear c28
            obtain ⟨y389, hy389⟩ : ∃ y_ : List (S39), y_ = (t380.take ((ji20) : Int).toNat) := ⟨_, rfl⟩
            replace H : ((formeref24_SameCells.f kj8 y389 t385).bind fun t393 => (if t393 = true then ((grid_Widths.f a0 l1 a3 a4).bind fun bt394 => ((grid_Widths.f a0 (l1.take ((ji20) : Int).toNat) a3 a4).bind fun bt399 => (if bt394.2 = bt399.2 then (if bt394.2 = 0 then (if (bt394.1.length : Int) = (l1.length : Int) then (if (ji20) ≤ (bt394.1.length : Int) then ((formeref24_SameInts.f kj8 (bt394.1.take ((ji20) : Int).toNat) bt399.1).bind fun t407 => (formelaw24_GridFirst.j1 kj8 a0 l1 l2 a3 a4 true ji20 (!t407))) else (none)) else (none)) else (formelaw24_GridFirst.j1 kj8 a0 l1 l2 a3 a4 true ji20 false)) else (none)))) else (some false))) = some r := by first | (rw [hy389]; with_reducible exact H) | (have H2_ := (Option.bind_some _ _).symm.trans H; rw [hy389]; with_reducible exact H2_) | (have H2_ := (Option.bind_some _ _).symm.trans H; with_reducible exact H2_) | with_reducible exact H | (rw [hy389]; exact H) | exact H
            have Ny389 := Aside0.mk hy389
            clear hy389
            replace H := Option.bind_eq_some_iff.mp H
            obtain ⟨t393, A290, H⟩ := H
            replace H : (if t393 = true then ((grid_Widths.f a0 l1 a3 a4).bind fun bt394 => ((grid_Widths.f a0 (l1.take ((ji20) : Int).toNat) a3 a4).bind fun bt399 => (if bt394.2 = bt399.2 then (if bt394.2 = 0 then (if (bt394.1.length : Int) = (l1.length : Int) then (if (ji20) ≤ (bt394.1.length : Int) then ((formeref24_SameInts.f kj8 (bt394.1.take ((ji20) : Int).toNat) bt399.1).bind fun t407 => (formelaw24_GridFirst.j1 kj8 a0 l1 l2 a3 a4 true ji20 (!t407))) else (none)) else (none)) else (formelaw24_GridFirst.j1 kj8 a0 l1 l2 a3 a4 true ji20 false)) else (none)))) else (some false)) = some r := H
            have A29 := Aside0.mk A290
            clear A290
            by_cases c30 : t393 = true
            ·
             subst c30
             have H1 : ((grid_Widths.f a0 l1 a3 a4).bind fun bt394 => ((grid_Widths.f a0 (l1.take ((ji20) : Int).toNat) a3 a4).bind fun bt399 => (if bt394.2 = bt399.2 then (if bt394.2 = 0 then (if (bt394.1.length : Int) = (l1.length : Int) then (if (ji20) ≤ (bt394.1.length : Int) then ((formeref24_SameInts.f kj8 (bt394.1.take ((ji20) : Int).toNat) bt399.1).bind fun t407 => (formelaw24_GridFirst.j1 kj8 a0 l1 l2 a3 a4 true ji20 (!t407))) else (none)) else (none)) else (formelaw24_GridFirst.j1 kj8 a0 l1 l2 a3 a4 true ji20 false)) else (none)))) = some r := by rw [if_pos rfl] at H; exact H
             clear H
             have H := H1
             clear H1
             replace H := Option.bind_eq_some_iff.mp H
             obtain ⟨⟨t394, t395⟩, A310, H⟩ := H
             replace H : ((grid_Widths.f a0 (l1.take ((ji20) : Int).toNat) a3 a4).bind fun bt399 => (if t395 = bt399.2 then (if t395 = 0 then (if (t394.length : Int) = (l1.length : Int) then (if (ji20) ≤ (t394.length : Int) then ((formeref24_SameInts.f kj8 (t394.take ((ji20) : Int).toNat) bt399.1).bind fun t407 => (formelaw24_GridFirst.j1 kj8 a0 l1 l2 a3 a4 true ji20 (!t407))) else (none)) else (none)) else (formelaw24_GridFirst.j1 kj8 a0 l1 l2 a3 a4 true ji20 false)) else (none))) = some r := H
             have A31 := Aside0.mk A310
             clear A310
             have c32b0 := eq_true (of_decide_eq_true (by first | (with_reducible assumption) | assumption) : 0 ≤ (ji20))
             have c33b0 := eq_true (of_decide_eq_true (by first | (with_reducible assumption) | assumption) : (ji20) ≤ (l1.length : Int))
             replace H := Option.bind_eq_some_iff.mp H
             obtain ⟨⟨t399, t400⟩, A340, H⟩ := H
             replace H : (if t395 = t400 then (if t395 = 0 then (if (t394.length : Int) = (l1.length : Int) then (if (ji20) ≤ (t394.length : Int) then ((formeref24_SameInts.f kj8 (t394.take ((ji20) : Int).toNat) t399).bind fun t407 => (formelaw24_GridFirst.j1 kj8 a0 l1 l2 a3 a4 true ji20 (!t407))) else (none)) else (none)) else (formelaw24_GridFirst.j1 kj8 a0 l1 l2 a3 a4 true ji20 false)) else (none)) = some r := H
             have A34 := Aside0.mk A340
             clear A340
             have HC35 := Aside0.mk H
             clear H
             go_upto_region 11 with (first | ((with_reducible refine gate_callee (f := 10) rfl ?_); refine goesL_ (some 56) rfl rfl Try.func10 (by kernel_rfl) rfl #[.int .i64 a0, .slice A1 l1.length c1] rfl (by (try simp only [List.map_toArray, List.map_cons, List.map_nil]); first | done | rfl | (simp only [List.length_drop, List.length_take]; rfl)) ?_; (with_reducible refine (grid_Cells.calls a0 _ _ l1 t380 t381 _ ?side1 ?side2 A19.out).mono ?_); (case side1 => repeat (first | exact (Kd.C_below HR1.out HB.out) | (with_reducible refine Kd.C_alloc ?_ _) | (with_reducible refine Kd.C_drewN ?_ _) | (with_reducible refine Kd.C_drew ?_))); (case side2 => exact HC1.out); rintro e w36 ⟨v382, rfl, ho0, hb⟩; refine ⟨_, rfl, ?_⟩; have n0_ := Aside0.mk (Kd.R_lower ho0 (below_size (by repeat (first | (with_reducible first | exact HB.out | apply below_alloc | apply pw_below_drewN | apply below_drew1) | exact HB.out)))); have n1_ := Aside0.mk (below_step (by repeat (first | (with_reducible first | exact HB.out | apply below_alloc | apply pw_below_drewN | apply below_drew1) | exact HB.out)) hb); clear HB; have HO383 := n0_; have HB := n1_; clear n0_ n1_; (try clear hb); (try clear hb2); (try clear hk); (try clear hi); (try clear ho0); obtain ⟨i037, hi037, _, hsz37, _⟩ := info_parts info3; obtain ⟨hcut37, hA37, hC37⟩ := print_take_of (P := Try.prog) (Value.int .i64) 0 22 3 .i64 Try.underlying22 hi037 hsz37 A1 c1 l1 (ji20) (of_decide_eq_true (by first | (with_reducible assumption) | assumption)) (of_decide_eq_true (by first | (with_reducible assumption) | assumption)) HC1.out; have HR384 := Aside0.mk (Kd.C_of_reads (h1 := fun _ => rfl) (hA37 _ (Kd.reads_of_C HR1.out))); have HC384 := Aside0.mk hC37; clear hA37 hC37 hi037 hsz37) | ((with_reducible refine gate_callee (f := 10) rfl ?_); refine goesL_ (some 64) rfl rfl Try.func10 (by kernel_rfl) rfl #[.int .i64 a0, .slice A1 (l1.take ((ji20) : Int).toNat).length c1] rfl (by (try simp only [List.map_toArray, List.map_cons, List.map_nil]); first | done | (rw [show (l1.take ((ji20) : Int).toNat).length = (ji20).toNat from (by rw [List.length_take]; have h_ : ((ji20) : Int) ≤ (l1.length : Int) := of_decide_eq_true (by first | (with_reducible assumption) | assumption); omega)] <;> rfl) | (simp only [hji20]; rfl) | rfl | (simp only [List.length_drop, List.length_take]; rfl)) ?_; (with_reducible refine (grid_Cells.calls a0 _ _ (l1.take ((ji20) : Int).toNat) t385 t386 _ ?side1 ?side2 A23.out).mono ?_); (case side1 => repeat (first | exact (Kd.C_below HR384.out HB.out) | (with_reducible refine Kd.C_alloc ?_ _) | (with_reducible refine Kd.C_drewN ?_ _) | (with_reducible refine Kd.C_drew ?_))); (case side2 => exact HC384.out); rintro e w38 ⟨v387, rfl, ho0, hb⟩; refine ⟨_, rfl, ?_⟩; have n0_ := Aside0.mk (Kd.R_elder' (by (with_reducible repeat (first | apply Kd.R_alloc | apply Kd.R_drewN | apply Kd.R_drew)); exact HO383.out) (Kd.R_base ho0) hb); have n1_ := Aside0.mk (Kd.R_lower (Kd.R_new' ho0 (Kd.R_lt (by (with_reducible repeat (first | apply Kd.R_alloc | apply Kd.R_drewN | apply Kd.R_drew)); exact HO383.out))) (below_size (by repeat (first | (with_reducible first | exact HB.out | apply below_alloc | apply pw_below_drewN | apply below_drew1) | exact HB.out)))); have n2_ := Aside0.mk (below_step (by repeat (first | (with_reducible first | exact HB.out | apply below_alloc | apply pw_below_drewN | apply below_drew1) | exact HB.out)) hb); clear HO383; clear HB; have HO383 := n0_; have HO388 := n1_; have HB := n2_; clear n0_ n1_ n2_; (try clear hb); (try clear hb2); (try clear hk); (try clear hi); (try clear ho0); obtain ⟨Ao39, co39, eo39⟩ := Kd.R_slice HO383.out; subst eo39; have q40 : ((ji20) : Int) ≤ ((t380.length : Int) : Int) := of_decide_eq_true (by first | (with_reducible assumption) | assumption); obtain ⟨i040, hi040, _, hsz40, _⟩ := info_parts info39; have hroom40 : t380.length ≤ co39 := (Kd.R_reads' HO383.out).2.1; have hC40 : Kd.C k39 _ Ao39 t380.length t380 := (Kd.R_reads' HO383.out).2.2; have hcut40 := cut_to (P := Try.prog) 24 39 .i64 Try.underlying24 hi040 Ao39 t380.length co39 (ji20) (of_decide_eq_true (by first | (with_reducible assumption) | assumption)) q40 hroom40; have hr40 := Kd.C_take (m := ((ji20) : Int).toNat) hC40 (by omega); have hy40 : y389.length = ((ji20) : Int).toNat := (by rw [Ny389.out, List.length_take]; omega); rw [← Ny389.out] at hr40; rw [← hy40] at hcut40; have HR392 := Aside0.mk hr40; have HC392 := Aside0.mk (show y389.length ≤ co39 from by omega); clear hr40 hC40 hroom40 hi040 hsz40; have KY40 := Aside0.mk hy40; clear hy40; have KL40 := Aside0.mk (show ((ji20) : Int).toNat ≤ t380.length from by omega); replace q40 := eq_true q40; obtain ⟨Ao41, co41, eo41⟩ := Kd.R_slice HO388.out; subst eo41) | (go_at_call 12; (with_reducible refine (formeref24_SameCells.calls kj8 _ _ y389 _ _ t385 true _ ?side1 ?side2 ?side3 ?side4 A29.out).mono ?_); (case side1 => repeat (first | exact (by repeat (first | (with_reducible exact HR392.out) | (with_reducible refine Kd.C_alloc ?_ _) | (with_reducible refine Kd.C_drewN ?_ _) | (with_reducible refine Kd.C_drew ?_) | exact HR392.out)) | (with_reducible refine Kd.C_alloc ?_ _) | (with_reducible refine Kd.C_drewN ?_ _) | (with_reducible refine Kd.C_drew ?_))); (case side2 => exact HC392.out); (case side3 => repeat (first | exact (Kd.R_reads' HO388.out).2.2 | (with_reducible refine Kd.C_alloc ?_ _) | (with_reducible refine Kd.C_drewN ?_ _) | (with_reducible refine Kd.C_drew ?_))); (case side4 => exact (Kd.R_reads' HO388.out).2.1); rintro e w' ⟨rfl, ⟨nd, rfl⟩⟩) | ((with_reducible refine gate_callee (f := 13) rfl ?_); refine goesL_ (some 93) rfl rfl Try.func13 (by kernel_rfl) rfl #[.int .i64 a0, .slice A1 l1.length c1, .int .i64 a3, .int .i64 a4] rfl (by (try simp only [List.map_toArray, List.map_cons, List.map_nil]); first | done | rfl | (simp only [List.length_drop, List.length_take]; rfl)) ?_; (with_reducible refine (grid_Widths.calls a0 _ _ l1 a3 a4 t394 t395 _ ?side1 ?side2 A31.out).mono ?_); (case side1 => repeat (first | exact (Kd.C_below HR1.out (by repeat (first | (with_reducible first | exact HB.out | apply below_alloc | apply pw_below_drewN | apply below_drew1) | exact HB.out))) | (with_reducible refine Kd.C_alloc ?_ _) | (with_reducible refine Kd.C_drewN ?_ _) | (with_reducible refine Kd.C_drew ?_))); (case side2 => exact HC1.out); rintro e w42 ⟨v396, rfl, ho0, hb⟩; refine ⟨_, rfl, ?_⟩; have n0_ := Aside0.mk (Kd.R_below (by (with_reducible repeat (first | apply Kd.R_alloc | apply Kd.R_drewN | apply Kd.R_drew)); exact HO383.out) hb); have n1_ := Aside0.mk (Kd.R_below (by (with_reducible repeat (first | apply Kd.R_alloc | apply Kd.R_drewN | apply Kd.R_drew)); exact HO388.out) hb); have n2_ := Aside0.mk (Kd.R_lower ho0 (below_size (by repeat (first | (with_reducible first | exact HB.out | apply below_alloc | apply pw_below_drewN | apply below_drew1) | exact HB.out)))); have n3_ := Aside0.mk (Kd.C_below (by repeat (first | (with_reducible exact HR392.out) | (with_reducible refine Kd.C_alloc ?_ _) | (with_reducible refine Kd.C_drewN ?_ _) | (with_reducible refine Kd.C_drew ?_) | exact HR392.out)) hb); have n4_ := Aside0.mk (below_step (by repeat (first | (with_reducible first | exact HB.out | apply below_alloc | apply pw_below_drewN | apply below_drew1) | exact HB.out)) hb); clear HO383; clear HO388; clear HR392; clear HB; have HO383 := n0_; have HO388 := n1_; have HO397 := n2_; have HR392 := n3_; have HB := n4_; clear n0_ n1_ n2_ n3_ n4_; (try clear hb); (try clear hb2); (try clear hk); (try clear hi); (try clear ho0); obtain ⟨i043, hi043, _, hsz43, _⟩ := info_parts info3; obtain ⟨hcut43, hA43, hC43⟩ := print_take_of (P := Try.prog) (Value.int .i64) 0 22 3 .i64 Try.underlying22 hi043 hsz43 A1 c1 l1 (ji20) (of_decide_eq_true (by first | (with_reducible assumption) | assumption)) (of_decide_eq_true (by first | (with_reducible assumption) | assumption)) HC1.out; have HR398 := Aside0.mk (Kd.C_of_reads (h1 := fun _ => rfl) (hA43 _ (Kd.reads_of_C HR1.out))); have HC398 := Aside0.mk hC43; clear hA43 hC43 hi043 hsz43) | ((with_reducible refine gate_callee (f := 13) rfl ?_); refine goesL_ (some 103) rfl rfl Try.func13 (by kernel_rfl) rfl #[.int .i64 a0, .slice A1 (l1.take ((ji20) : Int).toNat).length c1, .int .i64 a3, .int .i64 a4] rfl (by (try simp only [List.map_toArray, List.map_cons, List.map_nil]); first | done | (rw [show (l1.take ((ji20) : Int).toNat).length = (ji20).toNat from (by rw [List.length_take]; have h_ : ((ji20) : Int) ≤ (l1.length : Int) := of_decide_eq_true (by first | (with_reducible assumption) | assumption); omega)] <;> rfl) | (simp only [hji20]; rfl) | rfl | (simp only [List.length_drop, List.length_take]; rfl)) ?_; (with_reducible refine (grid_Widths.calls a0 _ _ (l1.take ((ji20) : Int).toNat) a3 a4 t399 t400 _ ?side1 ?side2 A34.out).mono ?_); (case side1 => repeat (first | exact (Kd.C_below HR398.out HB.out) | (with_reducible refine Kd.C_alloc ?_ _) | (with_reducible refine Kd.C_drewN ?_ _) | (with_reducible refine Kd.C_drew ?_))); (case side2 => exact HC398.out); rintro e w44 ⟨v401, rfl, ho0, hb⟩; refine ⟨_, rfl, ?_⟩; have n0_ := Aside0.mk (Kd.R_below (by (with_reducible repeat (first | apply Kd.R_alloc | apply Kd.R_drewN | apply Kd.R_drew)); exact HO383.out) hb); have n1_ := Aside0.mk (Kd.R_below (by (with_reducible repeat (first | apply Kd.R_alloc | apply Kd.R_drewN | apply Kd.R_drew)); exact HO388.out) hb); have n2_ := Aside0.mk (Kd.R_elder' (by (with_reducible repeat (first | apply Kd.R_alloc | apply Kd.R_drewN | apply Kd.R_drew)); exact HO397.out) (Kd.R_base ho0) hb); have n3_ := Aside0.mk (Kd.R_lower (Kd.R_new' ho0 (Kd.R_lt (by (with_reducible repeat (first | apply Kd.R_alloc | apply Kd.R_drewN | apply Kd.R_drew)); exact HO397.out))) (below_size (by repeat (first | (with_reducible first | exact HB.out | apply below_alloc | apply pw_below_drewN | apply below_drew1) | exact HB.out)))); have n4_ := Aside0.mk (Kd.C_below (by repeat (first | (with_reducible exact HR392.out) | (with_reducible refine Kd.C_alloc ?_ _) | (with_reducible refine Kd.C_drewN ?_ _) | (with_reducible refine Kd.C_drew ?_) | exact HR392.out)) hb); have n5_ := Aside0.mk (below_step (by repeat (first | (with_reducible first | exact HB.out | apply below_alloc | apply pw_below_drewN | apply below_drew1) | exact HB.out)) hb); clear HO383; clear HO388; clear HO397; clear HR392; clear HB; have HO383 := n0_; have HO388 := n1_; have HO397 := n2_; have HO402 := n3_; have HR392 := n4_; have HB := n5_; clear n0_ n1_ n2_ n3_ n4_ n5_; (try clear hb); (try clear hb2); (try clear hk); (try clear hi); (try clear ho0)))
             (try simp only [Act.put, List.setIfInBounds_toArray, List.set_cons_zero, List.set_cons_succ])
             go_cut [127] (fun v127 wc => ∃ (kq : Nat) (x127_34 : Bool), v127 = .bool x127_34 ∧ Aside0 (formelaw24_GridFirst.j1 kq a0 l1 l2 a3 a4 true ji20 x127_34 = some r) ∧ Aside0 (kq ≤ kj8) ∧ Aside0 (Kd.C k39 wc Ao39 y389.length y389) ∧ Aside0 (Below w.heap.size w wc))
             case first =>
              have H := HC35.out
              clear HC35
              by_cases c45 : t395 = t400
              ·
               rw [if_pos c45] at H
               have c45b0 : (t395 == t400) = true := beq_iff_eq.mpr c45
               have c45b1 : (t395 != t400) = false := bne_eq_false_iff_eq.mpr c45
               clear c45
               (first | rw [c45b0] | (simp only [i64_w, i32_w]; rw [c45b0]) | skip)
               by_cases c46 : t395 = 0
               ·
                rw [if_pos c46] at H
                have c46b0 : (t395 == 0) = true := beq_iff_eq.mpr c46
                have c46b1 : (t395 != 0) = false := bne_eq_false_iff_eq.mpr c46
                clear c46
                by_cases c47 : (t394.length : Int) = (l1.length : Int)
                ·
                 rw [if_pos c47] at H
                 have c47b0 : ((t394.length : Int) == (l1.length : Int)) = true := beq_iff_eq.mpr c47
                 have c47b1 : ((t394.length : Int) != (l1.length : Int)) = false := bne_eq_false_iff_eq.mpr c47
                 have c47b2 : (t394.length == l1.length) = true := by first | simpa using c47 | (simp at c47 ⊢; omega)
                 clear c47
                 have c48b0 := eq_true (of_decide_eq_true (by first | (with_reducible assumption) | assumption) : 0 ≤ (ji20))
                 by_cases c49 : (ji20) ≤ (t394.length : Int)
                 ·
                  rw [if_pos c49] at H
                  have c49b0 := eq_true c49
                  have c49b1 : decide ((ji20) ≤ (t394.length : Int)) = true := decide_eq_true c49
                  clear c49
                  obtain ⟨y403, hy403⟩ : ∃ y_ : List Int, y_ = (t394.take ((ji20) : Int).toNat) := ⟨_, rfl⟩
                  replace H : ((formeref24_SameInts.f kj8 y403 t399).bind fun t407 => (formelaw24_GridFirst.j1 kj8 a0 l1 l2 a3 a4 true ji20 (!t407))) = some r := by first | (rw [hy403]; with_reducible exact H) | (have H2_ := (Option.bind_some _ _).symm.trans H; rw [hy403]; with_reducible exact H2_) | (have H2_ := (Option.bind_some _ _).symm.trans H; with_reducible exact H2_) | with_reducible exact H | (rw [hy403]; exact H) | exact H
                  have Ny403 := Aside0.mk hy403
                  clear hy403
                  replace H := Option.bind_eq_some_iff.mp H
                  obtain ⟨t407, A500, H⟩ := H
                  replace H : (formelaw24_GridFirst.j1 kj8 a0 l1 l2 a3 a4 true ji20 (!t407)) = some r := H
                  have A50 := Aside0.mk A500
                  clear A500
                  have H' := Aside0.mk H
                  clear H
                  obtain ⟨Ao51, co51, eo51⟩ := Kd.R_slice HO397.out
                  subst eo51
                  have q52 : ((ji20) : Int) ≤ ((t394.length : Int) : Int) := of_decide_eq_true (by first | (with_reducible assumption) | assumption)
                  obtain ⟨i052, hi052, _, hsz52, _⟩ := info_parts info3
                  have hroom52 : t394.length ≤ co51 := (Kd.R_reads' HO397.out).2.1
                  have hC52 : Kd.C (Kd.int .i64) _ Ao51 t394.length t394 := (Kd.R_reads' HO397.out).2.2
                  have hcut52 := cut_to (P := Try.prog) 22 3 .i64 Try.underlying22 hi052 Ao51 t394.length co51 (ji20) (of_decide_eq_true (by first | (with_reducible assumption) | assumption)) q52 hroom52
                  have hr52 := Kd.C_take (m := ((ji20) : Int).toNat) hC52 (by omega)
                  have hy52 : y403.length = ((ji20) : Int).toNat := (by rw [Ny403.out, List.length_take]; omega)
                  rw [← Ny403.out] at hr52
                  rw [← hy52] at hcut52
                  have HR406 := Aside0.mk hr52
                  have HC406 := Aside0.mk (show y403.length ≤ co51 from by omega)
                  clear hr52 hC52 hroom52 hi052 hsz52
                  have KY52 := Aside0.mk hy52
                  clear hy52
                  have KL52 := Aside0.mk (show ((ji20) : Int).toNat ≤ t394.length from by omega)
                  replace q52 := eq_true q52
                  obtain ⟨Ao53, co53, eo53⟩ := Kd.R_slice HO402.out
                  subst eo53
                  go_wp2_with (first | (go_at_call 15; (with_reducible refine (formeref24_SameInts.calls kj8 _ _ y403 _ _ t399 t407 _ ?side1 ?side2 ?side3 ?side4 A50.out).mono ?_); (case side1 => repeat (first | exact (by repeat (first | (with_reducible exact HR406.out) | (with_reducible refine Kd.C_alloc ?_ _) | (with_reducible refine Kd.C_drewN ?_ _) | (with_reducible refine Kd.C_drew ?_) | exact HR406.out)) | (with_reducible refine Kd.C_alloc ?_ _) | (with_reducible refine Kd.C_drewN ?_ _) | (with_reducible refine Kd.C_drew ?_))); (case side2 => exact HC406.out); (case side3 => repeat (first | exact (Kd.R_reads' HO402.out).2.2 | (with_reducible refine Kd.C_alloc ?_ _) | (with_reducible refine Kd.C_drewN ?_ _) | (with_reducible refine Kd.C_drew ?_))); (case side4 => exact (Kd.R_reads' HO402.out).2.1); rintro e w' ⟨rfl, ⟨nd, rfl⟩⟩))
                  go_meet
                  case rel => exact ⟨_, (!t407), (by first | rfl | (simp; done) | (simp [*]; done)), H', ⟨by have := HJ8.out; first | omega | exact Nat.le_refl _⟩, ⟨by repeat (first | (with_reducible exact HR392.out) | (with_reducible refine Kd.C_alloc ?_ _) | (with_reducible refine Kd.C_drewN ?_ _) | (with_reducible refine Kd.C_drew ?_) | exact HR392.out)⟩, ⟨by repeat (first | (with_reducible first | exact HB.out | apply below_alloc | apply pw_below_drewN | apply below_drew1) | exact HB.out)⟩⟩
                 ·
                  rw [if_neg c49] at H
                  exact absurd H (by simp)
                ·
                 rw [if_neg c47] at H
                 exact absurd H (by simp)
               ·
                rw [if_neg c46] at H
                have c46b0 : (t395 == 0) = false := beq_eq_false_iff_ne.mpr c46
                have c46b1 : (t395 != 0) = true := bne_iff_ne.mpr c46
                have H' := Aside0.mk H
                clear H
                go_wp2
                go_meet
                case rel => exact ⟨_, (false), (by first | rfl | (simp; done) | (simp [*]; done)), H', ⟨by have := HJ8.out; first | omega | exact Nat.le_refl _⟩, ⟨by repeat (first | (with_reducible exact HR392.out) | (with_reducible refine Kd.C_alloc ?_ _) | (with_reducible refine Kd.C_drewN ?_ _) | (with_reducible refine Kd.C_drew ?_) | exact HR392.out)⟩, ⟨by repeat (first | (with_reducible first | exact HB.out | apply below_alloc | apply pw_below_drewN | apply below_drew1) | exact HB.out)⟩⟩
              ·
               rw [if_neg c45] at H
               exact absurd H (by simp)
             case rest =>
              clear HC35
              try clear c1
              try clear c2
              try clear p2
              try clear c3
              try clear c4
              try clear q4
              try clear c5
              try clear q5
              try clear p6
              try clear c8
              try clear c9
              try clear c10
              try clear c12
              try clear c13
              try clear c13b0
              try clear c13b1
              try clear c13b2
              try clear c17
              try clear c18
              try clear c18b0
              try clear c18b1
              try clear c20
              try clear c21
              try clear c21b0
              try clear c21b1
              try clear c22
              try clear c22b0
              try clear c22b1
              try clear c24
              try clear c24b0
              try clear c24b1
              try clear c25
              try clear c25b0
              try clear c25b1
              try clear c26
              try clear c26b0
              try clear c26b1
              try clear c26b2
              try clear c27
              try clear c27b0
              try clear c28
              try clear c28b0
              try clear c28b1
              try clear c30
              try clear c32
              try clear c32b0
              try clear c33
              try clear c33b0
              try clear q40
              try clear c45
              try clear c45b0
              try clear c45b1
              try clear c46
              try clear c46b0
              try clear c46b1
              try clear c47
              try clear c47b0
              try clear c47b1
              try clear c47b2
              try clear c48
              try clear c48b0
              try clear c49
              try clear c49b0
              try clear c49b1
              try clear q52
              try clear p2
              try clear q40
              try clear q52
              obtain ⟨kq, x127_34, rfl, HA, HJ34, HR392, HB⟩ := hcut
              cases kq with
              | zero => exact absurd HA.out (by simp [formelaw24_GridFirst.j1])
              | succ kj34 =>
               have H := HA.out
               clear HA
               simp only [formelaw24_GridFirst.j1] at H
               by_cases c54 : x127_34 = true
               ·
                subst c54
                have H1 : (some false) = some r := by rw [if_pos rfl] at H; exact H
                clear H
                have H := H1
                clear H1
                obtain rfl := Option.some.inj H
                go_wp2
                go_ret
                exact ⟨by first | rfl | (simp [errW_none, errW_some] <;> rfl) | (simp only [← hji20]; first | rfl | (simp [errW_none, errW_some] <;> rfl)) | (simp [*, errW_none, errW_some] <;> rfl), by repeat (first | (with_reducible first | exact HB.out | apply below_alloc | apply pw_below_drewN | apply below_drew1) | exact HB.out)⟩
               ·
                replace c54 := Bool.eq_false_iff.mpr c54
                subst c54
                have H1 : ((grid_Place.f a0 l1 l2 a3 a4).bind fun bt408 => (if 0 ≤ ji20 then (if ji20 ≤ (l1.length : Int) then (if ji20 ≤ (l2.length : Int) then ((grid_Place.f a0 (l1.take (ji20 : Int).toNat) (l2.take (ji20 : Int).toNat) a3 a4).bind fun bt415 => (if bt408.2.2 = 0 then (if true = true then (if bt415.2.2 = 0 then (if (bt408.1.length : Int) = (l1.length : Int) then (if ji20 ≤ (bt408.1.length : Int) then ((formeref24_Same.f kj34 (bt408.1.take (ji20 : Int).toNat) bt415.1).bind fun t424 => (some t424)) else (none)) else (none)) else (none)) else (none)) else (some true))) else (none)) else (none)) else (none))) = some r := by rw [if_neg (show ¬ (false = true) by decide)] at H; exact H
                clear H
                have H := H1
                clear H1
                replace H := Option.bind_eq_some_iff.mp H
                obtain ⟨⟨t408, t409, t410⟩, A550, H⟩ := H
                replace H : (if 0 ≤ ji20 then (if ji20 ≤ (l1.length : Int) then (if ji20 ≤ (l2.length : Int) then ((grid_Place.f a0 (l1.take (ji20 : Int).toNat) (l2.take (ji20 : Int).toNat) a3 a4).bind fun bt415 => (if t410 = 0 then (if true = true then (if bt415.2.2 = 0 then (if (t408.length : Int) = (l1.length : Int) then (if ji20 ≤ (t408.length : Int) then ((formeref24_Same.f kj34 (t408.take (ji20 : Int).toNat) bt415.1).bind fun t424 => (some t424)) else (none)) else (none)) else (none)) else (none)) else (some true))) else (none)) else (none)) else (none)) = some r := H
                have A55 := Aside0.mk A550
                clear A550
                by_cases c56 : 0 ≤ ji20
                ·
                 rw [if_pos c56] at H
                 have c56b0 := eq_true c56
                 have c56b1 : decide (0 ≤ ji20) = true := decide_eq_true c56
                 clear c56
                 by_cases c57 : ji20 ≤ (l1.length : Int)
                 ·
                  rw [if_pos c57] at H
                  have c57b0 := eq_true c57
                  have c57b1 : decide (ji20 ≤ (l1.length : Int)) = true := decide_eq_true c57
                  clear c57
                  have c58b0 := eq_true (of_decide_eq_true (by first | (with_reducible assumption) | assumption) : 0 ≤ ji20)
                  by_cases c59 : ji20 ≤ (l2.length : Int)
                  ·
                   rw [if_pos c59] at H
                   have c59b0 := eq_true c59
                   have c59b1 : decide (ji20 ≤ (l2.length : Int)) = true := decide_eq_true c59
                   clear c59
                   replace H := Option.bind_eq_some_iff.mp H
                   obtain ⟨⟨t415, t416, t417⟩, A600, H⟩ := H
                   replace H : (if t410 = 0 then (if true = true then (if t417 = 0 then (if (t408.length : Int) = (l1.length : Int) then (if ji20 ≤ (t408.length : Int) then ((formeref24_Same.f kj34 (t408.take (ji20 : Int).toNat) t415).bind fun t424 => (some t424)) else (none)) else (none)) else (none)) else (none)) else (some true)) = some r := H
                   have A60 := Aside0.mk A600
                   clear A600
                   by_cases c61 : t410 = 0
                   ·
                    rw [if_pos c61] at H
                    have c61b0 : (t410 == 0) = true := beq_iff_eq.mpr c61
                    have c61b1 : (t410 != 0) = false := bne_eq_false_iff_eq.mpr c61
                    clear c61
                    (first | rw [if_pos (rfl : true = true)] at H | rw [if_pos True.intro] at H)
                    by_cases c62 : t417 = 0
                    ·
                     rw [if_pos c62] at H
                     have c62b0 : (t417 == 0) = true := beq_iff_eq.mpr c62
                     have c62b1 : (t417 != 0) = false := bne_eq_false_iff_eq.mpr c62
                     clear c62
                     by_cases c63 : (t408.length : Int) = (l1.length : Int)
                     ·
                      rw [if_pos c63] at H
                      have c63b0 : ((t408.length : Int) == (l1.length : Int)) = true := beq_iff_eq.mpr c63
                      have c63b1 : ((t408.length : Int) != (l1.length : Int)) = false := bne_eq_false_iff_eq.mpr c63
                      have c63b2 : (t408.length == l1.length) = true := by first | simpa using c63 | (simp at c63 ⊢; omega)
                      clear c63
                      have c64b0 := eq_true (of_decide_eq_true (by first | (with_reducible assumption) | assumption) : 0 ≤ ji20)
                      by_cases c65 : ji20 ≤ (t408.length : Int)
                      ·
                       rw [if_pos c65] at H
                       have c65b0 := eq_true c65
                       have c65b1 : decide (ji20 ≤ (t408.length : Int)) = true := decide_eq_true c65
                       clear c65
                       obtain ⟨y420, hy420⟩ : ∃ y_ : List (S43), y_ = (t408.take (ji20 : Int).toNat) := ⟨_, rfl⟩
                       replace H : ((formeref24_Same.f kj34 y420 t415).bind fun t424 => (some t424)) = some r := by first | (rw [hy420]; with_reducible exact H) | (have H2_ := (Option.bind_some _ _).symm.trans H; rw [hy420]; with_reducible exact H2_) | (have H2_ := (Option.bind_some _ _).symm.trans H; with_reducible exact H2_) | with_reducible exact H | (rw [hy420]; exact H) | exact H
                       have Ny420 := Aside0.mk hy420
                       clear hy420
                       replace H := Option.bind_eq_some_iff.mp H
                       obtain ⟨t424, A660, H⟩ := H
                       replace H : (some t424) = some r := H
                       have A66 := Aside0.mk A660
                       clear A660
                       obtain rfl := Option.some.inj H
                       try go_wp2_with (first | ((with_reducible refine gate_callee (f := 16) rfl ?_); refine goesL_ (some 134) rfl rfl Try.func16 (by kernel_rfl) rfl #[.int .i64 a0, .slice A1 l1.length c1, .slice A2 l2.length c2, .int .i64 a3, .int .i64 a4] rfl (by (try simp only [List.map_toArray, List.map_cons, List.map_nil]); first | done | rfl | (simp only [List.length_drop, List.length_take]; rfl)) ?_; (with_reducible refine (grid_Place.calls a0 _ _ l1 _ _ l2 a3 a4 t408 t409 t410 _ ?side1 ?side2 ?side3 ?side4 A55.out).mono ?_); (case side1 => repeat (first | exact (Kd.C_below HR1.out HB.out) | (with_reducible refine Kd.C_alloc ?_ _) | (with_reducible refine Kd.C_drewN ?_ _) | (with_reducible refine Kd.C_drew ?_))); (case side2 => exact HC1.out); (case side3 => repeat (first | exact (Kd.C_below HR2.out HB.out) | (with_reducible refine Kd.C_alloc ?_ _) | (with_reducible refine Kd.C_drewN ?_ _) | (with_reducible refine Kd.C_drew ?_))); (case side4 => exact HC2.out); rintro e w67 ⟨v411, rfl, ho0, hb⟩; refine ⟨_, rfl, ?_⟩; have n0_ := Aside0.mk (Kd.S_lower ho0 (below_size (by repeat (first | (with_reducible first | exact HB.out | apply below_alloc | apply pw_below_drewN | apply below_drew1) | exact HB.out)))); have n1_ := Aside0.mk (Kd.C_below (by repeat (first | (with_reducible exact HR392.out) | (with_reducible refine Kd.C_alloc ?_ _) | (with_reducible refine Kd.C_drewN ?_ _) | (with_reducible refine Kd.C_drew ?_) | exact HR392.out)) hb); have n2_ := Aside0.mk (below_step (by repeat (first | (with_reducible first | exact HB.out | apply below_alloc | apply pw_below_drewN | apply below_drew1) | exact HB.out)) hb); clear HR392; clear HB; have HO412 := n0_; have HR392 := n1_; have HB := n2_; clear n0_ n1_ n2_; (try clear hb); (try clear hb2); (try clear hk); (try clear hi); (try clear ho0)))
                       have n0_ := Aside0.mk (Kd.S_drew HO412.out)
                       have n1_ := Aside0.mk (Kd.C_drew HR392.out)
                       have n2_ := Aside0.mk (below_drew1 HB.out)
                       clear HO412
                       clear HR392
                       clear HB
                       have HO412 := n0_
                       have HR392 := n1_
                       have HB := n2_
                       clear n0_ n1_ n2_
                       obtain ⟨i069, hi069, _, hsz69, _⟩ := info_parts info3
                       obtain ⟨hcut69, hA69, hC69⟩ := print_take_of (P := Try.prog) (Value.int .i64) 0 22 3 .i64 Try.underlying22 hi069 hsz69 A1 c1 l1 ji20 (of_decide_eq_true (by first | (with_reducible assumption) | assumption)) (of_decide_eq_true (by first | (with_reducible assumption) | assumption)) HC1.out
                       have HR413 := Aside0.mk (Kd.C_of_reads (h1 := fun _ => rfl) (hA69 _ (Kd.reads_of_C HR1.out)))
                       have HC413 := Aside0.mk hC69
                       clear hA69 hC69 hi069 hsz69
                       obtain ⟨i070, hi070, _, hsz70, _⟩ := info_parts info3
                       obtain ⟨hcut70, hA70, hC70⟩ := print_take_of (P := Try.prog) (Value.int .i64) 0 22 3 .i64 Try.underlying22 hi070 hsz70 A2 c2 l2 ji20 (of_decide_eq_true (by first | (with_reducible assumption) | assumption)) (of_decide_eq_true (by first | (with_reducible assumption) | assumption)) HC2.out
                       have HR414 := Aside0.mk (Kd.C_of_reads (h1 := fun _ => rfl) (hA70 _ (Kd.reads_of_C HR2.out)))
                       have HC414 := Aside0.mk hC70
                       clear hA70 hC70 hi070 hsz70
                       refine start_ (n := 17) (S := fun w' => True) (ds := []) #[false, false, false, false, false, false, false, false, false, false, false, false, false, false, false, false, false] (by kernel_rfl) rfl rfl trivial (fun hHeld => ?_); refine with_tabW formelaw24_GridFirst.tab14 formelaw24_GridFirst.bits14 (fun HT_ HW_ => ?_)
                       generalize w67.drew = w68 at HO412 HR392 HB HR413 HR414 hHeld ⊢
                       refine pure_ (i := 0) (N := some 139) (v := ?_) (a' := ?_) #[true, false, false, false, false, false, false, false, false, false, false, false, false, false, false, false, false] rfl rfl (any_of HT_.out (by kernel_rfl)) (fun _ _ _ h => h) (Or.inl ⟨by rfl, ?_⟩) ?_ ?_
                       rotate_left
                       ·
                        intro w'
                        go_simp
                        with_reducible rfl
                       rotate_left
                       ·
                        simp only [Act.put, List.setIfInBounds_toArray, List.set_cons_zero, List.set_cons_succ, i64_w, i32_w]
                        rfl
                       refine pure_ (i := 1) (N := some 140) (v := ?_) (a' := ?_) #[true, true, false, false, false, false, false, false, false, false, false, false, false, false, false, false, false] rfl rfl (any_of HT_.out (by kernel_rfl)) (fun _ _ _ h => h) (Or.inl ⟨by rfl, ?_⟩) ?_ ?_
                       rotate_left
                       ·
                        intro w'
                        go_simp
                        with_reducible rfl
                       rotate_left
                       ·
                        simp only [Act.put, List.setIfInBounds_toArray, List.set_cons_zero, List.set_cons_succ, i64_w, i32_w]
                        rfl
                       refine pure_ (i := 2) (N := some 141) (v := ?_) (a' := ?_) #[true, true, true, false, false, false, false, false, false, false, false, false, false, false, false, false, false] rfl rfl (any_of HT_.out (by kernel_rfl)) (fun _ _ _ h => h) (Or.inl ⟨by rfl, ?_⟩) ?_ ?_
                       rotate_left
                       ·
                        intro w'
                        go_simp
                        with_reducible rfl
                       rotate_left
                       ·
                        simp only [Act.put, List.setIfInBounds_toArray, List.set_cons_zero, List.set_cons_succ, i64_w, i32_w]
                        rfl
                       refine pure_ (i := 3) (N := some 142) (v := ?_) (a' := ?_) #[true, true, true, true, false, false, false, false, false, false, false, false, false, false, false, false, false] rfl rfl (any_of HT_.out (by kernel_rfl)) (fun _ _ _ h => h) (Or.inl ⟨by rfl, ?_⟩) ?_ ?_
                       rotate_left
                       ·
                        intro w'
                        go_simp
                        with_reducible rfl
                       rotate_left
                       ·
                        simp only [Act.put, List.setIfInBounds_toArray, List.set_cons_zero, List.set_cons_succ, i64_w, i32_w]
                        rfl
                       refine pure_ (i := 4) (N := some 143) (v := ?_) (a' := ?_) #[true, true, true, true, true, false, false, false, false, false, false, false, false, false, false, false, false] rfl rfl (any_of HT_.out (by kernel_rfl)) (fun _ _ _ h => h) (Or.inl ⟨by rfl, ?_⟩) ?_ ?_
                       rotate_left
                       ·
                        intro w'
                        go_simp
                        with_reducible rfl
                       rotate_left
                       ·
                        simp only [Act.put, List.setIfInBounds_toArray, List.set_cons_zero, List.set_cons_succ, i64_w, i32_w]
                        rfl
                       refine pure_ (i := 5) (N := some 144) (v := ?_) (a' := ?_) #[true, true, true, true, true, true, false, false, false, false, false, false, false, false, false, false, false] rfl rfl (any_of HT_.out (by kernel_rfl)) (fun _ _ _ h => h) (Or.inl ⟨by rfl, ?_⟩) ?_ ?_
                       rotate_left
                       ·
                        intro w'
                        go_simp
                        with_reducible rfl
                       rotate_left
                       ·
                        simp only [Act.put, List.setIfInBounds_toArray, List.set_cons_zero, List.set_cons_succ, i64_w, i32_w]
                        rfl
                       refine pure_ (i := 6) (N := some 145) (v := ?_) (a' := ?_) #[true, true, true, true, true, true, true, false, false, false, false, false, false, false, false, false, false] rfl rfl (any_of HT_.out (by kernel_rfl)) (fun _ _ _ h => h) (Or.inl ⟨by rfl, ?_⟩) ?_ ?_
                       rotate_left
                       ·
                        intro w'
                        go_simp
                        with_reducible rfl
                       rotate_left
                       ·
                        simp only [Act.put, List.setIfInBounds_toArray, List.set_cons_zero, List.set_cons_succ, i64_w, i32_w]
                        rfl
                       refine pure_ (i := 7) (N := some 146) (v := ?_) (a' := ?_) #[true, true, true, true, true, true, true, true, false, false, false, false, false, false, false, false, false] rfl rfl (any_of HT_.out (by kernel_rfl)) (fun _ _ _ h => h) (Or.inl ⟨by rfl, ?_⟩) ?_ ?_
                       rotate_left
                       ·
                        intro w'
                        go_simp
                        with_reducible rfl
                       rotate_left
                       ·
                        simp only [Act.put, List.setIfInBounds_toArray, List.set_cons_zero, List.set_cons_succ, i64_w, i32_w]
                        rfl
                       refine pure_ (i := 8) (N := some 147) (v := ?_) (a' := ?_) #[true, true, true, true, true, true, true, true, true, false, false, false, false, false, false, false, false] rfl rfl (any_of HT_.out (by kernel_rfl)) (fun _ _ _ h => h) (Or.inl ⟨by rfl, ?_⟩) ?_ ?_
                       rotate_left
                       ·
                        intro w'
                        go_simp
                        with_reducible rfl
                       rotate_left
                       ·
                        simp only [Act.put, List.setIfInBounds_toArray, List.set_cons_zero, List.set_cons_succ, i64_w, i32_w]
                        rfl
                       refine one_ (i := 9) (N := some 148) #[true, true, true, true, true, true, true, true, true, true, false, false, false, false, false, false, false] rfl rfl (one_of HT_.out (by kernel_rfl)) (by decide) (fun K hK => ?_)
                       refine goes_ Try.func16 (by kernel_rfl) rfl #[.int .i64 a0, .slice A1 (l1.take (ji20 : Int).toNat).length c1, .slice A2 (l2.take (ji20 : Int).toNat).length c2, .int .i64 a3, .int .i64 a4] (by rfl) rfl rfl (by (try simp only [List.map_toArray, List.map_cons, List.map_nil]); first | done | (rw [show (l1.take (ji20 : Int).toNat).length = ji20.toNat from (by rw [List.length_take]; have h_ : (ji20 : Int) ≤ (l1.length : Int) := of_decide_eq_true (by first | (with_reducible assumption) | assumption); omega), show (l2.take (ji20 : Int).toNat).length = ji20.toNat from (by rw [List.length_take]; have h_ : (ji20 : Int) ≤ (l2.length : Int) := of_decide_eq_true (by first | (with_reducible assumption) | assumption); omega)] <;> rfl) | (rw [show (l1.take (ji20 : Int).toNat).length = ji20.toNat from (by rw [List.length_take]; have h_ : (ji20 : Int) ≤ (l1.length : Int) := of_decide_eq_true (by first | (with_reducible assumption) | assumption); omega)] <;> rfl) | (rw [show (l2.take (ji20 : Int).toNat).length = ji20.toNat from (by rw [List.length_take]; have h_ : (ji20 : Int) ≤ (l2.length : Int) := of_decide_eq_true (by first | (with_reducible assumption) | assumption); omega)] <;> rfl) | (simp only [hji20]; rfl) | rfl | (simp only [List.length_drop, List.length_take]; rfl)) ?_
                       with_reducible refine (grid_Place.calls a0 _ _ (l1.take (ji20 : Int).toNat) _ _ (l2.take (ji20 : Int).toNat) a3 a4 t415 t416 t417 _ ?side1 ?side2 ?side3 ?side4 A60.out).mono ?_
                       (case side1 => repeat (first | exact (Kd.C_below HR413.out HB.out) | (with_reducible refine Kd.C_alloc ?_ _) | (with_reducible refine Kd.C_drewN ?_ _) | (with_reducible refine Kd.C_drew ?_)))
                       (case side2 => exact HC413.out)
                       (case side3 => repeat (first | exact (Kd.C_below HR414.out HB.out) | (with_reducible refine Kd.C_alloc ?_ _) | (with_reducible refine Kd.C_drewN ?_ _) | (with_reducible refine Kd.C_drew ?_)))
                       (case side4 => exact HC414.out)
                       rintro e w71 ⟨v418, rfl, ho0, hb⟩
                       refine ⟨_, rfl, ?_⟩
                       have n0_ := Aside0.mk (Kd.S_elder' (by (with_reducible repeat (first | apply Kd.S_alloc | apply Kd.S_drewN | apply Kd.S_drew)); exact HO412.out) (Kd.S_base ho0) hb)
                       have n1_ := Aside0.mk (Kd.S_lower (Kd.S_new' ho0 (Kd.S_lt (by (with_reducible repeat (first | apply Kd.S_alloc | apply Kd.S_drewN | apply Kd.S_drew)); exact HO412.out))) (below_size (by repeat (first | (with_reducible first | exact HB.out | apply below_alloc | apply pw_below_drewN | apply below_drew1) | exact HB.out))))
                       have n2_ := Aside0.mk (Kd.C_below (by repeat (first | (with_reducible exact HR392.out) | (with_reducible refine Kd.C_alloc ?_ _) | (with_reducible refine Kd.C_drewN ?_ _) | (with_reducible refine Kd.C_drew ?_) | exact HR392.out)) hb)
                       have n3_ := Aside0.mk (below_step (by repeat (first | (with_reducible first | exact HB.out | apply below_alloc | apply pw_below_drewN | apply below_drew1) | exact HB.out)) hb)
                       clear HO412
                       clear HR392
                       clear HB
                       have HO412 := n0_
                       have HO419 := n1_
                       have HR392 := n2_
                       have HB := n3_
                       clear n0_ n1_ n2_ n3_
                       (try clear hb)
                       (try clear hb2)
                       (try clear hk)
                       (try clear hi)
                       (try clear ho0)
                       refine hK.out _ _ trivial (fun hHeld => ?_)
                       clear hK K
                       refine norm_ (a' := ?_) ?_ ?_
                       rotate_left
                       ·
                        show Act.put _ (some 148) _ = _
                        simp only [Act.put, List.setIfInBounds_toArray, List.set_cons_zero, List.set_cons_succ, i64_w, i32_w]
                        rfl
                       refine pure_ (i := 10) (N := some 138) (v := ?_) (a' := ?_) #[true, true, true, true, true, true, true, true, true, true, true, false, false, false, false, false, false] rfl rfl (any_of HT_.out (by kernel_rfl)) (fun _ _ _ h => h) (Or.inl ⟨by rfl, ?_⟩) ?_ ?_
                       rotate_left
                       ·
                        intro w'
                        go_simp
                        with_reducible rfl
                       rotate_left
                       ·
                        simp only [Act.put, List.setIfInBounds_toArray, List.set_cons_zero, List.set_cons_succ, i64_w, i32_w]
                        rfl
                       refine pure_ (i := 11) (N := some 149) (v := ?_) (a' := ?_) #[true, true, true, true, true, true, true, true, true, true, true, true, false, false, false, false, false] rfl rfl (any_of HT_.out (by kernel_rfl)) (fun _ _ _ h => h) (Or.inl ⟨by rfl, ?_⟩) ?_ ?_
                       rotate_left
                       ·
                        intro w'
                        go_simp
                        with_reducible rfl
                       rotate_left
                       ·
                        simp only [Act.put, List.setIfInBounds_toArray, List.set_cons_zero, List.set_cons_succ, i64_w, i32_w]
                        rfl
                       refine pure_ (i := 12) (N := some 150) (v := ?_) (a' := ?_) #[true, true, true, true, true, true, true, true, true, true, true, true, true, false, false, false, false] rfl rfl (any_of HT_.out (by kernel_rfl)) (fun _ _ _ h => h) (Or.inl ⟨by rfl, ?_⟩) ?_ ?_
                       rotate_left
                       ·
                        intro w'
                        go_simp
                        with_reducible rfl
                       rotate_left
                       ·
                        simp only [Act.put, List.setIfInBounds_toArray, List.set_cons_zero, List.set_cons_succ, i64_w, i32_w]
                        rfl
                       refine pure_ (i := 13) (N := some 151) (v := ?_) (a' := ?_) #[true, true, true, true, true, true, true, true, true, true, true, true, true, true, false, false, false] rfl rfl (any_of HT_.out (by kernel_rfl)) (fun _ _ _ h => h) (Or.inl ⟨by rfl, ?_⟩) ?_ ?_
                       rotate_left
                       ·
                        intro w'
                        go_simp
                        with_reducible rfl
                       rotate_left
                       ·
                        simp only [Act.put, List.setIfInBounds_toArray, List.set_cons_zero, List.set_cons_succ, i64_w, i32_w]
                        rfl
                       refine pure_ (i := 14) (N := some 26) (v := ?_) (a' := ?_) #[true, true, true, true, true, true, true, true, true, true, true, true, true, true, true, false, false] rfl rfl (any_of HT_.out (by kernel_rfl)) (fun _ _ _ h => h) (Or.inl ⟨by rfl, ?_⟩) ?_ ?_
                       rotate_left
                       ·
                        intro w'
                        go_simp
                        with_reducible rfl
                       rotate_left
                       ·
                        simp only [Act.put, List.setIfInBounds_toArray, List.set_cons_zero, List.set_cons_succ, i64_w, i32_w]
                        rfl
                       refine pure_ (i := 15) (N := some 27) (v := ?_) (a' := ?_) #[true, true, true, true, true, true, true, true, true, true, true, true, true, true, true, true, false] rfl rfl (any_of HT_.out (by kernel_rfl)) (fun _ _ _ h => h) (Or.inl ⟨by rfl, ?_⟩) ?_ ?_
                       rotate_left
                       ·
                        intro w'
                        go_simp
                        with_reducible rfl
                       rotate_left
                       ·
                        simp only [Act.put, List.setIfInBounds_toArray, List.set_cons_zero, List.set_cons_succ, i64_w, i32_w]
                        rfl
                       refine pure_ (i := 16) (N := some 28) (v := ?_) (a' := ?_) #[true, true, true, true, true, true, true, true, true, true, true, true, true, true, true, true, true] rfl rfl (any_of HT_.out (by kernel_rfl)) (fun _ _ _ h => h) (Or.inl ⟨by rfl, ?_⟩) ?_ ?_
                       rotate_left
                       ·
                        intro w'
                        go_simp
                        with_reducible rfl
                       rotate_left
                       ·
                        simp only [Act.put, List.setIfInBounds_toArray, List.set_cons_zero, List.set_cons_succ, i64_w, i32_w]
                        rfl
                       refine done_ (done_of HT_.out (by kernel_rfl)) ?_
                       obtain ⟨Ao72, co72, eo72⟩ := Kd.S_slice HO412.out
                       subst eo72
                       have q73 : (ji20 : Int) ≤ ((t408.length : Int) : Int) := of_decide_eq_true (by first | (with_reducible assumption) | assumption)
                       obtain ⟨i073, hi073, _, hsz73, _⟩ := info_parts info43
                       have hroom73 : t408.length ≤ co72 := (Kd.S_reads' HO412.out).2.1
                       have hC73 : Kd.C k43 _ Ao72 t408.length t408 := (Kd.S_reads' HO412.out).2.2
                       have hcut73 := cut_to (P := Try.prog) 32 43 .i64 Try.underlying32 hi073 Ao72 t408.length co72 ji20 (of_decide_eq_true (by first | (with_reducible assumption) | assumption)) q73 hroom73
                       have hr73 := Kd.C_take (m := (ji20 : Int).toNat) hC73 (by omega)
                       have hy73 : y420.length = (ji20 : Int).toNat := (by rw [Ny420.out, List.length_take]; omega)
                       rw [← Ny420.out] at hr73
                       rw [← hy73] at hcut73
                       have HR423 := Aside0.mk hr73
                       have HC423 := Aside0.mk (show y420.length ≤ co72 from by omega)
                       clear hr73 hC73 hroom73 hi073 hsz73
                       have KY73 := Aside0.mk hy73
                       clear hy73
                       have KL73 := Aside0.mk (show (ji20 : Int).toNat ≤ t408.length from by omega)
                       replace q73 := eq_true q73
                       obtain ⟨Ao74, co74, eo74⟩ := Kd.S_slice HO419.out
                       subst eo74
                       try go_wp2_with (first | (go_at_call 18; (with_reducible refine (formeref24_Same.calls kj34 _ _ y420 _ _ t415 t424 _ ?side1 ?side2 ?side3 ?side4 A66.out).mono ?_); (case side1 => repeat (first | exact (by repeat (first | (with_reducible exact HR423.out) | (with_reducible refine Kd.C_alloc ?_ _) | (with_reducible refine Kd.C_drewN ?_ _) | (with_reducible refine Kd.C_drew ?_) | exact HR423.out)) | (with_reducible refine Kd.C_alloc ?_ _) | (with_reducible refine Kd.C_drewN ?_ _) | (with_reducible refine Kd.C_drew ?_))); (case side2 => exact HC423.out); (case side3 => repeat (first | exact (Kd.S_reads' HO419.out).2.2 | (with_reducible refine Kd.C_alloc ?_ _) | (with_reducible refine Kd.C_drewN ?_ _) | (with_reducible refine Kd.C_drew ?_))); (case side4 => exact (Kd.S_reads' HO419.out).2.1); rintro e w' ⟨rfl, ⟨nd, rfl⟩⟩))
                       go_ret
                       exact ⟨by first | rfl | (simp [errW_none, errW_some] <;> rfl) | (simp only [← hji20]; first | rfl | (simp [errW_none, errW_some] <;> rfl)) | (simp [*, errW_none, errW_some] <;> rfl), by repeat (first | (with_reducible first | exact HB.out | apply below_alloc | apply pw_below_drewN | apply below_drew1) | exact HB.out)⟩
                      ·
                       rw [if_neg c65] at H
                       exact absurd H (by simp)
                     ·
                      rw [if_neg c63] at H
                      exact absurd H (by simp)
                    ·
                     rw [if_neg c62] at H
                     exact absurd H (by simp)
                   ·
                    rw [if_neg c61] at H
                    have c61b0 : (t410 == 0) = false := beq_eq_false_iff_ne.mpr c61
                    have c61b1 : (t410 != 0) = true := bne_iff_ne.mpr c61
                    obtain rfl := Option.some.inj H
                    try go_wp2_with (first | ((with_reducible refine gate_callee (f := 16) rfl ?_); refine goesL_ (some 134) rfl rfl Try.func16 (by kernel_rfl) rfl #[.int .i64 a0, .slice A1 l1.length c1, .slice A2 l2.length c2, .int .i64 a3, .int .i64 a4] rfl (by (try simp only [List.map_toArray, List.map_cons, List.map_nil]); first | done | rfl | (simp only [List.length_drop, List.length_take]; rfl)) ?_; (with_reducible refine (grid_Place.calls a0 _ _ l1 _ _ l2 a3 a4 t408 t409 t410 _ ?side1 ?side2 ?side3 ?side4 A55.out).mono ?_); (case side1 => repeat (first | exact (Kd.C_below HR1.out HB.out) | (with_reducible refine Kd.C_alloc ?_ _) | (with_reducible refine Kd.C_drewN ?_ _) | (with_reducible refine Kd.C_drew ?_))); (case side2 => exact HC1.out); (case side3 => repeat (first | exact (Kd.C_below HR2.out HB.out) | (with_reducible refine Kd.C_alloc ?_ _) | (with_reducible refine Kd.C_drewN ?_ _) | (with_reducible refine Kd.C_drew ?_))); (case side4 => exact HC2.out); rintro e w75 ⟨v411, rfl, ho0, hb⟩; refine ⟨_, rfl, ?_⟩; have n0_ := Aside0.mk (Kd.S_lower ho0 (below_size (by repeat (first | (with_reducible first | exact HB.out | apply below_alloc | apply pw_below_drewN | apply below_drew1) | exact HB.out)))); have n1_ := Aside0.mk (Kd.C_below (by repeat (first | (with_reducible exact HR392.out) | (with_reducible refine Kd.C_alloc ?_ _) | (with_reducible refine Kd.C_drewN ?_ _) | (with_reducible refine Kd.C_drew ?_) | exact HR392.out)) hb); have n2_ := Aside0.mk (below_step (by repeat (first | (with_reducible first | exact HB.out | apply below_alloc | apply pw_below_drewN | apply below_drew1) | exact HB.out)) hb); clear HR392; clear HB; have HO412 := n0_; have HR392 := n1_; have HB := n2_; clear n0_ n1_ n2_; (try clear hb); (try clear hb2); (try clear hk); (try clear hi); (try clear ho0)))
                    have n0_ := Aside0.mk (Kd.S_drew HO412.out)
                    have n1_ := Aside0.mk (Kd.C_drew HR392.out)
                    have n2_ := Aside0.mk (below_drew1 HB.out)
                    clear HO412
                    clear HR392
                    clear HB
                    have HO412 := n0_
                    have HR392 := n1_
                    have HB := n2_
                    clear n0_ n1_ n2_
                    obtain ⟨i077, hi077, _, hsz77, _⟩ := info_parts info3
                    obtain ⟨hcut77, hA77, hC77⟩ := print_take_of (P := Try.prog) (Value.int .i64) 0 22 3 .i64 Try.underlying22 hi077 hsz77 A1 c1 l1 ji20 (of_decide_eq_true (by first | (with_reducible assumption) | assumption)) (of_decide_eq_true (by first | (with_reducible assumption) | assumption)) HC1.out
                    have HR413 := Aside0.mk (Kd.C_of_reads (h1 := fun _ => rfl) (hA77 _ (Kd.reads_of_C HR1.out)))
                    have HC413 := Aside0.mk hC77
                    clear hA77 hC77 hi077 hsz77
                    obtain ⟨i078, hi078, _, hsz78, _⟩ := info_parts info3
                    obtain ⟨hcut78, hA78, hC78⟩ := print_take_of (P := Try.prog) (Value.int .i64) 0 22 3 .i64 Try.underlying22 hi078 hsz78 A2 c2 l2 ji20 (of_decide_eq_true (by first | (with_reducible assumption) | assumption)) (of_decide_eq_true (by first | (with_reducible assumption) | assumption)) HC2.out
                    have HR414 := Aside0.mk (Kd.C_of_reads (h1 := fun _ => rfl) (hA78 _ (Kd.reads_of_C HR2.out)))
                    have HC414 := Aside0.mk hC78
                    clear hA78 hC78 hi078 hsz78
                    refine start_ (n := 17) (S := fun w' => True) (ds := []) #[false, false, false, false, false, false, false, false, false, false, false, false, false, false, false, false, false] (by kernel_rfl) rfl rfl trivial (fun hHeld => ?_); refine with_tabW formelaw24_GridFirst.tab14 formelaw24_GridFirst.bits14 (fun HT_ HW_ => ?_)
                    generalize w75.drew = w76 at HO412 HR392 HB HR413 HR414 hHeld ⊢
                    refine pure_ (i := 0) (N := some 139) (v := ?_) (a' := ?_) #[true, false, false, false, false, false, false, false, false, false, false, false, false, false, false, false, false] rfl rfl (any_of HT_.out (by kernel_rfl)) (fun _ _ _ h => h) (Or.inl ⟨by rfl, ?_⟩) ?_ ?_
                    rotate_left
                    ·
                     intro w'
                     go_simp
                     with_reducible rfl
                    rotate_left
                    ·
                     simp only [Act.put, List.setIfInBounds_toArray, List.set_cons_zero, List.set_cons_succ, i64_w, i32_w]
                     rfl
                    refine pure_ (i := 1) (N := some 140) (v := ?_) (a' := ?_) #[true, true, false, false, false, false, false, false, false, false, false, false, false, false, false, false, false] rfl rfl (any_of HT_.out (by kernel_rfl)) (fun _ _ _ h => h) (Or.inl ⟨by rfl, ?_⟩) ?_ ?_
                    rotate_left
                    ·
                     intro w'
                     go_simp
                     with_reducible rfl
                    rotate_left
                    ·
                     simp only [Act.put, List.setIfInBounds_toArray, List.set_cons_zero, List.set_cons_succ, i64_w, i32_w]
                     rfl
                    refine pure_ (i := 2) (N := some 141) (v := ?_) (a' := ?_) #[true, true, true, false, false, false, false, false, false, false, false, false, false, false, false, false, false] rfl rfl (any_of HT_.out (by kernel_rfl)) (fun _ _ _ h => h) (Or.inl ⟨by rfl, ?_⟩) ?_ ?_
                    rotate_left
                    ·
                     intro w'
                     go_simp
                     with_reducible rfl
                    rotate_left
                    ·
                     simp only [Act.put, List.setIfInBounds_toArray, List.set_cons_zero, List.set_cons_succ, i64_w, i32_w]
                     rfl
                    refine pure_ (i := 3) (N := some 142) (v := ?_) (a' := ?_) #[true, true, true, true, false, false, false, false, false, false, false, false, false, false, false, false, false] rfl rfl (any_of HT_.out (by kernel_rfl)) (fun _ _ _ h => h) (Or.inl ⟨by rfl, ?_⟩) ?_ ?_
                    rotate_left
                    ·
                     intro w'
                     go_simp
                     with_reducible rfl
                    rotate_left
                    ·
                     simp only [Act.put, List.setIfInBounds_toArray, List.set_cons_zero, List.set_cons_succ, i64_w, i32_w]
                     rfl
                    refine pure_ (i := 4) (N := some 143) (v := ?_) (a' := ?_) #[true, true, true, true, true, false, false, false, false, false, false, false, false, false, false, false, false] rfl rfl (any_of HT_.out (by kernel_rfl)) (fun _ _ _ h => h) (Or.inl ⟨by rfl, ?_⟩) ?_ ?_
                    rotate_left
                    ·
                     intro w'
                     go_simp
                     with_reducible rfl
                    rotate_left
                    ·
                     simp only [Act.put, List.setIfInBounds_toArray, List.set_cons_zero, List.set_cons_succ, i64_w, i32_w]
                     rfl
                    refine pure_ (i := 5) (N := some 144) (v := ?_) (a' := ?_) #[true, true, true, true, true, true, false, false, false, false, false, false, false, false, false, false, false] rfl rfl (any_of HT_.out (by kernel_rfl)) (fun _ _ _ h => h) (Or.inl ⟨by rfl, ?_⟩) ?_ ?_
                    rotate_left
                    ·
                     intro w'
                     go_simp
                     with_reducible rfl
                    rotate_left
                    ·
                     simp only [Act.put, List.setIfInBounds_toArray, List.set_cons_zero, List.set_cons_succ, i64_w, i32_w]
                     rfl
                    refine pure_ (i := 6) (N := some 145) (v := ?_) (a' := ?_) #[true, true, true, true, true, true, true, false, false, false, false, false, false, false, false, false, false] rfl rfl (any_of HT_.out (by kernel_rfl)) (fun _ _ _ h => h) (Or.inl ⟨by rfl, ?_⟩) ?_ ?_
                    rotate_left
                    ·
                     intro w'
                     go_simp
                     with_reducible rfl
                    rotate_left
                    ·
                     simp only [Act.put, List.setIfInBounds_toArray, List.set_cons_zero, List.set_cons_succ, i64_w, i32_w]
                     rfl
                    refine pure_ (i := 7) (N := some 146) (v := ?_) (a' := ?_) #[true, true, true, true, true, true, true, true, false, false, false, false, false, false, false, false, false] rfl rfl (any_of HT_.out (by kernel_rfl)) (fun _ _ _ h => h) (Or.inl ⟨by rfl, ?_⟩) ?_ ?_
                    rotate_left
                    ·
                     intro w'
                     go_simp
                     with_reducible rfl
                    rotate_left
                    ·
                     simp only [Act.put, List.setIfInBounds_toArray, List.set_cons_zero, List.set_cons_succ, i64_w, i32_w]
                     rfl
                    refine pure_ (i := 8) (N := some 147) (v := ?_) (a' := ?_) #[true, true, true, true, true, true, true, true, true, false, false, false, false, false, false, false, false] rfl rfl (any_of HT_.out (by kernel_rfl)) (fun _ _ _ h => h) (Or.inl ⟨by rfl, ?_⟩) ?_ ?_
                    rotate_left
                    ·
                     intro w'
                     go_simp
                     with_reducible rfl
                    rotate_left
                    ·
                     simp only [Act.put, List.setIfInBounds_toArray, List.set_cons_zero, List.set_cons_succ, i64_w, i32_w]
                     rfl
                    refine one_ (i := 9) (N := some 148) #[true, true, true, true, true, true, true, true, true, true, false, false, false, false, false, false, false] rfl rfl (one_of HT_.out (by kernel_rfl)) (by decide) (fun K hK => ?_)
                    refine goes_ Try.func16 (by kernel_rfl) rfl #[.int .i64 a0, .slice A1 (l1.take (ji20 : Int).toNat).length c1, .slice A2 (l2.take (ji20 : Int).toNat).length c2, .int .i64 a3, .int .i64 a4] (by rfl) rfl rfl (by (try simp only [List.map_toArray, List.map_cons, List.map_nil]); first | done | (rw [show (l1.take (ji20 : Int).toNat).length = ji20.toNat from (by rw [List.length_take]; have h_ : (ji20 : Int) ≤ (l1.length : Int) := of_decide_eq_true (by first | (with_reducible assumption) | assumption); omega), show (l2.take (ji20 : Int).toNat).length = ji20.toNat from (by rw [List.length_take]; have h_ : (ji20 : Int) ≤ (l2.length : Int) := of_decide_eq_true (by first | (with_reducible assumption) | assumption); omega)] <;> rfl) | (rw [show (l1.take (ji20 : Int).toNat).length = ji20.toNat from (by rw [List.length_take]; have h_ : (ji20 : Int) ≤ (l1.length : Int) := of_decide_eq_true (by first | (with_reducible assumption) | assumption); omega)] <;> rfl) | (rw [show (l2.take (ji20 : Int).toNat).length = ji20.toNat from (by rw [List.length_take]; have h_ : (ji20 : Int) ≤ (l2.length : Int) := of_decide_eq_true (by first | (with_reducible assumption) | assumption); omega)] <;> rfl) | (simp only [hji20]; rfl) | rfl | (simp only [List.length_drop, List.length_take]; rfl)) ?_
                    with_reducible refine (grid_Place.calls a0 _ _ (l1.take (ji20 : Int).toNat) _ _ (l2.take (ji20 : Int).toNat) a3 a4 t415 t416 t417 _ ?side1 ?side2 ?side3 ?side4 A60.out).mono ?_
                    (case side1 => repeat (first | exact (Kd.C_below HR413.out HB.out) | (with_reducible refine Kd.C_alloc ?_ _) | (with_reducible refine Kd.C_drewN ?_ _) | (with_reducible refine Kd.C_drew ?_)))
                    (case side2 => exact HC413.out)
                    (case side3 => repeat (first | exact (Kd.C_below HR414.out HB.out) | (with_reducible refine Kd.C_alloc ?_ _) | (with_reducible refine Kd.C_drewN ?_ _) | (with_reducible refine Kd.C_drew ?_)))
                    (case side4 => exact HC414.out)
                    rintro e w79 ⟨v418, rfl, ho0, hb⟩
                    refine ⟨_, rfl, ?_⟩
                    have n0_ := Aside0.mk (Kd.S_elder' (by (with_reducible repeat (first | apply Kd.S_alloc | apply Kd.S_drewN | apply Kd.S_drew)); exact HO412.out) (Kd.S_base ho0) hb)
                    have n1_ := Aside0.mk (Kd.S_lower (Kd.S_new' ho0 (Kd.S_lt (by (with_reducible repeat (first | apply Kd.S_alloc | apply Kd.S_drewN | apply Kd.S_drew)); exact HO412.out))) (below_size (by repeat (first | (with_reducible first | exact HB.out | apply below_alloc | apply pw_below_drewN | apply below_drew1) | exact HB.out))))
                    have n2_ := Aside0.mk (Kd.C_below (by repeat (first | (with_reducible exact HR392.out) | (with_reducible refine Kd.C_alloc ?_ _) | (with_reducible refine Kd.C_drewN ?_ _) | (with_reducible refine Kd.C_drew ?_) | exact HR392.out)) hb)
                    have n3_ := Aside0.mk (below_step (by repeat (first | (with_reducible first | exact HB.out | apply below_alloc | apply pw_below_drewN | apply below_drew1) | exact HB.out)) hb)
                    clear HO412
                    clear HR392
                    clear HB
                    have HO412 := n0_
                    have HO419 := n1_
                    have HR392 := n2_
                    have HB := n3_
                    clear n0_ n1_ n2_ n3_
                    (try clear hb)
                    (try clear hb2)
                    (try clear hk)
                    (try clear hi)
                    (try clear ho0)
                    refine hK.out _ _ trivial (fun hHeld => ?_)
                    clear hK K
                    refine norm_ (a' := ?_) ?_ ?_
                    rotate_left
                    ·
                     show Act.put _ (some 148) _ = _
                     simp only [Act.put, List.setIfInBounds_toArray, List.set_cons_zero, List.set_cons_succ, i64_w, i32_w]
                     rfl
                    refine pure_ (i := 10) (N := some 138) (v := ?_) (a' := ?_) #[true, true, true, true, true, true, true, true, true, true, true, false, false, false, false, false, false] rfl rfl (any_of HT_.out (by kernel_rfl)) (fun _ _ _ h => h) (Or.inl ⟨by rfl, ?_⟩) ?_ ?_
                    rotate_left
                    ·
                     intro w'
                     go_simp
                     with_reducible rfl
                    rotate_left
                    ·
                     simp only [Act.put, List.setIfInBounds_toArray, List.set_cons_zero, List.set_cons_succ, i64_w, i32_w]
                     rfl
                    refine pure_ (i := 11) (N := some 149) (v := ?_) (a' := ?_) #[true, true, true, true, true, true, true, true, true, true, true, true, false, false, false, false, false] rfl rfl (any_of HT_.out (by kernel_rfl)) (fun _ _ _ h => h) (Or.inl ⟨by rfl, ?_⟩) ?_ ?_
                    rotate_left
                    ·
                     intro w'
                     go_simp
                     with_reducible rfl
                    rotate_left
                    ·
                     simp only [Act.put, List.setIfInBounds_toArray, List.set_cons_zero, List.set_cons_succ, i64_w, i32_w]
                     rfl
                    refine pure_ (i := 12) (N := some 150) (v := ?_) (a' := ?_) #[true, true, true, true, true, true, true, true, true, true, true, true, true, false, false, false, false] rfl rfl (any_of HT_.out (by kernel_rfl)) (fun _ _ _ h => h) (Or.inl ⟨by rfl, ?_⟩) ?_ ?_
                    rotate_left
                    ·
                     intro w'
                     go_simp
                     with_reducible rfl
                    rotate_left
                    ·
                     simp only [Act.put, List.setIfInBounds_toArray, List.set_cons_zero, List.set_cons_succ, i64_w, i32_w]
                     rfl
                    refine pure_ (i := 13) (N := some 151) (v := ?_) (a' := ?_) #[true, true, true, true, true, true, true, true, true, true, true, true, true, true, false, false, false] rfl rfl (any_of HT_.out (by kernel_rfl)) (fun _ _ _ h => h) (Or.inl ⟨by rfl, ?_⟩) ?_ ?_
                    rotate_left
                    ·
                     intro w'
                     go_simp
                     with_reducible rfl
                    rotate_left
                    ·
                     simp only [Act.put, List.setIfInBounds_toArray, List.set_cons_zero, List.set_cons_succ, i64_w, i32_w]
                     rfl
                    refine pure_ (i := 14) (N := some 26) (v := ?_) (a' := ?_) #[true, true, true, true, true, true, true, true, true, true, true, true, true, true, true, false, false] rfl rfl (any_of HT_.out (by kernel_rfl)) (fun _ _ _ h => h) (Or.inl ⟨by rfl, ?_⟩) ?_ ?_
                    rotate_left
                    ·
                     intro w'
                     go_simp
                     with_reducible rfl
                    rotate_left
                    ·
                     simp only [Act.put, List.setIfInBounds_toArray, List.set_cons_zero, List.set_cons_succ, i64_w, i32_w]
                     rfl
                    refine pure_ (i := 15) (N := some 27) (v := ?_) (a' := ?_) #[true, true, true, true, true, true, true, true, true, true, true, true, true, true, true, true, false] rfl rfl (any_of HT_.out (by kernel_rfl)) (fun _ _ _ h => h) (Or.inl ⟨by rfl, ?_⟩) ?_ ?_
                    rotate_left
                    ·
                     intro w'
                     go_simp
                     with_reducible rfl
                    rotate_left
                    ·
                     simp only [Act.put, List.setIfInBounds_toArray, List.set_cons_zero, List.set_cons_succ, i64_w, i32_w]
                     rfl
                    refine pure_ (i := 16) (N := some 28) (v := ?_) (a' := ?_) #[true, true, true, true, true, true, true, true, true, true, true, true, true, true, true, true, true] rfl rfl (any_of HT_.out (by kernel_rfl)) (fun _ _ _ h => h) (Or.inl ⟨by rfl, ?_⟩) ?_ ?_
                    rotate_left
                    ·
                     intro w'
                     go_simp
                     with_reducible rfl
                    rotate_left
                    ·
                     simp only [Act.put, List.setIfInBounds_toArray, List.set_cons_zero, List.set_cons_succ, i64_w, i32_w]
                     rfl
                    refine done_ (done_of HT_.out (by kernel_rfl)) ?_
                    try go_wp2
                    go_ret
                    exact ⟨by first | rfl | (simp [errW_none, errW_some] <;> rfl) | (simp only [← hji20]; first | rfl | (simp [errW_none, errW_some] <;> rfl)) | (simp [*, errW_none, errW_some] <;> rfl), by repeat (first | (with_reducible first | exact HB.out | apply below_alloc | apply pw_below_drewN | apply below_drew1) | exact HB.out)⟩
                  ·
                   rw [if_neg c59] at H
                   exact absurd H (by simp)
                 ·
                  rw [if_neg c57] at H
                  exact absurd H (by simp)
                ·
                 rw [if_neg c56] at H
                 exact absurd H (by simp)
            ·
             replace c30 := Bool.eq_false_iff.mpr c30
             subst c30
             have H1 : (some false) = some r := by rw [if_neg (show ¬ (false = true) by decide)] at H; exact H
             clear H
             have H := H1
             clear H1
             obtain rfl := Option.some.inj H
             go_wp2_with (first | ((with_reducible refine gate_callee (f := 10) rfl ?_); refine goesL_ (some 56) rfl rfl Try.func10 (by kernel_rfl) rfl #[.int .i64 a0, .slice A1 l1.length c1] rfl (by (try simp only [List.map_toArray, List.map_cons, List.map_nil]); first | done | rfl | (simp only [List.length_drop, List.length_take]; rfl)) ?_; (with_reducible refine (grid_Cells.calls a0 _ _ l1 t380 t381 _ ?side1 ?side2 A19.out).mono ?_); (case side1 => repeat (first | exact (Kd.C_below HR1.out HB.out) | (with_reducible refine Kd.C_alloc ?_ _) | (with_reducible refine Kd.C_drewN ?_ _) | (with_reducible refine Kd.C_drew ?_))); (case side2 => exact HC1.out); rintro e w80 ⟨v382, rfl, ho0, hb⟩; refine ⟨_, rfl, ?_⟩; have n0_ := Aside0.mk (Kd.R_lower ho0 (below_size (by repeat (first | (with_reducible first | exact HB.out | apply below_alloc | apply pw_below_drewN | apply below_drew1) | exact HB.out)))); have n1_ := Aside0.mk (below_step (by repeat (first | (with_reducible first | exact HB.out | apply below_alloc | apply pw_below_drewN | apply below_drew1) | exact HB.out)) hb); clear HB; have HO383 := n0_; have HB := n1_; clear n0_ n1_; (try clear hb); (try clear hb2); (try clear hk); (try clear hi); (try clear ho0); obtain ⟨i081, hi081, _, hsz81, _⟩ := info_parts info3; obtain ⟨hcut81, hA81, hC81⟩ := print_take_of (P := Try.prog) (Value.int .i64) 0 22 3 .i64 Try.underlying22 hi081 hsz81 A1 c1 l1 (ji20) (of_decide_eq_true (by first | (with_reducible assumption) | assumption)) (of_decide_eq_true (by first | (with_reducible assumption) | assumption)) HC1.out; have HR384 := Aside0.mk (Kd.C_of_reads (h1 := fun _ => rfl) (hA81 _ (Kd.reads_of_C HR1.out))); have HC384 := Aside0.mk hC81; clear hA81 hC81 hi081 hsz81) | ((with_reducible refine gate_callee (f := 10) rfl ?_); refine goesL_ (some 64) rfl rfl Try.func10 (by kernel_rfl) rfl #[.int .i64 a0, .slice A1 (l1.take ((ji20) : Int).toNat).length c1] rfl (by (try simp only [List.map_toArray, List.map_cons, List.map_nil]); first | done | (rw [show (l1.take ((ji20) : Int).toNat).length = (ji20).toNat from (by rw [List.length_take]; have h_ : ((ji20) : Int) ≤ (l1.length : Int) := of_decide_eq_true (by first | (with_reducible assumption) | assumption); omega)] <;> rfl) | (simp only [hji20]; rfl) | rfl | (simp only [List.length_drop, List.length_take]; rfl)) ?_; (with_reducible refine (grid_Cells.calls a0 _ _ (l1.take ((ji20) : Int).toNat) t385 t386 _ ?side1 ?side2 A23.out).mono ?_); (case side1 => repeat (first | exact (Kd.C_below HR384.out HB.out) | (with_reducible refine Kd.C_alloc ?_ _) | (with_reducible refine Kd.C_drewN ?_ _) | (with_reducible refine Kd.C_drew ?_))); (case side2 => exact HC384.out); rintro e w82 ⟨v387, rfl, ho0, hb⟩; refine ⟨_, rfl, ?_⟩; have n0_ := Aside0.mk (Kd.R_elder' (by (with_reducible repeat (first | apply Kd.R_alloc | apply Kd.R_drewN | apply Kd.R_drew)); exact HO383.out) (Kd.R_base ho0) hb); have n1_ := Aside0.mk (Kd.R_lower (Kd.R_new' ho0 (Kd.R_lt (by (with_reducible repeat (first | apply Kd.R_alloc | apply Kd.R_drewN | apply Kd.R_drew)); exact HO383.out))) (below_size (by repeat (first | (with_reducible first | exact HB.out | apply below_alloc | apply pw_below_drewN | apply below_drew1) | exact HB.out)))); have n2_ := Aside0.mk (below_step (by repeat (first | (with_reducible first | exact HB.out | apply below_alloc | apply pw_below_drewN | apply below_drew1) | exact HB.out)) hb); clear HO383; clear HB; have HO383 := n0_; have HO388 := n1_; have HB := n2_; clear n0_ n1_ n2_; (try clear hb); (try clear hb2); (try clear hk); (try clear hi); (try clear ho0); obtain ⟨Ao83, co83, eo83⟩ := Kd.R_slice HO383.out; subst eo83; have q84 : ((ji20) : Int) ≤ ((t380.length : Int) : Int) := of_decide_eq_true (by first | (with_reducible assumption) | assumption); obtain ⟨i084, hi084, _, hsz84, _⟩ := info_parts info39; have hroom84 : t380.length ≤ co83 := (Kd.R_reads' HO383.out).2.1; have hC84 : Kd.C k39 _ Ao83 t380.length t380 := (Kd.R_reads' HO383.out).2.2; have hcut84 := cut_to (P := Try.prog) 24 39 .i64 Try.underlying24 hi084 Ao83 t380.length co83 (ji20) (of_decide_eq_true (by first | (with_reducible assumption) | assumption)) q84 hroom84; have hr84 := Kd.C_take (m := ((ji20) : Int).toNat) hC84 (by omega); have hy84 : y389.length = ((ji20) : Int).toNat := (by rw [Ny389.out, List.length_take]; omega); rw [← Ny389.out] at hr84; rw [← hy84] at hcut84; have HR392 := Aside0.mk hr84; have HC392 := Aside0.mk (show y389.length ≤ co83 from by omega); clear hr84 hC84 hroom84 hi084 hsz84; have KY84 := Aside0.mk hy84; clear hy84; have KL84 := Aside0.mk (show ((ji20) : Int).toNat ≤ t380.length from by omega); replace q84 := eq_true q84; obtain ⟨Ao85, co85, eo85⟩ := Kd.R_slice HO388.out; subst eo85) | (go_at_call 12; (with_reducible refine (formeref24_SameCells.calls kj8 _ _ y389 _ _ t385 false _ ?side1 ?side2 ?side3 ?side4 A29.out).mono ?_); (case side1 => repeat (first | exact (by repeat (first | (with_reducible exact HR392.out) | (with_reducible refine Kd.C_alloc ?_ _) | (with_reducible refine Kd.C_drewN ?_ _) | (with_reducible refine Kd.C_drew ?_) | exact HR392.out)) | (with_reducible refine Kd.C_alloc ?_ _) | (with_reducible refine Kd.C_drewN ?_ _) | (with_reducible refine Kd.C_drew ?_))); (case side2 => exact HC392.out); (case side3 => repeat (first | exact (Kd.R_reads' HO388.out).2.2 | (with_reducible refine Kd.C_alloc ?_ _) | (with_reducible refine Kd.C_drewN ?_ _) | (with_reducible refine Kd.C_drew ?_))); (case side4 => exact (Kd.R_reads' HO388.out).2.1); rintro e w' ⟨rfl, ⟨nd, rfl⟩⟩))
             go_ret
             exact ⟨by first | rfl | (simp [errW_none, errW_some] <;> rfl) | (simp only [← hji20]; first | rfl | (simp [errW_none, errW_some] <;> rfl)) | (simp [*, errW_none, errW_some] <;> rfl), by repeat (first | (with_reducible first | exact HB.out | apply below_alloc | apply pw_below_drewN | apply below_drew1) | exact HB.out)⟩
           ·
            rw [if_neg c28] at H
            exact absurd H (by simp)
          ·
           rw [if_neg c26] at H
           exact absurd H (by simp)
         ·
          rw [if_neg c25] at H
          exact absurd H (by simp)
        ·
         rw [if_neg c24] at H
         exact absurd H (by simp)
       ·
        rw [if_neg c22] at H
        exact absurd H (by simp)
      ·
       rw [if_neg c21] at H
       exact absurd H (by simp)
 ·
  replace c8 := Bool.eq_false_iff.mpr c8
  subst c8
  have H1 : (none) = some r := by rw [if_neg (show ¬ (false = true) by decide)] at H; exact H
  clear H
  have H := H1
  clear H1
  exact absurd H (by simp)

/-- THE ONE PURE STATEMENT of formelaw24_GridFirst: yours. -/
def formelaw24_GridFirst.Pure : Prop := ∀ (a0 : Int) (l1 : List Int) (l2 : List Int) (a3 : Int) (a4 : Int) (a5 : Int), (Lit.int .i64 a0).wf = true → l1.length ≤ maxLen → l1.length * 8 ≤ 140737488351232 → (∀ x ∈ l1, (Lit.int .i64 x).wf = true) → l2.length ≤ maxLen → l2.length * 8 ≤ 140737488351232 → (∀ x ∈ l2, (Lit.int .i64 x).wf = true) → (Lit.int .i64 a3).wf = true → (Lit.int .i64 a4).wf = true → (Lit.int .u8 a5).wf = true → ∃ k, formelaw24_GridFirst.f k a0 l1 l2 a3 a4 a5 = some true
theorem formelaw24_GridFirst.walk (P : formelaw24_GridFirst.Pure) (a0 : Int) (a1 : Option Addr) (len1 cap1 : Nat) (z1 : List Int) (a2 : Option Addr) (len2 cap2 : Nat) (z2 : List Int) (a3 : Int) (a4 : Int) (a5 : Int) (w : World) (w0 : (Lit.int .i64 a0).wf = true) (w1 : (a1 = none ∧ len1 = 0 ∧ cap1 = 0 ∧ z1 = []) ∨ ∃ x, a1 = some x ∧ len1 ≤ cap1 ∧ cap1 ≤ maxLen ∧ z1.length = cap1 ∧ (∀ i, i < z1.length → w.cell? (x.add i) = some (.int .i64 (z1.getD i 0))) ∧ ∀ n ∈ z1, (Lit.int .i64 n).wf = true) (y1 : len1 * 8 ≤ 140737488351232) (w2 : (a2 = none ∧ len2 = 0 ∧ cap2 = 0 ∧ z2 = []) ∨ ∃ x, a2 = some x ∧ len2 ≤ cap2 ∧ cap2 ≤ maxLen ∧ z2.length = cap2 ∧ (∀ i, i < z2.length → w.cell? (x.add i) = some (.int .i64 (z2.getD i 0))) ∧ ∀ n ∈ z2, (Lit.int .i64 n).wf = true) (y2 : len2 * 8 ≤ 140737488351232) (w3 : (Lit.int .i64 a3).wf = true) (w4 : (Lit.int .i64 a4).wf = true) (w5 : (Lit.int .u8 a5).wf = true) :
  Calls Try.prog 5 #[.int .i64 a0, .slice a1 len1 cap1, .slice a2 len2 cap2, .int .i64 a3, .int .i64 a4, .int .u8 a5] w fun e w' => e = .returned (.bool true) ∧ Below w.heap.size w w' := by
 obtain ⟨l1, rfl, hr1, hm1, hw1, hc1⟩ := ReadsInt.ofRowC w1
 obtain ⟨l2, rfl, hr2, hm2, hw2, hc2⟩ := ReadsInt.ofRowC w2
 obtain ⟨k, h⟩ := P a0 l1 l2 a3 a4 a5 w0 hm1 y1 hw1 hm2 y2 hw2 w3 w4 w5
 refine (formelaw24_GridFirst.calls k a0 _ _ l1 _ _ l2 a3 a4 a5 true w (Kd.C_of_reads (d := (0 : Int)) (h1 := fun _ => rfl) hr1) hc1 (Kd.C_of_reads (d := (0 : Int)) (h1 := fun _ => rfl) hr2) hc2 h).mono ?_
 rintro e w' ⟨rfl, hd⟩
 exact ⟨rfl, hd⟩

end Go.Proofs.Ytciheadencbmjaa.P
