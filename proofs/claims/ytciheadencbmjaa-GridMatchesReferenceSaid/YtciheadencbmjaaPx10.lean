-- Laid by a program of this session (wip/fam.sh) over the kit's words: Lean checks it.
import Derived.Test.YtciheadencbmjaaPx0
import Derived.Test.YtciheadencbmjaaPx2
import Derived.Test.YtciheadencbmjaaPx3
import Derived.Test.YtciheadencbmjaaPx6
import Derived.Test.YtciheadencbmjaaPx7
import Derived.Test.YtciheadencbmjaaPx9
import Derived.Test.YtciheadencbmjaaHCells
import Derived.Test.YtciheadencbmjaaHPlace
import Derived.Test.YtciheadencbmjaaHWidths
namespace Go.Proofs.Ytciheadencbmjaa.P
open Go.RowKit Go.Proofs.YtciheadencbmjaaW.PrintWords Go.Proofs.YtciheadencbmjaaW.PrintLast Go.Proofs.YtciheadencbmjaaW.PrintMore
attribute [local go_sem] max2_int min2_int max_two min_two max_three min_three max_four min_four   -- for this text's walks alone
set_option linter.unusedVariables false
set_option linter.unusedSimpArgs false

/-! ### formelaw24_GridMatchesReference: function 3 -/
def formelaw24_GridMatchesReference.j0 : Nat → Int → List Int → List Int → Int → Int → Bool → Bool → Option (Bool)
 | 0, _, _, _, _, _, _, _ => none
 | k + 1, x0, x1, x2, x3, x4, x11, x35 => if x35 = true then (some x11) else ((grid_Cells.f x0 x1).bind fun bt335 => ((formeref24_Cells.f k x0 x1).bind fun bt339 => (if x11 = true then ((formeref24_SameCells.f k bt335.1 bt339.1).bind fun t343 => (if t343 = true then ((grid_Widths.f x0 x1 x3 x4).bind fun bt344 => ((formeref24_Widths.f k x0 x1 x3 x4).bind fun bt348 => (if bt335.2 = bt339.2 then ((formeref24_SameInts.f k bt344.1 bt348.1).bind fun t352 => (if t352 = true then ((grid_Place.f x0 x1 x2 x3 x4).bind fun bt353 => ((formeref24_Place.f k x0 x1 x2 x3 x4).bind fun bt358 => (if bt344.2 = bt348.2 then ((formeref24_Same.f k bt353.1 bt358.1).bind fun t363 => (if t363 = true then ((formeref24_Bare.f k bt353.1).bind fun t364 => (if t364 = true then (if bt353.2.1 = bt358.2.1 then (some (bt353.2.2 == bt358.2.2)) else (none)) else (none))) else (none))) else (none)))) else (none))) else (none)))) else (none))) else (none))))
def formelaw24_GridMatchesReference.f (k : Nat) (a0 : Int) (l1 : List Int) (l2 : List Int) (a3 : Int) (a4 : Int) : Option (Bool) := (formelaw24_head.f k).bind fun t334 => (if t334 = true then (if (l1.length : Int) > 100 then (if (l1.length : Int) ≤ 4000 then (formelaw24_GridMatchesReference.j0 k a0 l1 l2 a3 a4 true true) else (formelaw24_GridMatchesReference.j0 k a0 l1 l2 a3 a4 true (decide ((l2.length : Int) > 5000)))) else (formelaw24_GridMatchesReference.j0 k a0 l1 l2 a3 a4 true (decide ((l2.length : Int) > 5000)))) else (none))
theorem formelaw24_GridMatchesReference.mono_l : ∀ k, (∀ y0 y1 y2 y3 y4 y5 y6, LeO (formelaw24_GridMatchesReference.j0 k y0 y1 y2 y3 y4 y5 y6) (formelaw24_GridMatchesReference.j0 (k + 1) y0 y1 y2 y3 y4 y5 y6))
 | 0 => fun _ _ _ _ _ _ _ r h => by simp [formelaw24_GridMatchesReference.j0] at h
 | k + 1 => by
  have ih0 := formelaw24_GridMatchesReference.mono_l k
  ·
   intro y0 y1 y2 y3 y4 y5 y6
   unfold formelaw24_GridMatchesReference.j0
   repeat' first
   | (with_reducible exact ih0 _ _ _ _ _ _ _)
   | (with_reducible exact formelaw24_head.mono _)
   | (with_reducible exact formeref24_Bare.mono _ _)
   | (with_reducible exact formeref24_Cells.mono _ _ _)
   | (with_reducible exact formeref24_Place.mono _ _ _ _ _ _)
   | (with_reducible exact formeref24_Same.mono _ _ _)
   | (with_reducible exact formeref24_SameCells.mono _ _ _)
   | (with_reducible exact formeref24_SameInts.mono _ _ _)
   | (with_reducible exact formeref24_Widths.mono _ _ _ _ _)
   | (with_reducible exact LeO.refl _)
   | (with_reducible exact LeO.none _)
   | (with_reducible refine LeO.ite ?_ ?_)
   | (with_reducible refine LeO.bind ?_ (fun _ => ?_))
   | exact ih0 _ _ _ _ _ _ _
   | exact formelaw24_head.mono _
   | exact formeref24_Bare.mono _ _
   | exact formeref24_Cells.mono _ _ _
   | exact formeref24_Place.mono _ _ _ _ _ _
   | exact formeref24_Same.mono _ _ _
   | exact formeref24_SameCells.mono _ _ _
   | exact formeref24_SameInts.mono _ _ _
   | exact formeref24_Widths.mono _ _ _ _ _
   | exact LeO.none _
   | refine LeO.ite ?_ ?_
   | refine LeO.bind ?_ (fun _ => ?_)
theorem formelaw24_GridMatchesReference.mono : ∀ a0 a1 a2 a3 a4 k, LeO (formelaw24_GridMatchesReference.f k a0 a1 a2 a3 a4) (formelaw24_GridMatchesReference.f (k + 1) a0 a1 a2 a3 a4) := by
 intro a0 a1 a2 a3 a4 k
 have ih0 := formelaw24_GridMatchesReference.mono_l k
 unfold formelaw24_GridMatchesReference.f
 repeat' first
   | (with_reducible exact ih0 _ _ _ _ _ _ _)
   | (with_reducible exact formelaw24_head.mono _)
   | (with_reducible exact formeref24_Bare.mono _ _)
   | (with_reducible exact formeref24_Cells.mono _ _ _)
   | (with_reducible exact formeref24_Place.mono _ _ _ _ _ _)
   | (with_reducible exact formeref24_Same.mono _ _ _)
   | (with_reducible exact formeref24_SameCells.mono _ _ _)
   | (with_reducible exact formeref24_SameInts.mono _ _ _)
   | (with_reducible exact formeref24_Widths.mono _ _ _ _ _)
   | (with_reducible exact LeO.refl _)
   | (with_reducible exact LeO.none _)
   | (with_reducible refine LeO.ite ?_ ?_)
   | (with_reducible refine LeO.bind ?_ (fun _ => ?_))
   | exact ih0 _ _ _ _ _ _ _
   | exact formelaw24_head.mono _
   | exact formeref24_Bare.mono _ _
   | exact formeref24_Cells.mono _ _ _
   | exact formeref24_Place.mono _ _ _ _ _ _
   | exact formeref24_Same.mono _ _ _
   | exact formeref24_SameCells.mono _ _ _
   | exact formeref24_SameInts.mono _ _ _
   | exact formeref24_Widths.mono _ _ _ _ _
   | exact LeO.none _
   | refine LeO.ite ?_ ?_
   | refine LeO.bind ?_ (fun _ => ?_)
set_option maxHeartbeats 8000000 in
set_option maxRecDepth 100000 in
theorem formelaw24_GridMatchesReference.calls (k : Nat) (a0 : Int) (A1 : Option Addr) (c1 : Nat) (l1 : List Int) (A2 : Option Addr) (c2 : Nat) (l2 : List Int) (a3 : Int) (a4 : Int) (r : Bool) (w : World) (hr1 : Kd.C (Kd.int .i64) w A1 l1.length l1) (hc1 : l1.length ≤ c1) (hr2 : Kd.C (Kd.int .i64) w A2 l2.length l2) (hc2 : l2.length ≤ c2) (h : formelaw24_GridMatchesReference.f k a0 l1 l2 a3 a4 = some r) :
  Calls Try.prog 3 #[.int .i64 a0, .slice A1 l1.length c1, .slice A2 l2.length c2, .int .i64 a3, .int .i64 a4] w fun e w' => e = .returned (.bool r) ∧ Below w.heap.size w w' := by
 have HR1 := Aside0.mk hr1
 have HC1 := Aside0.mk hc1
 clear hr1 hc1
 have HR2 := Aside0.mk hr2
 have HC2 := Aside0.mk hc2
 clear hr2 hc2
 have HB := Aside0.mk (Below.refl w.heap.size w)
 have H : ((formelaw24_head.f k).bind fun t334 => (if t334 = true then (if (l1.length : Int) > 100 then (if (l1.length : Int) ≤ 4000 then (formelaw24_GridMatchesReference.j0 k a0 l1 l2 a3 a4 true true) else (formelaw24_GridMatchesReference.j0 k a0 l1 l2 a3 a4 true (decide ((l2.length : Int) > 5000)))) else (formelaw24_GridMatchesReference.j0 k a0 l1 l2 a3 a4 true (decide ((l2.length : Int) > 5000)))) else (none))) = some r := h
 clear h
 replace H := Option.bind_eq_some_iff.mp H
 obtain ⟨t334, A60, H⟩ := H
 replace H : (if t334 = true then (if (l1.length : Int) > 100 then (if (l1.length : Int) ≤ 4000 then (formelaw24_GridMatchesReference.j0 k a0 l1 l2 a3 a4 true true) else (formelaw24_GridMatchesReference.j0 k a0 l1 l2 a3 a4 true (decide ((l2.length : Int) > 5000)))) else (formelaw24_GridMatchesReference.j0 k a0 l1 l2 a3 a4 true (decide ((l2.length : Int) > 5000)))) else (none)) = some r := H
 have A6 := Aside0.mk A60
 clear A60
 by_cases c7 : t334 = true
 ·
  subst c7
  have H1 : (if (l1.length : Int) > 100 then (if (l1.length : Int) ≤ 4000 then (formelaw24_GridMatchesReference.j0 k a0 l1 l2 a3 a4 true true) else (formelaw24_GridMatchesReference.j0 k a0 l1 l2 a3 a4 true (decide ((l2.length : Int) > 5000)))) else (formelaw24_GridMatchesReference.j0 k a0 l1 l2 a3 a4 true (decide ((l2.length : Int) > 5000)))) = some r := by rw [if_pos rfl] at H; exact H
  clear H
  have H := H1
  clear H1
  have HC8 := Aside0.mk H
  clear H
  go_enter Try.func3, Try.ntmps3
  go_upto_region 2 with (first | ((with_reducible refine gate_callee (f := 9) rfl ?_); refine goesL_ (some 22) rfl rfl Try.func9 (by kernel_rfl) rfl #[] rfl (by (try simp only [List.map_toArray, List.map_cons, List.map_nil]); first | done | rfl | (simp only [List.length_drop, List.length_take]; rfl)) ?_; (with_reducible refine (formelaw24_head.calls k  true _ A6.out).mono ?_); rintro e w9 ⟨rfl, hb⟩; refine ⟨_, rfl, ?_⟩; have n0_ := Aside0.mk (below_step (by repeat (first | (with_reducible first | exact HB.out | apply below_alloc | apply pw_below_drewN | apply below_drew1) | exact HB.out)) hb); clear HB; have HB := n0_; clear n0_; (try clear hb); (try clear hb2); (try clear hk); (try clear hi)))
  (try simp only [Act.put, List.setIfInBounds_toArray, List.set_cons_zero, List.set_cons_succ])
  go_cut [35] (fun v35 wc => ∃ (kq : Nat) (x35_7 : Bool), v35 = .bool x35_7 ∧ Aside0 (formelaw24_GridMatchesReference.j0 kq a0 l1 l2 a3 a4 true x35_7 = some r) ∧ Aside0 (kq ≤ k) ∧ Aside0 (Below w.heap.size w wc))
  case first =>
   have H := HC8.out
   clear HC8
   by_cases c10 : (l1.length : Int) > 100
   ·
    rw [if_pos c10] at H
    have c10b0 : decide (100 < (l1.length : Int)) = true := decide_eq_true c10
    have c10b1 : decide (100 < l1.length) = true := decide_eq_true (by omega)
    clear c10
    (first | rw [c10b0] | (simp only [i64_w, i32_w]; rw [c10b0]) | skip)
    by_cases c11 : (l1.length : Int) ≤ 4000
    ·
     rw [if_pos c11] at H
     have c11b0 : decide ((l1.length : Int) ≤ 4000) = true := decide_eq_true c11
     have c11b1 : decide (l1.length ≤ 4000) = true := decide_eq_true (by omega)
     clear c11
     have H' := Aside0.mk H
     clear H
     go_wp2
     go_meet
     case rel => exact ⟨_, (true), (by first | rfl | (simp; done) | (simp [*]; done)), H', ⟨by first | omega | exact Nat.le_refl _⟩, ⟨by repeat (first | (with_reducible first | exact HB.out | apply below_alloc | apply pw_below_drewN | apply below_drew1) | exact HB.out)⟩⟩
    ·
     rw [if_neg c11] at H
     have c11b0 : decide ((l1.length : Int) ≤ 4000) = false := decide_eq_false c11
     have c11b1 : decide (l1.length ≤ 4000) = false := decide_eq_false (by omega)
     clear c11
     have H' := Aside0.mk H
     clear H
     go_wp2
     go_meet
     case rel => exact ⟨_, (decide ((l2.length : Int) > 5000)), (by first | rfl | (simp; done) | (simp [*]; done)), H', ⟨by first | omega | exact Nat.le_refl _⟩, ⟨by repeat (first | (with_reducible first | exact HB.out | apply below_alloc | apply pw_below_drewN | apply below_drew1) | exact HB.out)⟩⟩
   ·
    rw [if_neg c10] at H
    have c10b0 : decide (100 < (l1.length : Int)) = false := decide_eq_false c10
    have c10b1 : decide (100 < l1.length) = false := decide_eq_false (by omega)
    clear c10
    (first | rw [c10b0] | (simp only [i64_w, i32_w]; rw [c10b0]) | skip)
    have H' := Aside0.mk H
    clear H
    go_wp2
    go_meet
    case rel => exact ⟨_, (decide ((l2.length : Int) > 5000)), (by first | rfl | (simp; done) | (simp [*]; done)), H', ⟨by first | omega | exact Nat.le_refl _⟩, ⟨by repeat (first | (with_reducible first | exact HB.out | apply below_alloc | apply pw_below_drewN | apply below_drew1) | exact HB.out)⟩⟩
  case rest =>
   clear HC8
   try clear c1
   try clear c2
   try clear p2
   try clear c3
   try clear c7
   try clear c9
   try clear c10
   try clear c10b0
   try clear c10b1
   try clear c11
   try clear c11b0
   try clear c11b1
   obtain ⟨kq, x35_7, rfl, HA, HJ7, HB⟩ := hcut
   cases kq with
   | zero => exact absurd HA.out (by simp [formelaw24_GridMatchesReference.j0])
   | succ kj7 =>
    have H := HA.out
    clear HA
    simp only [formelaw24_GridMatchesReference.j0] at H
    by_cases c12 : x35_7 = true
    ·
     subst c12
     have H1 : (some true) = some r := by rw [if_pos rfl] at H; exact H
     clear H
     have H := H1
     clear H1
     obtain rfl := Option.some.inj H
     go_wp2
     go_ret
     exact ⟨by first | rfl | (simp [errW_none, errW_some] <;> rfl) | (simp [*, errW_none, errW_some] <;> rfl), by repeat (first | (with_reducible first | exact HB.out | apply below_alloc | apply pw_below_drewN | apply below_drew1) | exact HB.out)⟩
    ·
     replace c12 := Bool.eq_false_iff.mpr c12
     subst c12
     have H1 : ((grid_Cells.f a0 l1).bind fun bt335 => ((formeref24_Cells.f kj7 a0 l1).bind fun bt339 => (if true = true then ((formeref24_SameCells.f kj7 bt335.1 bt339.1).bind fun t343 => (if t343 = true then ((grid_Widths.f a0 l1 a3 a4).bind fun bt344 => ((formeref24_Widths.f kj7 a0 l1 a3 a4).bind fun bt348 => (if bt335.2 = bt339.2 then ((formeref24_SameInts.f kj7 bt344.1 bt348.1).bind fun t352 => (if t352 = true then ((grid_Place.f a0 l1 l2 a3 a4).bind fun bt353 => ((formeref24_Place.f kj7 a0 l1 l2 a3 a4).bind fun bt358 => (if bt344.2 = bt348.2 then ((formeref24_Same.f kj7 bt353.1 bt358.1).bind fun t363 => (if t363 = true then ((formeref24_Bare.f kj7 bt353.1).bind fun t364 => (if t364 = true then (if bt353.2.1 = bt358.2.1 then (some (bt353.2.2 == bt358.2.2)) else (none)) else (none))) else (none))) else (none)))) else (none))) else (none)))) else (none))) else (none)))) = some r := by rw [if_neg (show ¬ (false = true) by decide)] at H; exact H
     clear H
     have H := H1
     clear H1
     replace H := Option.bind_eq_some_iff.mp H
     obtain ⟨⟨t335, t336⟩, A130, H⟩ := H
     replace H : ((formeref24_Cells.f kj7 a0 l1).bind fun bt339 => (if true = true then ((formeref24_SameCells.f kj7 t335 bt339.1).bind fun t343 => (if t343 = true then ((grid_Widths.f a0 l1 a3 a4).bind fun bt344 => ((formeref24_Widths.f kj7 a0 l1 a3 a4).bind fun bt348 => (if t336 = bt339.2 then ((formeref24_SameInts.f kj7 bt344.1 bt348.1).bind fun t352 => (if t352 = true then ((grid_Place.f a0 l1 l2 a3 a4).bind fun bt353 => ((formeref24_Place.f kj7 a0 l1 l2 a3 a4).bind fun bt358 => (if bt344.2 = bt348.2 then ((formeref24_Same.f kj7 bt353.1 bt358.1).bind fun t363 => (if t363 = true then ((formeref24_Bare.f kj7 bt353.1).bind fun t364 => (if t364 = true then (if bt353.2.1 = bt358.2.1 then (some (bt353.2.2 == bt358.2.2)) else (none)) else (none))) else (none))) else (none)))) else (none))) else (none)))) else (none))) else (none))) = some r := H
     have A13 := Aside0.mk A130
     clear A130
     replace H := Option.bind_eq_some_iff.mp H
     obtain ⟨⟨t339, t340⟩, A140, H⟩ := H
     replace H : (if true = true then ((formeref24_SameCells.f kj7 t335 t339).bind fun t343 => (if t343 = true then ((grid_Widths.f a0 l1 a3 a4).bind fun bt344 => ((formeref24_Widths.f kj7 a0 l1 a3 a4).bind fun bt348 => (if t336 = t340 then ((formeref24_SameInts.f kj7 bt344.1 bt348.1).bind fun t352 => (if t352 = true then ((grid_Place.f a0 l1 l2 a3 a4).bind fun bt353 => ((formeref24_Place.f kj7 a0 l1 l2 a3 a4).bind fun bt358 => (if bt344.2 = bt348.2 then ((formeref24_Same.f kj7 bt353.1 bt358.1).bind fun t363 => (if t363 = true then ((formeref24_Bare.f kj7 bt353.1).bind fun t364 => (if t364 = true then (if bt353.2.1 = bt358.2.1 then (some (bt353.2.2 == bt358.2.2)) else (none)) else (none))) else (none))) else (none)))) else (none))) else (none)))) else (none))) else (none)) = some r := H
     have A14 := Aside0.mk A140
     clear A140
     (first | rw [if_pos (rfl : true = true)] at H | rw [if_pos True.intro] at H)
     replace H := Option.bind_eq_some_iff.mp H
     obtain ⟨t343, A150, H⟩ := H
     replace H : (if t343 = true then ((grid_Widths.f a0 l1 a3 a4).bind fun bt344 => ((formeref24_Widths.f kj7 a0 l1 a3 a4).bind fun bt348 => (if t336 = t340 then ((formeref24_SameInts.f kj7 bt344.1 bt348.1).bind fun t352 => (if t352 = true then ((grid_Place.f a0 l1 l2 a3 a4).bind fun bt353 => ((formeref24_Place.f kj7 a0 l1 l2 a3 a4).bind fun bt358 => (if bt344.2 = bt348.2 then ((formeref24_Same.f kj7 bt353.1 bt358.1).bind fun t363 => (if t363 = true then ((formeref24_Bare.f kj7 bt353.1).bind fun t364 => (if t364 = true then (if bt353.2.1 = bt358.2.1 then (some (bt353.2.2 == bt358.2.2)) else (none)) else (none))) else (none))) else (none)))) else (none))) else (none)))) else (none)) = some r := H
     have A15 := Aside0.mk A150
     clear A150
     by_cases c16 : t343 = true
     ·
      subst c16
      have H1 : ((grid_Widths.f a0 l1 a3 a4).bind fun bt344 => ((formeref24_Widths.f kj7 a0 l1 a3 a4).bind fun bt348 => (if t336 = t340 then ((formeref24_SameInts.f kj7 bt344.1 bt348.1).bind fun t352 => (if t352 = true then ((grid_Place.f a0 l1 l2 a3 a4).bind fun bt353 => ((formeref24_Place.f kj7 a0 l1 l2 a3 a4).bind fun bt358 => (if bt344.2 = bt348.2 then ((formeref24_Same.f kj7 bt353.1 bt358.1).bind fun t363 => (if t363 = true then ((formeref24_Bare.f kj7 bt353.1).bind fun t364 => (if t364 = true then (if bt353.2.1 = bt358.2.1 then (some (bt353.2.2 == bt358.2.2)) else (none)) else (none))) else (none))) else (none)))) else (none))) else (none)))) = some r := by rw [if_pos rfl] at H; exact H
      clear H
      have H := H1
      clear H1
      replace H := Option.bind_eq_some_iff.mp H
      obtain ⟨⟨t344, t345⟩, A170, H⟩ := H
      replace H : ((formeref24_Widths.f kj7 a0 l1 a3 a4).bind fun bt348 => (if t336 = t340 then ((formeref24_SameInts.f kj7 t344 bt348.1).bind fun t352 => (if t352 = true then ((grid_Place.f a0 l1 l2 a3 a4).bind fun bt353 => ((formeref24_Place.f kj7 a0 l1 l2 a3 a4).bind fun bt358 => (if t345 = bt348.2 then ((formeref24_Same.f kj7 bt353.1 bt358.1).bind fun t363 => (if t363 = true then ((formeref24_Bare.f kj7 bt353.1).bind fun t364 => (if t364 = true then (if bt353.2.1 = bt358.2.1 then (some (bt353.2.2 == bt358.2.2)) else (none)) else (none))) else (none))) else (none)))) else (none))) else (none))) = some r := H
      have A17 := Aside0.mk A170
      clear A170
      replace H := Option.bind_eq_some_iff.mp H
      obtain ⟨⟨t348, t349⟩, A180, H⟩ := H
      replace H : (if t336 = t340 then ((formeref24_SameInts.f kj7 t344 t348).bind fun t352 => (if t352 = true then ((grid_Place.f a0 l1 l2 a3 a4).bind fun bt353 => ((formeref24_Place.f kj7 a0 l1 l2 a3 a4).bind fun bt358 => (if t345 = t349 then ((formeref24_Same.f kj7 bt353.1 bt358.1).bind fun t363 => (if t363 = true then ((formeref24_Bare.f kj7 bt353.1).bind fun t364 => (if t364 = true then (if bt353.2.1 = bt358.2.1 then (some (bt353.2.2 == bt358.2.2)) else (none)) else (none))) else (none))) else (none)))) else (none))) else (none)) = some r := H
      have A18 := Aside0.mk A180
      clear A180
      by_cases c19 : t336 = t340
      ·
       rw [if_pos c19] at H
       have c19b0 : (t336 == t340) = true := beq_iff_eq.mpr c19
       have c19b1 : (t336 != t340) = false := bne_eq_false_iff_eq.mpr c19
       clear c19
       replace H := Option.bind_eq_some_iff.mp H
       obtain ⟨t352, A200, H⟩ := H
       replace H : (if t352 = true then ((grid_Place.f a0 l1 l2 a3 a4).bind fun bt353 => ((formeref24_Place.f kj7 a0 l1 l2 a3 a4).bind fun bt358 => (if t345 = t349 then ((formeref24_Same.f kj7 bt353.1 bt358.1).bind fun t363 => (if t363 = true then ((formeref24_Bare.f kj7 bt353.1).bind fun t364 => (if t364 = true then (if bt353.2.1 = bt358.2.1 then (some (bt353.2.2 == bt358.2.2)) else (none)) else (none))) else (none))) else (none)))) else (none)) = some r := H
       have A20 := Aside0.mk A200
       clear A200
       by_cases c21 : t352 = true
       ·
        subst c21
        have H1 : ((grid_Place.f a0 l1 l2 a3 a4).bind fun bt353 => ((formeref24_Place.f kj7 a0 l1 l2 a3 a4).bind fun bt358 => (if t345 = t349 then ((formeref24_Same.f kj7 bt353.1 bt358.1).bind fun t363 => (if t363 = true then ((formeref24_Bare.f kj7 bt353.1).bind fun t364 => (if t364 = true then (if bt353.2.1 = bt358.2.1 then (some (bt353.2.2 == bt358.2.2)) else (none)) else (none))) else (none))) else (none)))) = some r := by rw [if_pos rfl] at H; exact H
        clear H
        have H := H1
        clear H1
        replace H := Option.bind_eq_some_iff.mp H
        obtain ⟨⟨t353, t354, t355⟩, A220, H⟩ := H
        replace H : ((formeref24_Place.f kj7 a0 l1 l2 a3 a4).bind fun bt358 => (if t345 = t349 then ((formeref24_Same.f kj7 t353 bt358.1).bind fun t363 => (if t363 = true then ((formeref24_Bare.f kj7 t353).bind fun t364 => (if t364 = true then (if t354 = bt358.2.1 then (some (t355 == bt358.2.2)) else (none)) else (none))) else (none))) else (none))) = some r := H
        have A22 := Aside0.mk A220
        clear A220
        replace H := Option.bind_eq_some_iff.mp H
        obtain ⟨⟨t358, t359, t360⟩, A230, H⟩ := H
        replace H : (if t345 = t349 then ((formeref24_Same.f kj7 t353 t358).bind fun t363 => (if t363 = true then ((formeref24_Bare.f kj7 t353).bind fun t364 => (if t364 = true then (if t354 = t359 then (some (t355 == t360)) else (none)) else (none))) else (none))) else (none)) = some r := H
        have A23 := Aside0.mk A230
        clear A230
        by_cases c24 : t345 = t349
        ·
         rw [if_pos c24] at H
         have c24b0 : (t345 == t349) = true := beq_iff_eq.mpr c24
         have c24b1 : (t345 != t349) = false := bne_eq_false_iff_eq.mpr c24
         clear c24
         replace H := Option.bind_eq_some_iff.mp H
         obtain ⟨t363, A250, H⟩ := H
         replace H : (if t363 = true then ((formeref24_Bare.f kj7 t353).bind fun t364 => (if t364 = true then (if t354 = t359 then (some (t355 == t360)) else (none)) else (none))) else (none)) = some r := H
         have A25 := Aside0.mk A250
         clear A250
         by_cases c26 : t363 = true
         ·
          subst c26
          have H1 : ((formeref24_Bare.f kj7 t353).bind fun t364 => (if t364 = true then (if t354 = t359 then (some (t355 == t360)) else (none)) else (none))) = some r := by rw [if_pos rfl] at H; exact H
          clear H
          have H := H1
          clear H1
          replace H := Option.bind_eq_some_iff.mp H
          obtain ⟨t364, A270, H⟩ := H
          replace H : (if t364 = true then (if t354 = t359 then (some (t355 == t360)) else (none)) else (none)) = some r := H
          have A27 := Aside0.mk A270
          clear A270
          by_cases c28 : t364 = true
          ·
           subst c28
           have H1 : (if t354 = t359 then (some (t355 == t360)) else (none)) = some r := by rw [if_pos rfl] at H; exact H
           clear H
           have H := H1
           clear H1
           by_cases c29 : t354 = t359
           ·
            rw [if_pos c29] at H
            have c29b0 : (t354 == t359) = true := beq_iff_eq.mpr c29
            have c29b1 : (t354 != t359) = false := bne_eq_false_iff_eq.mpr c29
            clear c29
            obtain rfl := Option.some.inj H
            go_wp2_with (first | ((with_reducible refine gate_callee (f := 10) rfl ?_); refine goesL_ (some 40) rfl rfl Try.func10 (by kernel_rfl) rfl #[.int .i64 a0, .slice A1 l1.length c1] rfl (by (try simp only [List.map_toArray, List.map_cons, List.map_nil]); first | done | rfl | (simp only [List.length_drop, List.length_take]; rfl)) ?_; (with_reducible refine (grid_Cells.calls a0 _ _ l1 t335 t336 _ ?side1 ?side2 A13.out).mono ?_); (case side1 => repeat (first | exact (Kd.C_below HR1.out HB.out) | (with_reducible refine Kd.C_alloc ?_ _) | (with_reducible refine Kd.C_drewN ?_ _) | (with_reducible refine Kd.C_drew ?_))); (case side2 => exact HC1.out); rintro e w30 ⟨v337, rfl, ho0, hb⟩; refine ⟨_, rfl, ?_⟩; have n0_ := Aside0.mk (Kd.R_lower ho0 (below_size (by repeat (first | (with_reducible first | exact HB.out | apply below_alloc | apply pw_below_drewN | apply below_drew1) | exact HB.out)))); have n1_ := Aside0.mk (below_step (by repeat (first | (with_reducible first | exact HB.out | apply below_alloc | apply pw_below_drewN | apply below_drew1) | exact HB.out)) hb); clear HB; have HO338 := n0_; have HB := n1_; clear n0_ n1_; (try clear hb); (try clear hb2); (try clear hk); (try clear hi); (try clear ho0)) | ((with_reducible refine gate_callee (f := 11) rfl ?_); refine goesL_ (some 46) rfl rfl Try.func11 (by kernel_rfl) rfl #[.int .i64 a0, .slice A1 l1.length c1] rfl (by (try simp only [List.map_toArray, List.map_cons, List.map_nil]); first | done | rfl | (simp only [List.length_drop, List.length_take]; rfl)) ?_; (with_reducible refine (formeref24_Cells.calls kj7 a0 _ _ l1 t339 t340 _ ?side1 ?side2 A14.out).mono ?_); (case side1 => repeat (first | exact (Kd.C_below HR1.out HB.out) | (with_reducible refine Kd.C_alloc ?_ _) | (with_reducible refine Kd.C_drewN ?_ _) | (with_reducible refine Kd.C_drew ?_))); (case side2 => exact HC1.out); rintro e w31 ⟨v341, rfl, ho0, hb⟩; refine ⟨_, rfl, ?_⟩; have n0_ := Aside0.mk (Kd.R_elder' (by (with_reducible repeat (first | apply Kd.R_alloc | apply Kd.R_drewN | apply Kd.R_drew)); exact HO338.out) (Kd.R_base ho0) hb); have n1_ := Aside0.mk (Kd.R_lower (Kd.R_new' ho0 (Kd.R_lt (by (with_reducible repeat (first | apply Kd.R_alloc | apply Kd.R_drewN | apply Kd.R_drew)); exact HO338.out))) (below_size (by repeat (first | (with_reducible first | exact HB.out | apply below_alloc | apply pw_below_drewN | apply below_drew1) | exact HB.out)))); have n2_ := Aside0.mk (below_step (by repeat (first | (with_reducible first | exact HB.out | apply below_alloc | apply pw_below_drewN | apply below_drew1) | exact HB.out)) hb); clear HO338; clear HB; have HO338 := n0_; have HO342 := n1_; have HB := n2_; clear n0_ n1_ n2_; (try clear hb); (try clear hb2); (try clear hk); (try clear hi); (try clear ho0); obtain ⟨Ao32, co32, eo32⟩ := Kd.R_slice HO338.out; subst eo32; obtain ⟨Ao33, co33, eo33⟩ := Kd.R_slice HO342.out; subst eo33) | (go_at_call 12; (with_reducible refine (formeref24_SameCells.calls kj7 _ _ t335 _ _ t339 true _ ?side1 ?side2 ?side3 ?side4 A15.out).mono ?_); (case side1 => repeat (first | exact (Kd.R_reads' HO338.out).2.2 | (with_reducible refine Kd.C_alloc ?_ _) | (with_reducible refine Kd.C_drewN ?_ _) | (with_reducible refine Kd.C_drew ?_))); (case side2 => exact (Kd.R_reads' HO338.out).2.1); (case side3 => repeat (first | exact (Kd.R_reads' HO342.out).2.2 | (with_reducible refine Kd.C_alloc ?_ _) | (with_reducible refine Kd.C_drewN ?_ _) | (with_reducible refine Kd.C_drew ?_))); (case side4 => exact (Kd.R_reads' HO342.out).2.1); rintro e w' ⟨rfl, ⟨nd, rfl⟩⟩) | ((with_reducible refine gate_callee (f := 13) rfl ?_); refine goesL_ (some 65) rfl rfl Try.func13 (by kernel_rfl) rfl #[.int .i64 a0, .slice A1 l1.length c1, .int .i64 a3, .int .i64 a4] rfl (by (try simp only [List.map_toArray, List.map_cons, List.map_nil]); first | done | rfl | (simp only [List.length_drop, List.length_take]; rfl)) ?_; (with_reducible refine (grid_Widths.calls a0 _ _ l1 a3 a4 t344 t345 _ ?side1 ?side2 A17.out).mono ?_); (case side1 => repeat (first | exact (Kd.C_below HR1.out (by repeat (first | (with_reducible first | exact HB.out | apply below_alloc | apply pw_below_drewN | apply below_drew1) | exact HB.out))) | (with_reducible refine Kd.C_alloc ?_ _) | (with_reducible refine Kd.C_drewN ?_ _) | (with_reducible refine Kd.C_drew ?_))); (case side2 => exact HC1.out); rintro e w34 ⟨v346, rfl, ho0, hb⟩; refine ⟨_, rfl, ?_⟩; have n0_ := Aside0.mk (Kd.R_below (by (with_reducible repeat (first | apply Kd.R_alloc | apply Kd.R_drewN | apply Kd.R_drew)); exact HO338.out) hb); have n1_ := Aside0.mk (Kd.R_below (by (with_reducible repeat (first | apply Kd.R_alloc | apply Kd.R_drewN | apply Kd.R_drew)); exact HO342.out) hb); have n2_ := Aside0.mk (Kd.R_lower ho0 (below_size (by repeat (first | (with_reducible first | exact HB.out | apply below_alloc | apply pw_below_drewN | apply below_drew1) | exact HB.out)))); have n3_ := Aside0.mk (below_step (by repeat (first | (with_reducible first | exact HB.out | apply below_alloc | apply pw_below_drewN | apply below_drew1) | exact HB.out)) hb); clear HO338; clear HO342; clear HB; have HO338 := n0_; have HO342 := n1_; have HO347 := n2_; have HB := n3_; clear n0_ n1_ n2_ n3_; (try clear hb); (try clear hb2); (try clear hk); (try clear hi); (try clear ho0)) | ((with_reducible refine gate_callee (f := 14) rfl ?_); refine goesL_ (some 73) rfl rfl Try.func14 (by kernel_rfl) rfl #[.int .i64 a0, .slice A1 l1.length c1, .int .i64 a3, .int .i64 a4] rfl (by (try simp only [List.map_toArray, List.map_cons, List.map_nil]); first | done | rfl | (simp only [List.length_drop, List.length_take]; rfl)) ?_; (with_reducible refine (formeref24_Widths.calls kj7 a0 _ _ l1 a3 a4 t348 t349 _ ?side1 ?side2 A18.out).mono ?_); (case side1 => repeat (first | exact (Kd.C_below HR1.out HB.out) | (with_reducible refine Kd.C_alloc ?_ _) | (with_reducible refine Kd.C_drewN ?_ _) | (with_reducible refine Kd.C_drew ?_))); (case side2 => exact HC1.out); rintro e w35 ⟨v350, rfl, ho0, hb⟩; refine ⟨_, rfl, ?_⟩; have n0_ := Aside0.mk (Kd.R_below (by (with_reducible repeat (first | apply Kd.R_alloc | apply Kd.R_drewN | apply Kd.R_drew)); exact HO338.out) hb); have n1_ := Aside0.mk (Kd.R_below (by (with_reducible repeat (first | apply Kd.R_alloc | apply Kd.R_drewN | apply Kd.R_drew)); exact HO342.out) hb); have n2_ := Aside0.mk (Kd.R_elder' (by (with_reducible repeat (first | apply Kd.R_alloc | apply Kd.R_drewN | apply Kd.R_drew)); exact HO347.out) (Kd.R_base ho0) hb); have n3_ := Aside0.mk (Kd.R_lower (Kd.R_new' ho0 (Kd.R_lt (by (with_reducible repeat (first | apply Kd.R_alloc | apply Kd.R_drewN | apply Kd.R_drew)); exact HO347.out))) (below_size (by repeat (first | (with_reducible first | exact HB.out | apply below_alloc | apply pw_below_drewN | apply below_drew1) | exact HB.out)))); have n4_ := Aside0.mk (below_step (by repeat (first | (with_reducible first | exact HB.out | apply below_alloc | apply pw_below_drewN | apply below_drew1) | exact HB.out)) hb); clear HO338; clear HO342; clear HO347; clear HB; have HO338 := n0_; have HO342 := n1_; have HO347 := n2_; have HO351 := n3_; have HB := n4_; clear n0_ n1_ n2_ n3_ n4_; (try clear hb); (try clear hb2); (try clear hk); (try clear hi); (try clear ho0); obtain ⟨Ao36, co36, eo36⟩ := Kd.R_slice HO347.out; subst eo36; obtain ⟨Ao37, co37, eo37⟩ := Kd.R_slice HO351.out; subst eo37) | (go_at_call 15; (with_reducible refine (formeref24_SameInts.calls kj7 _ _ t344 _ _ t348 true _ ?side1 ?side2 ?side3 ?side4 A20.out).mono ?_); (case side1 => repeat (first | exact (Kd.R_reads' HO347.out).2.2 | (with_reducible refine Kd.C_alloc ?_ _) | (with_reducible refine Kd.C_drewN ?_ _) | (with_reducible refine Kd.C_drew ?_))); (case side2 => exact (Kd.R_reads' HO347.out).2.1); (case side3 => repeat (first | exact (Kd.R_reads' HO351.out).2.2 | (with_reducible refine Kd.C_alloc ?_ _) | (with_reducible refine Kd.C_drewN ?_ _) | (with_reducible refine Kd.C_drew ?_))); (case side4 => exact (Kd.R_reads' HO351.out).2.1); rintro e w' ⟨rfl, ⟨nd, rfl⟩⟩) | ((with_reducible refine gate_callee (f := 16) rfl ?_); refine goesL_ (some 93) rfl rfl Try.func16 (by kernel_rfl) rfl #[.int .i64 a0, .slice A1 l1.length c1, .slice A2 l2.length c2, .int .i64 a3, .int .i64 a4] rfl (by (try simp only [List.map_toArray, List.map_cons, List.map_nil]); first | done | rfl | (simp only [List.length_drop, List.length_take]; rfl)) ?_; (with_reducible refine (grid_Place.calls a0 _ _ l1 _ _ l2 a3 a4 t353 t354 t355 _ ?side1 ?side2 ?side3 ?side4 A22.out).mono ?_); (case side1 => repeat (first | exact (Kd.C_below HR1.out (by repeat (first | (with_reducible first | exact HB.out | apply below_alloc | apply pw_below_drewN | apply below_drew1) | exact HB.out))) | (with_reducible refine Kd.C_alloc ?_ _) | (with_reducible refine Kd.C_drewN ?_ _) | (with_reducible refine Kd.C_drew ?_))); (case side2 => exact HC1.out); (case side3 => repeat (first | exact (Kd.C_below HR2.out (by repeat (first | (with_reducible first | exact HB.out | apply below_alloc | apply pw_below_drewN | apply below_drew1) | exact HB.out))) | (with_reducible refine Kd.C_alloc ?_ _) | (with_reducible refine Kd.C_drewN ?_ _) | (with_reducible refine Kd.C_drew ?_))); (case side4 => exact HC2.out); rintro e w38 ⟨v356, rfl, ho0, hb⟩; refine ⟨_, rfl, ?_⟩; have n0_ := Aside0.mk (Kd.R_below (by (with_reducible repeat (first | apply Kd.R_alloc | apply Kd.R_drewN | apply Kd.R_drew)); exact HO338.out) hb); have n1_ := Aside0.mk (Kd.R_below (by (with_reducible repeat (first | apply Kd.R_alloc | apply Kd.R_drewN | apply Kd.R_drew)); exact HO342.out) hb); have n2_ := Aside0.mk (Kd.R_below (by (with_reducible repeat (first | apply Kd.R_alloc | apply Kd.R_drewN | apply Kd.R_drew)); exact HO347.out) hb); have n3_ := Aside0.mk (Kd.R_below (by (with_reducible repeat (first | apply Kd.R_alloc | apply Kd.R_drewN | apply Kd.R_drew)); exact HO351.out) hb); have n4_ := Aside0.mk (Kd.S_lower ho0 (below_size (by repeat (first | (with_reducible first | exact HB.out | apply below_alloc | apply pw_below_drewN | apply below_drew1) | exact HB.out)))); have n5_ := Aside0.mk (below_step (by repeat (first | (with_reducible first | exact HB.out | apply below_alloc | apply pw_below_drewN | apply below_drew1) | exact HB.out)) hb); clear HO338; clear HO342; clear HO347; clear HO351; clear HB; have HO338 := n0_; have HO342 := n1_; have HO347 := n2_; have HO351 := n3_; have HO357 := n4_; have HB := n5_; clear n0_ n1_ n2_ n3_ n4_ n5_; (try clear hb); (try clear hb2); (try clear hk); (try clear hi); (try clear ho0)) | ((with_reducible refine gate_callee (f := 17) rfl ?_); refine goesL_ (some 103) rfl rfl Try.func17 (by kernel_rfl) rfl #[.int .i64 a0, .slice A1 l1.length c1, .slice A2 l2.length c2, .int .i64 a3, .int .i64 a4] rfl (by (try simp only [List.map_toArray, List.map_cons, List.map_nil]); first | done | rfl | (simp only [List.length_drop, List.length_take]; rfl)) ?_; (with_reducible refine (formeref24_Place.calls kj7 a0 _ _ l1 _ _ l2 a3 a4 t358 t359 t360 _ ?side1 ?side2 ?side3 ?side4 A23.out).mono ?_); (case side1 => repeat (first | exact (Kd.C_below HR1.out HB.out) | (with_reducible refine Kd.C_alloc ?_ _) | (with_reducible refine Kd.C_drewN ?_ _) | (with_reducible refine Kd.C_drew ?_))); (case side2 => exact HC1.out); (case side3 => repeat (first | exact (Kd.C_below HR2.out HB.out) | (with_reducible refine Kd.C_alloc ?_ _) | (with_reducible refine Kd.C_drewN ?_ _) | (with_reducible refine Kd.C_drew ?_))); (case side4 => exact HC2.out); rintro e w39 ⟨v361, rfl, ho0, hb⟩; refine ⟨_, rfl, ?_⟩; have n0_ := Aside0.mk (Kd.R_below (by (with_reducible repeat (first | apply Kd.R_alloc | apply Kd.R_drewN | apply Kd.R_drew)); exact HO338.out) hb); have n1_ := Aside0.mk (Kd.R_below (by (with_reducible repeat (first | apply Kd.R_alloc | apply Kd.R_drewN | apply Kd.R_drew)); exact HO342.out) hb); have n2_ := Aside0.mk (Kd.R_below (by (with_reducible repeat (first | apply Kd.R_alloc | apply Kd.R_drewN | apply Kd.R_drew)); exact HO347.out) hb); have n3_ := Aside0.mk (Kd.R_below (by (with_reducible repeat (first | apply Kd.R_alloc | apply Kd.R_drewN | apply Kd.R_drew)); exact HO351.out) hb); have n4_ := Aside0.mk (Kd.S_elder' (by (with_reducible repeat (first | apply Kd.S_alloc | apply Kd.S_drewN | apply Kd.S_drew)); exact HO357.out) (Kd.S_base ho0) hb); have n5_ := Aside0.mk (Kd.S_lower (Kd.S_new' ho0 (Kd.S_lt (by (with_reducible repeat (first | apply Kd.S_alloc | apply Kd.S_drewN | apply Kd.S_drew)); exact HO357.out))) (below_size (by repeat (first | (with_reducible first | exact HB.out | apply below_alloc | apply pw_below_drewN | apply below_drew1) | exact HB.out)))); have n6_ := Aside0.mk (below_step (by repeat (first | (with_reducible first | exact HB.out | apply below_alloc | apply pw_below_drewN | apply below_drew1) | exact HB.out)) hb); clear HO338; clear HO342; clear HO347; clear HO351; clear HO357; clear HB; have HO338 := n0_; have HO342 := n1_; have HO347 := n2_; have HO351 := n3_; have HO357 := n4_; have HO362 := n5_; have HB := n6_; clear n0_ n1_ n2_ n3_ n4_ n5_ n6_; (try clear hb); (try clear hb2); (try clear hk); (try clear hi); (try clear ho0); obtain ⟨Ao40, co40, eo40⟩ := Kd.S_slice HO357.out; subst eo40; obtain ⟨Ao41, co41, eo41⟩ := Kd.S_slice HO362.out; subst eo41) | (go_at_call 18; (with_reducible refine (formeref24_Same.calls kj7 _ _ t353 _ _ t358 true _ ?side1 ?side2 ?side3 ?side4 A25.out).mono ?_); (case side1 => repeat (first | exact (Kd.S_reads' HO357.out).2.2 | (with_reducible refine Kd.C_alloc ?_ _) | (with_reducible refine Kd.C_drewN ?_ _) | (with_reducible refine Kd.C_drew ?_))); (case side2 => exact (Kd.S_reads' HO357.out).2.1); (case side3 => repeat (first | exact (Kd.S_reads' HO362.out).2.2 | (with_reducible refine Kd.C_alloc ?_ _) | (with_reducible refine Kd.C_drewN ?_ _) | (with_reducible refine Kd.C_drew ?_))); (case side4 => exact (Kd.S_reads' HO362.out).2.1); rintro e w' ⟨rfl, ⟨nd, rfl⟩⟩) | (go_at_call 19; (with_reducible refine (formeref24_Bare.calls kj7 _ _ t353 true _ ?side1 ?side2 A27.out).mono ?_); (case side1 => repeat (first | exact (Kd.S_reads' HO357.out).2.2 | (with_reducible refine Kd.C_alloc ?_ _) | (with_reducible refine Kd.C_drewN ?_ _) | (with_reducible refine Kd.C_drew ?_))); (case side2 => exact (Kd.S_reads' HO357.out).2.1); rintro e w' ⟨rfl, ⟨nd, rfl⟩⟩))
            go_ret
            exact ⟨by first | rfl | (simp [errW_none, errW_some] <;> rfl) | (simp [*, errW_none, errW_some] <;> rfl), by repeat (first | (with_reducible first | exact HB.out | apply below_alloc | apply pw_below_drewN | apply below_drew1) | exact HB.out)⟩
           ·
            rw [if_neg c29] at H
            exact absurd H (by simp)
          ·
           replace c28 := Bool.eq_false_iff.mpr c28
           subst c28
           have H1 : (none) = some r := by rw [if_neg (show ¬ (false = true) by decide)] at H; exact H
           clear H
           have H := H1
           clear H1
           exact absurd H (by simp)
         ·
          replace c26 := Bool.eq_false_iff.mpr c26
          subst c26
          have H1 : (none) = some r := by rw [if_neg (show ¬ (false = true) by decide)] at H; exact H
          clear H
          have H := H1
          clear H1
          exact absurd H (by simp)
        ·
         rw [if_neg c24] at H
         exact absurd H (by simp)
       ·
        replace c21 := Bool.eq_false_iff.mpr c21
        subst c21
        have H1 : (none) = some r := by rw [if_neg (show ¬ (false = true) by decide)] at H; exact H
        clear H
        have H := H1
        clear H1
        exact absurd H (by simp)
      ·
       rw [if_neg c19] at H
       exact absurd H (by simp)
     ·
      replace c16 := Bool.eq_false_iff.mpr c16
      subst c16
      have H1 : (none) = some r := by rw [if_neg (show ¬ (false = true) by decide)] at H; exact H
      clear H
      have H := H1
      clear H1
      exact absurd H (by simp)
 ·
  replace c7 := Bool.eq_false_iff.mpr c7
  subst c7
  have H1 : (none) = some r := by rw [if_neg (show ¬ (false = true) by decide)] at H; exact H
  clear H
  have H := H1
  clear H1
  exact absurd H (by simp)

/-- THE ONE PURE STATEMENT of formelaw24_GridMatchesReference: yours. -/
def formelaw24_GridMatchesReference.Pure : Prop := ∀ (a0 : Int) (l1 : List Int) (l2 : List Int) (a3 : Int) (a4 : Int), (Lit.int .i64 a0).wf = true → l1.length ≤ maxLen → l1.length * 8 ≤ 140737488351232 → (∀ x ∈ l1, (Lit.int .i64 x).wf = true) → l2.length ≤ maxLen → l2.length * 8 ≤ 140737488351232 → (∀ x ∈ l2, (Lit.int .i64 x).wf = true) → (Lit.int .i64 a3).wf = true → (Lit.int .i64 a4).wf = true → ∃ k, formelaw24_GridMatchesReference.f k a0 l1 l2 a3 a4 = some true
theorem formelaw24_GridMatchesReference.walk (P : formelaw24_GridMatchesReference.Pure) (a0 : Int) (a1 : Option Addr) (len1 cap1 : Nat) (z1 : List Int) (a2 : Option Addr) (len2 cap2 : Nat) (z2 : List Int) (a3 : Int) (a4 : Int) (w : World) (w0 : (Lit.int .i64 a0).wf = true) (w1 : (a1 = none ∧ len1 = 0 ∧ cap1 = 0 ∧ z1 = []) ∨ ∃ x, a1 = some x ∧ len1 ≤ cap1 ∧ cap1 ≤ maxLen ∧ z1.length = cap1 ∧ (∀ i, i < z1.length → w.cell? (x.add i) = some (.int .i64 (z1.getD i 0))) ∧ ∀ n ∈ z1, (Lit.int .i64 n).wf = true) (y1 : len1 * 8 ≤ 140737488351232) (w2 : (a2 = none ∧ len2 = 0 ∧ cap2 = 0 ∧ z2 = []) ∨ ∃ x, a2 = some x ∧ len2 ≤ cap2 ∧ cap2 ≤ maxLen ∧ z2.length = cap2 ∧ (∀ i, i < z2.length → w.cell? (x.add i) = some (.int .i64 (z2.getD i 0))) ∧ ∀ n ∈ z2, (Lit.int .i64 n).wf = true) (y2 : len2 * 8 ≤ 140737488351232) (w3 : (Lit.int .i64 a3).wf = true) (w4 : (Lit.int .i64 a4).wf = true) :
  Calls Try.prog 3 #[.int .i64 a0, .slice a1 len1 cap1, .slice a2 len2 cap2, .int .i64 a3, .int .i64 a4] w fun e w' => e = .returned (.bool true) ∧ Below w.heap.size w w' := by
 obtain ⟨l1, rfl, hr1, hm1, hw1, hc1⟩ := ReadsInt.ofRowC w1
 obtain ⟨l2, rfl, hr2, hm2, hw2, hc2⟩ := ReadsInt.ofRowC w2
 obtain ⟨k, h⟩ := P a0 l1 l2 a3 a4 w0 hm1 y1 hw1 hm2 y2 hw2 w3 w4
 refine (formelaw24_GridMatchesReference.calls k a0 _ _ l1 _ _ l2 a3 a4 true w (Kd.C_of_reads (d := (0 : Int)) (h1 := fun _ => rfl) hr1) hc1 (Kd.C_of_reads (d := (0 : Int)) (h1 := fun _ => rfl) hr2) hc2 h).mono ?_
 rintro e w' ⟨rfl, hd⟩
 exact ⟨rfl, hd⟩

end Go.Proofs.Ytciheadencbmjaa.P
