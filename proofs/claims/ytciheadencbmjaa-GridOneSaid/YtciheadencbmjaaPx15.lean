-- Laid by a program of this session (wip/fam.sh) over the kit's words: Lean checks it.
import Derived.Test.YtciheadencbmjaaPx0
import Derived.Test.YtciheadencbmjaaPx2
import Derived.Test.YtciheadencbmjaaPx8
import Derived.Test.YtciheadencbmjaaPx9
import Derived.Test.YtciheadencbmjaaHPlace
namespace Go.Proofs.Ytciheadencbmjaa.P
open Go.RowKit Go.Proofs.YtciheadencbmjaaW.PrintWords Go.Proofs.YtciheadencbmjaaW.PrintLast Go.Proofs.YtciheadencbmjaaW.PrintMore
attribute [local go_sem] max2_int min2_int max_two min_two max_three min_three max_four min_four   -- for this text's walks alone
set_option linter.unusedVariables false
set_option linter.unusedSimpArgs false

/-! ### formelaw24_GridOne: function 8 -/
mutual
def formelaw24_GridOne.j0 : Nat → Int → List Int → List Int → Int → Int → Bool → Bool → Option (Bool)
 | 0, _, _, _, _, _, _, _ => none
 | k + 1, x0, x1, x2, x3, x4, x11, x39 => if x39 = true then (some x11) else (formelaw24_GridOne.l0 k x0 x1 x2 x3 x4 x11 ([] : List Int) ([] : List Int) x1 (x1.length : Int) 0)
def formelaw24_GridOne.l0 : Nat → Int → List Int → List Int → Int → Int → Bool → List Int → List Int → List Int → Int → Int → Option (Bool)
 | 0, _, _, _, _, _, _, _, _, _, _, _ => none
 | k + 1, x0, x1, x2, x3, x4, x11, x12, x13, x41, x42, x43 => if x43 < x42 then (if 0 ≤ x43 then (if x43 < (x41.length : Int) then (if x12.length < 17592186044416 then (if x13.length < 17592186044416 then (formelaw24_GridOne.l0 k x0 x1 x2 x3 x4 x11 (x12 ++ [mn (rd x41 x43) x0]) (x13 ++ [1]) x41 x42 (wrap64 (x43 + 1))) else (none)) else (none)) else (none)) else (none)) else ((grid_Place.f x0 x1 x2 x3 x4).bind fun bt480 => ((grid_Place.f x0 x12 x2 x3 x4).bind fun bt485 => (if bt480.2.2 = bt485.2.2 then (if bt480.2.1 = bt485.2.1 then ((formeref24_Same.f k bt480.1 bt485.1).bind fun t490 => (if t490 = true then ((grid_Place.f 1 x13 x2 x3 x4).bind fun bt491 => (if bt491.2.2 = 0 then (if (bt491.1.length : Int) = (x1.length : Int) then (formelaw24_GridOne.l1 k x2 x3 x4 x11 0 bt491.1 (bt491.1.length : Int) 0) else (none)) else (some x11))) else (some false))) else (none)) else (none))))
def formelaw24_GridOne.l1 : Nat → List Int → Int → Int → Bool → Int → List (S43) → Int → Int → Option (Bool)
 | 0, _, _, _, _, _, _, _, _ => none
 | k + 1, x2, x3, x4, x11, x25, x108, x109, x110 => if x110 < x109 then (if 0 ≤ x110 then (if x110 < (x108.length : Int) then (if x11 = true then (if ((rd_T43 x108 x110).f1) = 0 then (if ((rd_T43 x108 x110).f3) = x3 then (if x110 < (x2.length : Int) then (formelaw24_GridOne.l1 k x2 x3 x4 (((rd_T43 x108 x110).f2) == x25) (wrap64 (x25 + (wrap64 ((rd x2 x110) + x4)))) x108 x109 (wrap64 (x110 + 1))) else (none)) else (none)) else (none)) else (none)) else (none)) else (none)) else (some x11)
end
def formelaw24_GridOne.f (k : Nat) (a0 : Int) (l1 : List Int) (l2 : List Int) (a3 : Int) (a4 : Int) : Option (Bool) := (formelaw24_head.f k).bind fun t471 => (if t471 = true then ((formelaw24_usable.f k a0 l1).bind fun t472 => (if t472 = true then (formelaw24_GridOne.j0 k a0 l1 l2 a3 a4 true ((l2.length : Int) != (l1.length : Int))) else (formelaw24_GridOne.j0 k a0 l1 l2 a3 a4 true true))) else (none))
theorem formelaw24_GridOne.mono_l : ∀ k, (∀ y0 y1 y2 y3 y4 y5 y6, LeO (formelaw24_GridOne.j0 k y0 y1 y2 y3 y4 y5 y6) (formelaw24_GridOne.j0 (k + 1) y0 y1 y2 y3 y4 y5 y6)) ∧ (∀ y0 y1 y2 y3 y4 y5 y6 y7 y8 y9 y10, LeO (formelaw24_GridOne.l0 k y0 y1 y2 y3 y4 y5 y6 y7 y8 y9 y10) (formelaw24_GridOne.l0 (k + 1) y0 y1 y2 y3 y4 y5 y6 y7 y8 y9 y10)) ∧ (∀ y0 y1 y2 y3 y4 y5 y6 y7, LeO (formelaw24_GridOne.l1 k y0 y1 y2 y3 y4 y5 y6 y7) (formelaw24_GridOne.l1 (k + 1) y0 y1 y2 y3 y4 y5 y6 y7))
 | 0 => ⟨fun _ _ _ _ _ _ _ r h => by simp [formelaw24_GridOne.j0] at h, fun _ _ _ _ _ _ _ _ _ _ _ r h => by simp [formelaw24_GridOne.l0] at h, fun _ _ _ _ _ _ _ _ r h => by simp [formelaw24_GridOne.l1] at h⟩
 | k + 1 => by
  obtain ⟨ih0, ih1, ih2⟩ := formelaw24_GridOne.mono_l k
  refine ⟨?_, ?_, ?_⟩
  ·
   intro y0 y1 y2 y3 y4 y5 y6
   unfold formelaw24_GridOne.j0
   repeat' first
   | (with_reducible exact ih0 _ _ _ _ _ _ _)
   | (with_reducible exact ih1 _ _ _ _ _ _ _ _ _ _ _)
   | (with_reducible exact ih2 _ _ _ _ _ _ _ _)
   | (with_reducible exact formelaw24_head.mono _)
   | (with_reducible exact formelaw24_usable.mono _ _ _)
   | (with_reducible exact formeref24_Same.mono _ _ _)
   | (with_reducible exact LeO.refl _)
   | (with_reducible exact LeO.none _)
   | (with_reducible refine LeO.ite ?_ ?_)
   | (with_reducible refine LeO.bind ?_ (fun _ => ?_))
   | exact ih0 _ _ _ _ _ _ _
   | exact ih1 _ _ _ _ _ _ _ _ _ _ _
   | exact ih2 _ _ _ _ _ _ _ _
   | exact formelaw24_head.mono _
   | exact formelaw24_usable.mono _ _ _
   | exact formeref24_Same.mono _ _ _
   | exact LeO.none _
   | refine LeO.ite ?_ ?_
   | refine LeO.bind ?_ (fun _ => ?_)
  ·
   intro y0 y1 y2 y3 y4 y5 y6 y7 y8 y9 y10
   unfold formelaw24_GridOne.l0
   repeat' first
   | (with_reducible exact ih0 _ _ _ _ _ _ _)
   | (with_reducible exact ih1 _ _ _ _ _ _ _ _ _ _ _)
   | (with_reducible exact ih2 _ _ _ _ _ _ _ _)
   | (with_reducible exact formelaw24_head.mono _)
   | (with_reducible exact formelaw24_usable.mono _ _ _)
   | (with_reducible exact formeref24_Same.mono _ _ _)
   | (with_reducible exact LeO.refl _)
   | (with_reducible exact LeO.none _)
   | (with_reducible refine LeO.ite ?_ ?_)
   | (with_reducible refine LeO.bind ?_ (fun _ => ?_))
   | exact ih0 _ _ _ _ _ _ _
   | exact ih1 _ _ _ _ _ _ _ _ _ _ _
   | exact ih2 _ _ _ _ _ _ _ _
   | exact formelaw24_head.mono _
   | exact formelaw24_usable.mono _ _ _
   | exact formeref24_Same.mono _ _ _
   | exact LeO.none _
   | refine LeO.ite ?_ ?_
   | refine LeO.bind ?_ (fun _ => ?_)
  ·
   intro y0 y1 y2 y3 y4 y5 y6 y7
   unfold formelaw24_GridOne.l1
   repeat' first
   | (with_reducible exact ih0 _ _ _ _ _ _ _)
   | (with_reducible exact ih1 _ _ _ _ _ _ _ _ _ _ _)
   | (with_reducible exact ih2 _ _ _ _ _ _ _ _)
   | (with_reducible exact formelaw24_head.mono _)
   | (with_reducible exact formelaw24_usable.mono _ _ _)
   | (with_reducible exact formeref24_Same.mono _ _ _)
   | (with_reducible exact LeO.refl _)
   | (with_reducible exact LeO.none _)
   | (with_reducible refine LeO.ite ?_ ?_)
   | (with_reducible refine LeO.bind ?_ (fun _ => ?_))
   | exact ih0 _ _ _ _ _ _ _
   | exact ih1 _ _ _ _ _ _ _ _ _ _ _
   | exact ih2 _ _ _ _ _ _ _ _
   | exact formelaw24_head.mono _
   | exact formelaw24_usable.mono _ _ _
   | exact formeref24_Same.mono _ _ _
   | exact LeO.none _
   | refine LeO.ite ?_ ?_
   | refine LeO.bind ?_ (fun _ => ?_)
theorem formelaw24_GridOne.mono : ∀ a0 a1 a2 a3 a4 k, LeO (formelaw24_GridOne.f k a0 a1 a2 a3 a4) (formelaw24_GridOne.f (k + 1) a0 a1 a2 a3 a4) := by
 intro a0 a1 a2 a3 a4 k
 obtain ⟨ih0, ih1, ih2⟩ := formelaw24_GridOne.mono_l k
 unfold formelaw24_GridOne.f
 repeat' first
   | (with_reducible exact ih0 _ _ _ _ _ _ _)
   | (with_reducible exact ih1 _ _ _ _ _ _ _ _ _ _ _)
   | (with_reducible exact ih2 _ _ _ _ _ _ _ _)
   | (with_reducible exact formelaw24_head.mono _)
   | (with_reducible exact formelaw24_usable.mono _ _ _)
   | (with_reducible exact formeref24_Same.mono _ _ _)
   | (with_reducible exact LeO.refl _)
   | (with_reducible exact LeO.none _)
   | (with_reducible refine LeO.ite ?_ ?_)
   | (with_reducible refine LeO.bind ?_ (fun _ => ?_))
   | exact ih0 _ _ _ _ _ _ _
   | exact ih1 _ _ _ _ _ _ _ _ _ _ _
   | exact ih2 _ _ _ _ _ _ _ _
   | exact formelaw24_head.mono _
   | exact formelaw24_usable.mono _ _ _
   | exact formeref24_Same.mono _ _ _
   | exact LeO.none _
   | refine LeO.ite ?_ ?_
   | refine LeO.bind ?_ (fun _ => ?_)
set_option maxHeartbeats 8000000 in
set_option maxRecDepth 100000 in
theorem formelaw24_GridOne.calls (k : Nat) (a0 : Int) (A1 : Option Addr) (c1 : Nat) (l1 : List Int) (A2 : Option Addr) (c2 : Nat) (l2 : List Int) (a3 : Int) (a4 : Int) (r : Bool) (w : World) (hr1 : Kd.C (Kd.int .i64) w A1 l1.length l1) (hc1 : l1.length ≤ c1) (hr2 : Kd.C (Kd.int .i64) w A2 l2.length l2) (hc2 : l2.length ≤ c2) (h : formelaw24_GridOne.f k a0 l1 l2 a3 a4 = some r) :
  Calls Try.prog 8 #[.int .i64 a0, .slice A1 l1.length c1, .slice A2 l2.length c2, .int .i64 a3, .int .i64 a4] w fun e w' => e = .returned (.bool r) ∧ Below w.heap.size w w' := by
 have hu43 := Try.underlying43
 have HR1 := Aside0.mk hr1
 have HC1 := Aside0.mk hc1
 clear hr1 hc1
 have HR2 := Aside0.mk hr2
 have HC2 := Aside0.mk hc2
 clear hr2 hc2
 have HB := Aside0.mk (Below.refl w.heap.size w)
 have H : ((formelaw24_head.f k).bind fun t471 => (if t471 = true then ((formelaw24_usable.f k a0 l1).bind fun t472 => (if t472 = true then (formelaw24_GridOne.j0 k a0 l1 l2 a3 a4 true ((l2.length : Int) != (l1.length : Int))) else (formelaw24_GridOne.j0 k a0 l1 l2 a3 a4 true true))) else (none))) = some r := h
 clear h
 replace H := Option.bind_eq_some_iff.mp H
 obtain ⟨t471, A60, H⟩ := H
 replace H : (if t471 = true then ((formelaw24_usable.f k a0 l1).bind fun t472 => (if t472 = true then (formelaw24_GridOne.j0 k a0 l1 l2 a3 a4 true ((l2.length : Int) != (l1.length : Int))) else (formelaw24_GridOne.j0 k a0 l1 l2 a3 a4 true true))) else (none)) = some r := H
 have A6 := Aside0.mk A60
 clear A60
 by_cases c7 : t471 = true
 ·
  subst c7
  have H1 : ((formelaw24_usable.f k a0 l1).bind fun t472 => (if t472 = true then (formelaw24_GridOne.j0 k a0 l1 l2 a3 a4 true ((l2.length : Int) != (l1.length : Int))) else (formelaw24_GridOne.j0 k a0 l1 l2 a3 a4 true true))) = some r := by rw [if_pos rfl] at H; exact H
  clear H
  have H := H1
  clear H1
  have HC8 := Aside0.mk H
  clear H
  go_enter Try.func8, Try.ntmps8
  go_upto_region 2 with (first | ((with_reducible refine gate_callee (f := 9) rfl ?_); refine goesL_ (some 28) rfl rfl Try.func9 (by kernel_rfl) rfl #[] rfl (by (try simp only [List.map_toArray, List.map_cons, List.map_nil]); first | done | rfl | (simp only [List.length_drop, List.length_take]; rfl)) ?_; (with_reducible refine (formelaw24_head.calls k  true _ A6.out).mono ?_); rintro e w9 ⟨rfl, hb⟩; refine ⟨_, rfl, ?_⟩; have n0_ := Aside0.mk (below_step (by repeat (first | (with_reducible first | exact HB.out | apply below_alloc | apply pw_below_drewN | apply below_drew1) | exact HB.out)) hb); clear HB; have HB := n0_; clear n0_; (try clear hb); (try clear hb2); (try clear hk); (try clear hi)))
  (try simp only [Act.put, List.setIfInBounds_toArray, List.set_cons_zero, List.set_cons_succ])
  go_cut [39] (fun v39 wc => ∃ (kq : Nat) (x39_7 : Bool), v39 = .bool x39_7 ∧ Aside0 (formelaw24_GridOne.j0 kq a0 l1 l2 a3 a4 true x39_7 = some r) ∧ Aside0 (kq ≤ k) ∧ Aside0 (Below w.heap.size w wc))
  case first =>
   have H := HC8.out
   clear HC8
   replace H := Option.bind_eq_some_iff.mp H
   obtain ⟨t472, A100, H⟩ := H
   replace H : (if t472 = true then (formelaw24_GridOne.j0 k a0 l1 l2 a3 a4 true ((l2.length : Int) != (l1.length : Int))) else (formelaw24_GridOne.j0 k a0 l1 l2 a3 a4 true true)) = some r := H
   have A10 := Aside0.mk A100
   clear A100
   by_cases c11 : t472 = true
   ·
    subst c11
    have H1 : (formelaw24_GridOne.j0 k a0 l1 l2 a3 a4 true ((l2.length : Int) != (l1.length : Int))) = some r := by rw [if_pos rfl] at H; exact H
    clear H
    have H := H1
    clear H1
    have H' := Aside0.mk H
    clear H
    go_wp2_with (first | ((with_reducible refine gate_callee (f := 20) rfl ?_); refine goesL_ (some 31) rfl rfl Try.func20 (by kernel_rfl) rfl #[.int .i64 a0, .slice A1 l1.length c1] rfl (by (try simp only [List.map_toArray, List.map_cons, List.map_nil]); first | done | rfl | (simp only [List.length_drop, List.length_take]; rfl)) ?_; (with_reducible refine (formelaw24_usable.calls k a0 _ _ l1 true _ ?side1 ?side2 A10.out).mono ?_); (case side1 => repeat (first | exact (Kd.C_below HR1.out HB.out) | (with_reducible refine Kd.C_alloc ?_ _) | (with_reducible refine Kd.C_drewN ?_ _) | (with_reducible refine Kd.C_drew ?_))); (case side2 => exact HC1.out); rintro e w12 ⟨rfl, hb⟩; refine ⟨_, rfl, ?_⟩; have n0_ := Aside0.mk (below_step (by repeat (first | (with_reducible first | exact HB.out | apply below_alloc | apply pw_below_drewN | apply below_drew1) | exact HB.out)) hb); clear HB; have HB := n0_; clear n0_; (try clear hb); (try clear hb2); (try clear hk); (try clear hi)))
    go_meet
    case rel => exact ⟨_, (((l2.length : Int) != (l1.length : Int))), (by first | rfl | (simp; done) | (simp [*]; done)), H', ⟨by first | omega | exact Nat.le_refl _⟩, ⟨by repeat (first | (with_reducible first | exact HB.out | apply below_alloc | apply pw_below_drewN | apply below_drew1) | exact HB.out)⟩⟩
   ·
    replace c11 := Bool.eq_false_iff.mpr c11
    subst c11
    have H1 : (formelaw24_GridOne.j0 k a0 l1 l2 a3 a4 true true) = some r := by rw [if_neg (show ¬ (false = true) by decide)] at H; exact H
    clear H
    have H := H1
    clear H1
    have H' := Aside0.mk H
    clear H
    go_wp2_with (first | ((with_reducible refine gate_callee (f := 20) rfl ?_); refine goesL_ (some 31) rfl rfl Try.func20 (by kernel_rfl) rfl #[.int .i64 a0, .slice A1 l1.length c1] rfl (by (try simp only [List.map_toArray, List.map_cons, List.map_nil]); first | done | rfl | (simp only [List.length_drop, List.length_take]; rfl)) ?_; (with_reducible refine (formelaw24_usable.calls k a0 _ _ l1 false _ ?side1 ?side2 A10.out).mono ?_); (case side1 => repeat (first | exact (Kd.C_below HR1.out HB.out) | (with_reducible refine Kd.C_alloc ?_ _) | (with_reducible refine Kd.C_drewN ?_ _) | (with_reducible refine Kd.C_drew ?_))); (case side2 => exact HC1.out); rintro e w13 ⟨rfl, hb⟩; refine ⟨_, rfl, ?_⟩; have n0_ := Aside0.mk (below_step (by repeat (first | (with_reducible first | exact HB.out | apply below_alloc | apply pw_below_drewN | apply below_drew1) | exact HB.out)) hb); clear HB; have HB := n0_; clear n0_; (try clear hb); (try clear hb2); (try clear hk); (try clear hi)))
    go_meet
    case rel => exact ⟨_, (true), (by first | rfl | (simp; done) | (simp [*]; done)), H', ⟨by first | omega | exact Nat.le_refl _⟩, ⟨by repeat (first | (with_reducible first | exact HB.out | apply below_alloc | apply pw_below_drewN | apply below_drew1) | exact HB.out)⟩⟩
  case rest =>
   clear HC8
   try clear c1
   try clear c2
   try clear p2
   try clear c7
   try clear c8
   try clear c9
   try clear c11
   obtain ⟨kq, x39_7, rfl, HA, HJ7, HB⟩ := hcut
   cases kq with
   | zero => exact absurd HA.out (by simp [formelaw24_GridOne.j0])
   | succ kj7 =>
    have H := HA.out
    clear HA
    simp only [formelaw24_GridOne.j0] at H
    by_cases c14 : x39_7 = true
    ·
     subst c14
     have H1 : (some true) = some r := by rw [if_pos rfl] at H; exact H
     clear H
     have H := H1
     clear H1
     obtain rfl := Option.some.inj H
     go_wp2
     go_ret
     exact ⟨by first | rfl | (simp [errW_none, errW_some] <;> rfl) | (simp [*, errW_none, errW_some] <;> rfl), by repeat (first | (with_reducible first | exact HB.out | apply below_alloc | apply pw_below_drewN | apply below_drew1) | exact HB.out)⟩
    ·
     replace c14 := Bool.eq_false_iff.mpr c14
     subst c14
     have H1 : (formelaw24_GridOne.l0 kj7 a0 l1 l2 a3 a4 true ([] : List Int) ([] : List Int) l1 (l1.length : Int) 0) = some r := by rw [if_neg (show ¬ (false = true) by decide)] at H; exact H
     clear H
     have H := H1
     clear H1
     have H' := Aside0.mk H
     clear H
     go_wp2
     go_loopg [12, 13, 43] kj7 (fun kq v12 v13 v43 w' => ∃ (x12_2 : List Int) (x13_2 : List Int) (x43_2 : Int), v43 = .int .i64 x43_2 ∧ Aside0 (formelaw24_GridOne.l0 kq a0 l1 l2 a3 a4 true x12_2 x13_2 l1 (l1.length : Int) x43_2 = some r) ∧ Aside0 (kq ≤ kj7) ∧ Aside0 (Kd.R (Kd.int .i64) 3 w' w.heap.size (fun k_ => some k_ ≠ (v13 : Value).ownBlock) v12 x12_2) ∧ Aside0 (Kd.R (Kd.int .i64) 3 w' w.heap.size (fun k_ => some k_ ≠ (v12 : Value).ownBlock) v13 x13_2) ∧ Aside0 (Below w.heap.size w w'))
     case atStart => exact ⟨(([] : List Int)), (([] : List Int)), (0), (by first | rfl | (simp; done) | (simp [*]; done)), H', ⟨Nat.le_refl _⟩, ⟨by first | exact Kd.R_nil _ _ _ _ _ | exact Kd.N_nil _ _ _ _ _ | exact Kd.V_nil _ _ _ _ _ | exact Kd.Q_nil _ _ _ _ _ | exact Kd.S_nil _ _ _ _ _⟩, ⟨by first | exact Kd.R_nil _ _ _ _ _ | exact Kd.N_nil _ _ _ _ _ | exact Kd.V_nil _ _ _ _ _ | exact Kd.Q_nil _ _ _ _ _ | exact Kd.S_nil _ _ _ _ _⟩, ⟨by repeat (first | (with_reducible first | exact HB.out | apply below_alloc | apply pw_below_drewN | apply below_drew1) | exact HB.out)⟩⟩
     case round =>
      clear H'
      try clear c1
      try clear c2
      try clear p2
      try clear c7
      try clear c8
      try clear c9
      try clear c11
      try clear c14
      try clear p2
      obtain ⟨x12_2, x13_2, x43_2, rfl, HA, HK2, HO_12, HO_13, HB⟩ := hrel
      cases gk with
      | zero => exact absurd HA.out (by simp [formelaw24_GridOne.l0])
      | succ k2 =>
       have H := HA.out
       clear HA
       simp only [formelaw24_GridOne.l0] at H
       by_cases c15 : x43_2 < (l1.length : Int)
       ·
        rw [if_pos c15] at H
        have c15b0 : decide (x43_2 < (l1.length : Int)) = true := decide_eq_true c15
        clear c15
        by_cases c16 : 0 ≤ x43_2
        ·
         rw [if_pos c16] at H
         have c16b0 : decide (0 ≤ x43_2) = true := decide_eq_true c16
         clear c16
         by_cases c17 : x43_2 < (l1.length : Int)
         ·
          rw [if_pos c17] at H
          have c17b0 : decide (x43_2 < (l1.length : Int)) = true := decide_eq_true c17
          clear c17
          obtain ⟨ji18, hji18⟩ : ∃ j_ : Int, (mn (rd l1 x43_2) a0) = j_ := ⟨_, rfl⟩
          replace H : (if x12_2.length < 17592186044416 then (if x13_2.length < 17592186044416 then (formelaw24_GridOne.l0 k2 a0 l1 l2 a3 a4 true (x12_2 ++ [ji18]) (x13_2 ++ [1]) l1 (l1.length : Int) (wrap64 (x43_2 + 1))) else (none)) else (none)) = some r := by first | (rw [hji18] at H; exact H) | (simp only [hji18] at H ⊢; exact H)
          have hji18_ : (if a0 < (rd l1 x43_2) then a0 else (rd l1 x43_2)) = ji18 := hji18
          by_cases c19 : x12_2.length < 17592186044416
          ·
           rw [if_pos c19] at H
           have LMc19 := Aside0.mk c19
           clear c19
           obtain ⟨y474, hy474⟩ : ∃ y_ : List Int, y_ = (x12_2 ++ [ji18]) := ⟨_, rfl⟩
           replace H : (if x13_2.length < 17592186044416 then (formelaw24_GridOne.l0 k2 a0 l1 l2 a3 a4 true y474 (x13_2 ++ [1]) l1 (l1.length : Int) (wrap64 (x43_2 + 1))) else (none)) = some r := by first | (rw [hy474]; with_reducible exact H) | (have H2_ := (Option.bind_some _ _).symm.trans H; rw [hy474]; with_reducible exact H2_) | (have H2_ := (Option.bind_some _ _).symm.trans H; with_reducible exact H2_) | with_reducible exact H | (rw [hy474]; exact H) | exact H
           have Ny474 := Aside0.mk hy474
           clear hy474
           by_cases c20 : x13_2.length < 17592186044416
           ·
            rw [if_pos c20] at H
            have LMc20 := Aside0.mk c20
            clear c20
            obtain ⟨y477, hy477⟩ : ∃ y_ : List Int, y_ = (x13_2 ++ [1]) := ⟨_, rfl⟩
            replace H : (formelaw24_GridOne.l0 k2 a0 l1 l2 a3 a4 true y474 y477 l1 (l1.length : Int) (wrap64 (x43_2 + 1))) = some r := by first | (rw [hy477]; with_reducible exact H) | (have H2_ := (Option.bind_some _ _).symm.trans H; rw [hy477]; with_reducible exact H2_) | (have H2_ := (Option.bind_some _ _).symm.trans H; with_reducible exact H2_) | with_reducible exact H | (rw [hy477]; exact H) | exact H
            have Ny477 := Aside0.mk hy477
            clear hy477
            have H' := Aside0.mk H
            clear H
            have p473 : 0 ≤ (x43_2 : Int) := of_decide_eq_true (by first | (with_reducible assumption) | assumption)
            have q473 : x43_2 < (l1.length : Int) := of_decide_eq_true (by first | (with_reducible assumption) | assumption)
            obtain ⟨ad473, e473, hx473_0⟩ := Kd.at_int HR1.out x43_2 p473 q473
            cases e473
            replace hx473_0 := (HB.out.cell (World.block_lt_of_cell? w _ hx473_0)).trans hx473_0
            replace p473 := eq_true p473
            replace q473 := eq_true q473
            go_wp2_with (first | ((with_reducible refine gate_builtin (b := .append) (xs := #[.tmp 47, .tmp 51]) rfl ?_); (try (refine gate_guard (by rfl) ?_; dsimp only)); at_builtin; refine Kd.R_append (Kd.int .i64) (w0 := w) w.heap.size rfl (.tmp 47) (.tmp 51) 22 3 (.int .i64 0) 8 rfl Try.underlying22 info3 rfl (by decide) (by omega) u12 x12_2 ji18 [.int .i64 ji18] (fun k_ => some k_ ≠ (u13 : Value).ownBlock) (fun _ => False) rfl rfl ?aP (fun _ hk => hk.elim) ?aF ?aO ?aB ?aS ?aL ?_; (case aP => exact rfl); (case aB => exact (by repeat (first | (with_reducible first | exact HB.out | apply below_alloc | apply pw_below_drewN | apply below_drew1) | exact HB.out))); (case aF => exact (fun k_ hk => Kd.fresh' (Kd.R_lt (by (with_reducible repeat (first | apply Kd.R_alloc | apply Kd.R_drewN | apply Kd.R_drew)); exact HO_13.out)) k_ hk)); (case aO => exact (by (with_reducible repeat (first | apply Kd.R_alloc | apply Kd.R_drewN | apply Kd.R_drew)); exact HO_12.out)); (case aS => exact (below_size (by repeat (first | (with_reducible first | exact HB.out | apply below_alloc | apply pw_below_drewN | apply below_drew1) | exact HB.out)))); (case aL => have := LMc19.out; omega); intro v475 w21 ho hb hg hat; rw [← Ny474.out] at ho; have n0_ := Aside0.mk (Kd.R_after (ok := (fun _ => True)) (by (with_reducible repeat (first | apply Kd.R_alloc | apply Kd.R_drewN | apply Kd.R_drew)); exact Kd.R_mono HO_13.out (fun _ hk => ⟨trivial, hk⟩)) hg hat); have n1_ := Aside0.mk (hb); have n2_ := Aside0.mk (ho); clear HO_13; clear HB; clear HO_12; have HO_13 := n0_; have HB := n1_; have HO476 := n2_; clear n0_ n1_ n2_; clear ho hb hg hat) | ((with_reducible refine gate_builtin (b := .append) (xs := #[.tmp 53, .tmp 54]) rfl ?_); (try (refine gate_guard (by rfl) ?_; dsimp only)); at_builtin; refine Kd.R_append (Kd.int .i64) (w0 := w) w.heap.size rfl (.tmp 53) (.tmp 54) 22 3 (.int .i64 0) 8 rfl Try.underlying22 info3 rfl (by decide) (by omega) u13 x13_2 1 [.int .i64 1] (fun k_ => some k_ ≠ (v475 : Value).ownBlock) (fun _ => False) rfl rfl ?aP (fun _ hk => hk.elim) ?aF ?aO ?aB ?aS ?aL ?_; (case aP => exact rfl); (case aB => exact (by repeat (first | (with_reducible first | exact HB.out | apply below_alloc | apply pw_below_drewN | apply below_drew1) | exact HB.out))); (case aF => exact (fun k_ hk => Kd.fresh' (Kd.R_lt (by (with_reducible repeat (first | apply Kd.R_alloc | apply Kd.R_drewN | apply Kd.R_drew)); exact HO476.out)) k_ hk)); (case aO => exact (by (with_reducible repeat (first | apply Kd.R_alloc | apply Kd.R_drewN | apply Kd.R_drew)); exact Kd.R_mono HO_13.out (fun _ hk => hk.2))); (case aS => exact (below_size (by repeat (first | (with_reducible first | exact HB.out | apply below_alloc | apply pw_below_drewN | apply below_drew1) | exact HB.out)))); (case aL => have := LMc20.out; omega); intro v478 w22 ho hb hg hat; rw [← Ny477.out] at ho; have n0_ := Aside0.mk (Kd.R_after (ok := (fun _ => True)) (by (with_reducible repeat (first | apply Kd.R_alloc | apply Kd.R_drewN | apply Kd.R_drew)); exact Kd.R_mono HO476.out (fun _ hk => ⟨trivial, hk⟩)) hg hat); have n1_ := Aside0.mk (hb); have n2_ := Aside0.mk (ho); clear HO476; clear HB; clear HO_13; have HO476 := n0_; have HB := n1_; have HO479 := n2_; clear n0_ n1_ n2_; clear ho hb hg hat))
            go_roundg k2
            case measure => have := HJ7.out; have := HK2.out; omega
            case rel => exact ⟨(y474), (y477), (wrap64 (x43_2 + 1)), (by first | rfl | (simp; done) | (simp [*]; done)), H', ⟨by have := HJ7.out; have := HK2.out; omega⟩, ⟨by (with_reducible repeat (first | apply Kd.R_alloc | apply Kd.R_drewN | apply Kd.R_drew)); exact Kd.R_mono HO476.out (fun _ hk => hk.2)⟩, ⟨by (with_reducible repeat (first | apply Kd.R_alloc | apply Kd.R_drewN | apply Kd.R_drew)); exact HO479.out⟩, ⟨by repeat (first | (with_reducible first | exact HB.out | apply below_alloc | apply pw_below_drewN | apply below_drew1) | exact HB.out)⟩⟩
           ·
            rw [if_neg c20] at H
            exact absurd H (by simp)
          ·
           rw [if_neg c19] at H
           exact absurd H (by simp)
         ·
          rw [if_neg c17] at H
          exact absurd H (by simp)
        ·
         rw [if_neg c16] at H
         exact absurd H (by simp)
       ·
        rw [if_neg c15] at H
        have c15b0 : decide (x43_2 < (l1.length : Int)) = false := decide_eq_false c15
        clear c15
        replace H := Option.bind_eq_some_iff.mp H
        obtain ⟨⟨t480, t481, t482⟩, A230, H⟩ := H
        replace H : ((grid_Place.f a0 x12_2 l2 a3 a4).bind fun bt485 => (if t482 = bt485.2.2 then (if t481 = bt485.2.1 then ((formeref24_Same.f k2 t480 bt485.1).bind fun t490 => (if t490 = true then ((grid_Place.f 1 x13_2 l2 a3 a4).bind fun bt491 => (if bt491.2.2 = 0 then (if (bt491.1.length : Int) = (l1.length : Int) then (formelaw24_GridOne.l1 k2 l2 a3 a4 true 0 bt491.1 (bt491.1.length : Int) 0) else (none)) else (some true))) else (some false))) else (none)) else (none))) = some r := H
        have A23 := Aside0.mk A230
        clear A230
        replace H := Option.bind_eq_some_iff.mp H
        obtain ⟨⟨t485, t486, t487⟩, A240, H⟩ := H
        replace H : (if t482 = t487 then (if t481 = t486 then ((formeref24_Same.f k2 t480 t485).bind fun t490 => (if t490 = true then ((grid_Place.f 1 x13_2 l2 a3 a4).bind fun bt491 => (if bt491.2.2 = 0 then (if (bt491.1.length : Int) = (l1.length : Int) then (formelaw24_GridOne.l1 k2 l2 a3 a4 true 0 bt491.1 (bt491.1.length : Int) 0) else (none)) else (some true))) else (some false))) else (none)) else (none)) = some r := H
        have A24 := Aside0.mk A240
        clear A240
        by_cases c25 : t482 = t487
        ·
         rw [if_pos c25] at H
         have c25b0 : (t482 == t487) = true := beq_iff_eq.mpr c25
         have c25b1 : (t482 != t487) = false := bne_eq_false_iff_eq.mpr c25
         clear c25
         by_cases c26 : t481 = t486
         ·
          rw [if_pos c26] at H
          have c26b0 : (t481 == t486) = true := beq_iff_eq.mpr c26
          have c26b1 : (t481 != t486) = false := bne_eq_false_iff_eq.mpr c26
          clear c26
          replace H := Option.bind_eq_some_iff.mp H
          obtain ⟨t490, A270, H⟩ := H
          replace H : (if t490 = true then ((grid_Place.f 1 x13_2 l2 a3 a4).bind fun bt491 => (if bt491.2.2 = 0 then (if (bt491.1.length : Int) = (l1.length : Int) then (formelaw24_GridOne.l1 k2 l2 a3 a4 true 0 bt491.1 (bt491.1.length : Int) 0) else (none)) else (some true))) else (some false)) = some r := H
          have A27 := Aside0.mk A270
          clear A270
          by_cases c28 : t490 = true
          ·
           subst c28
           have H1 : ((grid_Place.f 1 x13_2 l2 a3 a4).bind fun bt491 => (if bt491.2.2 = 0 then (if (bt491.1.length : Int) = (l1.length : Int) then (formelaw24_GridOne.l1 k2 l2 a3 a4 true 0 bt491.1 (bt491.1.length : Int) 0) else (none)) else (some true))) = some r := by rw [if_pos rfl] at H; exact H
           clear H
           have H := H1
           clear H1
           replace H := Option.bind_eq_some_iff.mp H
           obtain ⟨⟨t491, t492, t493⟩, A290, H⟩ := H
           replace H : (if t493 = 0 then (if (t491.length : Int) = (l1.length : Int) then (formelaw24_GridOne.l1 k2 l2 a3 a4 true 0 t491 (t491.length : Int) 0) else (none)) else (some true)) = some r := H
           have A29 := Aside0.mk A290
           clear A290
           by_cases c30 : t493 = 0
           ·
            rw [if_pos c30] at H
            have c30b0 : (t493 == 0) = true := beq_iff_eq.mpr c30
            have c30b1 : (t493 != 0) = false := bne_eq_false_iff_eq.mpr c30
            clear c30
            by_cases c31 : (t491.length : Int) = (l1.length : Int)
            ·
             rw [if_pos c31] at H
             have c31b0 : ((t491.length : Int) == (l1.length : Int)) = true := beq_iff_eq.mpr c31
             have c31b1 : ((t491.length : Int) != (l1.length : Int)) = false := bne_eq_false_iff_eq.mpr c31
             have c31b2 : (t491.length == l1.length) = true := by first | simpa using c31 | (simp at c31 ⊢; omega)
             clear c31
             have H' := Aside0.mk H
             clear H
             go_wp2_with (first | ((with_reducible refine gate_callee (f := 16) rfl ?_); refine goesL_ (some 63) rfl rfl Try.func16 (by kernel_rfl) rfl #[.int .i64 a0, .slice A1 l1.length c1, .slice A2 l2.length c2, .int .i64 a3, .int .i64 a4] rfl (by (try simp only [List.map_toArray, List.map_cons, List.map_nil]); first | done | rfl | (simp only [List.length_drop, List.length_take]; rfl)) ?_; (with_reducible refine (grid_Place.calls a0 _ _ l1 _ _ l2 a3 a4 t480 t481 t482 _ ?side1 ?side2 ?side3 ?side4 A23.out).mono ?_); (case side1 => repeat (first | exact (Kd.C_below HR1.out HB.out) | (with_reducible refine Kd.C_alloc ?_ _) | (with_reducible refine Kd.C_drewN ?_ _) | (with_reducible refine Kd.C_drew ?_))); (case side2 => exact HC1.out); (case side3 => repeat (first | exact (Kd.C_below HR2.out HB.out) | (with_reducible refine Kd.C_alloc ?_ _) | (with_reducible refine Kd.C_drewN ?_ _) | (with_reducible refine Kd.C_drew ?_))); (case side4 => exact HC2.out); rintro e w32 ⟨v483, rfl, ho0, hb⟩; refine ⟨_, rfl, ?_⟩; have n0_ := Aside0.mk (Kd.R_below (by (with_reducible repeat (first | apply Kd.R_alloc | apply Kd.R_drewN | apply Kd.R_drew)); exact HO_12.out) hb); have n1_ := Aside0.mk (Kd.R_below (by (with_reducible repeat (first | apply Kd.R_alloc | apply Kd.R_drewN | apply Kd.R_drew)); exact HO_13.out) hb); have n2_ := Aside0.mk (Kd.S_lower ho0 (below_size (by repeat (first | (with_reducible first | exact HB.out | apply below_alloc | apply pw_below_drewN | apply below_drew1) | exact HB.out)))); have n3_ := Aside0.mk (below_step (by repeat (first | (with_reducible first | exact HB.out | apply below_alloc | apply pw_below_drewN | apply below_drew1) | exact HB.out)) hb); clear HO_12; clear HO_13; clear HB; have HO_12 := n0_; have HO_13 := n1_; have HO484 := n2_; have HB := n3_; clear n0_ n1_ n2_ n3_; (try clear hb); (try clear hb2); (try clear hk); (try clear hi); (try clear ho0); obtain ⟨Ao33, co33, eo33⟩ := Kd.R_slice HO_12.out; subst eo33) | ((with_reducible refine gate_callee (f := 16) rfl ?_); refine goesL_ (some 73) rfl rfl Try.func16 (by kernel_rfl) rfl #[.int .i64 a0, .slice Ao33 x12_2.length co33, .slice A2 l2.length c2, .int .i64 a3, .int .i64 a4] rfl (by (try simp only [List.map_toArray, List.map_cons, List.map_nil]); first | done | rfl | (simp only [List.length_drop, List.length_take]; rfl)) ?_; (with_reducible refine (grid_Place.calls a0 _ _ x12_2 _ _ l2 a3 a4 t485 t486 t487 _ ?side1 ?side2 ?side3 ?side4 A24.out).mono ?_); (case side1 => repeat (first | exact (Kd.R_reads' HO_12.out).2.2 | (with_reducible refine Kd.C_alloc ?_ _) | (with_reducible refine Kd.C_drewN ?_ _) | (with_reducible refine Kd.C_drew ?_))); (case side2 => exact (Kd.R_reads' HO_12.out).2.1); (case side3 => repeat (first | exact (Kd.C_below HR2.out HB.out) | (with_reducible refine Kd.C_alloc ?_ _) | (with_reducible refine Kd.C_drewN ?_ _) | (with_reducible refine Kd.C_drew ?_))); (case side4 => exact HC2.out); rintro e w34 ⟨v488, rfl, ho0, hb⟩; refine ⟨_, rfl, ?_⟩; have n0_ := Aside0.mk (Kd.R_below (by (with_reducible repeat (first | apply Kd.R_alloc | apply Kd.R_drewN | apply Kd.R_drew)); exact HO_12.out) hb); have n1_ := Aside0.mk (Kd.R_below (by (with_reducible repeat (first | apply Kd.R_alloc | apply Kd.R_drewN | apply Kd.R_drew)); exact HO_13.out) hb); have n2_ := Aside0.mk (Kd.S_elder' (by (with_reducible repeat (first | apply Kd.S_alloc | apply Kd.S_drewN | apply Kd.S_drew)); exact HO484.out) (Kd.S_base ho0) hb); have n3_ := Aside0.mk (Kd.S_lower (Kd.S_new' ho0 (Kd.S_lt (by (with_reducible repeat (first | apply Kd.S_alloc | apply Kd.S_drewN | apply Kd.S_drew)); exact HO484.out))) (below_size (by repeat (first | (with_reducible first | exact HB.out | apply below_alloc | apply pw_below_drewN | apply below_drew1) | exact HB.out)))); have n4_ := Aside0.mk (below_step (by repeat (first | (with_reducible first | exact HB.out | apply below_alloc | apply pw_below_drewN | apply below_drew1) | exact HB.out)) hb); clear HO_12; clear HO_13; clear HO484; clear HB; have HO_12 := n0_; have HO_13 := n1_; have HO484 := n2_; have HO489 := n3_; have HB := n4_; clear n0_ n1_ n2_ n3_ n4_; (try clear hb); (try clear hb2); (try clear hk); (try clear hi); (try clear ho0); obtain ⟨Ao35, co35, eo35⟩ := Kd.S_slice HO484.out; subst eo35; obtain ⟨Ao36, co36, eo36⟩ := Kd.S_slice HO489.out; subst eo36) | (go_at_call 18; (with_reducible refine (formeref24_Same.calls k2 _ _ t480 _ _ t485 true _ ?side1 ?side2 ?side3 ?side4 A27.out).mono ?_); (case side1 => repeat (first | exact (Kd.S_reads' HO484.out).2.2 | (with_reducible refine Kd.C_alloc ?_ _) | (with_reducible refine Kd.C_drewN ?_ _) | (with_reducible refine Kd.C_drew ?_))); (case side2 => exact (Kd.S_reads' HO484.out).2.1); (case side3 => repeat (first | exact (Kd.S_reads' HO489.out).2.2 | (with_reducible refine Kd.C_alloc ?_ _) | (with_reducible refine Kd.C_drewN ?_ _) | (with_reducible refine Kd.C_drew ?_))); (case side4 => exact (Kd.S_reads' HO489.out).2.1); rintro e w' ⟨rfl, ⟨nd, rfl⟩⟩; obtain ⟨Ao37, co37, eo37⟩ := Kd.R_slice HO_13.out; subst eo37) | ((with_reducible refine gate_callee (f := 16) rfl ?_); refine goesL_ (some 96) rfl rfl Try.func16 (by kernel_rfl) rfl #[.int .i64 1, .slice Ao37 x13_2.length co37, .slice A2 l2.length c2, .int .i64 a3, .int .i64 a4] rfl (by (try simp only [List.map_toArray, List.map_cons, List.map_nil]); first | done | rfl | (simp only [List.length_drop, List.length_take]; rfl)) ?_; (with_reducible refine (grid_Place.calls 1 _ _ x13_2 _ _ l2 a3 a4 t491 t492 t493 _ ?side1 ?side2 ?side3 ?side4 A29.out).mono ?_); (case side1 => repeat (first | exact (Kd.R_reads' HO_13.out).2.2 | (with_reducible refine Kd.C_alloc ?_ _) | (with_reducible refine Kd.C_drewN ?_ _) | (with_reducible refine Kd.C_drew ?_))); (case side2 => exact (Kd.R_reads' HO_13.out).2.1); (case side3 => repeat (first | exact (Kd.C_below HR2.out (by repeat (first | (with_reducible first | exact HB.out | apply below_alloc | apply pw_below_drewN | apply below_drew1) | exact HB.out))) | (with_reducible refine Kd.C_alloc ?_ _) | (with_reducible refine Kd.C_drewN ?_ _) | (with_reducible refine Kd.C_drew ?_))); (case side4 => exact HC2.out); rintro e w38 ⟨v494, rfl, ho0, hb⟩; refine ⟨_, rfl, ?_⟩; have n0_ := Aside0.mk (Kd.R_below (by (with_reducible repeat (first | apply Kd.R_alloc | apply Kd.R_drewN | apply Kd.R_drew)); exact HO_12.out) hb); have n1_ := Aside0.mk (Kd.R_below (by (with_reducible repeat (first | apply Kd.R_alloc | apply Kd.R_drewN | apply Kd.R_drew)); exact HO_13.out) hb); have n2_ := Aside0.mk (Kd.S_elder' (by (with_reducible repeat (first | apply Kd.S_alloc | apply Kd.S_drewN | apply Kd.S_drew)); exact HO484.out) (Kd.S_base ho0) hb); have n3_ := Aside0.mk (Kd.S_elder' (by (with_reducible repeat (first | apply Kd.S_alloc | apply Kd.S_drewN | apply Kd.S_drew)); exact HO489.out) (Kd.S_base ho0) hb); have n4_ := Aside0.mk (Kd.S_lower (Kd.S_new' (Kd.S_new' ho0 (Kd.S_lt (by (with_reducible repeat (first | apply Kd.S_alloc | apply Kd.S_drewN | apply Kd.S_drew)); exact HO484.out))) (Kd.S_lt (by (with_reducible repeat (first | apply Kd.S_alloc | apply Kd.S_drewN | apply Kd.S_drew)); exact HO489.out))) (below_size (by repeat (first | (with_reducible first | exact HB.out | apply below_alloc | apply pw_below_drewN | apply below_drew1) | exact HB.out)))); have n5_ := Aside0.mk (below_step (by repeat (first | (with_reducible first | exact HB.out | apply below_alloc | apply pw_below_drewN | apply below_drew1) | exact HB.out)) hb); clear HO_12; clear HO_13; clear HO484; clear HO489; clear HB; have HO_12 := n0_; have HO_13 := n1_; have HO484 := n2_; have HO489 := n3_; have HO495 := n4_; have HB := n5_; clear n0_ n1_ n2_ n3_ n4_ n5_; (try clear hb); (try clear hb2); (try clear hk); (try clear hi); (try clear ho0); obtain ⟨Ao39, co39, eo39⟩ := Kd.S_slice HO495.out; subst eo39))
             go_loopg [11, 25, 110] k2 (fun kq v11 v25 v110 w' => ∃ (x11_3 : Bool) (x25_3 : Int) (x110_3 : Int), v11 = .bool x11_3 ∧ v25 = .int .i64 x25_3 ∧ v110 = .int .i64 x110_3 ∧ Aside0 (formelaw24_GridOne.l1 kq l2 a3 a4 x11_3 x25_3 t491 (t491.length : Int) x110_3 = some r) ∧ Aside0 (kq ≤ k2) ∧ Aside0 (Kd.S k43 43 w' w.heap.size (fun _ => True) (.slice Ao39 t491.length co39) t491) ∧ Aside0 (Below w.heap.size w w'))
             case atStart => exact ⟨(true), (0), (0), (by first | rfl | (simp; done) | (simp [*]; done)), (by first | rfl | (simp; done) | (simp [*]; done)), (by first | rfl | (simp; done) | (simp [*]; done)), H', ⟨Nat.le_refl _⟩, ⟨by (with_reducible repeat (first | apply Kd.S_alloc | apply Kd.S_drewN | apply Kd.S_drew)); exact Kd.S_mono HO495.out (fun _ hk => trivial)⟩, ⟨by repeat (first | (with_reducible first | exact HB.out | apply below_alloc | apply pw_below_drewN | apply below_drew1) | exact HB.out)⟩⟩
             case round =>
              clear H'
              try clear c1
              try clear c2
              try clear p2
              try clear c3
              try clear p4
              try clear q4
              try clear hx4
              try clear p6
              try clear c7
              try clear c8
              try clear c9
              try clear c11
              try clear c14
              try clear c15
              try clear c15b0
              try clear c16
              try clear c16b0
              try clear c17
              try clear c17b0
              try clear c19
              try clear c20
              try clear c25
              try clear c25b0
              try clear c25b1
              try clear c26
              try clear c26b0
              try clear c26b1
              try clear c28
              try clear c30
              try clear c30b0
              try clear c30b1
              try clear c31
              try clear c31b0
              try clear c31b1
              try clear c31b2
              try clear hx473_0
              try clear p2
              try clear p473
              try clear q473
              obtain ⟨x11_3, x25_3, x110_3, rfl, rfl, rfl, HA, HK3, HO_108, HB⟩ := hrel
              cases gk with
              | zero => exact absurd HA.out (by simp [formelaw24_GridOne.l1])
              | succ k3 =>
               have H := HA.out
               clear HA
               simp only [formelaw24_GridOne.l1] at H
               by_cases c40 : x110_3 < (t491.length : Int)
               ·
                rw [if_pos c40] at H
                have c40b0 : decide (x110_3 < (t491.length : Int)) = true := decide_eq_true c40
                clear c40
                by_cases c41 : 0 ≤ x110_3
                ·
                 rw [if_pos c41] at H
                 have c41b0 : decide (0 ≤ x110_3) = true := decide_eq_true c41
                 clear c41
                 by_cases c42 : x110_3 < (t491.length : Int)
                 ·
                  rw [if_pos c42] at H
                  have c42b0 : decide (x110_3 < (t491.length : Int)) = true := decide_eq_true c42
                  clear c42
                  by_cases c43 : x11_3 = true
                  ·
                   subst c43
                   have H1 : (if ((rd_T43 t491 x110_3).f1) = 0 then (if ((rd_T43 t491 x110_3).f3) = a3 then (if x110_3 < (l2.length : Int) then (formelaw24_GridOne.l1 k3 l2 a3 a4 (((rd_T43 t491 x110_3).f2) == x25_3) (wrap64 (x25_3 + (wrap64 ((rd l2 x110_3) + a4)))) t491 (t491.length : Int) (wrap64 (x110_3 + 1))) else (none)) else (none)) else (none)) = some r := by rw [if_pos rfl] at H; exact H
                   clear H
                   have H := H1
                   clear H1
                   by_cases c44 : ((rd_T43 t491 x110_3).f1) = 0
                   ·
                    rw [if_pos c44] at H
                    have c44b0 : (((rd_T43 t491 x110_3).f1) == 0) = true := beq_iff_eq.mpr c44
                    have c44b1 : (((rd_T43 t491 x110_3).f1) != 0) = false := bne_eq_false_iff_eq.mpr c44
                    clear c44
                    by_cases c45 : ((rd_T43 t491 x110_3).f3) = a3
                    ·
                     rw [if_pos c45] at H
                     have c45b0 : (((rd_T43 t491 x110_3).f3) == a3) = true := beq_iff_eq.mpr c45
                     have c45b1 : (((rd_T43 t491 x110_3).f3) != a3) = false := bne_eq_false_iff_eq.mpr c45
                     clear c45
                     by_cases c46 : x110_3 < (l2.length : Int)
                     ·
                      rw [if_pos c46] at H
                      have c46b0 : decide (x110_3 < (l2.length : Int)) = true := decide_eq_true c46
                      clear c46
                      have H' := Aside0.mk H
                      clear H
                      have p496 : 0 ≤ (x110_3 : Int) := of_decide_eq_true (by first | (with_reducible assumption) | assumption)
                      have q496 : x110_3 < (t491.length : Int) := of_decide_eq_true (by first | (with_reducible assumption) | assumption)
                      obtain ⟨ad496, A496_6, c496_6, e496, hx496_0, hx496_1, hx496_2, hx496_3, hx496_4, hx496_5, hx496_6, hl496_6, hi496_6⟩ := at_T43 (Kd.S_reads' HO_108.out).2.2 x110_3 p496 q496
                      cases e496
                      obtain ⟨ce496, hce496, hMe496, hcc496⟩ := Kd.S_get HO_108.out z43 x110_3 p496 (by first | exact q496 | exact of_decide_eq_true (by first | (with_reducible assumption) | assumption) | (have e_ := (Kd.S_reads' HO_108.out).1; omega))
                      obtain ⟨ve496_6, rfl, ge496_6⟩ := k43_openM hMe496
                      have hv496_6 := hcc496 6 _ rfl
                      rw [add_field _ _ 6 (by omega)] at hv496_6
                      replace hv496_6 := Option.some.inj (hv496_6.symm.trans hx496_6)
                      rw [hv496_6] at ge496_6
                      have HL496_6 := Aside0.mk (show Kd.R k103 103 _ _ _ _ ((rd_T43 t491 x110_3).f6) from ge496_6)
                      clear hv496_6 ge496_6
                      clear hcc496 hce496
                      have HR496_6 := Aside0.mk hi496_6
                      have HC496_6 := Aside0.mk hl496_6
                      clear hi496_6 hl496_6
                      replace p496 := eq_true p496
                      replace q496 := eq_true q496
                      go_wp2_with (first | ((with_reducible refine gate_dst (N := 27) rfl ?_); (try (refine gate_guard (by rfl) ?_; dsimp only)); refine box_event ?hg (N := 27) ?hd (cs := #[.int .i64 0, .int .i64 0, .int .i64 0, .int .i64 0, .int .i64 0, .bool false, .slice none 0 0]) (t := 43) ?hr ?_; (case hd => rfl); (case hg => rfl); (case hr => first | (go_simp; done) | (go_simp; rfl)); intro gb497 hg w47 hbox hb; have n0_ := Aside0.mk (Kd.S_below (Kd.S_elderB (by (with_reducible repeat (first | apply Kd.S_alloc | apply Kd.S_drewN | apply Kd.S_drew)); exact HO_108.out) gb497 (Nat.le_of_eq hg.symm)) hb); have n1_ := Aside0.mk (Kd.R_below (by (with_reducible repeat (first | apply Kd.R_alloc | apply Kd.R_drewN | apply Kd.R_drew)); exact HL496_6.out) hb); have n2_ := Aside0.mk (Kd.C_below (by repeat (first | (with_reducible exact HR496_6.out) | (with_reducible refine Kd.C_alloc ?_ _) | (with_reducible refine Kd.C_drewN ?_ _) | (with_reducible refine Kd.C_drew ?_) | exact HR496_6.out)) hb); have n3_ := Aside0.mk (below_step (by repeat (first | (with_reducible first | exact HB.out | apply below_alloc | apply pw_below_drewN | apply below_drew1) | exact HB.out)) hb); have n4_ := Aside0.mk (hbox); have n5_ := Aside0.mk ((by rw [hg]; exact (below_size (by repeat (first | (with_reducible first | exact HB.out | apply below_alloc | apply pw_below_drewN | apply below_drew1) | exact HB.out))) : w.heap.size ≤ gb497)); have n6_ := Aside0.mk ((by rw [hg]; exact (below_size (by repeat (first | (with_reducible first | exact HB.out | apply below_alloc | apply pw_below_drewN | apply below_drew1) | exact HB.out))) : w.heap.size ≤ gb497)); clear HO_108; clear HL496_6; clear HR496_6; clear HB; have HO_108 := n0_; have HL496_6 := n1_; have HR496_6 := n2_; have HB := n3_; have BK497 := n4_; have GW497 := n5_; have GE497 := n6_; clear n0_ n1_ n2_ n3_ n4_ n5_ n6_; clear hb hbox hg; have hcz48_0 : w47.cell? ⟨gb497, 0, none⟩ = some (.int .i64 0) := (blk_cell BK497.out 0).trans rfl; have hcz48_1 : w47.cell? ⟨gb497, 1, none⟩ = some (.int .i64 0) := (blk_cell BK497.out 1).trans rfl; have hcz48_2 : w47.cell? ⟨gb497, 2, none⟩ = some (.int .i64 0) := (blk_cell BK497.out 2).trans rfl; have hcz48_3 : w47.cell? ⟨gb497, 3, none⟩ = some (.int .i64 0) := (blk_cell BK497.out 3).trans rfl; have hcz48_4 : w47.cell? ⟨gb497, 4, none⟩ = some (.int .i64 0) := (blk_cell BK497.out 4).trans rfl; have hcz48_5 : w47.cell? ⟨gb497, 5, none⟩ = some (.bool false) := (blk_cell BK497.out 5).trans rfl; have hcz48_6 : w47.cell? ⟨gb497, 6, none⟩ = some (.slice none 0 0) := (blk_cell BK497.out 6).trans rfl; have hfz48_0 := blk_frozen BK497.out 0; have hfz48_1 := blk_frozen BK497.out 1; have hfz48_2 := blk_frozen BK497.out 2; have hfz48_3 := blk_frozen BK497.out 3; have hfz48_4 := blk_frozen BK497.out 4; have hfz48_5 := blk_frozen BK497.out 5; have hfz48_6 := blk_frozen BK497.out 6; have p498 : 0 ≤ (x110_3 : Int) := of_decide_eq_true (by first | (with_reducible assumption) | assumption); have q498 : x110_3 < (l2.length : Int) := of_decide_eq_true (by first | (with_reducible assumption) | assumption); obtain ⟨ad498, e498, hx498_0⟩ := Kd.at_int HR2.out x110_3 p498 q498; cases e498; have hn498_0 : ad498.block ≠ gb497 := Nat.ne_of_lt (Nat.lt_of_lt_of_le (by have := World.block_lt_of_cell? _ _ hx498_0; first | rwa [add_block] at this | exact this) GW497.out); have hn498_1 : ad498.block ≠ gb497 := Nat.ne_of_lt (Nat.lt_of_lt_of_le (by have := World.block_lt_of_cell? _ _ hx498_0; first | rwa [add_block] at this | exact this) GW497.out); have hn498_2 : ad498.block ≠ gb497 := Nat.ne_of_lt (Nat.lt_of_lt_of_le (by have := World.block_lt_of_cell? _ _ hx498_0; first | rwa [add_block] at this | exact this) GW497.out); have hn498_3 : ad498.block ≠ gb497 := Nat.ne_of_lt (Nat.lt_of_lt_of_le (by have := World.block_lt_of_cell? _ _ hx498_0; first | rwa [add_block] at this | exact this) GW497.out); have hn498_4 : ad498.block ≠ gb497 := Nat.ne_of_lt (Nat.lt_of_lt_of_le (by have := World.block_lt_of_cell? _ _ hx498_0; first | rwa [add_block] at this | exact this) GW497.out); have hn498_5 : ad498.block ≠ gb497 := Nat.ne_of_lt (Nat.lt_of_lt_of_le (by have := World.block_lt_of_cell? _ _ hx498_0; first | rwa [add_block] at this | exact this) GW497.out); have hn498_6 : ad498.block ≠ gb497 := Nat.ne_of_lt (Nat.lt_of_lt_of_le (by have := World.block_lt_of_cell? _ _ hx498_0; first | rwa [add_block] at this | exact this) GW497.out); replace hx498_0 := (HB.out.cell (World.block_lt_of_cell? w _ hx498_0)).trans hx498_0; replace hx498_0 := (cell_far (p := ⟨gb497, 0, none⟩) (by first | (rw [add_block]; exact hn498_0) | (show (Addr.add _ _).block ≠ _; rw [add_block]; exact hn498_0) | exact hn498_0) (.int .i64 ((rd_T43 t491 x110_3).f0))).trans hx498_0; replace hx498_0 := (cell_far (p := ⟨gb497, 1, none⟩) (by first | (rw [add_block]; exact hn498_1) | (show (Addr.add _ _).block ≠ _; rw [add_block]; exact hn498_1) | exact hn498_1) (.int .i64 ((rd_T43 t491 x110_3).f1))).trans hx498_0; replace hx498_0 := (cell_far (p := ⟨gb497, 2, none⟩) (by first | (rw [add_block]; exact hn498_2) | (show (Addr.add _ _).block ≠ _; rw [add_block]; exact hn498_2) | exact hn498_2) (.int .i64 ((rd_T43 t491 x110_3).f2))).trans hx498_0; replace hx498_0 := (cell_far (p := ⟨gb497, 3, none⟩) (by first | (rw [add_block]; exact hn498_3) | (show (Addr.add _ _).block ≠ _; rw [add_block]; exact hn498_3) | exact hn498_3) (.int .i64 ((rd_T43 t491 x110_3).f3))).trans hx498_0; replace hx498_0 := (cell_far (p := ⟨gb497, 4, none⟩) (by first | (rw [add_block]; exact hn498_4) | (show (Addr.add _ _).block ≠ _; rw [add_block]; exact hn498_4) | exact hn498_4) (.int .i64 ((rd_T43 t491 x110_3).f4))).trans hx498_0; replace hx498_0 := (cell_far (p := ⟨gb497, 5, none⟩) (by first | (rw [add_block]; exact hn498_5) | (show (Addr.add _ _).block ≠ _; rw [add_block]; exact hn498_5) | exact hn498_5) (.bool ((rd_T43 t491 x110_3).f5))).trans hx498_0; replace hx498_0 := (cell_far (p := ⟨gb497, 6, none⟩) (by first | (rw [add_block]; exact hn498_6) | (show (Addr.add _ _).block ≠ _; rw [add_block]; exact hn498_6) | exact hn498_6) (.slice A496_6 ((rd_T43 t491 x110_3).f6).length c496_6)).trans hx498_0; clear hn498_0; clear hn498_1; clear hn498_2; clear hn498_3; clear hn498_4; clear hn498_5; clear hn498_6; replace p498 := eq_true p498; replace q498 := eq_true q498))
                      go_roundg k3
                      case measure => have := HJ7.out; have := HK2.out; have := HK3.out; omega
                      case rel => exact ⟨((((rd_T43 t491 x110_3).f2) == x25_3)), (wrap64 (x25_3 + (wrap64 ((rd l2 x110_3) + a4)))), (wrap64 (x110_3 + 1)), (by first | rfl | (simp; done) | (simp [*]; done)), (by first | rfl | (simp; done) | (simp [*]; done)), (by first | rfl | (simp; done) | (simp [*]; done)), H', ⟨by have := HJ7.out; have := HK2.out; have := HK3.out; omega⟩, ⟨by (with_reducible repeat (first | apply Kd.S_alloc | apply Kd.S_drewN | apply Kd.S_drew)); exact Kd.S_mono (Kd.S_far (p := ⟨gb497, 6, none⟩) (Kd.S_far (p := ⟨gb497, 5, none⟩) (Kd.S_far (p := ⟨gb497, 4, none⟩) (Kd.S_far (p := ⟨gb497, 3, none⟩) (Kd.S_far (p := ⟨gb497, 2, none⟩) (Kd.S_far (p := ⟨gb497, 1, none⟩) (Kd.S_far (p := ⟨gb497, 0, none⟩) (Kd.S_mono HO_108.out (fun k_ hk => (⟨hk, hk.2⟩ : _ ∧ k_ ≠ gb497))) (fun _ hk => hk.2) (.int .i64 ((rd_T43 t491 x110_3).f0))) (fun _ hk => hk.2) (.int .i64 ((rd_T43 t491 x110_3).f1))) (fun _ hk => hk.2) (.int .i64 ((rd_T43 t491 x110_3).f2))) (fun _ hk => hk.2) (.int .i64 ((rd_T43 t491 x110_3).f3))) (fun _ hk => hk.2) (.int .i64 ((rd_T43 t491 x110_3).f4))) (fun _ hk => hk.2) (.bool ((rd_T43 t491 x110_3).f5))) (fun _ hk => hk.2) (.slice A496_6 ((rd_T43 t491 x110_3).f6).length c496_6)) (fun _ hk => trivial)⟩, ⟨by repeat (first | (with_reducible first | exact HB.out | apply below_alloc | apply pw_below_drewN | apply below_drew1 | refine below_set ?_ GE497.out) | exact HB.out)⟩⟩
                     ·
                      rw [if_neg c46] at H
                      exact absurd H (by simp)
                    ·
                     rw [if_neg c45] at H
                     exact absurd H (by simp)
                   ·
                    rw [if_neg c44] at H
                    exact absurd H (by simp)
                  ·
                   replace c43 := Bool.eq_false_iff.mpr c43
                   subst c43
                   have H1 : (none) = some r := by rw [if_neg (show ¬ (false = true) by decide)] at H; exact H
                   clear H
                   have H := H1
                   clear H1
                   exact absurd H (by simp)
                 ·
                  rw [if_neg c42] at H
                  exact absurd H (by simp)
                ·
                 rw [if_neg c41] at H
                 exact absurd H (by simp)
               ·
                rw [if_neg c40] at H
                have c40b0 : decide (x110_3 < (t491.length : Int)) = false := decide_eq_false c40
                clear c40
                obtain rfl := Option.some.inj H
                go_wp2
                go_ret
                exact ⟨by first | rfl | (simp [errW_none, errW_some] <;> rfl) | (simp [*, errW_none, errW_some] <;> rfl), by repeat (first | (with_reducible first | exact HB.out | apply below_alloc | apply pw_below_drewN | apply below_drew1) | exact HB.out)⟩
            ·
             rw [if_neg c31] at H
             exact absurd H (by simp)
           ·
            rw [if_neg c30] at H
            have c30b0 : (t493 == 0) = false := beq_eq_false_iff_ne.mpr c30
            have c30b1 : (t493 != 0) = true := bne_iff_ne.mpr c30
            obtain rfl := Option.some.inj H
            go_wp2_with (first | ((with_reducible refine gate_callee (f := 16) rfl ?_); refine goesL_ (some 63) rfl rfl Try.func16 (by kernel_rfl) rfl #[.int .i64 a0, .slice A1 l1.length c1, .slice A2 l2.length c2, .int .i64 a3, .int .i64 a4] rfl (by (try simp only [List.map_toArray, List.map_cons, List.map_nil]); first | done | rfl | (simp only [List.length_drop, List.length_take]; rfl)) ?_; (with_reducible refine (grid_Place.calls a0 _ _ l1 _ _ l2 a3 a4 t480 t481 t482 _ ?side1 ?side2 ?side3 ?side4 A23.out).mono ?_); (case side1 => repeat (first | exact (Kd.C_below HR1.out HB.out) | (with_reducible refine Kd.C_alloc ?_ _) | (with_reducible refine Kd.C_drewN ?_ _) | (with_reducible refine Kd.C_drew ?_))); (case side2 => exact HC1.out); (case side3 => repeat (first | exact (Kd.C_below HR2.out HB.out) | (with_reducible refine Kd.C_alloc ?_ _) | (with_reducible refine Kd.C_drewN ?_ _) | (with_reducible refine Kd.C_drew ?_))); (case side4 => exact HC2.out); rintro e w49 ⟨v483, rfl, ho0, hb⟩; refine ⟨_, rfl, ?_⟩; have n0_ := Aside0.mk (Kd.R_below (by (with_reducible repeat (first | apply Kd.R_alloc | apply Kd.R_drewN | apply Kd.R_drew)); exact HO_12.out) hb); have n1_ := Aside0.mk (Kd.R_below (by (with_reducible repeat (first | apply Kd.R_alloc | apply Kd.R_drewN | apply Kd.R_drew)); exact HO_13.out) hb); have n2_ := Aside0.mk (Kd.S_lower ho0 (below_size (by repeat (first | (with_reducible first | exact HB.out | apply below_alloc | apply pw_below_drewN | apply below_drew1) | exact HB.out)))); have n3_ := Aside0.mk (below_step (by repeat (first | (with_reducible first | exact HB.out | apply below_alloc | apply pw_below_drewN | apply below_drew1) | exact HB.out)) hb); clear HO_12; clear HO_13; clear HB; have HO_12 := n0_; have HO_13 := n1_; have HO484 := n2_; have HB := n3_; clear n0_ n1_ n2_ n3_; (try clear hb); (try clear hb2); (try clear hk); (try clear hi); (try clear ho0); obtain ⟨Ao50, co50, eo50⟩ := Kd.R_slice HO_12.out; subst eo50) | ((with_reducible refine gate_callee (f := 16) rfl ?_); refine goesL_ (some 73) rfl rfl Try.func16 (by kernel_rfl) rfl #[.int .i64 a0, .slice Ao50 x12_2.length co50, .slice A2 l2.length c2, .int .i64 a3, .int .i64 a4] rfl (by (try simp only [List.map_toArray, List.map_cons, List.map_nil]); first | done | rfl | (simp only [List.length_drop, List.length_take]; rfl)) ?_; (with_reducible refine (grid_Place.calls a0 _ _ x12_2 _ _ l2 a3 a4 t485 t486 t487 _ ?side1 ?side2 ?side3 ?side4 A24.out).mono ?_); (case side1 => repeat (first | exact (Kd.R_reads' HO_12.out).2.2 | (with_reducible refine Kd.C_alloc ?_ _) | (with_reducible refine Kd.C_drewN ?_ _) | (with_reducible refine Kd.C_drew ?_))); (case side2 => exact (Kd.R_reads' HO_12.out).2.1); (case side3 => repeat (first | exact (Kd.C_below HR2.out HB.out) | (with_reducible refine Kd.C_alloc ?_ _) | (with_reducible refine Kd.C_drewN ?_ _) | (with_reducible refine Kd.C_drew ?_))); (case side4 => exact HC2.out); rintro e w51 ⟨v488, rfl, ho0, hb⟩; refine ⟨_, rfl, ?_⟩; have n0_ := Aside0.mk (Kd.R_below (by (with_reducible repeat (first | apply Kd.R_alloc | apply Kd.R_drewN | apply Kd.R_drew)); exact HO_12.out) hb); have n1_ := Aside0.mk (Kd.R_below (by (with_reducible repeat (first | apply Kd.R_alloc | apply Kd.R_drewN | apply Kd.R_drew)); exact HO_13.out) hb); have n2_ := Aside0.mk (Kd.S_elder' (by (with_reducible repeat (first | apply Kd.S_alloc | apply Kd.S_drewN | apply Kd.S_drew)); exact HO484.out) (Kd.S_base ho0) hb); have n3_ := Aside0.mk (Kd.S_lower (Kd.S_new' ho0 (Kd.S_lt (by (with_reducible repeat (first | apply Kd.S_alloc | apply Kd.S_drewN | apply Kd.S_drew)); exact HO484.out))) (below_size (by repeat (first | (with_reducible first | exact HB.out | apply below_alloc | apply pw_below_drewN | apply below_drew1) | exact HB.out)))); have n4_ := Aside0.mk (below_step (by repeat (first | (with_reducible first | exact HB.out | apply below_alloc | apply pw_below_drewN | apply below_drew1) | exact HB.out)) hb); clear HO_12; clear HO_13; clear HO484; clear HB; have HO_12 := n0_; have HO_13 := n1_; have HO484 := n2_; have HO489 := n3_; have HB := n4_; clear n0_ n1_ n2_ n3_ n4_; (try clear hb); (try clear hb2); (try clear hk); (try clear hi); (try clear ho0); obtain ⟨Ao52, co52, eo52⟩ := Kd.S_slice HO484.out; subst eo52; obtain ⟨Ao53, co53, eo53⟩ := Kd.S_slice HO489.out; subst eo53) | (go_at_call 18; (with_reducible refine (formeref24_Same.calls k2 _ _ t480 _ _ t485 true _ ?side1 ?side2 ?side3 ?side4 A27.out).mono ?_); (case side1 => repeat (first | exact (Kd.S_reads' HO484.out).2.2 | (with_reducible refine Kd.C_alloc ?_ _) | (with_reducible refine Kd.C_drewN ?_ _) | (with_reducible refine Kd.C_drew ?_))); (case side2 => exact (Kd.S_reads' HO484.out).2.1); (case side3 => repeat (first | exact (Kd.S_reads' HO489.out).2.2 | (with_reducible refine Kd.C_alloc ?_ _) | (with_reducible refine Kd.C_drewN ?_ _) | (with_reducible refine Kd.C_drew ?_))); (case side4 => exact (Kd.S_reads' HO489.out).2.1); rintro e w' ⟨rfl, ⟨nd, rfl⟩⟩; obtain ⟨Ao54, co54, eo54⟩ := Kd.R_slice HO_13.out; subst eo54) | ((with_reducible refine gate_callee (f := 16) rfl ?_); refine goesL_ (some 96) rfl rfl Try.func16 (by kernel_rfl) rfl #[.int .i64 1, .slice Ao54 x13_2.length co54, .slice A2 l2.length c2, .int .i64 a3, .int .i64 a4] rfl (by (try simp only [List.map_toArray, List.map_cons, List.map_nil]); first | done | rfl | (simp only [List.length_drop, List.length_take]; rfl)) ?_; (with_reducible refine (grid_Place.calls 1 _ _ x13_2 _ _ l2 a3 a4 t491 t492 t493 _ ?side1 ?side2 ?side3 ?side4 A29.out).mono ?_); (case side1 => repeat (first | exact (Kd.R_reads' HO_13.out).2.2 | (with_reducible refine Kd.C_alloc ?_ _) | (with_reducible refine Kd.C_drewN ?_ _) | (with_reducible refine Kd.C_drew ?_))); (case side2 => exact (Kd.R_reads' HO_13.out).2.1); (case side3 => repeat (first | exact (Kd.C_below HR2.out (by repeat (first | (with_reducible first | exact HB.out | apply below_alloc | apply pw_below_drewN | apply below_drew1) | exact HB.out))) | (with_reducible refine Kd.C_alloc ?_ _) | (with_reducible refine Kd.C_drewN ?_ _) | (with_reducible refine Kd.C_drew ?_))); (case side4 => exact HC2.out); rintro e w55 ⟨v494, rfl, ho0, hb⟩; refine ⟨_, rfl, ?_⟩; have n0_ := Aside0.mk (Kd.R_below (by (with_reducible repeat (first | apply Kd.R_alloc | apply Kd.R_drewN | apply Kd.R_drew)); exact HO_12.out) hb); have n1_ := Aside0.mk (Kd.R_below (by (with_reducible repeat (first | apply Kd.R_alloc | apply Kd.R_drewN | apply Kd.R_drew)); exact HO_13.out) hb); have n2_ := Aside0.mk (Kd.S_elder' (by (with_reducible repeat (first | apply Kd.S_alloc | apply Kd.S_drewN | apply Kd.S_drew)); exact HO484.out) (Kd.S_base ho0) hb); have n3_ := Aside0.mk (Kd.S_elder' (by (with_reducible repeat (first | apply Kd.S_alloc | apply Kd.S_drewN | apply Kd.S_drew)); exact HO489.out) (Kd.S_base ho0) hb); have n4_ := Aside0.mk (Kd.S_lower (Kd.S_new' (Kd.S_new' ho0 (Kd.S_lt (by (with_reducible repeat (first | apply Kd.S_alloc | apply Kd.S_drewN | apply Kd.S_drew)); exact HO484.out))) (Kd.S_lt (by (with_reducible repeat (first | apply Kd.S_alloc | apply Kd.S_drewN | apply Kd.S_drew)); exact HO489.out))) (below_size (by repeat (first | (with_reducible first | exact HB.out | apply below_alloc | apply pw_below_drewN | apply below_drew1) | exact HB.out)))); have n5_ := Aside0.mk (below_step (by repeat (first | (with_reducible first | exact HB.out | apply below_alloc | apply pw_below_drewN | apply below_drew1) | exact HB.out)) hb); clear HO_12; clear HO_13; clear HO484; clear HO489; clear HB; have HO_12 := n0_; have HO_13 := n1_; have HO484 := n2_; have HO489 := n3_; have HO495 := n4_; have HB := n5_; clear n0_ n1_ n2_ n3_ n4_ n5_; (try clear hb); (try clear hb2); (try clear hk); (try clear hi); (try clear ho0)))
            go_ret
            exact ⟨by first | rfl | (simp [errW_none, errW_some] <;> rfl) | (simp [*, errW_none, errW_some] <;> rfl), by repeat (first | (with_reducible first | exact HB.out | apply below_alloc | apply pw_below_drewN | apply below_drew1) | exact HB.out)⟩
          ·
           replace c28 := Bool.eq_false_iff.mpr c28
           subst c28
           have H1 : (some false) = some r := by rw [if_neg (show ¬ (false = true) by decide)] at H; exact H
           clear H
           have H := H1
           clear H1
           obtain rfl := Option.some.inj H
           go_wp2_with (first | ((with_reducible refine gate_callee (f := 16) rfl ?_); refine goesL_ (some 63) rfl rfl Try.func16 (by kernel_rfl) rfl #[.int .i64 a0, .slice A1 l1.length c1, .slice A2 l2.length c2, .int .i64 a3, .int .i64 a4] rfl (by (try simp only [List.map_toArray, List.map_cons, List.map_nil]); first | done | rfl | (simp only [List.length_drop, List.length_take]; rfl)) ?_; (with_reducible refine (grid_Place.calls a0 _ _ l1 _ _ l2 a3 a4 t480 t481 t482 _ ?side1 ?side2 ?side3 ?side4 A23.out).mono ?_); (case side1 => repeat (first | exact (Kd.C_below HR1.out HB.out) | (with_reducible refine Kd.C_alloc ?_ _) | (with_reducible refine Kd.C_drewN ?_ _) | (with_reducible refine Kd.C_drew ?_))); (case side2 => exact HC1.out); (case side3 => repeat (first | exact (Kd.C_below HR2.out HB.out) | (with_reducible refine Kd.C_alloc ?_ _) | (with_reducible refine Kd.C_drewN ?_ _) | (with_reducible refine Kd.C_drew ?_))); (case side4 => exact HC2.out); rintro e w56 ⟨v483, rfl, ho0, hb⟩; refine ⟨_, rfl, ?_⟩; have n0_ := Aside0.mk (Kd.R_below (by (with_reducible repeat (first | apply Kd.R_alloc | apply Kd.R_drewN | apply Kd.R_drew)); exact HO_12.out) hb); have n1_ := Aside0.mk (Kd.R_below (by (with_reducible repeat (first | apply Kd.R_alloc | apply Kd.R_drewN | apply Kd.R_drew)); exact HO_13.out) hb); have n2_ := Aside0.mk (Kd.S_lower ho0 (below_size (by repeat (first | (with_reducible first | exact HB.out | apply below_alloc | apply pw_below_drewN | apply below_drew1) | exact HB.out)))); have n3_ := Aside0.mk (below_step (by repeat (first | (with_reducible first | exact HB.out | apply below_alloc | apply pw_below_drewN | apply below_drew1) | exact HB.out)) hb); clear HO_12; clear HO_13; clear HB; have HO_12 := n0_; have HO_13 := n1_; have HO484 := n2_; have HB := n3_; clear n0_ n1_ n2_ n3_; (try clear hb); (try clear hb2); (try clear hk); (try clear hi); (try clear ho0); obtain ⟨Ao57, co57, eo57⟩ := Kd.R_slice HO_12.out; subst eo57) | ((with_reducible refine gate_callee (f := 16) rfl ?_); refine goesL_ (some 73) rfl rfl Try.func16 (by kernel_rfl) rfl #[.int .i64 a0, .slice Ao57 x12_2.length co57, .slice A2 l2.length c2, .int .i64 a3, .int .i64 a4] rfl (by (try simp only [List.map_toArray, List.map_cons, List.map_nil]); first | done | rfl | (simp only [List.length_drop, List.length_take]; rfl)) ?_; (with_reducible refine (grid_Place.calls a0 _ _ x12_2 _ _ l2 a3 a4 t485 t486 t487 _ ?side1 ?side2 ?side3 ?side4 A24.out).mono ?_); (case side1 => repeat (first | exact (Kd.R_reads' HO_12.out).2.2 | (with_reducible refine Kd.C_alloc ?_ _) | (with_reducible refine Kd.C_drewN ?_ _) | (with_reducible refine Kd.C_drew ?_))); (case side2 => exact (Kd.R_reads' HO_12.out).2.1); (case side3 => repeat (first | exact (Kd.C_below HR2.out HB.out) | (with_reducible refine Kd.C_alloc ?_ _) | (with_reducible refine Kd.C_drewN ?_ _) | (with_reducible refine Kd.C_drew ?_))); (case side4 => exact HC2.out); rintro e w58 ⟨v488, rfl, ho0, hb⟩; refine ⟨_, rfl, ?_⟩; have n0_ := Aside0.mk (Kd.R_below (by (with_reducible repeat (first | apply Kd.R_alloc | apply Kd.R_drewN | apply Kd.R_drew)); exact HO_12.out) hb); have n1_ := Aside0.mk (Kd.R_below (by (with_reducible repeat (first | apply Kd.R_alloc | apply Kd.R_drewN | apply Kd.R_drew)); exact HO_13.out) hb); have n2_ := Aside0.mk (Kd.S_elder' (by (with_reducible repeat (first | apply Kd.S_alloc | apply Kd.S_drewN | apply Kd.S_drew)); exact HO484.out) (Kd.S_base ho0) hb); have n3_ := Aside0.mk (Kd.S_lower (Kd.S_new' ho0 (Kd.S_lt (by (with_reducible repeat (first | apply Kd.S_alloc | apply Kd.S_drewN | apply Kd.S_drew)); exact HO484.out))) (below_size (by repeat (first | (with_reducible first | exact HB.out | apply below_alloc | apply pw_below_drewN | apply below_drew1) | exact HB.out)))); have n4_ := Aside0.mk (below_step (by repeat (first | (with_reducible first | exact HB.out | apply below_alloc | apply pw_below_drewN | apply below_drew1) | exact HB.out)) hb); clear HO_12; clear HO_13; clear HO484; clear HB; have HO_12 := n0_; have HO_13 := n1_; have HO484 := n2_; have HO489 := n3_; have HB := n4_; clear n0_ n1_ n2_ n3_ n4_; (try clear hb); (try clear hb2); (try clear hk); (try clear hi); (try clear ho0); obtain ⟨Ao59, co59, eo59⟩ := Kd.S_slice HO484.out; subst eo59; obtain ⟨Ao60, co60, eo60⟩ := Kd.S_slice HO489.out; subst eo60) | (go_at_call 18; (with_reducible refine (formeref24_Same.calls k2 _ _ t480 _ _ t485 false _ ?side1 ?side2 ?side3 ?side4 A27.out).mono ?_); (case side1 => repeat (first | exact (Kd.S_reads' HO484.out).2.2 | (with_reducible refine Kd.C_alloc ?_ _) | (with_reducible refine Kd.C_drewN ?_ _) | (with_reducible refine Kd.C_drew ?_))); (case side2 => exact (Kd.S_reads' HO484.out).2.1); (case side3 => repeat (first | exact (Kd.S_reads' HO489.out).2.2 | (with_reducible refine Kd.C_alloc ?_ _) | (with_reducible refine Kd.C_drewN ?_ _) | (with_reducible refine Kd.C_drew ?_))); (case side4 => exact (Kd.S_reads' HO489.out).2.1); rintro e w' ⟨rfl, ⟨nd, rfl⟩⟩))
           go_ret
           exact ⟨by first | rfl | (simp [errW_none, errW_some] <;> rfl) | (simp [*, errW_none, errW_some] <;> rfl), by repeat (first | (with_reducible first | exact HB.out | apply below_alloc | apply pw_below_drewN | apply below_drew1) | exact HB.out)⟩
         ·
          rw [if_neg c26] at H
          exact absurd H (by simp)
        ·
         rw [if_neg c25] at H
         exact absurd H (by simp)
 ·
  replace c7 := Bool.eq_false_iff.mpr c7
  subst c7
  have H1 : (none) = some r := by rw [if_neg (show ¬ (false = true) by decide)] at H; exact H
  clear H
  have H := H1
  clear H1
  exact absurd H (by simp)

/-- THE ONE PURE STATEMENT of formelaw24_GridOne: yours. -/
def formelaw24_GridOne.Pure : Prop := ∀ (a0 : Int) (l1 : List Int) (l2 : List Int) (a3 : Int) (a4 : Int), (Lit.int .i64 a0).wf = true → l1.length ≤ maxLen → l1.length * 8 ≤ 140737488351232 → (∀ x ∈ l1, (Lit.int .i64 x).wf = true) → l2.length ≤ maxLen → l2.length * 8 ≤ 140737488351232 → (∀ x ∈ l2, (Lit.int .i64 x).wf = true) → (Lit.int .i64 a3).wf = true → (Lit.int .i64 a4).wf = true → ∃ k, formelaw24_GridOne.f k a0 l1 l2 a3 a4 = some true
theorem formelaw24_GridOne.walk (P : formelaw24_GridOne.Pure) (a0 : Int) (a1 : Option Addr) (len1 cap1 : Nat) (z1 : List Int) (a2 : Option Addr) (len2 cap2 : Nat) (z2 : List Int) (a3 : Int) (a4 : Int) (w : World) (w0 : (Lit.int .i64 a0).wf = true) (w1 : (a1 = none ∧ len1 = 0 ∧ cap1 = 0 ∧ z1 = []) ∨ ∃ x, a1 = some x ∧ len1 ≤ cap1 ∧ cap1 ≤ maxLen ∧ z1.length = cap1 ∧ (∀ i, i < z1.length → w.cell? (x.add i) = some (.int .i64 (z1.getD i 0))) ∧ ∀ n ∈ z1, (Lit.int .i64 n).wf = true) (y1 : len1 * 8 ≤ 140737488351232) (w2 : (a2 = none ∧ len2 = 0 ∧ cap2 = 0 ∧ z2 = []) ∨ ∃ x, a2 = some x ∧ len2 ≤ cap2 ∧ cap2 ≤ maxLen ∧ z2.length = cap2 ∧ (∀ i, i < z2.length → w.cell? (x.add i) = some (.int .i64 (z2.getD i 0))) ∧ ∀ n ∈ z2, (Lit.int .i64 n).wf = true) (y2 : len2 * 8 ≤ 140737488351232) (w3 : (Lit.int .i64 a3).wf = true) (w4 : (Lit.int .i64 a4).wf = true) :
  Calls Try.prog 8 #[.int .i64 a0, .slice a1 len1 cap1, .slice a2 len2 cap2, .int .i64 a3, .int .i64 a4] w fun e w' => e = .returned (.bool true) ∧ Below w.heap.size w w' := by
 obtain ⟨l1, rfl, hr1, hm1, hw1, hc1⟩ := ReadsInt.ofRowC w1
 obtain ⟨l2, rfl, hr2, hm2, hw2, hc2⟩ := ReadsInt.ofRowC w2
 obtain ⟨k, h⟩ := P a0 l1 l2 a3 a4 w0 hm1 y1 hw1 hm2 y2 hw2 w3 w4
 refine (formelaw24_GridOne.calls k a0 _ _ l1 _ _ l2 a3 a4 true w (Kd.C_of_reads (d := (0 : Int)) (h1 := fun _ => rfl) hr1) hc1 (Kd.C_of_reads (d := (0 : Int)) (h1 := fun _ => rfl) hr2) hc2 h).mono ?_
 rintro e w' ⟨rfl, hd⟩
 exact ⟨rfl, hd⟩

end Go.Proofs.Ytciheadencbmjaa.P
