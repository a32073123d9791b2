-- Laid by a program of this session (wip/fam.sh) over the kit's words: Lean checks it.
import Derived.Test.YtdmfhabhcagioaaPx0
import Derived.Test.YtdmfhabhcagioaaPx1
import Derived.Test.YtdmfhabhcagioaaPx2
import Derived.Test.YtdmfhabhcagioaaPx7
namespace Go.Proofs.Ytdmfhabhcagioaa.P
open Go.RowKit Go.Proofs.YtdmfhabhcagioaaW.PrintWords Go.Proofs.YtdmfhabhcagioaaW.PrintLast Go.Proofs.YtdmfhabhcagioaaW.PrintMore
attribute [local go_sem] max2_int min2_int max_two min_two max_three min_three max_four min_four   -- for this text's walks alone
set_option linter.unusedVariables false
set_option linter.unusedSimpArgs false

/-! ### formelaw09_BidiNeighbours: function 6 -/
mutual
def formelaw09_BidiNeighbours.j0 : Nat → ByteArray → Int → Bool → Bool → Option (Bool)
 | 0, _, _, _, _ => none
 | k + 1, x0, x1, x5, x19 => if x19 = true then (some x5) else ((formelaw09_places.f k x0 x1).bind fun bt287 => (if bt287.2 = true then (formelaw09_BidiNeighbours.l0 k x0 x5 bt287.1 1) else (some false)))
def formelaw09_BidiNeighbours.l0 : Nat → ByteArray → Bool → List Int → Int → Option (Bool)
 | 0, _, _, _, _ => none
 | k + 1, x0, x5, x6, x8 => if x8 < (x0.size : Int) then (if 0 ≤ x8 then ((formeref06_Class.f k (bt x0 x8)).bind fun t291 => (if 0 ≤ (wrap64 (x8 - 1)) then (if (wrap64 (x8 - 1)) < (x0.size : Int) then ((formeref06_Class.f k (bt x0 (wrap64 (x8 - 1)))).bind fun t292 => (if t291 = t292 then (if x5 = true then (if t291 = 1 then (if x8 < (x6.length : Int) then (if (wrap64 (x8 - 1)) < (x6.length : Int) then (if (rd x6 x8) = (wrap64 ((rd x6 (wrap64 (x8 - 1))) + 1)) then (if t291 = 2 then (formelaw09_BidiNeighbours.l0 k x0 ((rd x6 x8) == (wrap64 ((rd x6 (wrap64 (x8 - 1))) - 1))) x6 (wrap64 (x8 + 1))) else (formelaw09_BidiNeighbours.l0 k x0 true x6 (wrap64 (x8 + 1)))) else (formelaw09_BidiNeighbours.l0 k x0 false x6 (wrap64 (x8 + 1)))) else (none)) else (none)) else (if t291 = 3 then (if x8 < (x6.length : Int) then (if (wrap64 (x8 - 1)) < (x6.length : Int) then (if (rd x6 x8) = (wrap64 ((rd x6 (wrap64 (x8 - 1))) + 1)) then (if t291 = 2 then (formelaw09_BidiNeighbours.l0 k x0 ((rd x6 x8) == (wrap64 ((rd x6 (wrap64 (x8 - 1))) - 1))) x6 (wrap64 (x8 + 1))) else (formelaw09_BidiNeighbours.l0 k x0 true x6 (wrap64 (x8 + 1)))) else (formelaw09_BidiNeighbours.l0 k x0 false x6 (wrap64 (x8 + 1)))) else (none)) else (none)) else (if t291 = 2 then (if x8 < (x6.length : Int) then (if (wrap64 (x8 - 1)) < (x6.length : Int) then (formelaw09_BidiNeighbours.l0 k x0 ((rd x6 x8) == (wrap64 ((rd x6 (wrap64 (x8 - 1))) - 1))) x6 (wrap64 (x8 + 1))) else (none)) else (none)) else (formelaw09_BidiNeighbours.l0 k x0 true x6 (wrap64 (x8 + 1)))))) else (formelaw09_BidiNeighbours.l0 k x0 false x6 (wrap64 (x8 + 1)))) else (formelaw09_BidiNeighbours.l0 k x0 x5 x6 (wrap64 (x8 + 1))))) else (none)) else (none))) else (none)) else (some x5)
end
def formelaw09_BidiNeighbours.f (k : Nat) (a0 : ByteArray) (a1 : Int) : Option (Bool) := (formelaw09_head.f k).bind fun t285 => (if t285 = true then (if (a0.size : Int) > 300 then (formelaw09_BidiNeighbours.j0 k a0 a1 true true) else ((formeref09_Line.f k a0 a1).bind fun t286 => (formelaw09_BidiNeighbours.j0 k a0 a1 true (!t286)))) else (none))
theorem formelaw09_BidiNeighbours.mono_l : ∀ k, (∀ y0 y1 y2 y3, LeO (formelaw09_BidiNeighbours.j0 k y0 y1 y2 y3) (formelaw09_BidiNeighbours.j0 (k + 1) y0 y1 y2 y3)) ∧ (∀ y0 y1 y2 y3, LeO (formelaw09_BidiNeighbours.l0 k y0 y1 y2 y3) (formelaw09_BidiNeighbours.l0 (k + 1) y0 y1 y2 y3))
 | 0 => ⟨fun _ _ _ _ r h => by simp [formelaw09_BidiNeighbours.j0] at h, fun _ _ _ _ r h => by simp [formelaw09_BidiNeighbours.l0] at h⟩
 | k + 1 => by
  obtain ⟨ih0, ih1⟩ := formelaw09_BidiNeighbours.mono_l k
  refine ⟨?_, ?_⟩
  ·
   intro y0 y1 y2 y3
   unfold formelaw09_BidiNeighbours.j0
   repeat' first
   | (with_reducible exact ih0 _ _ _ _)
   | (with_reducible exact ih1 _ _ _ _)
   | (with_reducible exact formelaw09_head.mono _)
   | (with_reducible exact formelaw09_places.mono _ _ _)
   | (with_reducible exact formeref06_Class.mono _ _)
   | (with_reducible exact formeref09_Line.mono _ _ _)
   | (with_reducible exact LeO.refl _)
   | (with_reducible exact LeO.none _)
   | (with_reducible refine LeO.ite ?_ ?_)
   | (with_reducible refine LeO.bind ?_ (fun _ => ?_))
   | exact ih0 _ _ _ _
   | exact ih1 _ _ _ _
   | exact formelaw09_head.mono _
   | exact formelaw09_places.mono _ _ _
   | exact formeref06_Class.mono _ _
   | exact formeref09_Line.mono _ _ _
   | exact LeO.none _
   | refine LeO.ite ?_ ?_
   | refine LeO.bind ?_ (fun _ => ?_)
  ·
   intro y0 y1 y2 y3
   unfold formelaw09_BidiNeighbours.l0
   repeat' first
   | (with_reducible exact ih0 _ _ _ _)
   | (with_reducible exact ih1 _ _ _ _)
   | (with_reducible exact formelaw09_head.mono _)
   | (with_reducible exact formelaw09_places.mono _ _ _)
   | (with_reducible exact formeref06_Class.mono _ _)
   | (with_reducible exact formeref09_Line.mono _ _ _)
   | (with_reducible exact LeO.refl _)
   | (with_reducible exact LeO.none _)
   | (with_reducible refine LeO.ite ?_ ?_)
   | (with_reducible refine LeO.bind ?_ (fun _ => ?_))
   | exact ih0 _ _ _ _
   | exact ih1 _ _ _ _
   | exact formelaw09_head.mono _
   | exact formelaw09_places.mono _ _ _
   | exact formeref06_Class.mono _ _
   | exact formeref09_Line.mono _ _ _
   | exact LeO.none _
   | refine LeO.ite ?_ ?_
   | refine LeO.bind ?_ (fun _ => ?_)
theorem formelaw09_BidiNeighbours.mono : ∀ a0 a1 k, LeO (formelaw09_BidiNeighbours.f k a0 a1) (formelaw09_BidiNeighbours.f (k + 1) a0 a1) := by
 intro a0 a1 k
 obtain ⟨ih0, ih1⟩ := formelaw09_BidiNeighbours.mono_l k
 unfold formelaw09_BidiNeighbours.f
 repeat' first
   | (with_reducible exact ih0 _ _ _ _)
   | (with_reducible exact ih1 _ _ _ _)
   | (with_reducible exact formelaw09_head.mono _)
   | (with_reducible exact formelaw09_places.mono _ _ _)
   | (with_reducible exact formeref06_Class.mono _ _)
   | (with_reducible exact formeref09_Line.mono _ _ _)
   | (with_reducible exact LeO.refl _)
   | (with_reducible exact LeO.none _)
   | (with_reducible refine LeO.ite ?_ ?_)
   | (with_reducible refine LeO.bind ?_ (fun _ => ?_))
   | exact ih0 _ _ _ _
   | exact ih1 _ _ _ _
   | exact formelaw09_head.mono _
   | exact formelaw09_places.mono _ _ _
   | exact formeref06_Class.mono _ _
   | exact formeref09_Line.mono _ _ _
   | exact LeO.none _
   | refine LeO.ite ?_ ?_
   | refine LeO.bind ?_ (fun _ => ?_)
set_option maxHeartbeats 8000000 in
set_option maxRecDepth 100000 in
theorem formelaw09_BidiNeighbours.calls (k : Nat) (a0 : ByteArray) (a1 : Int) (r : Bool) (w : World) (h : formelaw09_BidiNeighbours.f k a0 a1 = some r) :
  Calls Try.prog 6 #[.string a0, .int .i64 a1] w fun e w' => e = .returned (.bool r) ∧ Below w.heap.size w w' := by
 have HB := Aside0.mk (Below.refl w.heap.size w)
 have H : ((formelaw09_head.f k).bind fun t285 => (if t285 = true then (if (a0.size : Int) > 300 then (formelaw09_BidiNeighbours.j0 k a0 a1 true true) else ((formeref09_Line.f k a0 a1).bind fun t286 => (formelaw09_BidiNeighbours.j0 k a0 a1 true (!t286)))) else (none))) = some r := h
 clear h
 replace H := Option.bind_eq_some_iff.mp H
 obtain ⟨t285, A30, H⟩ := H
 replace H : (if t285 = true then (if (a0.size : Int) > 300 then (formelaw09_BidiNeighbours.j0 k a0 a1 true true) else ((formeref09_Line.f k a0 a1).bind fun t286 => (formelaw09_BidiNeighbours.j0 k a0 a1 true (!t286)))) else (none)) = some r := H
 have A3 := Aside0.mk A30
 clear A30
 by_cases c4 : t285 = true
 ·
  subst c4
  have H1 : (if (a0.size : Int) > 300 then (formelaw09_BidiNeighbours.j0 k a0 a1 true true) else ((formeref09_Line.f k a0 a1).bind fun t286 => (formelaw09_BidiNeighbours.j0 k a0 a1 true (!t286)))) = some r := by rw [if_pos rfl] at H; exact H
  clear H
  have H := H1
  clear H1
  have HC5 := Aside0.mk H
  clear H
  go_enter Try.func6, Try.ntmps6
  go_upto_region 2 with (first | (go_at_call 10; (with_reducible refine (formelaw09_head.calls k  true _ A3.out).mono ?_); rintro e w6 ⟨rfl, hb⟩; have n0_ := Aside0.mk (below_step (by repeat (first | (with_reducible first | exact HB.out | apply below_alloc | apply pw_below_drewN | apply below_drew1) | exact HB.out)) hb); clear HB; have HB := n0_; clear n0_; (try clear hb); (try clear hb2); (try clear hk); (try clear hi)))
  repeat (go_quiet (fail); go_upto_region 2 with (first | (go_at_call 10; (with_reducible refine (formelaw09_head.calls k  true _ A3.out).mono ?_); rintro e w6 ⟨rfl, hb⟩; have n0_ := Aside0.mk (below_step (by repeat (first | (with_reducible first | exact HB.out | apply below_alloc | apply pw_below_drewN | apply below_drew1) | exact HB.out)) hb); clear HB; have HB := n0_; clear n0_; (try clear hb); (try clear hb2); (try clear hk); (try clear hi))))
  (try simp only [Act.put, List.setIfInBounds_toArray, List.set_cons_zero, List.set_cons_succ])
  go_cut [19] (fun v19 wc => ∃ (kq : Nat) (x19_4 : Bool), v19 = .bool x19_4 ∧ Aside0 (formelaw09_BidiNeighbours.j0 kq a0 a1 true x19_4 = some r) ∧ Aside0 (kq ≤ k) ∧ Aside0 (Below w.heap.size w wc))
  case first =>
   have H := HC5.out
   clear HC5
   by_cases c7 : (a0.size : Int) > 300
   ·
    rw [if_pos c7] at H
    have c7b0 : decide (300 < (a0.size : Int)) = true := decide_eq_true c7
    have c7b1 : decide (300 < a0.size) = true := decide_eq_true (by omega)
    clear c7
    (first | rw [c7b0] | (simp only [i64_w, i32_w]; rw [c7b0]) | skip)
    have H' := Aside0.mk H
    clear H
    go_wp2
    repeat (go_quiet (fail); try go_wp2)
    go_meet
    case rel => exact ⟨_, (true), (by first | rfl | (simp; done) | (simp [*]; done)), H', ⟨by first | omega | exact Nat.le_refl _⟩, ⟨by repeat (first | (with_reducible first | exact HB.out | apply below_alloc | apply pw_below_drewN | apply below_drew1) | exact HB.out)⟩⟩
   ·
    rw [if_neg c7] at H
    have c7b0 : decide (300 < (a0.size : Int)) = false := decide_eq_false c7
    have c7b1 : decide (300 < a0.size) = false := decide_eq_false (by omega)
    clear c7
    (first | rw [c7b0] | (simp only [i64_w, i32_w]; rw [c7b0]) | skip)
    replace H := Option.bind_eq_some_iff.mp H
    obtain ⟨t286, A80, H⟩ := H
    replace H : (formelaw09_BidiNeighbours.j0 k a0 a1 true (!t286)) = some r := H
    have A8 := Aside0.mk A80
    clear A80
    have H' := Aside0.mk H
    clear H
    go_wp2_with (first | (go_at_call 18; (with_reducible refine (formeref09_Line.calls k a0 a1 t286 _ A8.out).mono ?_); rintro e w' ⟨rfl, ⟨nd, rfl⟩⟩; (try first | exact ⟨rfl, _, World.drewN_drewN _ _ _⟩ | exact ⟨rfl, _, Eq.trans (World.drewN_drewN _ _ _) (congrArg (World.drewN _) (Nat.add_assoc _ _ _))⟩)))
    repeat (go_quiet (first | (go_at_call 18; (with_reducible refine (formeref09_Line.calls k a0 a1 t286 _ A8.out).mono ?_); rintro e w' ⟨rfl, ⟨nd, rfl⟩⟩; (try first | exact ⟨rfl, _, World.drewN_drewN _ _ _⟩ | exact ⟨rfl, _, Eq.trans (World.drewN_drewN _ _ _) (congrArg (World.drewN _) (Nat.add_assoc _ _ _))⟩))); try go_wp2_with (first | (go_at_call 18; (with_reducible refine (formeref09_Line.calls k a0 a1 t286 _ A8.out).mono ?_); rintro e w' ⟨rfl, ⟨nd, rfl⟩⟩; (try first | exact ⟨rfl, _, World.drewN_drewN _ _ _⟩ | exact ⟨rfl, _, Eq.trans (World.drewN_drewN _ _ _) (congrArg (World.drewN _) (Nat.add_assoc _ _ _))⟩))))
    go_meet
    case rel => exact ⟨_, (!t286), (by first | rfl | (simp; done) | (simp [*]; done)), H', ⟨by first | omega | exact Nat.le_refl _⟩, ⟨by repeat (first | (with_reducible first | exact HB.out | apply below_alloc | apply pw_below_drewN | apply below_drew1) | exact HB.out)⟩⟩
  case rest =>
   clear HC5
   try clear p2
   try clear c4
   try clear c6
   try clear c7
   try clear c7b0
   try clear c7b1
   obtain ⟨kq, x19_4, rfl, HA, HJ4, HB⟩ := hcut
   cases kq with
   | zero => exact absurd HA.out (by simp [formelaw09_BidiNeighbours.j0])
   | succ kj4 =>
    have H := HA.out
    clear HA
    simp only [formelaw09_BidiNeighbours.j0] at H
    by_cases c9 : x19_4 = true
    ·
     subst c9
     have H1 : (some true) = some r := by rw [if_pos rfl] at H; exact H
     clear H
     have H := H1
     clear H1
     obtain rfl := Option.some.inj H
     go_wp2
     repeat (go_quiet (fail); try go_wp2)
     go_ret
     exact ⟨by first | rfl | (simp [errW_none, errW_some] <;> rfl) | (simp [*, errW_none, errW_some] <;> rfl), by repeat (first | (with_reducible first | exact HB.out | apply below_alloc | apply pw_below_drewN | apply below_drew1) | exact HB.out)⟩
    ·
     replace c9 := Bool.eq_false_iff.mpr c9
     subst c9
     have H1 : ((formelaw09_places.f kj4 a0 a1).bind fun bt287 => (if bt287.2 = true then (formelaw09_BidiNeighbours.l0 kj4 a0 true bt287.1 1) else (some false))) = some r := by rw [if_neg (show ¬ (false = true) by decide)] at H; exact H
     clear H
     have H := H1
     clear H1
     replace H := Option.bind_eq_some_iff.mp H
     obtain ⟨⟨t287, t288⟩, A100, H⟩ := H
     replace H : (if t288 = true then (formelaw09_BidiNeighbours.l0 kj4 a0 true t287 1) else (some false)) = some r := H
     have A10 := Aside0.mk A100
     clear A100
     by_cases c11 : t288 = true
     ·
      subst c11
      have H1 : (formelaw09_BidiNeighbours.l0 kj4 a0 true t287 1) = some r := by rw [if_pos rfl] at H; exact H
      clear H
      have H := H1
      clear H1
      have H' := Aside0.mk H
      clear H
      go_wp2_with (first | (go_at_call 19; (with_reducible refine (formelaw09_places.calls kj4 a0 a1 t287 true _ A10.out).mono ?_); rintro e w12 ⟨v289, rfl, ho0, hb⟩; have n0_ := Aside0.mk (Kd.R_lower ho0 (below_size (by repeat (first | (with_reducible first | exact HB.out | apply below_alloc | apply pw_below_drewN | apply below_drew1) | exact HB.out)))); have n1_ := Aside0.mk (below_step (by repeat (first | (with_reducible first | exact HB.out | apply below_alloc | apply pw_below_drewN | apply below_drew1) | exact HB.out)) hb); clear HB; have HO290 := n0_; have HB := n1_; clear n0_ n1_; (try clear hb); (try clear hb2); (try clear hk); (try clear hi); (try clear ho0)))
      repeat (go_quiet (fail); try go_wp2_with (first | (go_at_call 19; (with_reducible refine (formelaw09_places.calls kj4 a0 a1 t287 true _ A10.out).mono ?_); rintro e w12 ⟨v289, rfl, ho0, hb⟩; have n0_ := Aside0.mk (Kd.R_lower ho0 (below_size (by repeat (first | (with_reducible first | exact HB.out | apply below_alloc | apply pw_below_drewN | apply below_drew1) | exact HB.out)))); have n1_ := Aside0.mk (below_step (by repeat (first | (with_reducible first | exact HB.out | apply below_alloc | apply pw_below_drewN | apply below_drew1) | exact HB.out)) hb); clear HB; have HO290 := n0_; have HB := n1_; clear n0_ n1_; (try clear hb); (try clear hb2); (try clear hk); (try clear hi); (try clear ho0))))
      go_loopg [5, 8] kj4 (fun kq v5 v8 w' => ∃ (x5_2 : Bool) (x8_2 : Int), v5 = .bool x5_2 ∧ v8 = .int .i64 x8_2 ∧ Aside0 (formelaw09_BidiNeighbours.l0 kq a0 x5_2 t287 x8_2 = some r) ∧ Aside0 (kq ≤ kj4) ∧ Aside0 (Kd.R (Kd.int .i64) 3 w' w.heap.size (fun _ => True) v289 t287) ∧ Aside0 (Below w.heap.size w w'))
      case atStart => exact ⟨(true), (1), (by first | rfl | (simp; done) | (simp [*]; done)), (by first | rfl | (simp; done) | (simp [*]; done)), H', ⟨Nat.le_refl _⟩, ⟨by (with_reducible repeat (first | apply Kd.R_alloc | apply Kd.R_drewN | apply Kd.R_drew)); exact HO290.out⟩, ⟨by repeat (first | (with_reducible first | exact HB.out | apply below_alloc | apply pw_below_drewN | apply below_drew1) | exact HB.out)⟩⟩
      case round =>
       clear H'
       try clear c1
       try clear p2
       try clear c4
       try clear c6
       try clear c7
       try clear c7b0
       try clear c7b1
       try clear c9
       try clear c11
       try clear p2
       obtain ⟨x5_2, x8_2, rfl, rfl, HA, HK2, HO_6, HB⟩ := hrel
       cases gk with
       | zero => exact absurd HA.out (by simp [formelaw09_BidiNeighbours.l0])
       | succ k2 =>
        have H := HA.out
        clear HA
        simp only [formelaw09_BidiNeighbours.l0] at H
        by_cases c13 : x8_2 < (a0.size : Int)
        ·
         rw [if_pos c13] at H
         have c13b0 : decide (x8_2 < (a0.size : Int)) = true := decide_eq_true c13
         clear c13
         by_cases c14 : 0 ≤ x8_2
         ·
          rw [if_pos c14] at H
          have c14b0 : decide (0 ≤ x8_2) = true := decide_eq_true c14
          clear c14
          replace H := Option.bind_eq_some_iff.mp H
          obtain ⟨t291, A160, H⟩ := H
          replace H : (if 0 ≤ (wrap64 (x8_2 - 1)) then (if (wrap64 (x8_2 - 1)) < (a0.size : Int) then ((formeref06_Class.f k2 (bt a0 (wrap64 (x8_2 - 1)))).bind fun t292 => (if t291 = t292 then (if x5_2 = true then (if t291 = 1 then (if x8_2 < (t287.length : Int) then (if (wrap64 (x8_2 - 1)) < (t287.length : Int) then (if (rd t287 x8_2) = (wrap64 ((rd t287 (wrap64 (x8_2 - 1))) + 1)) then (if t291 = 2 then (formelaw09_BidiNeighbours.l0 k2 a0 ((rd t287 x8_2) == (wrap64 ((rd t287 (wrap64 (x8_2 - 1))) - 1))) t287 (wrap64 (x8_2 + 1))) else (formelaw09_BidiNeighbours.l0 k2 a0 true t287 (wrap64 (x8_2 + 1)))) else (formelaw09_BidiNeighbours.l0 k2 a0 false t287 (wrap64 (x8_2 + 1)))) else (none)) else (none)) else (if t291 = 3 then (if x8_2 < (t287.length : Int) then (if (wrap64 (x8_2 - 1)) < (t287.length : Int) then (if (rd t287 x8_2) = (wrap64 ((rd t287 (wrap64 (x8_2 - 1))) + 1)) then (if t291 = 2 then (formelaw09_BidiNeighbours.l0 k2 a0 ((rd t287 x8_2) == (wrap64 ((rd t287 (wrap64 (x8_2 - 1))) - 1))) t287 (wrap64 (x8_2 + 1))) else (formelaw09_BidiNeighbours.l0 k2 a0 true t287 (wrap64 (x8_2 + 1)))) else (formelaw09_BidiNeighbours.l0 k2 a0 false t287 (wrap64 (x8_2 + 1)))) else (none)) else (none)) else (if t291 = 2 then (if x8_2 < (t287.length : Int) then (if (wrap64 (x8_2 - 1)) < (t287.length : Int) then (formelaw09_BidiNeighbours.l0 k2 a0 ((rd t287 x8_2) == (wrap64 ((rd t287 (wrap64 (x8_2 - 1))) - 1))) t287 (wrap64 (x8_2 + 1))) else (none)) else (none)) else (formelaw09_BidiNeighbours.l0 k2 a0 true t287 (wrap64 (x8_2 + 1)))))) else (formelaw09_BidiNeighbours.l0 k2 a0 false t287 (wrap64 (x8_2 + 1)))) else (formelaw09_BidiNeighbours.l0 k2 a0 x5_2 t287 (wrap64 (x8_2 + 1))))) else (none)) else (none)) = some r := H
          have A16 := Aside0.mk A160
          clear A160
          obtain ⟨ji17, hji17⟩ : ∃ j_ : Int, (wrap64 (x8_2 - 1)) = j_ := ⟨_, rfl⟩
          replace H : (if 0 ≤ (ji17) then (if (ji17) < (a0.size : Int) then ((formeref06_Class.f k2 (bt a0 (ji17))).bind fun t292 => (if t291 = t292 then (if x5_2 = true then (if t291 = 1 then (if x8_2 < (t287.length : Int) then (if (ji17) < (t287.length : Int) then (if (rd t287 x8_2) = (wrap64 ((rd t287 (ji17)) + 1)) then (if t291 = 2 then (formelaw09_BidiNeighbours.l0 k2 a0 ((rd t287 x8_2) == (wrap64 ((rd t287 (ji17)) - 1))) t287 (wrap64 (x8_2 + 1))) else (formelaw09_BidiNeighbours.l0 k2 a0 true t287 (wrap64 (x8_2 + 1)))) else (formelaw09_BidiNeighbours.l0 k2 a0 false t287 (wrap64 (x8_2 + 1)))) else (none)) else (none)) else (if t291 = 3 then (if x8_2 < (t287.length : Int) then (if (ji17) < (t287.length : Int) then (if (rd t287 x8_2) = (wrap64 ((rd t287 (ji17)) + 1)) then (if t291 = 2 then (formelaw09_BidiNeighbours.l0 k2 a0 ((rd t287 x8_2) == (wrap64 ((rd t287 (ji17)) - 1))) t287 (wrap64 (x8_2 + 1))) else (formelaw09_BidiNeighbours.l0 k2 a0 true t287 (wrap64 (x8_2 + 1)))) else (formelaw09_BidiNeighbours.l0 k2 a0 false t287 (wrap64 (x8_2 + 1)))) else (none)) else (none)) else (if t291 = 2 then (if x8_2 < (t287.length : Int) then (if (ji17) < (t287.length : Int) then (formelaw09_BidiNeighbours.l0 k2 a0 ((rd t287 x8_2) == (wrap64 ((rd t287 (ji17)) - 1))) t287 (wrap64 (x8_2 + 1))) else (none)) else (none)) else (formelaw09_BidiNeighbours.l0 k2 a0 true t287 (wrap64 (x8_2 + 1)))))) else (formelaw09_BidiNeighbours.l0 k2 a0 false t287 (wrap64 (x8_2 + 1)))) else (formelaw09_BidiNeighbours.l0 k2 a0 x5_2 t287 (wrap64 (x8_2 + 1))))) else (none)) else (none)) = some r := by first | (rw [hji17] at H; exact H) | (simp only [hji17] at H ⊢; exact H)
          (try rw [hji17] at A16)
          have hji17w : (IntKind.i64.wrap (x8_2 - 1)) = ji17 := (i64_w _).trans hji17
          by_cases c18 : 0 ≤ (ji17)
          ·
           rw [if_pos c18] at H
           have c18b0 : decide (0 ≤ (ji17)) = true := decide_eq_true c18
           clear c18
           by_cases c19 : (ji17) < (a0.size : Int)
           ·
            rw [if_pos c19] at H
            have c19b0 : decide ((ji17) < (a0.size : Int)) = true := decide_eq_true c19
            clear c19
            replace H := Option.bind_eq_some_iff.mp H
            obtain ⟨t292, A210, H⟩ := H
            replace H : (if t291 = t292 then (if x5_2 = true then (if t291 = 1 then (if x8_2 < (t287.length : Int) then (if (ji17) < (t287.length : Int) then (if (rd t287 x8_2) = (wrap64 ((rd t287 (ji17)) + 1)) then (if t291 = 2 then (formelaw09_BidiNeighbours.l0 k2 a0 ((rd t287 x8_2) == (wrap64 ((rd t287 (ji17)) - 1))) t287 (wrap64 (x8_2 + 1))) else (formelaw09_BidiNeighbours.l0 k2 a0 true t287 (wrap64 (x8_2 + 1)))) else (formelaw09_BidiNeighbours.l0 k2 a0 false t287 (wrap64 (x8_2 + 1)))) else (none)) else (none)) else (if t291 = 3 then (if x8_2 < (t287.length : Int) then (if (ji17) < (t287.length : Int) then (if (rd t287 x8_2) = (wrap64 ((rd t287 (ji17)) + 1)) then (if t291 = 2 then (formelaw09_BidiNeighbours.l0 k2 a0 ((rd t287 x8_2) == (wrap64 ((rd t287 (ji17)) - 1))) t287 (wrap64 (x8_2 + 1))) else (formelaw09_BidiNeighbours.l0 k2 a0 true t287 (wrap64 (x8_2 + 1)))) else (formelaw09_BidiNeighbours.l0 k2 a0 false t287 (wrap64 (x8_2 + 1)))) else (none)) else (none)) else (if t291 = 2 then (if x8_2 < (t287.length : Int) then (if (ji17) < (t287.length : Int) then (formelaw09_BidiNeighbours.l0 k2 a0 ((rd t287 x8_2) == (wrap64 ((rd t287 (ji17)) - 1))) t287 (wrap64 (x8_2 + 1))) else (none)) else (none)) else (formelaw09_BidiNeighbours.l0 k2 a0 true t287 (wrap64 (x8_2 + 1)))))) else (formelaw09_BidiNeighbours.l0 k2 a0 false t287 (wrap64 (x8_2 + 1)))) else (formelaw09_BidiNeighbours.l0 k2 a0 x5_2 t287 (wrap64 (x8_2 + 1)))) = some r := H
            have A21 := Aside0.mk A210
            clear A210
            by_cases c22 : t291 = t292
            ·
             rw [if_pos c22] at H
             have c22b0 : (t291 == t292) = true := beq_iff_eq.mpr c22
             have c22b1 : (t291 != t292) = false := bne_eq_false_iff_eq.mpr c22
             clear c22
             by_cases c23 : x5_2 = true
             ·
              subst c23
              have H1 : (if t291 = 1 then (if x8_2 < (t287.length : Int) then (if (ji17) < (t287.length : Int) then (if (rd t287 x8_2) = (wrap64 ((rd t287 (ji17)) + 1)) then (if t291 = 2 then (formelaw09_BidiNeighbours.l0 k2 a0 ((rd t287 x8_2) == (wrap64 ((rd t287 (ji17)) - 1))) t287 (wrap64 (x8_2 + 1))) else (formelaw09_BidiNeighbours.l0 k2 a0 true t287 (wrap64 (x8_2 + 1)))) else (formelaw09_BidiNeighbours.l0 k2 a0 false t287 (wrap64 (x8_2 + 1)))) else (none)) else (none)) else (if t291 = 3 then (if x8_2 < (t287.length : Int) then (if (ji17) < (t287.length : Int) then (if (rd t287 x8_2) = (wrap64 ((rd t287 (ji17)) + 1)) then (if t291 = 2 then (formelaw09_BidiNeighbours.l0 k2 a0 ((rd t287 x8_2) == (wrap64 ((rd t287 (ji17)) - 1))) t287 (wrap64 (x8_2 + 1))) else (formelaw09_BidiNeighbours.l0 k2 a0 true t287 (wrap64 (x8_2 + 1)))) else (formelaw09_BidiNeighbours.l0 k2 a0 false t287 (wrap64 (x8_2 + 1)))) else (none)) else (none)) else (if t291 = 2 then (if x8_2 < (t287.length : Int) then (if (ji17) < (t287.length : Int) then (formelaw09_BidiNeighbours.l0 k2 a0 ((rd t287 x8_2) == (wrap64 ((rd t287 (ji17)) - 1))) t287 (wrap64 (x8_2 + 1))) else (none)) else (none)) else (formelaw09_BidiNeighbours.l0 k2 a0 true t287 (wrap64 (x8_2 + 1)))))) = some r := by rw [if_pos rfl] at H; exact H
              clear H
              have H := H1
              clear H1
              by_cases c24 : t291 = 1
              ·
               rw [if_pos c24] at H
               have c24b0 : (t291 == 1) = true := beq_iff_eq.mpr c24
               have c24b1 : (t291 != 1) = false := bne_eq_false_iff_eq.mpr c24
               clear c24
               by_cases c25 : x8_2 < (t287.length : Int)
               ·
                rw [if_pos c25] at H
                have c25b0 : decide (x8_2 < (t287.length : Int)) = true := decide_eq_true c25
                clear c25
                by_cases c26 : (ji17) < (t287.length : Int)
                ·
                 rw [if_pos c26] at H
                 have c26b0 : decide ((ji17) < (t287.length : Int)) = true := decide_eq_true c26
                 clear c26
                 by_cases c27 : (rd t287 x8_2) = (wrap64 ((rd t287 (ji17)) + 1))
                 ·
                  rw [if_pos c27] at H
                  have c27b0 : ((rd t287 x8_2) == (wrap64 ((rd t287 (ji17)) + 1))) = true := beq_iff_eq.mpr c27
                  have c27b1 : ((rd t287 x8_2) != (wrap64 ((rd t287 (ji17)) + 1))) = false := bne_eq_false_iff_eq.mpr c27
                  clear c27
                  by_cases c28 : t291 = 2
                  ·
                   rw [if_pos c28] at H
                   have c28b0 : (t291 == 2) = true := beq_iff_eq.mpr c28
                   have c28b1 : (t291 != 2) = false := bne_eq_false_iff_eq.mpr c28
                   clear c28
                   have H' := Aside0.mk H
                   clear H
                   have p15 : 0 ≤ (x8_2 : Int) := of_decide_eq_true (by first | (with_reducible assumption) | assumption)
                   have q15 : x8_2 < (a0.size : Int) := of_decide_eq_true (by first | (with_reducible assumption) | assumption)
                   have hx15 := bt_at a0 x8_2
                   replace p15 := eq_true p15
                   replace q15 := eq_true q15
                   go_wp2_with (first | (go_at_call 22; (with_reducible refine (formeref06_Class.calls k2 (bt a0 x8_2) t291 _ A16.out).mono ?_); rintro e w' ⟨rfl, ⟨nd, rfl⟩⟩; (try first | exact ⟨rfl, _, World.drewN_drewN _ _ _⟩ | exact ⟨rfl, _, Eq.trans (World.drewN_drewN _ _ _) (congrArg (World.drewN _) (Nat.add_assoc _ _ _))⟩); have p20 : 0 ≤ ((ji17) : Int) := of_decide_eq_true (by first | (with_reducible assumption) | assumption); have q20 : (ji17) < (a0.size : Int) := of_decide_eq_true (by first | (with_reducible assumption) | assumption); have hx20 := bt_at a0 (ji17); replace p20 := eq_true p20; replace q20 := eq_true q20) | (go_at_call 22; (with_reducible refine (formeref06_Class.calls k2 (bt a0 (ji17)) t292 _ A21.out).mono ?_); rintro e w' ⟨rfl, ⟨nd, rfl⟩⟩; (try first | exact ⟨rfl, _, World.drewN_drewN _ _ _⟩ | exact ⟨rfl, _, Eq.trans (World.drewN_drewN _ _ _) (congrArg (World.drewN _) (Nat.add_assoc _ _ _))⟩); obtain ⟨Ao29, co29, eo29⟩ := Kd.R_slice HO_6.out; subst eo29; have p293 : 0 ≤ (x8_2 : Int) := of_decide_eq_true (by first | (with_reducible assumption) | assumption); have q293 : x8_2 < (t287.length : Int) := of_decide_eq_true (by first | (with_reducible assumption) | assumption); obtain ⟨ad293, e293, hx293_0⟩ := Kd.at_int (Kd.R_reads' HO_6.out).2.2 x8_2 p293 q293; cases e293; replace p293 := eq_true p293; replace q293 := eq_true q293; have p294 : 0 ≤ ((ji17) : Int) := of_decide_eq_true (by first | (with_reducible assumption) | assumption); have q294 : (ji17) < (t287.length : Int) := of_decide_eq_true (by first | (with_reducible assumption) | assumption); obtain ⟨ad294, e294, hx294_0⟩ := Kd.at_int (Kd.R_reads' HO_6.out).2.2 (ji17) p294 q294; obtain rfl : ad293 = ad294 := (by injection e294); replace p294 := eq_true p294; replace q294 := eq_true q294; have p295 : 0 ≤ (x8_2 : Int) := of_decide_eq_true (by first | (with_reducible assumption) | assumption); have q295 : x8_2 < (t287.length : Int) := of_decide_eq_true (by first | (with_reducible assumption) | assumption); obtain ⟨ad295, e295, hx295_0⟩ := Kd.at_int (Kd.R_reads' HO_6.out).2.2 x8_2 p295 q295; obtain rfl : ad293 = ad295 := (by injection e295); replace p295 := eq_true p295; replace q295 := eq_true q295; have p296 : 0 ≤ ((ji17) : Int) := of_decide_eq_true (by first | (with_reducible assumption) | assumption); have q296 : (ji17) < (t287.length : Int) := of_decide_eq_true (by first | (with_reducible assumption) | assumption); obtain ⟨ad296, e296, hx296_0⟩ := Kd.at_int (Kd.R_reads' HO_6.out).2.2 (ji17) p296 q296; obtain rfl : ad293 = ad296 := (by injection e296); replace p296 := eq_true p296; replace q296 := eq_true q296))
                   repeat (go_quiet (first | (go_at_call 22; (with_reducible refine (formeref06_Class.calls k2 (bt a0 x8_2) t291 _ A16.out).mono ?_); rintro e w' ⟨rfl, ⟨nd, rfl⟩⟩; (try first | exact ⟨rfl, _, World.drewN_drewN _ _ _⟩ | exact ⟨rfl, _, Eq.trans (World.drewN_drewN _ _ _) (congrArg (World.drewN _) (Nat.add_assoc _ _ _))⟩); have p20 : 0 ≤ ((ji17) : Int) := of_decide_eq_true (by first | (with_reducible assumption) | assumption); have q20 : (ji17) < (a0.size : Int) := of_decide_eq_true (by first | (with_reducible assumption) | assumption); have hx20 := bt_at a0 (ji17); replace p20 := eq_true p20; replace q20 := eq_true q20) | (go_at_call 22; (with_reducible refine (formeref06_Class.calls k2 (bt a0 (ji17)) t292 _ A21.out).mono ?_); rintro e w' ⟨rfl, ⟨nd, rfl⟩⟩; (try first | exact ⟨rfl, _, World.drewN_drewN _ _ _⟩ | exact ⟨rfl, _, Eq.trans (World.drewN_drewN _ _ _) (congrArg (World.drewN _) (Nat.add_assoc _ _ _))⟩); obtain ⟨Ao29, co29, eo29⟩ := Kd.R_slice HO_6.out; subst eo29; have p293 : 0 ≤ (x8_2 : Int) := of_decide_eq_true (by first | (with_reducible assumption) | assumption); have q293 : x8_2 < (t287.length : Int) := of_decide_eq_true (by first | (with_reducible assumption) | assumption); obtain ⟨ad293, e293, hx293_0⟩ := Kd.at_int (Kd.R_reads' HO_6.out).2.2 x8_2 p293 q293; cases e293; replace p293 := eq_true p293; replace q293 := eq_true q293; have p294 : 0 ≤ ((ji17) : Int) := of_decide_eq_true (by first | (with_reducible assumption) | assumption); have q294 : (ji17) < (t287.length : Int) := of_decide_eq_true (by first | (with_reducible assumption) | assumption); obtain ⟨ad294, e294, hx294_0⟩ := Kd.at_int (Kd.R_reads' HO_6.out).2.2 (ji17) p294 q294; obtain rfl : ad293 = ad294 := (by injection e294); replace p294 := eq_true p294; replace q294 := eq_true q294; have p295 : 0 ≤ (x8_2 : Int) := of_decide_eq_true (by first | (with_reducible assumption) | assumption); have q295 : x8_2 < (t287.length : Int) := of_decide_eq_true (by first | (with_reducible assumption) | assumption); obtain ⟨ad295, e295, hx295_0⟩ := Kd.at_int (Kd.R_reads' HO_6.out).2.2 x8_2 p295 q295; obtain rfl : ad293 = ad295 := (by injection e295); replace p295 := eq_true p295; replace q295 := eq_true q295; have p296 : 0 ≤ ((ji17) : Int) := of_decide_eq_true (by first | (with_reducible assumption) | assumption); have q296 : (ji17) < (t287.length : Int) := of_decide_eq_true (by first | (with_reducible assumption) | assumption); obtain ⟨ad296, e296, hx296_0⟩ := Kd.at_int (Kd.R_reads' HO_6.out).2.2 (ji17) p296 q296; obtain rfl : ad293 = ad296 := (by injection e296); replace p296 := eq_true p296; replace q296 := eq_true q296)); try go_wp2_with (first | (go_at_call 22; (with_reducible refine (formeref06_Class.calls k2 (bt a0 x8_2) t291 _ A16.out).mono ?_); rintro e w' ⟨rfl, ⟨nd, rfl⟩⟩; (try first | exact ⟨rfl, _, World.drewN_drewN _ _ _⟩ | exact ⟨rfl, _, Eq.trans (World.drewN_drewN _ _ _) (congrArg (World.drewN _) (Nat.add_assoc _ _ _))⟩); have p20 : 0 ≤ ((ji17) : Int) := of_decide_eq_true (by first | (with_reducible assumption) | assumption); have q20 : (ji17) < (a0.size : Int) := of_decide_eq_true (by first | (with_reducible assumption) | assumption); have hx20 := bt_at a0 (ji17); replace p20 := eq_true p20; replace q20 := eq_true q20) | (go_at_call 22; (with_reducible refine (formeref06_Class.calls k2 (bt a0 (ji17)) t292 _ A21.out).mono ?_); rintro e w' ⟨rfl, ⟨nd, rfl⟩⟩; (try first | exact ⟨rfl, _, World.drewN_drewN _ _ _⟩ | exact ⟨rfl, _, Eq.trans (World.drewN_drewN _ _ _) (congrArg (World.drewN _) (Nat.add_assoc _ _ _))⟩); obtain ⟨Ao29, co29, eo29⟩ := Kd.R_slice HO_6.out; subst eo29; have p293 : 0 ≤ (x8_2 : Int) := of_decide_eq_true (by first | (with_reducible assumption) | assumption); have q293 : x8_2 < (t287.length : Int) := of_decide_eq_true (by first | (with_reducible assumption) | assumption); obtain ⟨ad293, e293, hx293_0⟩ := Kd.at_int (Kd.R_reads' HO_6.out).2.2 x8_2 p293 q293; cases e293; replace p293 := eq_true p293; replace q293 := eq_true q293; have p294 : 0 ≤ ((ji17) : Int) := of_decide_eq_true (by first | (with_reducible assumption) | assumption); have q294 : (ji17) < (t287.length : Int) := of_decide_eq_true (by first | (with_reducible assumption) | assumption); obtain ⟨ad294, e294, hx294_0⟩ := Kd.at_int (Kd.R_reads' HO_6.out).2.2 (ji17) p294 q294; obtain rfl : ad293 = ad294 := (by injection e294); replace p294 := eq_true p294; replace q294 := eq_true q294; have p295 : 0 ≤ (x8_2 : Int) := of_decide_eq_true (by first | (with_reducible assumption) | assumption); have q295 : x8_2 < (t287.length : Int) := of_decide_eq_true (by first | (with_reducible assumption) | assumption); obtain ⟨ad295, e295, hx295_0⟩ := Kd.at_int (Kd.R_reads' HO_6.out).2.2 x8_2 p295 q295; obtain rfl : ad293 = ad295 := (by injection e295); replace p295 := eq_true p295; replace q295 := eq_true q295; have p296 : 0 ≤ ((ji17) : Int) := of_decide_eq_true (by first | (with_reducible assumption) | assumption); have q296 : (ji17) < (t287.length : Int) := of_decide_eq_true (by first | (with_reducible assumption) | assumption); obtain ⟨ad296, e296, hx296_0⟩ := Kd.at_int (Kd.R_reads' HO_6.out).2.2 (ji17) p296 q296; obtain rfl : ad293 = ad296 := (by injection e296); replace p296 := eq_true p296; replace q296 := eq_true q296)))
                   go_roundg k2
                   case measure => have := HJ4.out; have := HK2.out; omega
                   case rel => exact ⟨(((rd t287 x8_2) == (wrap64 ((rd t287 (ji17)) - 1)))), (wrap64 (x8_2 + 1)), (by first | rfl | (simp; done) | (simp only [← hji17] <;> (first | rfl | simp)) | (simp [*]; done)), (by first | rfl | (simp; done) | (simp [*]; done)), H', ⟨by have := HJ4.out; have := HK2.out; omega⟩, ⟨by (with_reducible repeat (first | apply Kd.R_alloc | apply Kd.R_drewN | apply Kd.R_drew)); exact HO_6.out⟩, ⟨by repeat (first | (with_reducible first | exact HB.out | apply below_alloc | apply pw_below_drewN | apply below_drew1) | exact HB.out)⟩⟩
                  ·
                   rw [if_neg c28] at H
                   have c28b0 : (t291 == 2) = false := beq_eq_false_iff_ne.mpr c28
                   have c28b1 : (t291 != 2) = true := bne_iff_ne.mpr c28
                   have H' := Aside0.mk H
                   clear H
                   have p15 : 0 ≤ (x8_2 : Int) := of_decide_eq_true (by first | (with_reducible assumption) | assumption)
                   have q15 : x8_2 < (a0.size : Int) := of_decide_eq_true (by first | (with_reducible assumption) | assumption)
                   have hx15 := bt_at a0 x8_2
                   replace p15 := eq_true p15
                   replace q15 := eq_true q15
                   go_wp2_with (first | (go_at_call 22; (with_reducible refine (formeref06_Class.calls k2 (bt a0 x8_2) t291 _ A16.out).mono ?_); rintro e w' ⟨rfl, ⟨nd, rfl⟩⟩; (try first | exact ⟨rfl, _, World.drewN_drewN _ _ _⟩ | exact ⟨rfl, _, Eq.trans (World.drewN_drewN _ _ _) (congrArg (World.drewN _) (Nat.add_assoc _ _ _))⟩); have p20 : 0 ≤ ((ji17) : Int) := of_decide_eq_true (by first | (with_reducible assumption) | assumption); have q20 : (ji17) < (a0.size : Int) := of_decide_eq_true (by first | (with_reducible assumption) | assumption); have hx20 := bt_at a0 (ji17); replace p20 := eq_true p20; replace q20 := eq_true q20) | (go_at_call 22; (with_reducible refine (formeref06_Class.calls k2 (bt a0 (ji17)) t292 _ A21.out).mono ?_); rintro e w' ⟨rfl, ⟨nd, rfl⟩⟩; (try first | exact ⟨rfl, _, World.drewN_drewN _ _ _⟩ | exact ⟨rfl, _, Eq.trans (World.drewN_drewN _ _ _) (congrArg (World.drewN _) (Nat.add_assoc _ _ _))⟩); obtain ⟨Ao30, co30, eo30⟩ := Kd.R_slice HO_6.out; subst eo30; have p293 : 0 ≤ (x8_2 : Int) := of_decide_eq_true (by first | (with_reducible assumption) | assumption); have q293 : x8_2 < (t287.length : Int) := of_decide_eq_true (by first | (with_reducible assumption) | assumption); obtain ⟨ad293, e293, hx293_0⟩ := Kd.at_int (Kd.R_reads' HO_6.out).2.2 x8_2 p293 q293; cases e293; replace p293 := eq_true p293; replace q293 := eq_true q293; have p294 : 0 ≤ ((ji17) : Int) := of_decide_eq_true (by first | (with_reducible assumption) | assumption); have q294 : (ji17) < (t287.length : Int) := of_decide_eq_true (by first | (with_reducible assumption) | assumption); obtain ⟨ad294, e294, hx294_0⟩ := Kd.at_int (Kd.R_reads' HO_6.out).2.2 (ji17) p294 q294; obtain rfl : ad293 = ad294 := (by injection e294); replace p294 := eq_true p294; replace q294 := eq_true q294))
                   repeat (go_quiet (first | (go_at_call 22; (with_reducible refine (formeref06_Class.calls k2 (bt a0 x8_2) t291 _ A16.out).mono ?_); rintro e w' ⟨rfl, ⟨nd, rfl⟩⟩; (try first | exact ⟨rfl, _, World.drewN_drewN _ _ _⟩ | exact ⟨rfl, _, Eq.trans (World.drewN_drewN _ _ _) (congrArg (World.drewN _) (Nat.add_assoc _ _ _))⟩); have p20 : 0 ≤ ((ji17) : Int) := of_decide_eq_true (by first | (with_reducible assumption) | assumption); have q20 : (ji17) < (a0.size : Int) := of_decide_eq_true (by first | (with_reducible assumption) | assumption); have hx20 := bt_at a0 (ji17); replace p20 := eq_true p20; replace q20 := eq_true q20) | (go_at_call 22; (with_reducible refine (formeref06_Class.calls k2 (bt a0 (ji17)) t292 _ A21.out).mono ?_); rintro e w' ⟨rfl, ⟨nd, rfl⟩⟩; (try first | exact ⟨rfl, _, World.drewN_drewN _ _ _⟩ | exact ⟨rfl, _, Eq.trans (World.drewN_drewN _ _ _) (congrArg (World.drewN _) (Nat.add_assoc _ _ _))⟩); obtain ⟨Ao30, co30, eo30⟩ := Kd.R_slice HO_6.out; subst eo30; have p293 : 0 ≤ (x8_2 : Int) := of_decide_eq_true (by first | (with_reducible assumption) | assumption); have q293 : x8_2 < (t287.length : Int) := of_decide_eq_true (by first | (with_reducible assumption) | assumption); obtain ⟨ad293, e293, hx293_0⟩ := Kd.at_int (Kd.R_reads' HO_6.out).2.2 x8_2 p293 q293; cases e293; replace p293 := eq_true p293; replace q293 := eq_true q293; have p294 : 0 ≤ ((ji17) : Int) := of_decide_eq_true (by first | (with_reducible assumption) | assumption); have q294 : (ji17) < (t287.length : Int) := of_decide_eq_true (by first | (with_reducible assumption) | assumption); obtain ⟨ad294, e294, hx294_0⟩ := Kd.at_int (Kd.R_reads' HO_6.out).2.2 (ji17) p294 q294; obtain rfl : ad293 = ad294 := (by injection e294); replace p294 := eq_true p294; replace q294 := eq_true q294)); try go_wp2_with (first | (go_at_call 22; (with_reducible refine (formeref06_Class.calls k2 (bt a0 x8_2) t291 _ A16.out).mono ?_); rintro e w' ⟨rfl, ⟨nd, rfl⟩⟩; (try first | exact ⟨rfl, _, World.drewN_drewN _ _ _⟩ | exact ⟨rfl, _, Eq.trans (World.drewN_drewN _ _ _) (congrArg (World.drewN _) (Nat.add_assoc _ _ _))⟩); have p20 : 0 ≤ ((ji17) : Int) := of_decide_eq_true (by first | (with_reducible assumption) | assumption); have q20 : (ji17) < (a0.size : Int) := of_decide_eq_true (by first | (with_reducible assumption) | assumption); have hx20 := bt_at a0 (ji17); replace p20 := eq_true p20; replace q20 := eq_true q20) | (go_at_call 22; (with_reducible refine (formeref06_Class.calls k2 (bt a0 (ji17)) t292 _ A21.out).mono ?_); rintro e w' ⟨rfl, ⟨nd, rfl⟩⟩; (try first | exact ⟨rfl, _, World.drewN_drewN _ _ _⟩ | exact ⟨rfl, _, Eq.trans (World.drewN_drewN _ _ _) (congrArg (World.drewN _) (Nat.add_assoc _ _ _))⟩); obtain ⟨Ao30, co30, eo30⟩ := Kd.R_slice HO_6.out; subst eo30; have p293 : 0 ≤ (x8_2 : Int) := of_decide_eq_true (by first | (with_reducible assumption) | assumption); have q293 : x8_2 < (t287.length : Int) := of_decide_eq_true (by first | (with_reducible assumption) | assumption); obtain ⟨ad293, e293, hx293_0⟩ := Kd.at_int (Kd.R_reads' HO_6.out).2.2 x8_2 p293 q293; cases e293; replace p293 := eq_true p293; replace q293 := eq_true q293; have p294 : 0 ≤ ((ji17) : Int) := of_decide_eq_true (by first | (with_reducible assumption) | assumption); have q294 : (ji17) < (t287.length : Int) := of_decide_eq_true (by first | (with_reducible assumption) | assumption); obtain ⟨ad294, e294, hx294_0⟩ := Kd.at_int (Kd.R_reads' HO_6.out).2.2 (ji17) p294 q294; obtain rfl : ad293 = ad294 := (by injection e294); replace p294 := eq_true p294; replace q294 := eq_true q294)))
                   go_roundg k2
                   case measure => have := HJ4.out; have := HK2.out; omega
                   case rel => exact ⟨(true), (wrap64 (x8_2 + 1)), (by first | rfl | (simp; done) | (simp [*]; done)), (by first | rfl | (simp; done) | (simp [*]; done)), H', ⟨by have := HJ4.out; have := HK2.out; omega⟩, ⟨by (with_reducible repeat (first | apply Kd.R_alloc | apply Kd.R_drewN | apply Kd.R_drew)); exact HO_6.out⟩, ⟨by repeat (first | (with_reducible first | exact HB.out | apply below_alloc | apply pw_below_drewN | apply below_drew1) | exact HB.out)⟩⟩
                 ·
                  rw [if_neg c27] at H
                  have c27b0 : ((rd t287 x8_2) == (wrap64 ((rd t287 (ji17)) + 1))) = false := beq_eq_false_iff_ne.mpr c27
                  have c27b1 : ((rd t287 x8_2) != (wrap64 ((rd t287 (ji17)) + 1))) = true := bne_iff_ne.mpr c27
                  have H' := Aside0.mk H
                  clear H
                  have p15 : 0 ≤ (x8_2 : Int) := of_decide_eq_true (by first | (with_reducible assumption) | assumption)
                  have q15 : x8_2 < (a0.size : Int) := of_decide_eq_true (by first | (with_reducible assumption) | assumption)
                  have hx15 := bt_at a0 x8_2
                  replace p15 := eq_true p15
                  replace q15 := eq_true q15
                  go_wp2_with (first | (go_at_call 22; (with_reducible refine (formeref06_Class.calls k2 (bt a0 x8_2) t291 _ A16.out).mono ?_); rintro e w' ⟨rfl, ⟨nd, rfl⟩⟩; (try first | exact ⟨rfl, _, World.drewN_drewN _ _ _⟩ | exact ⟨rfl, _, Eq.trans (World.drewN_drewN _ _ _) (congrArg (World.drewN _) (Nat.add_assoc _ _ _))⟩); have p20 : 0 ≤ ((ji17) : Int) := of_decide_eq_true (by first | (with_reducible assumption) | assumption); have q20 : (ji17) < (a0.size : Int) := of_decide_eq_true (by first | (with_reducible assumption) | assumption); have hx20 := bt_at a0 (ji17); replace p20 := eq_true p20; replace q20 := eq_true q20) | (go_at_call 22; (with_reducible refine (formeref06_Class.calls k2 (bt a0 (ji17)) t292 _ A21.out).mono ?_); rintro e w' ⟨rfl, ⟨nd, rfl⟩⟩; (try first | exact ⟨rfl, _, World.drewN_drewN _ _ _⟩ | exact ⟨rfl, _, Eq.trans (World.drewN_drewN _ _ _) (congrArg (World.drewN _) (Nat.add_assoc _ _ _))⟩); obtain ⟨Ao31, co31, eo31⟩ := Kd.R_slice HO_6.out; subst eo31; have p293 : 0 ≤ (x8_2 : Int) := of_decide_eq_true (by first | (with_reducible assumption) | assumption); have q293 : x8_2 < (t287.length : Int) := of_decide_eq_true (by first | (with_reducible assumption) | assumption); obtain ⟨ad293, e293, hx293_0⟩ := Kd.at_int (Kd.R_reads' HO_6.out).2.2 x8_2 p293 q293; cases e293; replace p293 := eq_true p293; replace q293 := eq_true q293; have p294 : 0 ≤ ((ji17) : Int) := of_decide_eq_true (by first | (with_reducible assumption) | assumption); have q294 : (ji17) < (t287.length : Int) := of_decide_eq_true (by first | (with_reducible assumption) | assumption); obtain ⟨ad294, e294, hx294_0⟩ := Kd.at_int (Kd.R_reads' HO_6.out).2.2 (ji17) p294 q294; obtain rfl : ad293 = ad294 := (by injection e294); replace p294 := eq_true p294; replace q294 := eq_true q294))
                  repeat (go_quiet (first | (go_at_call 22; (with_reducible refine (formeref06_Class.calls k2 (bt a0 x8_2) t291 _ A16.out).mono ?_); rintro e w' ⟨rfl, ⟨nd, rfl⟩⟩; (try first | exact ⟨rfl, _, World.drewN_drewN _ _ _⟩ | exact ⟨rfl, _, Eq.trans (World.drewN_drewN _ _ _) (congrArg (World.drewN _) (Nat.add_assoc _ _ _))⟩); have p20 : 0 ≤ ((ji17) : Int) := of_decide_eq_true (by first | (with_reducible assumption) | assumption); have q20 : (ji17) < (a0.size : Int) := of_decide_eq_true (by first | (with_reducible assumption) | assumption); have hx20 := bt_at a0 (ji17); replace p20 := eq_true p20; replace q20 := eq_true q20) | (go_at_call 22; (with_reducible refine (formeref06_Class.calls k2 (bt a0 (ji17)) t292 _ A21.out).mono ?_); rintro e w' ⟨rfl, ⟨nd, rfl⟩⟩; (try first | exact ⟨rfl, _, World.drewN_drewN _ _ _⟩ | exact ⟨rfl, _, Eq.trans (World.drewN_drewN _ _ _) (congrArg (World.drewN _) (Nat.add_assoc _ _ _))⟩); obtain ⟨Ao31, co31, eo31⟩ := Kd.R_slice HO_6.out; subst eo31; have p293 : 0 ≤ (x8_2 : Int) := of_decide_eq_true (by first | (with_reducible assumption) | assumption); have q293 : x8_2 < (t287.length : Int) := of_decide_eq_true (by first | (with_reducible assumption) | assumption); obtain ⟨ad293, e293, hx293_0⟩ := Kd.at_int (Kd.R_reads' HO_6.out).2.2 x8_2 p293 q293; cases e293; replace p293 := eq_true p293; replace q293 := eq_true q293; have p294 : 0 ≤ ((ji17) : Int) := of_decide_eq_true (by first | (with_reducible assumption) | assumption); have q294 : (ji17) < (t287.length : Int) := of_decide_eq_true (by first | (with_reducible assumption) | assumption); obtain ⟨ad294, e294, hx294_0⟩ := Kd.at_int (Kd.R_reads' HO_6.out).2.2 (ji17) p294 q294; obtain rfl : ad293 = ad294 := (by injection e294); replace p294 := eq_true p294; replace q294 := eq_true q294)); try go_wp2_with (first | (go_at_call 22; (with_reducible refine (formeref06_Class.calls k2 (bt a0 x8_2) t291 _ A16.out).mono ?_); rintro e w' ⟨rfl, ⟨nd, rfl⟩⟩; (try first | exact ⟨rfl, _, World.drewN_drewN _ _ _⟩ | exact ⟨rfl, _, Eq.trans (World.drewN_drewN _ _ _) (congrArg (World.drewN _) (Nat.add_assoc _ _ _))⟩); have p20 : 0 ≤ ((ji17) : Int) := of_decide_eq_true (by first | (with_reducible assumption) | assumption); have q20 : (ji17) < (a0.size : Int) := of_decide_eq_true (by first | (with_reducible assumption) | assumption); have hx20 := bt_at a0 (ji17); replace p20 := eq_true p20; replace q20 := eq_true q20) | (go_at_call 22; (with_reducible refine (formeref06_Class.calls k2 (bt a0 (ji17)) t292 _ A21.out).mono ?_); rintro e w' ⟨rfl, ⟨nd, rfl⟩⟩; (try first | exact ⟨rfl, _, World.drewN_drewN _ _ _⟩ | exact ⟨rfl, _, Eq.trans (World.drewN_drewN _ _ _) (congrArg (World.drewN _) (Nat.add_assoc _ _ _))⟩); obtain ⟨Ao31, co31, eo31⟩ := Kd.R_slice HO_6.out; subst eo31; have p293 : 0 ≤ (x8_2 : Int) := of_decide_eq_true (by first | (with_reducible assumption) | assumption); have q293 : x8_2 < (t287.length : Int) := of_decide_eq_true (by first | (with_reducible assumption) | assumption); obtain ⟨ad293, e293, hx293_0⟩ := Kd.at_int (Kd.R_reads' HO_6.out).2.2 x8_2 p293 q293; cases e293; replace p293 := eq_true p293; replace q293 := eq_true q293; have p294 : 0 ≤ ((ji17) : Int) := of_decide_eq_true (by first | (with_reducible assumption) | assumption); have q294 : (ji17) < (t287.length : Int) := of_decide_eq_true (by first | (with_reducible assumption) | assumption); obtain ⟨ad294, e294, hx294_0⟩ := Kd.at_int (Kd.R_reads' HO_6.out).2.2 (ji17) p294 q294; obtain rfl : ad293 = ad294 := (by injection e294); replace p294 := eq_true p294; replace q294 := eq_true q294)))
                  go_roundg k2
                  case measure => have := HJ4.out; have := HK2.out; omega
                  case rel => exact ⟨(false), (wrap64 (x8_2 + 1)), (by first | rfl | (simp; done) | (simp [*]; done)), (by first | rfl | (simp; done) | (simp [*]; done)), H', ⟨by have := HJ4.out; have := HK2.out; omega⟩, ⟨by (with_reducible repeat (first | apply Kd.R_alloc | apply Kd.R_drewN | apply Kd.R_drew)); exact HO_6.out⟩, ⟨by repeat (first | (with_reducible first | exact HB.out | apply below_alloc | apply pw_below_drewN | apply below_drew1) | exact HB.out)⟩⟩
                ·
                 rw [if_neg c26] at H
                 exact absurd H (by simp)
               ·
                rw [if_neg c25] at H
                exact absurd H (by simp)
              ·
               rw [if_neg c24] at H
               have c24b0 : (t291 == 1) = false := beq_eq_false_iff_ne.mpr c24
               have c24b1 : (t291 != 1) = true := bne_iff_ne.mpr c24
               by_cases c32 : t291 = 3
               ·
                rw [if_pos c32] at H
                have c32b0 : (t291 == 3) = true := beq_iff_eq.mpr c32
                have c32b1 : (t291 != 3) = false := bne_eq_false_iff_eq.mpr c32
                clear c32
                by_cases c33 : x8_2 < (t287.length : Int)
                ·
                 rw [if_pos c33] at H
                 have c33b0 : decide (x8_2 < (t287.length : Int)) = true := decide_eq_true c33
                 clear c33
                 by_cases c34 : (ji17) < (t287.length : Int)
                 ·
                  rw [if_pos c34] at H
                  have c34b0 : decide ((ji17) < (t287.length : Int)) = true := decide_eq_true c34
                  clear c34
                  by_cases c35 : (rd t287 x8_2) = (wrap64 ((rd t287 (ji17)) + 1))
                  ·
                   rw [if_pos c35] at H
                   have c35b0 : ((rd t287 x8_2) == (wrap64 ((rd t287 (ji17)) + 1))) = true := beq_iff_eq.mpr c35
                   have c35b1 : ((rd t287 x8_2) != (wrap64 ((rd t287 (ji17)) + 1))) = false := bne_eq_false_iff_eq.mpr c35
                   clear c35
                   by_cases c36 : t291 = 2
                   ·
                    rw [if_pos c36] at H
                    have c36b0 : (t291 == 2) = true := beq_iff_eq.mpr c36
                    have c36b1 : (t291 != 2) = false := bne_eq_false_iff_eq.mpr c36
                    clear c36
                    have H' := Aside0.mk H
                    clear H
                    have p15 : 0 ≤ (x8_2 : Int) := of_decide_eq_true (by first | (with_reducible assumption) | assumption)
                    have q15 : x8_2 < (a0.size : Int) := of_decide_eq_true (by first | (with_reducible assumption) | assumption)
                    have hx15 := bt_at a0 x8_2
                    replace p15 := eq_true p15
                    replace q15 := eq_true q15
                    go_wp2_with (first | (go_at_call 22; (with_reducible refine (formeref06_Class.calls k2 (bt a0 x8_2) t291 _ A16.out).mono ?_); rintro e w' ⟨rfl, ⟨nd, rfl⟩⟩; (try first | exact ⟨rfl, _, World.drewN_drewN _ _ _⟩ | exact ⟨rfl, _, Eq.trans (World.drewN_drewN _ _ _) (congrArg (World.drewN _) (Nat.add_assoc _ _ _))⟩); have p20 : 0 ≤ ((ji17) : Int) := of_decide_eq_true (by first | (with_reducible assumption) | assumption); have q20 : (ji17) < (a0.size : Int) := of_decide_eq_true (by first | (with_reducible assumption) | assumption); have hx20 := bt_at a0 (ji17); replace p20 := eq_true p20; replace q20 := eq_true q20) | (go_at_call 22; (with_reducible refine (formeref06_Class.calls k2 (bt a0 (ji17)) t292 _ A21.out).mono ?_); rintro e w' ⟨rfl, ⟨nd, rfl⟩⟩; (try first | exact ⟨rfl, _, World.drewN_drewN _ _ _⟩ | exact ⟨rfl, _, Eq.trans (World.drewN_drewN _ _ _) (congrArg (World.drewN _) (Nat.add_assoc _ _ _))⟩); obtain ⟨Ao37, co37, eo37⟩ := Kd.R_slice HO_6.out; subst eo37; have p297 : 0 ≤ (x8_2 : Int) := of_decide_eq_true (by first | (with_reducible assumption) | assumption); have q297 : x8_2 < (t287.length : Int) := of_decide_eq_true (by first | (with_reducible assumption) | assumption); obtain ⟨ad297, e297, hx297_0⟩ := Kd.at_int (Kd.R_reads' HO_6.out).2.2 x8_2 p297 q297; cases e297; replace p297 := eq_true p297; replace q297 := eq_true q297; have p298 : 0 ≤ ((ji17) : Int) := of_decide_eq_true (by first | (with_reducible assumption) | assumption); have q298 : (ji17) < (t287.length : Int) := of_decide_eq_true (by first | (with_reducible assumption) | assumption); obtain ⟨ad298, e298, hx298_0⟩ := Kd.at_int (Kd.R_reads' HO_6.out).2.2 (ji17) p298 q298; obtain rfl : ad297 = ad298 := (by injection e298); replace p298 := eq_true p298; replace q298 := eq_true q298; have p299 : 0 ≤ (x8_2 : Int) := of_decide_eq_true (by first | (with_reducible assumption) | assumption); have q299 : x8_2 < (t287.length : Int) := of_decide_eq_true (by first | (with_reducible assumption) | assumption); obtain ⟨ad299, e299, hx299_0⟩ := Kd.at_int (Kd.R_reads' HO_6.out).2.2 x8_2 p299 q299; obtain rfl : ad297 = ad299 := (by injection e299); replace p299 := eq_true p299; replace q299 := eq_true q299; have p300 : 0 ≤ ((ji17) : Int) := of_decide_eq_true (by first | (with_reducible assumption) | assumption); have q300 : (ji17) < (t287.length : Int) := of_decide_eq_true (by first | (with_reducible assumption) | assumption); obtain ⟨ad300, e300, hx300_0⟩ := Kd.at_int (Kd.R_reads' HO_6.out).2.2 (ji17) p300 q300; obtain rfl : ad297 = ad300 := (by injection e300); replace p300 := eq_true p300; replace q300 := eq_true q300))
                    repeat (go_quiet (first | (go_at_call 22; (with_reducible refine (formeref06_Class.calls k2 (bt a0 x8_2) t291 _ A16.out).mono ?_); rintro e w' ⟨rfl, ⟨nd, rfl⟩⟩; (try first | exact ⟨rfl, _, World.drewN_drewN _ _ _⟩ | exact ⟨rfl, _, Eq.trans (World.drewN_drewN _ _ _) (congrArg (World.drewN _) (Nat.add_assoc _ _ _))⟩); have p20 : 0 ≤ ((ji17) : Int) := of_decide_eq_true (by first | (with_reducible assumption) | assumption); have q20 : (ji17) < (a0.size : Int) := of_decide_eq_true (by first | (with_reducible assumption) | assumption); have hx20 := bt_at a0 (ji17); replace p20 := eq_true p20; replace q20 := eq_true q20) | (go_at_call 22; (with_reducible refine (formeref06_Class.calls k2 (bt a0 (ji17)) t292 _ A21.out).mono ?_); rintro e w' ⟨rfl, ⟨nd, rfl⟩⟩; (try first | exact ⟨rfl, _, World.drewN_drewN _ _ _⟩ | exact ⟨rfl, _, Eq.trans (World.drewN_drewN _ _ _) (congrArg (World.drewN _) (Nat.add_assoc _ _ _))⟩); obtain ⟨Ao37, co37, eo37⟩ := Kd.R_slice HO_6.out; subst eo37; have p297 : 0 ≤ (x8_2 : Int) := of_decide_eq_true (by first | (with_reducible assumption) | assumption); have q297 : x8_2 < (t287.length : Int) := of_decide_eq_true (by first | (with_reducible assumption) | assumption); obtain ⟨ad297, e297, hx297_0⟩ := Kd.at_int (Kd.R_reads' HO_6.out).2.2 x8_2 p297 q297; cases e297; replace p297 := eq_true p297; replace q297 := eq_true q297; have p298 : 0 ≤ ((ji17) : Int) := of_decide_eq_true (by first | (with_reducible assumption) | assumption); have q298 : (ji17) < (t287.length : Int) := of_decide_eq_true (by first | (with_reducible assumption) | assumption); obtain ⟨ad298, e298, hx298_0⟩ := Kd.at_int (Kd.R_reads' HO_6.out).2.2 (ji17) p298 q298; obtain rfl : ad297 = ad298 := (by injection e298); replace p298 := eq_true p298; replace q298 := eq_true q298; have p299 : 0 ≤ (x8_2 : Int) := of_decide_eq_true (by first | (with_reducible assumption) | assumption); have q299 : x8_2 < (t287.length : Int) := of_decide_eq_true (by first | (with_reducible assumption) | assumption); obtain ⟨ad299, e299, hx299_0⟩ := Kd.at_int (Kd.R_reads' HO_6.out).2.2 x8_2 p299 q299; obtain rfl : ad297 = ad299 := (by injection e299); replace p299 := eq_true p299; replace q299 := eq_true q299; have p300 : 0 ≤ ((ji17) : Int) := of_decide_eq_true (by first | (with_reducible assumption) | assumption); have q300 : (ji17) < (t287.length : Int) := of_decide_eq_true (by first | (with_reducible assumption) | assumption); obtain ⟨ad300, e300, hx300_0⟩ := Kd.at_int (Kd.R_reads' HO_6.out).2.2 (ji17) p300 q300; obtain rfl : ad297 = ad300 := (by injection e300); replace p300 := eq_true p300; replace q300 := eq_true q300)); try go_wp2_with (first | (go_at_call 22; (with_reducible refine (formeref06_Class.calls k2 (bt a0 x8_2) t291 _ A16.out).mono ?_); rintro e w' ⟨rfl, ⟨nd, rfl⟩⟩; (try first | exact ⟨rfl, _, World.drewN_drewN _ _ _⟩ | exact ⟨rfl, _, Eq.trans (World.drewN_drewN _ _ _) (congrArg (World.drewN _) (Nat.add_assoc _ _ _))⟩); have p20 : 0 ≤ ((ji17) : Int) := of_decide_eq_true (by first | (with_reducible assumption) | assumption); have q20 : (ji17) < (a0.size : Int) := of_decide_eq_true (by first | (with_reducible assumption) | assumption); have hx20 := bt_at a0 (ji17); replace p20 := eq_true p20; replace q20 := eq_true q20) | (go_at_call 22; (with_reducible refine (formeref06_Class.calls k2 (bt a0 (ji17)) t292 _ A21.out).mono ?_); rintro e w' ⟨rfl, ⟨nd, rfl⟩⟩; (try first | exact ⟨rfl, _, World.drewN_drewN _ _ _⟩ | exact ⟨rfl, _, Eq.trans (World.drewN_drewN _ _ _) (congrArg (World.drewN _) (Nat.add_assoc _ _ _))⟩); obtain ⟨Ao37, co37, eo37⟩ := Kd.R_slice HO_6.out; subst eo37; have p297 : 0 ≤ (x8_2 : Int) := of_decide_eq_true (by first | (with_reducible assumption) | assumption); have q297 : x8_2 < (t287.length : Int) := of_decide_eq_true (by first | (with_reducible assumption) | assumption); obtain ⟨ad297, e297, hx297_0⟩ := Kd.at_int (Kd.R_reads' HO_6.out).2.2 x8_2 p297 q297; cases e297; replace p297 := eq_true p297; replace q297 := eq_true q297; have p298 : 0 ≤ ((ji17) : Int) := of_decide_eq_true (by first | (with_reducible assumption) | assumption); have q298 : (ji17) < (t287.length : Int) := of_decide_eq_true (by first | (with_reducible assumption) | assumption); obtain ⟨ad298, e298, hx298_0⟩ := Kd.at_int (Kd.R_reads' HO_6.out).2.2 (ji17) p298 q298; obtain rfl : ad297 = ad298 := (by injection e298); replace p298 := eq_true p298; replace q298 := eq_true q298; have p299 : 0 ≤ (x8_2 : Int) := of_decide_eq_true (by first | (with_reducible assumption) | assumption); have q299 : x8_2 < (t287.length : Int) := of_decide_eq_true (by first | (with_reducible assumption) | assumption); obtain ⟨ad299, e299, hx299_0⟩ := Kd.at_int (Kd.R_reads' HO_6.out).2.2 x8_2 p299 q299; obtain rfl : ad297 = ad299 := (by injection e299); replace p299 := eq_true p299; replace q299 := eq_true q299; have p300 : 0 ≤ ((ji17) : Int) := of_decide_eq_true (by first | (with_reducible assumption) | assumption); have q300 : (ji17) < (t287.length : Int) := of_decide_eq_true (by first | (with_reducible assumption) | assumption); obtain ⟨ad300, e300, hx300_0⟩ := Kd.at_int (Kd.R_reads' HO_6.out).2.2 (ji17) p300 q300; obtain rfl : ad297 = ad300 := (by injection e300); replace p300 := eq_true p300; replace q300 := eq_true q300)))
                    go_roundg k2
                    case measure => have := HJ4.out; have := HK2.out; omega
                    case rel => exact ⟨(((rd t287 x8_2) == (wrap64 ((rd t287 (ji17)) - 1)))), (wrap64 (x8_2 + 1)), (by first | rfl | (simp; done) | (simp only [← hji17] <;> (first | rfl | simp)) | (simp [*]; done)), (by first | rfl | (simp; done) | (simp [*]; done)), H', ⟨by have := HJ4.out; have := HK2.out; omega⟩, ⟨by (with_reducible repeat (first | apply Kd.R_alloc | apply Kd.R_drewN | apply Kd.R_drew)); exact HO_6.out⟩, ⟨by repeat (first | (with_reducible first | exact HB.out | apply below_alloc | apply pw_below_drewN | apply below_drew1) | exact HB.out)⟩⟩
                   ·
                    rw [if_neg c36] at H
                    have c36b0 : (t291 == 2) = false := beq_eq_false_iff_ne.mpr c36
                    have c36b1 : (t291 != 2) = true := bne_iff_ne.mpr c36
                    have H' := Aside0.mk H
                    clear H
                    have p15 : 0 ≤ (x8_2 : Int) := of_decide_eq_true (by first | (with_reducible assumption) | assumption)
                    have q15 : x8_2 < (a0.size : Int) := of_decide_eq_true (by first | (with_reducible assumption) | assumption)
                    have hx15 := bt_at a0 x8_2
                    replace p15 := eq_true p15
                    replace q15 := eq_true q15
                    go_wp2_with (first | (go_at_call 22; (with_reducible refine (formeref06_Class.calls k2 (bt a0 x8_2) t291 _ A16.out).mono ?_); rintro e w' ⟨rfl, ⟨nd, rfl⟩⟩; (try first | exact ⟨rfl, _, World.drewN_drewN _ _ _⟩ | exact ⟨rfl, _, Eq.trans (World.drewN_drewN _ _ _) (congrArg (World.drewN _) (Nat.add_assoc _ _ _))⟩); have p20 : 0 ≤ ((ji17) : Int) := of_decide_eq_true (by first | (with_reducible assumption) | assumption); have q20 : (ji17) < (a0.size : Int) := of_decide_eq_true (by first | (with_reducible assumption) | assumption); have hx20 := bt_at a0 (ji17); replace p20 := eq_true p20; replace q20 := eq_true q20) | (go_at_call 22; (with_reducible refine (formeref06_Class.calls k2 (bt a0 (ji17)) t292 _ A21.out).mono ?_); rintro e w' ⟨rfl, ⟨nd, rfl⟩⟩; (try first | exact ⟨rfl, _, World.drewN_drewN _ _ _⟩ | exact ⟨rfl, _, Eq.trans (World.drewN_drewN _ _ _) (congrArg (World.drewN _) (Nat.add_assoc _ _ _))⟩); obtain ⟨Ao38, co38, eo38⟩ := Kd.R_slice HO_6.out; subst eo38; have p297 : 0 ≤ (x8_2 : Int) := of_decide_eq_true (by first | (with_reducible assumption) | assumption); have q297 : x8_2 < (t287.length : Int) := of_decide_eq_true (by first | (with_reducible assumption) | assumption); obtain ⟨ad297, e297, hx297_0⟩ := Kd.at_int (Kd.R_reads' HO_6.out).2.2 x8_2 p297 q297; cases e297; replace p297 := eq_true p297; replace q297 := eq_true q297; have p298 : 0 ≤ ((ji17) : Int) := of_decide_eq_true (by first | (with_reducible assumption) | assumption); have q298 : (ji17) < (t287.length : Int) := of_decide_eq_true (by first | (with_reducible assumption) | assumption); obtain ⟨ad298, e298, hx298_0⟩ := Kd.at_int (Kd.R_reads' HO_6.out).2.2 (ji17) p298 q298; obtain rfl : ad297 = ad298 := (by injection e298); replace p298 := eq_true p298; replace q298 := eq_true q298))
                    repeat (go_quiet (first | (go_at_call 22; (with_reducible refine (formeref06_Class.calls k2 (bt a0 x8_2) t291 _ A16.out).mono ?_); rintro e w' ⟨rfl, ⟨nd, rfl⟩⟩; (try first | exact ⟨rfl, _, World.drewN_drewN _ _ _⟩ | exact ⟨rfl, _, Eq.trans (World.drewN_drewN _ _ _) (congrArg (World.drewN _) (Nat.add_assoc _ _ _))⟩); have p20 : 0 ≤ ((ji17) : Int) := of_decide_eq_true (by first | (with_reducible assumption) | assumption); have q20 : (ji17) < (a0.size : Int) := of_decide_eq_true (by first | (with_reducible assumption) | assumption); have hx20 := bt_at a0 (ji17); replace p20 := eq_true p20; replace q20 := eq_true q20) | (go_at_call 22; (with_reducible refine (formeref06_Class.calls k2 (bt a0 (ji17)) t292 _ A21.out).mono ?_); rintro e w' ⟨rfl, ⟨nd, rfl⟩⟩; (try first | exact ⟨rfl, _, World.drewN_drewN _ _ _⟩ | exact ⟨rfl, _, Eq.trans (World.drewN_drewN _ _ _) (congrArg (World.drewN _) (Nat.add_assoc _ _ _))⟩); obtain ⟨Ao38, co38, eo38⟩ := Kd.R_slice HO_6.out; subst eo38; have p297 : 0 ≤ (x8_2 : Int) := of_decide_eq_true (by first | (with_reducible assumption) | assumption); have q297 : x8_2 < (t287.length : Int) := of_decide_eq_true (by first | (with_reducible assumption) | assumption); obtain ⟨ad297, e297, hx297_0⟩ := Kd.at_int (Kd.R_reads' HO_6.out).2.2 x8_2 p297 q297; cases e297; replace p297 := eq_true p297; replace q297 := eq_true q297; have p298 : 0 ≤ ((ji17) : Int) := of_decide_eq_true (by first | (with_reducible assumption) | assumption); have q298 : (ji17) < (t287.length : Int) := of_decide_eq_true (by first | (with_reducible assumption) | assumption); obtain ⟨ad298, e298, hx298_0⟩ := Kd.at_int (Kd.R_reads' HO_6.out).2.2 (ji17) p298 q298; obtain rfl : ad297 = ad298 := (by injection e298); replace p298 := eq_true p298; replace q298 := eq_true q298)); try go_wp2_with (first | (go_at_call 22; (with_reducible refine (formeref06_Class.calls k2 (bt a0 x8_2) t291 _ A16.out).mono ?_); rintro e w' ⟨rfl, ⟨nd, rfl⟩⟩; (try first | exact ⟨rfl, _, World.drewN_drewN _ _ _⟩ | exact ⟨rfl, _, Eq.trans (World.drewN_drewN _ _ _) (congrArg (World.drewN _) (Nat.add_assoc _ _ _))⟩); have p20 : 0 ≤ ((ji17) : Int) := of_decide_eq_true (by first | (with_reducible assumption) | assumption); have q20 : (ji17) < (a0.size : Int) := of_decide_eq_true (by first | (with_reducible assumption) | assumption); have hx20 := bt_at a0 (ji17); replace p20 := eq_true p20; replace q20 := eq_true q20) | (go_at_call 22; (with_reducible refine (formeref06_Class.calls k2 (bt a0 (ji17)) t292 _ A21.out).mono ?_); rintro e w' ⟨rfl, ⟨nd, rfl⟩⟩; (try first | exact ⟨rfl, _, World.drewN_drewN _ _ _⟩ | exact ⟨rfl, _, Eq.trans (World.drewN_drewN _ _ _) (congrArg (World.drewN _) (Nat.add_assoc _ _ _))⟩); obtain ⟨Ao38, co38, eo38⟩ := Kd.R_slice HO_6.out; subst eo38; have p297 : 0 ≤ (x8_2 : Int) := of_decide_eq_true (by first | (with_reducible assumption) | assumption); have q297 : x8_2 < (t287.length : Int) := of_decide_eq_true (by first | (with_reducible assumption) | assumption); obtain ⟨ad297, e297, hx297_0⟩ := Kd.at_int (Kd.R_reads' HO_6.out).2.2 x8_2 p297 q297; cases e297; replace p297 := eq_true p297; replace q297 := eq_true q297; have p298 : 0 ≤ ((ji17) : Int) := of_decide_eq_true (by first | (with_reducible assumption) | assumption); have q298 : (ji17) < (t287.length : Int) := of_decide_eq_true (by first | (with_reducible assumption) | assumption); obtain ⟨ad298, e298, hx298_0⟩ := Kd.at_int (Kd.R_reads' HO_6.out).2.2 (ji17) p298 q298; obtain rfl : ad297 = ad298 := (by injection e298); replace p298 := eq_true p298; replace q298 := eq_true q298)))
                    go_roundg k2
                    case measure => have := HJ4.out; have := HK2.out; omega
                    case rel => exact ⟨(true), (wrap64 (x8_2 + 1)), (by first | rfl | (simp; done) | (simp [*]; done)), (by first | rfl | (simp; done) | (simp [*]; done)), H', ⟨by have := HJ4.out; have := HK2.out; omega⟩, ⟨by (with_reducible repeat (first | apply Kd.R_alloc | apply Kd.R_drewN | apply Kd.R_drew)); exact HO_6.out⟩, ⟨by repeat (first | (with_reducible first | exact HB.out | apply below_alloc | apply pw_below_drewN | apply below_drew1) | exact HB.out)⟩⟩
                  ·
                   rw [if_neg c35] at H
                   have c35b0 : ((rd t287 x8_2) == (wrap64 ((rd t287 (ji17)) + 1))) = false := beq_eq_false_iff_ne.mpr c35
                   have c35b1 : ((rd t287 x8_2) != (wrap64 ((rd t287 (ji17)) + 1))) = true := bne_iff_ne.mpr c35
                   have H' := Aside0.mk H
                   clear H
                   have p15 : 0 ≤ (x8_2 : Int) := of_decide_eq_true (by first | (with_reducible assumption) | assumption)
                   have q15 : x8_2 < (a0.size : Int) := of_decide_eq_true (by first | (with_reducible assumption) | assumption)
                   have hx15 := bt_at a0 x8_2
                   replace p15 := eq_true p15
                   replace q15 := eq_true q15
                   go_wp2_with (first | (go_at_call 22; (with_reducible refine (formeref06_Class.calls k2 (bt a0 x8_2) t291 _ A16.out).mono ?_); rintro e w' ⟨rfl, ⟨nd, rfl⟩⟩; (try first | exact ⟨rfl, _, World.drewN_drewN _ _ _⟩ | exact ⟨rfl, _, Eq.trans (World.drewN_drewN _ _ _) (congrArg (World.drewN _) (Nat.add_assoc _ _ _))⟩); have p20 : 0 ≤ ((ji17) : Int) := of_decide_eq_true (by first | (with_reducible assumption) | assumption); have q20 : (ji17) < (a0.size : Int) := of_decide_eq_true (by first | (with_reducible assumption) | assumption); have hx20 := bt_at a0 (ji17); replace p20 := eq_true p20; replace q20 := eq_true q20) | (go_at_call 22; (with_reducible refine (formeref06_Class.calls k2 (bt a0 (ji17)) t292 _ A21.out).mono ?_); rintro e w' ⟨rfl, ⟨nd, rfl⟩⟩; (try first | exact ⟨rfl, _, World.drewN_drewN _ _ _⟩ | exact ⟨rfl, _, Eq.trans (World.drewN_drewN _ _ _) (congrArg (World.drewN _) (Nat.add_assoc _ _ _))⟩); obtain ⟨Ao39, co39, eo39⟩ := Kd.R_slice HO_6.out; subst eo39; have p297 : 0 ≤ (x8_2 : Int) := of_decide_eq_true (by first | (with_reducible assumption) | assumption); have q297 : x8_2 < (t287.length : Int) := of_decide_eq_true (by first | (with_reducible assumption) | assumption); obtain ⟨ad297, e297, hx297_0⟩ := Kd.at_int (Kd.R_reads' HO_6.out).2.2 x8_2 p297 q297; cases e297; replace p297 := eq_true p297; replace q297 := eq_true q297; have p298 : 0 ≤ ((ji17) : Int) := of_decide_eq_true (by first | (with_reducible assumption) | assumption); have q298 : (ji17) < (t287.length : Int) := of_decide_eq_true (by first | (with_reducible assumption) | assumption); obtain ⟨ad298, e298, hx298_0⟩ := Kd.at_int (Kd.R_reads' HO_6.out).2.2 (ji17) p298 q298; obtain rfl : ad297 = ad298 := (by injection e298); replace p298 := eq_true p298; replace q298 := eq_true q298))
                   repeat (go_quiet (first | (go_at_call 22; (with_reducible refine (formeref06_Class.calls k2 (bt a0 x8_2) t291 _ A16.out).mono ?_); rintro e w' ⟨rfl, ⟨nd, rfl⟩⟩; (try first | exact ⟨rfl, _, World.drewN_drewN _ _ _⟩ | exact ⟨rfl, _, Eq.trans (World.drewN_drewN _ _ _) (congrArg (World.drewN _) (Nat.add_assoc _ _ _))⟩); have p20 : 0 ≤ ((ji17) : Int) := of_decide_eq_true (by first | (with_reducible assumption) | assumption); have q20 : (ji17) < (a0.size : Int) := of_decide_eq_true (by first | (with_reducible assumption) | assumption); have hx20 := bt_at a0 (ji17); replace p20 := eq_true p20; replace q20 := eq_true q20) | (go_at_call 22; (with_reducible refine (formeref06_Class.calls k2 (bt a0 (ji17)) t292 _ A21.out).mono ?_); rintro e w' ⟨rfl, ⟨nd, rfl⟩⟩; (try first | exact ⟨rfl, _, World.drewN_drewN _ _ _⟩ | exact ⟨rfl, _, Eq.trans (World.drewN_drewN _ _ _) (congrArg (World.drewN _) (Nat.add_assoc _ _ _))⟩); obtain ⟨Ao39, co39, eo39⟩ := Kd.R_slice HO_6.out; subst eo39; have p297 : 0 ≤ (x8_2 : Int) := of_decide_eq_true (by first | (with_reducible assumption) | assumption); have q297 : x8_2 < (t287.length : Int) := of_decide_eq_true (by first | (with_reducible assumption) | assumption); obtain ⟨ad297, e297, hx297_0⟩ := Kd.at_int (Kd.R_reads' HO_6.out).2.2 x8_2 p297 q297; cases e297; replace p297 := eq_true p297; replace q297 := eq_true q297; have p298 : 0 ≤ ((ji17) : Int) := of_decide_eq_true (by first | (with_reducible assumption) | assumption); have q298 : (ji17) < (t287.length : Int) := of_decide_eq_true (by first | (with_reducible assumption) | assumption); obtain ⟨ad298, e298, hx298_0⟩ := Kd.at_int (Kd.R_reads' HO_6.out).2.2 (ji17) p298 q298; obtain rfl : ad297 = ad298 := (by injection e298); replace p298 := eq_true p298; replace q298 := eq_true q298)); try go_wp2_with (first | (go_at_call 22; (with_reducible refine (formeref06_Class.calls k2 (bt a0 x8_2) t291 _ A16.out).mono ?_); rintro e w' ⟨rfl, ⟨nd, rfl⟩⟩; (try first | exact ⟨rfl, _, World.drewN_drewN _ _ _⟩ | exact ⟨rfl, _, Eq.trans (World.drewN_drewN _ _ _) (congrArg (World.drewN _) (Nat.add_assoc _ _ _))⟩); have p20 : 0 ≤ ((ji17) : Int) := of_decide_eq_true (by first | (with_reducible assumption) | assumption); have q20 : (ji17) < (a0.size : Int) := of_decide_eq_true (by first | (with_reducible assumption) | assumption); have hx20 := bt_at a0 (ji17); replace p20 := eq_true p20; replace q20 := eq_true q20) | (go_at_call 22; (with_reducible refine (formeref06_Class.calls k2 (bt a0 (ji17)) t292 _ A21.out).mono ?_); rintro e w' ⟨rfl, ⟨nd, rfl⟩⟩; (try first | exact ⟨rfl, _, World.drewN_drewN _ _ _⟩ | exact ⟨rfl, _, Eq.trans (World.drewN_drewN _ _ _) (congrArg (World.drewN _) (Nat.add_assoc _ _ _))⟩); obtain ⟨Ao39, co39, eo39⟩ := Kd.R_slice HO_6.out; subst eo39; have p297 : 0 ≤ (x8_2 : Int) := of_decide_eq_true (by first | (with_reducible assumption) | assumption); have q297 : x8_2 < (t287.length : Int) := of_decide_eq_true (by first | (with_reducible assumption) | assumption); obtain ⟨ad297, e297, hx297_0⟩ := Kd.at_int (Kd.R_reads' HO_6.out).2.2 x8_2 p297 q297; cases e297; replace p297 := eq_true p297; replace q297 := eq_true q297; have p298 : 0 ≤ ((ji17) : Int) := of_decide_eq_true (by first | (with_reducible assumption) | assumption); have q298 : (ji17) < (t287.length : Int) := of_decide_eq_true (by first | (with_reducible assumption) | assumption); obtain ⟨ad298, e298, hx298_0⟩ := Kd.at_int (Kd.R_reads' HO_6.out).2.2 (ji17) p298 q298; obtain rfl : ad297 = ad298 := (by injection e298); replace p298 := eq_true p298; replace q298 := eq_true q298)))
                   go_roundg k2
                   case measure => have := HJ4.out; have := HK2.out; omega
                   case rel => exact ⟨(false), (wrap64 (x8_2 + 1)), (by first | rfl | (simp; done) | (simp [*]; done)), (by first | rfl | (simp; done) | (simp [*]; done)), H', ⟨by have := HJ4.out; have := HK2.out; omega⟩, ⟨by (with_reducible repeat (first | apply Kd.R_alloc | apply Kd.R_drewN | apply Kd.R_drew)); exact HO_6.out⟩, ⟨by repeat (first | (with_reducible first | exact HB.out | apply below_alloc | apply pw_below_drewN | apply below_drew1) | exact HB.out)⟩⟩
                 ·
                  rw [if_neg c34] at H
                  exact absurd H (by simp)
                ·
                 rw [if_neg c33] at H
                 exact absurd H (by simp)
               ·
                rw [if_neg c32] at H
                have c32b0 : (t291 == 3) = false := beq_eq_false_iff_ne.mpr c32
                have c32b1 : (t291 != 3) = true := bne_iff_ne.mpr c32
                by_cases c40 : t291 = 2
                ·
                 rw [if_pos c40] at H
                 have c40b0 : (t291 == 2) = true := beq_iff_eq.mpr c40
                 have c40b1 : (t291 != 2) = false := bne_eq_false_iff_eq.mpr c40
                 clear c40
                 by_cases c41 : x8_2 < (t287.length : Int)
                 ·
                  rw [if_pos c41] at H
                  have c41b0 : decide (x8_2 < (t287.length : Int)) = true := decide_eq_true c41
                  clear c41
                  by_cases c42 : (ji17) < (t287.length : Int)
                  ·
                   rw [if_pos c42] at H
                   have c42b0 : decide ((ji17) < (t287.length : Int)) = true := decide_eq_true c42
                   clear c42
                   have H' := Aside0.mk H
                   clear H
                   have p15 : 0 ≤ (x8_2 : Int) := of_decide_eq_true (by first | (with_reducible assumption) | assumption)
                   have q15 : x8_2 < (a0.size : Int) := of_decide_eq_true (by first | (with_reducible assumption) | assumption)
                   have hx15 := bt_at a0 x8_2
                   replace p15 := eq_true p15
                   replace q15 := eq_true q15
                   go_wp2_with (first | (go_at_call 22; (with_reducible refine (formeref06_Class.calls k2 (bt a0 x8_2) t291 _ A16.out).mono ?_); rintro e w' ⟨rfl, ⟨nd, rfl⟩⟩; (try first | exact ⟨rfl, _, World.drewN_drewN _ _ _⟩ | exact ⟨rfl, _, Eq.trans (World.drewN_drewN _ _ _) (congrArg (World.drewN _) (Nat.add_assoc _ _ _))⟩); have p20 : 0 ≤ ((ji17) : Int) := of_decide_eq_true (by first | (with_reducible assumption) | assumption); have q20 : (ji17) < (a0.size : Int) := of_decide_eq_true (by first | (with_reducible assumption) | assumption); have hx20 := bt_at a0 (ji17); replace p20 := eq_true p20; replace q20 := eq_true q20) | (go_at_call 22; (with_reducible refine (formeref06_Class.calls k2 (bt a0 (ji17)) t292 _ A21.out).mono ?_); rintro e w' ⟨rfl, ⟨nd, rfl⟩⟩; (try first | exact ⟨rfl, _, World.drewN_drewN _ _ _⟩ | exact ⟨rfl, _, Eq.trans (World.drewN_drewN _ _ _) (congrArg (World.drewN _) (Nat.add_assoc _ _ _))⟩); obtain ⟨Ao43, co43, eo43⟩ := Kd.R_slice HO_6.out; subst eo43; have p301 : 0 ≤ (x8_2 : Int) := of_decide_eq_true (by first | (with_reducible assumption) | assumption); have q301 : x8_2 < (t287.length : Int) := of_decide_eq_true (by first | (with_reducible assumption) | assumption); obtain ⟨ad301, e301, hx301_0⟩ := Kd.at_int (Kd.R_reads' HO_6.out).2.2 x8_2 p301 q301; cases e301; replace p301 := eq_true p301; replace q301 := eq_true q301; have p302 : 0 ≤ ((ji17) : Int) := of_decide_eq_true (by first | (with_reducible assumption) | assumption); have q302 : (ji17) < (t287.length : Int) := of_decide_eq_true (by first | (with_reducible assumption) | assumption); obtain ⟨ad302, e302, hx302_0⟩ := Kd.at_int (Kd.R_reads' HO_6.out).2.2 (ji17) p302 q302; obtain rfl : ad301 = ad302 := (by injection e302); replace p302 := eq_true p302; replace q302 := eq_true q302))
                   repeat (go_quiet (first | (go_at_call 22; (with_reducible refine (formeref06_Class.calls k2 (bt a0 x8_2) t291 _ A16.out).mono ?_); rintro e w' ⟨rfl, ⟨nd, rfl⟩⟩; (try first | exact ⟨rfl, _, World.drewN_drewN _ _ _⟩ | exact ⟨rfl, _, Eq.trans (World.drewN_drewN _ _ _) (congrArg (World.drewN _) (Nat.add_assoc _ _ _))⟩); have p20 : 0 ≤ ((ji17) : Int) := of_decide_eq_true (by first | (with_reducible assumption) | assumption); have q20 : (ji17) < (a0.size : Int) := of_decide_eq_true (by first | (with_reducible assumption) | assumption); have hx20 := bt_at a0 (ji17); replace p20 := eq_true p20; replace q20 := eq_true q20) | (go_at_call 22; (with_reducible refine (formeref06_Class.calls k2 (bt a0 (ji17)) t292 _ A21.out).mono ?_); rintro e w' ⟨rfl, ⟨nd, rfl⟩⟩; (try first | exact ⟨rfl, _, World.drewN_drewN _ _ _⟩ | exact ⟨rfl, _, Eq.trans (World.drewN_drewN _ _ _) (congrArg (World.drewN _) (Nat.add_assoc _ _ _))⟩); obtain ⟨Ao43, co43, eo43⟩ := Kd.R_slice HO_6.out; subst eo43; have p301 : 0 ≤ (x8_2 : Int) := of_decide_eq_true (by first | (with_reducible assumption) | assumption); have q301 : x8_2 < (t287.length : Int) := of_decide_eq_true (by first | (with_reducible assumption) | assumption); obtain ⟨ad301, e301, hx301_0⟩ := Kd.at_int (Kd.R_reads' HO_6.out).2.2 x8_2 p301 q301; cases e301; replace p301 := eq_true p301; replace q301 := eq_true q301; have p302 : 0 ≤ ((ji17) : Int) := of_decide_eq_true (by first | (with_reducible assumption) | assumption); have q302 : (ji17) < (t287.length : Int) := of_decide_eq_true (by first | (with_reducible assumption) | assumption); obtain ⟨ad302, e302, hx302_0⟩ := Kd.at_int (Kd.R_reads' HO_6.out).2.2 (ji17) p302 q302; obtain rfl : ad301 = ad302 := (by injection e302); replace p302 := eq_true p302; replace q302 := eq_true q302)); try go_wp2_with (first | (go_at_call 22; (with_reducible refine (formeref06_Class.calls k2 (bt a0 x8_2) t291 _ A16.out).mono ?_); rintro e w' ⟨rfl, ⟨nd, rfl⟩⟩; (try first | exact ⟨rfl, _, World.drewN_drewN _ _ _⟩ | exact ⟨rfl, _, Eq.trans (World.drewN_drewN _ _ _) (congrArg (World.drewN _) (Nat.add_assoc _ _ _))⟩); have p20 : 0 ≤ ((ji17) : Int) := of_decide_eq_true (by first | (with_reducible assumption) | assumption); have q20 : (ji17) < (a0.size : Int) := of_decide_eq_true (by first | (with_reducible assumption) | assumption); have hx20 := bt_at a0 (ji17); replace p20 := eq_true p20; replace q20 := eq_true q20) | (go_at_call 22; (with_reducible refine (formeref06_Class.calls k2 (bt a0 (ji17)) t292 _ A21.out).mono ?_); rintro e w' ⟨rfl, ⟨nd, rfl⟩⟩; (try first | exact ⟨rfl, _, World.drewN_drewN _ _ _⟩ | exact ⟨rfl, _, Eq.trans (World.drewN_drewN _ _ _) (congrArg (World.drewN _) (Nat.add_assoc _ _ _))⟩); obtain ⟨Ao43, co43, eo43⟩ := Kd.R_slice HO_6.out; subst eo43; have p301 : 0 ≤ (x8_2 : Int) := of_decide_eq_true (by first | (with_reducible assumption) | assumption); have q301 : x8_2 < (t287.length : Int) := of_decide_eq_true (by first | (with_reducible assumption) | assumption); obtain ⟨ad301, e301, hx301_0⟩ := Kd.at_int (Kd.R_reads' HO_6.out).2.2 x8_2 p301 q301; cases e301; replace p301 := eq_true p301; replace q301 := eq_true q301; have p302 : 0 ≤ ((ji17) : Int) := of_decide_eq_true (by first | (with_reducible assumption) | assumption); have q302 : (ji17) < (t287.length : Int) := of_decide_eq_true (by first | (with_reducible assumption) | assumption); obtain ⟨ad302, e302, hx302_0⟩ := Kd.at_int (Kd.R_reads' HO_6.out).2.2 (ji17) p302 q302; obtain rfl : ad301 = ad302 := (by injection e302); replace p302 := eq_true p302; replace q302 := eq_true q302)))
                   go_roundg k2
                   case measure => have := HJ4.out; have := HK2.out; omega
                   case rel => exact ⟨(((rd t287 x8_2) == (wrap64 ((rd t287 (ji17)) - 1)))), (wrap64 (x8_2 + 1)), (by first | rfl | (simp; done) | (simp only [← hji17] <;> (first | rfl | simp)) | (simp [*]; done)), (by first | rfl | (simp; done) | (simp [*]; done)), H', ⟨by have := HJ4.out; have := HK2.out; omega⟩, ⟨by (with_reducible repeat (first | apply Kd.R_alloc | apply Kd.R_drewN | apply Kd.R_drew)); exact HO_6.out⟩, ⟨by repeat (first | (with_reducible first | exact HB.out | apply below_alloc | apply pw_below_drewN | apply below_drew1) | exact HB.out)⟩⟩
                  ·
                   rw [if_neg c42] at H
                   exact absurd H (by simp)
                 ·
                  rw [if_neg c41] at H
                  exact absurd H (by simp)
                ·
                 rw [if_neg c40] at H
                 have c40b0 : (t291 == 2) = false := beq_eq_false_iff_ne.mpr c40
                 have c40b1 : (t291 != 2) = true := bne_iff_ne.mpr c40
                 have H' := Aside0.mk H
                 clear H
                 have p15 : 0 ≤ (x8_2 : Int) := of_decide_eq_true (by first | (with_reducible assumption) | assumption)
                 have q15 : x8_2 < (a0.size : Int) := of_decide_eq_true (by first | (with_reducible assumption) | assumption)
                 have hx15 := bt_at a0 x8_2
                 replace p15 := eq_true p15
                 replace q15 := eq_true q15
                 go_wp2_with (first | (go_at_call 22; (with_reducible refine (formeref06_Class.calls k2 (bt a0 x8_2) t291 _ A16.out).mono ?_); rintro e w' ⟨rfl, ⟨nd, rfl⟩⟩; (try first | exact ⟨rfl, _, World.drewN_drewN _ _ _⟩ | exact ⟨rfl, _, Eq.trans (World.drewN_drewN _ _ _) (congrArg (World.drewN _) (Nat.add_assoc _ _ _))⟩); have p20 : 0 ≤ ((ji17) : Int) := of_decide_eq_true (by first | (with_reducible assumption) | assumption); have q20 : (ji17) < (a0.size : Int) := of_decide_eq_true (by first | (with_reducible assumption) | assumption); have hx20 := bt_at a0 (ji17); replace p20 := eq_true p20; replace q20 := eq_true q20) | (go_at_call 22; (with_reducible refine (formeref06_Class.calls k2 (bt a0 (ji17)) t292 _ A21.out).mono ?_); rintro e w' ⟨rfl, ⟨nd, rfl⟩⟩; (try first | exact ⟨rfl, _, World.drewN_drewN _ _ _⟩ | exact ⟨rfl, _, Eq.trans (World.drewN_drewN _ _ _) (congrArg (World.drewN _) (Nat.add_assoc _ _ _))⟩)))
                 repeat (go_quiet (first | (go_at_call 22; (with_reducible refine (formeref06_Class.calls k2 (bt a0 x8_2) t291 _ A16.out).mono ?_); rintro e w' ⟨rfl, ⟨nd, rfl⟩⟩; (try first | exact ⟨rfl, _, World.drewN_drewN _ _ _⟩ | exact ⟨rfl, _, Eq.trans (World.drewN_drewN _ _ _) (congrArg (World.drewN _) (Nat.add_assoc _ _ _))⟩); have p20 : 0 ≤ ((ji17) : Int) := of_decide_eq_true (by first | (with_reducible assumption) | assumption); have q20 : (ji17) < (a0.size : Int) := of_decide_eq_true (by first | (with_reducible assumption) | assumption); have hx20 := bt_at a0 (ji17); replace p20 := eq_true p20; replace q20 := eq_true q20) | (go_at_call 22; (with_reducible refine (formeref06_Class.calls k2 (bt a0 (ji17)) t292 _ A21.out).mono ?_); rintro e w' ⟨rfl, ⟨nd, rfl⟩⟩; (try first | exact ⟨rfl, _, World.drewN_drewN _ _ _⟩ | exact ⟨rfl, _, Eq.trans (World.drewN_drewN _ _ _) (congrArg (World.drewN _) (Nat.add_assoc _ _ _))⟩))); try go_wp2_with (first | (go_at_call 22; (with_reducible refine (formeref06_Class.calls k2 (bt a0 x8_2) t291 _ A16.out).mono ?_); rintro e w' ⟨rfl, ⟨nd, rfl⟩⟩; (try first | exact ⟨rfl, _, World.drewN_drewN _ _ _⟩ | exact ⟨rfl, _, Eq.trans (World.drewN_drewN _ _ _) (congrArg (World.drewN _) (Nat.add_assoc _ _ _))⟩); have p20 : 0 ≤ ((ji17) : Int) := of_decide_eq_true (by first | (with_reducible assumption) | assumption); have q20 : (ji17) < (a0.size : Int) := of_decide_eq_true (by first | (with_reducible assumption) | assumption); have hx20 := bt_at a0 (ji17); replace p20 := eq_true p20; replace q20 := eq_true q20) | (go_at_call 22; (with_reducible refine (formeref06_Class.calls k2 (bt a0 (ji17)) t292 _ A21.out).mono ?_); rintro e w' ⟨rfl, ⟨nd, rfl⟩⟩; (try first | exact ⟨rfl, _, World.drewN_drewN _ _ _⟩ | exact ⟨rfl, _, Eq.trans (World.drewN_drewN _ _ _) (congrArg (World.drewN _) (Nat.add_assoc _ _ _))⟩))))
                 go_roundg k2
                 case measure => have := HJ4.out; have := HK2.out; omega
                 case rel => exact ⟨(true), (wrap64 (x8_2 + 1)), (by first | rfl | (simp; done) | (simp [*]; done)), (by first | rfl | (simp; done) | (simp [*]; done)), H', ⟨by have := HJ4.out; have := HK2.out; omega⟩, ⟨by (with_reducible repeat (first | apply Kd.R_alloc | apply Kd.R_drewN | apply Kd.R_drew)); exact HO_6.out⟩, ⟨by repeat (first | (with_reducible first | exact HB.out | apply below_alloc | apply pw_below_drewN | apply below_drew1) | exact HB.out)⟩⟩
             ·
              replace c23 := Bool.eq_false_iff.mpr c23
              subst c23
              have H1 : (formelaw09_BidiNeighbours.l0 k2 a0 false t287 (wrap64 (x8_2 + 1))) = some r := by rw [if_neg (show ¬ (false = true) by decide)] at H; exact H
              clear H
              have H := H1
              clear H1
              have H' := Aside0.mk H
              clear H
              have p15 : 0 ≤ (x8_2 : Int) := of_decide_eq_true (by first | (with_reducible assumption) | assumption)
              have q15 : x8_2 < (a0.size : Int) := of_decide_eq_true (by first | (with_reducible assumption) | assumption)
              have hx15 := bt_at a0 x8_2
              replace p15 := eq_true p15
              replace q15 := eq_true q15
              go_wp2_with (first | (go_at_call 22; (with_reducible refine (formeref06_Class.calls k2 (bt a0 x8_2) t291 _ A16.out).mono ?_); rintro e w' ⟨rfl, ⟨nd, rfl⟩⟩; (try first | exact ⟨rfl, _, World.drewN_drewN _ _ _⟩ | exact ⟨rfl, _, Eq.trans (World.drewN_drewN _ _ _) (congrArg (World.drewN _) (Nat.add_assoc _ _ _))⟩); have p20 : 0 ≤ ((ji17) : Int) := of_decide_eq_true (by first | (with_reducible assumption) | assumption); have q20 : (ji17) < (a0.size : Int) := of_decide_eq_true (by first | (with_reducible assumption) | assumption); have hx20 := bt_at a0 (ji17); replace p20 := eq_true p20; replace q20 := eq_true q20) | (go_at_call 22; (with_reducible refine (formeref06_Class.calls k2 (bt a0 (ji17)) t292 _ A21.out).mono ?_); rintro e w' ⟨rfl, ⟨nd, rfl⟩⟩; (try first | exact ⟨rfl, _, World.drewN_drewN _ _ _⟩ | exact ⟨rfl, _, Eq.trans (World.drewN_drewN _ _ _) (congrArg (World.drewN _) (Nat.add_assoc _ _ _))⟩)))
              repeat (go_quiet (first | (go_at_call 22; (with_reducible refine (formeref06_Class.calls k2 (bt a0 x8_2) t291 _ A16.out).mono ?_); rintro e w' ⟨rfl, ⟨nd, rfl⟩⟩; (try first | exact ⟨rfl, _, World.drewN_drewN _ _ _⟩ | exact ⟨rfl, _, Eq.trans (World.drewN_drewN _ _ _) (congrArg (World.drewN _) (Nat.add_assoc _ _ _))⟩); have p20 : 0 ≤ ((ji17) : Int) := of_decide_eq_true (by first | (with_reducible assumption) | assumption); have q20 : (ji17) < (a0.size : Int) := of_decide_eq_true (by first | (with_reducible assumption) | assumption); have hx20 := bt_at a0 (ji17); replace p20 := eq_true p20; replace q20 := eq_true q20) | (go_at_call 22; (with_reducible refine (formeref06_Class.calls k2 (bt a0 (ji17)) t292 _ A21.out).mono ?_); rintro e w' ⟨rfl, ⟨nd, rfl⟩⟩; (try first | exact ⟨rfl, _, World.drewN_drewN _ _ _⟩ | exact ⟨rfl, _, Eq.trans (World.drewN_drewN _ _ _) (congrArg (World.drewN _) (Nat.add_assoc _ _ _))⟩))); try go_wp2_with (first | (go_at_call 22; (with_reducible refine (formeref06_Class.calls k2 (bt a0 x8_2) t291 _ A16.out).mono ?_); rintro e w' ⟨rfl, ⟨nd, rfl⟩⟩; (try first | exact ⟨rfl, _, World.drewN_drewN _ _ _⟩ | exact ⟨rfl, _, Eq.trans (World.drewN_drewN _ _ _) (congrArg (World.drewN _) (Nat.add_assoc _ _ _))⟩); have p20 : 0 ≤ ((ji17) : Int) := of_decide_eq_true (by first | (with_reducible assumption) | assumption); have q20 : (ji17) < (a0.size : Int) := of_decide_eq_true (by first | (with_reducible assumption) | assumption); have hx20 := bt_at a0 (ji17); replace p20 := eq_true p20; replace q20 := eq_true q20) | (go_at_call 22; (with_reducible refine (formeref06_Class.calls k2 (bt a0 (ji17)) t292 _ A21.out).mono ?_); rintro e w' ⟨rfl, ⟨nd, rfl⟩⟩; (try first | exact ⟨rfl, _, World.drewN_drewN _ _ _⟩ | exact ⟨rfl, _, Eq.trans (World.drewN_drewN _ _ _) (congrArg (World.drewN _) (Nat.add_assoc _ _ _))⟩))))
              go_roundg k2
              case measure => have := HJ4.out; have := HK2.out; omega
              case rel => exact ⟨(false), (wrap64 (x8_2 + 1)), (by first | rfl | (simp; done) | (simp [*]; done)), (by first | rfl | (simp; done) | (simp [*]; done)), H', ⟨by have := HJ4.out; have := HK2.out; omega⟩, ⟨by (with_reducible repeat (first | apply Kd.R_alloc | apply Kd.R_drewN | apply Kd.R_drew)); exact HO_6.out⟩, ⟨by repeat (first | (with_reducible first | exact HB.out | apply below_alloc | apply pw_below_drewN | apply below_drew1) | exact HB.out)⟩⟩
            ·
             rw [if_neg c22] at H
             have c22b0 : (t291 == t292) = false := beq_eq_false_iff_ne.mpr c22
             have c22b1 : (t291 != t292) = true := bne_iff_ne.mpr c22
             have H' := Aside0.mk H
             clear H
             have p15 : 0 ≤ (x8_2 : Int) := of_decide_eq_true (by first | (with_reducible assumption) | assumption)
             have q15 : x8_2 < (a0.size : Int) := of_decide_eq_true (by first | (with_reducible assumption) | assumption)
             have hx15 := bt_at a0 x8_2
             replace p15 := eq_true p15
             replace q15 := eq_true q15
             go_wp2_with (first | (go_at_call 22; (with_reducible refine (formeref06_Class.calls k2 (bt a0 x8_2) t291 _ A16.out).mono ?_); rintro e w' ⟨rfl, ⟨nd, rfl⟩⟩; (try first | exact ⟨rfl, _, World.drewN_drewN _ _ _⟩ | exact ⟨rfl, _, Eq.trans (World.drewN_drewN _ _ _) (congrArg (World.drewN _) (Nat.add_assoc _ _ _))⟩); have p20 : 0 ≤ ((ji17) : Int) := of_decide_eq_true (by first | (with_reducible assumption) | assumption); have q20 : (ji17) < (a0.size : Int) := of_decide_eq_true (by first | (with_reducible assumption) | assumption); have hx20 := bt_at a0 (ji17); replace p20 := eq_true p20; replace q20 := eq_true q20) | (go_at_call 22; (with_reducible refine (formeref06_Class.calls k2 (bt a0 (ji17)) t292 _ A21.out).mono ?_); rintro e w' ⟨rfl, ⟨nd, rfl⟩⟩; (try first | exact ⟨rfl, _, World.drewN_drewN _ _ _⟩ | exact ⟨rfl, _, Eq.trans (World.drewN_drewN _ _ _) (congrArg (World.drewN _) (Nat.add_assoc _ _ _))⟩)))
             repeat (go_quiet (first | (go_at_call 22; (with_reducible refine (formeref06_Class.calls k2 (bt a0 x8_2) t291 _ A16.out).mono ?_); rintro e w' ⟨rfl, ⟨nd, rfl⟩⟩; (try first | exact ⟨rfl, _, World.drewN_drewN _ _ _⟩ | exact ⟨rfl, _, Eq.trans (World.drewN_drewN _ _ _) (congrArg (World.drewN _) (Nat.add_assoc _ _ _))⟩); have p20 : 0 ≤ ((ji17) : Int) := of_decide_eq_true (by first | (with_reducible assumption) | assumption); have q20 : (ji17) < (a0.size : Int) := of_decide_eq_true (by first | (with_reducible assumption) | assumption); have hx20 := bt_at a0 (ji17); replace p20 := eq_true p20; replace q20 := eq_true q20) | (go_at_call 22; (with_reducible refine (formeref06_Class.calls k2 (bt a0 (ji17)) t292 _ A21.out).mono ?_); rintro e w' ⟨rfl, ⟨nd, rfl⟩⟩; (try first | exact ⟨rfl, _, World.drewN_drewN _ _ _⟩ | exact ⟨rfl, _, Eq.trans (World.drewN_drewN _ _ _) (congrArg (World.drewN _) (Nat.add_assoc _ _ _))⟩))); try go_wp2_with (first | (go_at_call 22; (with_reducible refine (formeref06_Class.calls k2 (bt a0 x8_2) t291 _ A16.out).mono ?_); rintro e w' ⟨rfl, ⟨nd, rfl⟩⟩; (try first | exact ⟨rfl, _, World.drewN_drewN _ _ _⟩ | exact ⟨rfl, _, Eq.trans (World.drewN_drewN _ _ _) (congrArg (World.drewN _) (Nat.add_assoc _ _ _))⟩); have p20 : 0 ≤ ((ji17) : Int) := of_decide_eq_true (by first | (with_reducible assumption) | assumption); have q20 : (ji17) < (a0.size : Int) := of_decide_eq_true (by first | (with_reducible assumption) | assumption); have hx20 := bt_at a0 (ji17); replace p20 := eq_true p20; replace q20 := eq_true q20) | (go_at_call 22; (with_reducible refine (formeref06_Class.calls k2 (bt a0 (ji17)) t292 _ A21.out).mono ?_); rintro e w' ⟨rfl, ⟨nd, rfl⟩⟩; (try first | exact ⟨rfl, _, World.drewN_drewN _ _ _⟩ | exact ⟨rfl, _, Eq.trans (World.drewN_drewN _ _ _) (congrArg (World.drewN _) (Nat.add_assoc _ _ _))⟩))))
             go_roundg k2
             case measure => have := HJ4.out; have := HK2.out; omega
             case rel => exact ⟨(x5_2), (wrap64 (x8_2 + 1)), (by first | rfl | (simp; done) | (simp [*]; done)), (by first | rfl | (simp; done) | (simp [*]; done)), H', ⟨by have := HJ4.out; have := HK2.out; omega⟩, ⟨by (with_reducible repeat (first | apply Kd.R_alloc | apply Kd.R_drewN | apply Kd.R_drew)); exact HO_6.out⟩, ⟨by repeat (first | (with_reducible first | exact HB.out | apply below_alloc | apply pw_below_drewN | apply below_drew1) | exact HB.out)⟩⟩
           ·
            rw [if_neg c19] at H
            exact absurd H (by simp)
          ·
           rw [if_neg c18] at H
           exact absurd H (by simp)
         ·
          rw [if_neg c14] at H
          exact absurd H (by simp)
        ·
         rw [if_neg c13] at H
         have c13b0 : decide (x8_2 < (a0.size : Int)) = false := decide_eq_false c13
         clear c13
         obtain rfl := Option.some.inj H
         go_wp2
         repeat (go_quiet (fail); try go_wp2)
         go_ret
         exact ⟨by first | rfl | (simp [errW_none, errW_some] <;> rfl) | (simp [*, errW_none, errW_some] <;> rfl), by repeat (first | (with_reducible first | exact HB.out | apply below_alloc | apply pw_below_drewN | apply below_drew1) | exact HB.out)⟩
     ·
      replace c11 := Bool.eq_false_iff.mpr c11
      subst c11
      have H1 : (some false) = some r := by rw [if_neg (show ¬ (false = true) by decide)] at H; exact H
      clear H
      have H := H1
      clear H1
      obtain rfl := Option.some.inj H
      go_wp2_with (first | (go_at_call 19; (with_reducible refine (formelaw09_places.calls kj4 a0 a1 t287 false _ A10.out).mono ?_); rintro e w44 ⟨v289, rfl, ho0, hb⟩; have n0_ := Aside0.mk (Kd.R_lower ho0 (below_size (by repeat (first | (with_reducible first | exact HB.out | apply below_alloc | apply pw_below_drewN | apply below_drew1) | exact HB.out)))); have n1_ := Aside0.mk (below_step (by repeat (first | (with_reducible first | exact HB.out | apply below_alloc | apply pw_below_drewN | apply below_drew1) | exact HB.out)) hb); clear HB; have HO290 := n0_; have HB := n1_; clear n0_ n1_; (try clear hb); (try clear hb2); (try clear hk); (try clear hi); (try clear ho0)))
      repeat (go_quiet (fail); try go_wp2_with (first | (go_at_call 19; (with_reducible refine (formelaw09_places.calls kj4 a0 a1 t287 false _ A10.out).mono ?_); rintro e w44 ⟨v289, rfl, ho0, hb⟩; have n0_ := Aside0.mk (Kd.R_lower ho0 (below_size (by repeat (first | (with_reducible first | exact HB.out | apply below_alloc | apply pw_below_drewN | apply below_drew1) | exact HB.out)))); have n1_ := Aside0.mk (below_step (by repeat (first | (with_reducible first | exact HB.out | apply below_alloc | apply pw_below_drewN | apply below_drew1) | exact HB.out)) hb); clear HB; have HO290 := n0_; have HB := n1_; clear n0_ n1_; (try clear hb); (try clear hb2); (try clear hk); (try clear hi); (try clear ho0))))
      go_ret
      exact ⟨by first | rfl | (simp [errW_none, errW_some] <;> rfl) | (simp [*, errW_none, errW_some] <;> rfl), by repeat (first | (with_reducible first | exact HB.out | apply below_alloc | apply pw_below_drewN | apply below_drew1) | exact HB.out)⟩
 ·
  replace c4 := Bool.eq_false_iff.mpr c4
  subst c4
  have H1 : (none) = some r := by rw [if_neg (show ¬ (false = true) by decide)] at H; exact H
  clear H
  have H := H1
  clear H1
  exact absurd H (by simp)

/-- THE ONE PURE STATEMENT of formelaw09_BidiNeighbours: yours. -/
def formelaw09_BidiNeighbours.Pure : Prop := ∀ (a0 : ByteArray) (a1 : Int), a0.size ≤ 140737488351232 → (Lit.int .i64 a1).wf = true → ∃ k, formelaw09_BidiNeighbours.f k a0 a1 = some true
theorem formelaw09_BidiNeighbours.walk (P : formelaw09_BidiNeighbours.Pure) (a0 : ByteArray) (a1 : Int) (w : World) (w0 : a0.size ≤ 140737488351232) (w1 : (Lit.int .i64 a1).wf = true) :
  Calls Try.prog 6 #[.string a0, .int .i64 a1] w fun e w' => e = .returned (.bool true) ∧ Below w.heap.size w w' := by
 obtain ⟨k, h⟩ := P a0 a1 w0 w1
 refine (formelaw09_BidiNeighbours.calls k a0 a1 true w h).mono ?_
 rintro e w' ⟨rfl, hd⟩
 exact ⟨rfl, hd⟩

end Go.Proofs.Ytdmfhabhcagioaa.P
