-- Laid by a program of this session (wip/fam.sh) over the kit's words: Lean checks it.
import Derived.Test.YtdmfhabhcagioaaPx0
import Derived.Test.YtdmfhabhcagioaaPx1
import Derived.Test.YtdmfhabhcagioaaPx2
import Derived.Test.YtdmfhabhcagioaaPx7
namespace Go.Proofs.Ytdmfhabhcagioaa.P
open Go.RowKit Go.Proofs.YtdmfhabhcagioaaW.PrintWords Go.Proofs.YtdmfhabhcagioaaW.PrintLast Go.Proofs.YtdmfhabhcagioaaW.PrintMore
attribute [local go_sem] max2_int min2_int max_two min_two max_three min_three max_four min_four   -- for this text's walks alone
set_option linter.unusedVariables false
set_option linter.unusedSimpArgs false

/-! ### formelaw09_BidiParts: function 8 -/
mutual
def formelaw09_BidiParts.j0 : Nat → ByteArray → ByteArray → Int → Bool → Bool → Option (Bool)
 | 0, _, _, _, _, _ => none
 | k + 1, x0, x1, x2, x7, x45 => if x45 = true then (some x7) else (if 0 ≤ (wrap64 ((x0.size : Int) - 1)) then (if (wrap64 ((x0.size : Int) - 1)) < (x0.size : Int) then ((formeref06_Class.f k (bt x0 (wrap64 ((x0.size : Int) - 1)))).bind fun t320 => (if t320 = (wrap64 (1 + x2)) then (if 0 < (x1.size : Int) then ((formeref06_Class.f k (bt x1 0)).bind fun t321 => (formelaw09_BidiParts.j1 k x0 x1 x2 x7 (t321 != (wrap64 (1 + x2))))) else (none)) else (formelaw09_BidiParts.j1 k x0 x1 x2 x7 true))) else (none)) else (none))
def formelaw09_BidiParts.j1 : Nat → ByteArray → ByteArray → Int → Bool → Bool → Option (Bool)
 | 0, _, _, _, _, _ => none
 | k + 1, x0, x1, x2, x7, x63 => if x63 = true then (some x7) else ((bidi_Visual.f k x0 x2).bind fun bt322 => ((bidi_Visual.f k x1 x2).bind fun bt324 => (if x0.size + x1.size ≤ 9223372036854775807 then ((bidi_Visual.f k (x0 ++ x1) x2).bind fun bt326 => (if bt322.1.size + bt324.1.size ≤ 9223372036854775807 then (if x2 = 1 then (if bt324.1.size + bt322.1.size ≤ 9223372036854775807 then (if x7 = true then (if bt322.2 = 0 then (if bt324.2 = 0 then (if bt326.2 = 0 then (some (bt326.1.toList == (bt324.1 ++ bt322.1).toList)) else (some false)) else (some false)) else (some false)) else (some false)) else (none)) else (if x7 = true then (if bt322.2 = 0 then (if bt324.2 = 0 then (if bt326.2 = 0 then (some (bt326.1.toList == (bt322.1 ++ bt324.1).toList)) else (some false)) else (some false)) else (some false)) else (some false))) else (none))) else (none))))
end
def formelaw09_BidiParts.f (k : Nat) (a0 : ByteArray) (a1 : ByteArray) (a2 : Int) : Option (Bool) := (formelaw09_head.f k).bind fun t317 => (if t317 = true then (if (a0.size : Int) > 150 then (formelaw09_BidiParts.j0 k a0 a1 a2 true true) else (if (a1.size : Int) > 150 then (formelaw09_BidiParts.j0 k a0 a1 a2 true true) else ((formeref09_Line.f k a0 a2).bind fun t318 => (if t318 = true then ((formeref09_Line.f k a1 a2).bind fun t319 => (if t319 = true then (if (a0.size : Int) = 0 then (formelaw09_BidiParts.j0 k a0 a1 a2 true true) else (formelaw09_BidiParts.j0 k a0 a1 a2 true ((a1.size : Int) == 0))) else (formelaw09_BidiParts.j0 k a0 a1 a2 true true))) else (formelaw09_BidiParts.j0 k a0 a1 a2 true true))))) else (none))
theorem formelaw09_BidiParts.mono_l : ∀ k, (∀ y0 y1 y2 y3 y4, LeO (formelaw09_BidiParts.j0 k y0 y1 y2 y3 y4) (formelaw09_BidiParts.j0 (k + 1) y0 y1 y2 y3 y4)) ∧ (∀ y0 y1 y2 y3 y4, LeO (formelaw09_BidiParts.j1 k y0 y1 y2 y3 y4) (formelaw09_BidiParts.j1 (k + 1) y0 y1 y2 y3 y4))
 | 0 => ⟨fun _ _ _ _ _ r h => by simp [formelaw09_BidiParts.j0] at h, fun _ _ _ _ _ r h => by simp [formelaw09_BidiParts.j1] at h⟩
 | k + 1 => by
  obtain ⟨ih0, ih1⟩ := formelaw09_BidiParts.mono_l k
  refine ⟨?_, ?_⟩
  ·
   intro y0 y1 y2 y3 y4
   unfold formelaw09_BidiParts.j0
   repeat' first
   | (with_reducible exact ih0 _ _ _ _ _)
   | (with_reducible exact ih1 _ _ _ _ _)
   | (with_reducible exact bidi_Visual.mono _ _ _)
   | (with_reducible exact formelaw09_head.mono _)
   | (with_reducible exact formeref06_Class.mono _ _)
   | (with_reducible exact formeref09_Line.mono _ _ _)
   | (with_reducible exact LeO.refl _)
   | (with_reducible exact LeO.none _)
   | (with_reducible refine LeO.ite ?_ ?_)
   | (with_reducible refine LeO.bind ?_ (fun _ => ?_))
   | exact ih0 _ _ _ _ _
   | exact ih1 _ _ _ _ _
   | exact bidi_Visual.mono _ _ _
   | exact formelaw09_head.mono _
   | exact formeref06_Class.mono _ _
   | exact formeref09_Line.mono _ _ _
   | exact LeO.none _
   | refine LeO.ite ?_ ?_
   | refine LeO.bind ?_ (fun _ => ?_)
  ·
   intro y0 y1 y2 y3 y4
   unfold formelaw09_BidiParts.j1
   repeat' first
   | (with_reducible exact ih0 _ _ _ _ _)
   | (with_reducible exact ih1 _ _ _ _ _)
   | (with_reducible exact bidi_Visual.mono _ _ _)
   | (with_reducible exact formelaw09_head.mono _)
   | (with_reducible exact formeref06_Class.mono _ _)
   | (with_reducible exact formeref09_Line.mono _ _ _)
   | (with_reducible exact LeO.refl _)
   | (with_reducible exact LeO.none _)
   | (with_reducible refine LeO.ite ?_ ?_)
   | (with_reducible refine LeO.bind ?_ (fun _ => ?_))
   | exact ih0 _ _ _ _ _
   | exact ih1 _ _ _ _ _
   | exact bidi_Visual.mono _ _ _
   | exact formelaw09_head.mono _
   | exact formeref06_Class.mono _ _
   | exact formeref09_Line.mono _ _ _
   | exact LeO.none _
   | refine LeO.ite ?_ ?_
   | refine LeO.bind ?_ (fun _ => ?_)
theorem formelaw09_BidiParts.mono : ∀ a0 a1 a2 k, LeO (formelaw09_BidiParts.f k a0 a1 a2) (formelaw09_BidiParts.f (k + 1) a0 a1 a2) := by
 intro a0 a1 a2 k
 obtain ⟨ih0, ih1⟩ := formelaw09_BidiParts.mono_l k
 unfold formelaw09_BidiParts.f
 repeat' first
   | (with_reducible exact ih0 _ _ _ _ _)
   | (with_reducible exact ih1 _ _ _ _ _)
   | (with_reducible exact bidi_Visual.mono _ _ _)
   | (with_reducible exact formelaw09_head.mono _)
   | (with_reducible exact formeref06_Class.mono _ _)
   | (with_reducible exact formeref09_Line.mono _ _ _)
   | (with_reducible exact LeO.refl _)
   | (with_reducible exact LeO.none _)
   | (with_reducible refine LeO.ite ?_ ?_)
   | (with_reducible refine LeO.bind ?_ (fun _ => ?_))
   | exact ih0 _ _ _ _ _
   | exact ih1 _ _ _ _ _
   | exact bidi_Visual.mono _ _ _
   | exact formelaw09_head.mono _
   | exact formeref06_Class.mono _ _
   | exact formeref09_Line.mono _ _ _
   | exact LeO.none _
   | refine LeO.ite ?_ ?_
   | refine LeO.bind ?_ (fun _ => ?_)
set_option maxHeartbeats 8000000 in
set_option maxRecDepth 100000 in
theorem formelaw09_BidiParts.calls (k : Nat) (a0 : ByteArray) (a1 : ByteArray) (a2 : Int) (r : Bool) (w : World) (h : formelaw09_BidiParts.f k a0 a1 a2 = some r) :
  Calls Try.prog 8 #[.string a0, .string a1, .int .i64 a2] w fun e w' => e = .returned (.bool r) ∧ Below w.heap.size w w' := by
 have HB := Aside0.mk (Below.refl w.heap.size w)
 have H : ((formelaw09_head.f k).bind fun t317 => (if t317 = true then (if (a0.size : Int) > 150 then (formelaw09_BidiParts.j0 k a0 a1 a2 true true) else (if (a1.size : Int) > 150 then (formelaw09_BidiParts.j0 k a0 a1 a2 true true) else ((formeref09_Line.f k a0 a2).bind fun t318 => (if t318 = true then ((formeref09_Line.f k a1 a2).bind fun t319 => (if t319 = true then (if (a0.size : Int) = 0 then (formelaw09_BidiParts.j0 k a0 a1 a2 true true) else (formelaw09_BidiParts.j0 k a0 a1 a2 true ((a1.size : Int) == 0))) else (formelaw09_BidiParts.j0 k a0 a1 a2 true true))) else (formelaw09_BidiParts.j0 k a0 a1 a2 true true))))) else (none))) = some r := h
 clear h
 replace H := Option.bind_eq_some_iff.mp H
 obtain ⟨t317, A40, H⟩ := H
 replace H : (if t317 = true then (if (a0.size : Int) > 150 then (formelaw09_BidiParts.j0 k a0 a1 a2 true true) else (if (a1.size : Int) > 150 then (formelaw09_BidiParts.j0 k a0 a1 a2 true true) else ((formeref09_Line.f k a0 a2).bind fun t318 => (if t318 = true then ((formeref09_Line.f k a1 a2).bind fun t319 => (if t319 = true then (if (a0.size : Int) = 0 then (formelaw09_BidiParts.j0 k a0 a1 a2 true true) else (formelaw09_BidiParts.j0 k a0 a1 a2 true ((a1.size : Int) == 0))) else (formelaw09_BidiParts.j0 k a0 a1 a2 true true))) else (formelaw09_BidiParts.j0 k a0 a1 a2 true true))))) else (none)) = some r := H
 have A4 := Aside0.mk A40
 clear A40
 by_cases c5 : t317 = true
 ·
  subst c5
  have H1 : (if (a0.size : Int) > 150 then (formelaw09_BidiParts.j0 k a0 a1 a2 true true) else (if (a1.size : Int) > 150 then (formelaw09_BidiParts.j0 k a0 a1 a2 true true) else ((formeref09_Line.f k a0 a2).bind fun t318 => (if t318 = true then ((formeref09_Line.f k a1 a2).bind fun t319 => (if t319 = true then (if (a0.size : Int) = 0 then (formelaw09_BidiParts.j0 k a0 a1 a2 true true) else (formelaw09_BidiParts.j0 k a0 a1 a2 true ((a1.size : Int) == 0))) else (formelaw09_BidiParts.j0 k a0 a1 a2 true true))) else (formelaw09_BidiParts.j0 k a0 a1 a2 true true))))) = some r := by rw [if_pos rfl] at H; exact H
  clear H
  have H := H1
  clear H1
  have HC6 := Aside0.mk H
  clear H
  go_enter Try.func8, Try.ntmps8
  go_upto_region 2 with (first | ((with_reducible refine gate_callee (f := 10) rfl ?_); refine goesL_ (some 15) rfl rfl Try.func10 (by kernel_rfl) rfl #[] rfl (by (try simp only [List.map_toArray, List.map_cons, List.map_nil]); first | done | rfl | (simp only [List.length_drop, List.length_take]; rfl)) ?_; (with_reducible refine (formelaw09_head.calls k  true _ A4.out).mono ?_); rintro e w7 ⟨rfl, hb⟩; refine ⟨_, rfl, ?_⟩; have n0_ := Aside0.mk (below_step (by repeat (first | (with_reducible first | exact HB.out | apply below_alloc | apply pw_below_drewN | apply below_drew1) | exact HB.out)) hb); clear HB; have HB := n0_; clear n0_; (try clear hb); (try clear hb2); (try clear hk); (try clear hi)))
  (try simp only [Act.put, List.setIfInBounds_toArray, List.set_cons_zero, List.set_cons_succ])
  go_cut [45] (fun v45 wc => ∃ (kq : Nat) (x45_5 : Bool), v45 = .bool x45_5 ∧ Aside0 (formelaw09_BidiParts.j0 kq a0 a1 a2 true x45_5 = some r) ∧ Aside0 (kq ≤ k) ∧ Aside0 (Below w.heap.size w wc))
  case first =>
   have H := HC6.out
   clear HC6
   by_cases c8 : (a0.size : Int) > 150
   ·
    rw [if_pos c8] at H
    have c8b0 : decide (150 < (a0.size : Int)) = true := decide_eq_true c8
    have c8b1 : decide (150 < a0.size) = true := decide_eq_true (by omega)
    clear c8
    (first | rw [c8b0] | (simp only [i64_w, i32_w]; rw [c8b0]) | skip)
    have H' := Aside0.mk H
    clear H
    go_wp2
    go_meet
    case rel => exact ⟨_, (true), (by first | rfl | (simp; done) | (simp [*]; done)), H', ⟨by first | omega | exact Nat.le_refl _⟩, ⟨by repeat (first | (with_reducible first | exact HB.out | apply below_alloc | apply pw_below_drewN | apply below_drew1) | exact HB.out)⟩⟩
   ·
    rw [if_neg c8] at H
    have c8b0 : decide (150 < (a0.size : Int)) = false := decide_eq_false c8
    have c8b1 : decide (150 < a0.size) = false := decide_eq_false (by omega)
    clear c8
    (first | rw [c8b0] | (simp only [i64_w, i32_w]; rw [c8b0]) | skip)
    by_cases c9 : (a1.size : Int) > 150
    ·
     rw [if_pos c9] at H
     have c9b0 : decide (150 < (a1.size : Int)) = true := decide_eq_true c9
     have c9b1 : decide (150 < a1.size) = true := decide_eq_true (by omega)
     clear c9
     have H' := Aside0.mk H
     clear H
     go_wp2
     go_meet
     case rel => exact ⟨_, (true), (by first | rfl | (simp; done) | (simp [*]; done)), H', ⟨by first | omega | exact Nat.le_refl _⟩, ⟨by repeat (first | (with_reducible first | exact HB.out | apply below_alloc | apply pw_below_drewN | apply below_drew1) | exact HB.out)⟩⟩
    ·
     rw [if_neg c9] at H
     have c9b0 : decide (150 < (a1.size : Int)) = false := decide_eq_false c9
     have c9b1 : decide (150 < a1.size) = false := decide_eq_false (by omega)
     clear c9
     replace H := Option.bind_eq_some_iff.mp H
     obtain ⟨t318, A100, H⟩ := H
     replace H : (if t318 = true then ((formeref09_Line.f k a1 a2).bind fun t319 => (if t319 = true then (if (a0.size : Int) = 0 then (formelaw09_BidiParts.j0 k a0 a1 a2 true true) else (formelaw09_BidiParts.j0 k a0 a1 a2 true ((a1.size : Int) == 0))) else (formelaw09_BidiParts.j0 k a0 a1 a2 true true))) else (formelaw09_BidiParts.j0 k a0 a1 a2 true true)) = some r := H
     have A10 := Aside0.mk A100
     clear A100
     by_cases c11 : t318 = true
     ·
      subst c11
      have H1 : ((formeref09_Line.f k a1 a2).bind fun t319 => (if t319 = true then (if (a0.size : Int) = 0 then (formelaw09_BidiParts.j0 k a0 a1 a2 true true) else (formelaw09_BidiParts.j0 k a0 a1 a2 true ((a1.size : Int) == 0))) else (formelaw09_BidiParts.j0 k a0 a1 a2 true true))) = some r := by rw [if_pos rfl] at H; exact H
      clear H
      have H := H1
      clear H1
      replace H := Option.bind_eq_some_iff.mp H
      obtain ⟨t319, A120, H⟩ := H
      replace H : (if t319 = true then (if (a0.size : Int) = 0 then (formelaw09_BidiParts.j0 k a0 a1 a2 true true) else (formelaw09_BidiParts.j0 k a0 a1 a2 true ((a1.size : Int) == 0))) else (formelaw09_BidiParts.j0 k a0 a1 a2 true true)) = some r := H
      have A12 := Aside0.mk A120
      clear A120
      by_cases c13 : t319 = true
      ·
       subst c13
       have H1 : (if (a0.size : Int) = 0 then (formelaw09_BidiParts.j0 k a0 a1 a2 true true) else (formelaw09_BidiParts.j0 k a0 a1 a2 true ((a1.size : Int) == 0))) = some r := by rw [if_pos rfl] at H; exact H
       clear H
       have H := H1
       clear H1
       by_cases c14 : (a0.size : Int) = 0
       ·
        rw [if_pos c14] at H
        have c14b0 : ((a0.size : Int) == 0) = true := beq_iff_eq.mpr c14
        have c14b1 : ((a0.size : Int) != 0) = false := bne_eq_false_iff_eq.mpr c14
        clear c14
        have H' := Aside0.mk H
        clear H
        go_wp2_with (first | (go_at_call 18; (with_reducible refine (formeref09_Line.calls k a0 a2 true _ A10.out).mono ?_); rintro e w' ⟨rfl, ⟨nd, rfl⟩⟩) | (go_at_call 18; (with_reducible refine (formeref09_Line.calls k a1 a2 true _ A12.out).mono ?_); rintro e w' ⟨rfl, ⟨nd, rfl⟩⟩))
        go_meet
        case rel => exact ⟨_, (true), (by first | rfl | (simp; done) | (simp [*]; done)), H', ⟨by first | omega | exact Nat.le_refl _⟩, ⟨by repeat (first | (with_reducible first | exact HB.out | apply below_alloc | apply pw_below_drewN | apply below_drew1) | exact HB.out)⟩⟩
       ·
        rw [if_neg c14] at H
        have c14b0 : ((a0.size : Int) == 0) = false := beq_eq_false_iff_ne.mpr c14
        have c14b1 : ((a0.size : Int) != 0) = true := bne_iff_ne.mpr c14
        have H' := Aside0.mk H
        clear H
        go_wp2_with (first | (go_at_call 18; (with_reducible refine (formeref09_Line.calls k a0 a2 true _ A10.out).mono ?_); rintro e w' ⟨rfl, ⟨nd, rfl⟩⟩) | (go_at_call 18; (with_reducible refine (formeref09_Line.calls k a1 a2 true _ A12.out).mono ?_); rintro e w' ⟨rfl, ⟨nd, rfl⟩⟩))
        go_meet
        case rel => exact ⟨_, (((a1.size : Int) == 0)), (by first | rfl | (simp; done) | (simp [*]; done)), H', ⟨by first | omega | exact Nat.le_refl _⟩, ⟨by repeat (first | (with_reducible first | exact HB.out | apply below_alloc | apply pw_below_drewN | apply below_drew1) | exact HB.out)⟩⟩
      ·
       replace c13 := Bool.eq_false_iff.mpr c13
       subst c13
       have H1 : (formelaw09_BidiParts.j0 k a0 a1 a2 true true) = some r := by rw [if_neg (show ¬ (false = true) by decide)] at H; exact H
       clear H
       have H := H1
       clear H1
       have H' := Aside0.mk H
       clear H
       go_wp2_with (first | (go_at_call 18; (with_reducible refine (formeref09_Line.calls k a0 a2 true _ A10.out).mono ?_); rintro e w' ⟨rfl, ⟨nd, rfl⟩⟩) | (go_at_call 18; (with_reducible refine (formeref09_Line.calls k a1 a2 false _ A12.out).mono ?_); rintro e w' ⟨rfl, ⟨nd, rfl⟩⟩))
       go_meet
       case rel => exact ⟨_, (true), (by first | rfl | (simp; done) | (simp [*]; done)), H', ⟨by first | omega | exact Nat.le_refl _⟩, ⟨by repeat (first | (with_reducible first | exact HB.out | apply below_alloc | apply pw_below_drewN | apply below_drew1) | exact HB.out)⟩⟩
     ·
      replace c11 := Bool.eq_false_iff.mpr c11
      subst c11
      have H1 : (formelaw09_BidiParts.j0 k a0 a1 a2 true true) = some r := by rw [if_neg (show ¬ (false = true) by decide)] at H; exact H
      clear H
      have H := H1
      clear H1
      have H' := Aside0.mk H
      clear H
      go_wp2_with (first | (go_at_call 18; (with_reducible refine (formeref09_Line.calls k a0 a2 false _ A10.out).mono ?_); rintro e w' ⟨rfl, ⟨nd, rfl⟩⟩))
      go_meet
      case rel => exact ⟨_, (true), (by first | rfl | (simp; done) | (simp [*]; done)), H', ⟨by first | omega | exact Nat.le_refl _⟩, ⟨by repeat (first | (with_reducible first | exact HB.out | apply below_alloc | apply pw_below_drewN | apply below_drew1) | exact HB.out)⟩⟩
  case rest =>
   clear HC6
   try clear c1
   try clear p2
   try clear c5
   try clear c8
   try clear c8b0
   try clear c8b1
   try clear c9
   try clear c9b0
   try clear c9b1
   try clear c10
   try clear c11
   try clear c13
   try clear c14
   try clear c14b0
   try clear c14b1
   obtain ⟨kq, x45_5, rfl, HA, HJ5, HB⟩ := hcut
   cases kq with
   | zero => exact absurd HA.out (by simp [formelaw09_BidiParts.j0])
   | succ kj5 =>
    have H := HA.out
    clear HA
    simp only [formelaw09_BidiParts.j0] at H
    by_cases c15 : x45_5 = true
    ·
     subst c15
     have H1 : (some true) = some r := by rw [if_pos rfl] at H; exact H
     clear H
     have H := H1
     clear H1
     obtain rfl := Option.some.inj H
     go_wp2
     go_ret
     exact ⟨by first | rfl | (simp [errW_none, errW_some] <;> rfl) | (simp [*, errW_none, errW_some] <;> rfl), by repeat (first | (with_reducible first | exact HB.out | apply below_alloc | apply pw_below_drewN | apply below_drew1) | exact HB.out)⟩
    ·
     replace c15 := Bool.eq_false_iff.mpr c15
     subst c15
     have H1 : (if 0 ≤ (wrap64 ((a0.size : Int) - 1)) then (if (wrap64 ((a0.size : Int) - 1)) < (a0.size : Int) then ((formeref06_Class.f kj5 (bt a0 (wrap64 ((a0.size : Int) - 1)))).bind fun t320 => (if t320 = (wrap64 (1 + a2)) then (if 0 < (a1.size : Int) then ((formeref06_Class.f kj5 (bt a1 0)).bind fun t321 => (formelaw09_BidiParts.j1 kj5 a0 a1 a2 true (t321 != (wrap64 (1 + a2))))) else (none)) else (formelaw09_BidiParts.j1 kj5 a0 a1 a2 true true))) else (none)) else (none)) = some r := by rw [if_neg (show ¬ (false = true) by decide)] at H; exact H
     clear H
     have H := H1
     clear H1
     have HC16 := Aside0.mk H
     clear H
     go_upto_region 4 with (fail)
     go_cut [63] (fun v63 wc => ∃ (kq : Nat) (x63_15 : Bool), v63 = .bool x63_15 ∧ Aside0 (formelaw09_BidiParts.j1 kq a0 a1 a2 true x63_15 = some r) ∧ Aside0 (kq ≤ kj5) ∧ Aside0 (Below w.heap.size w wc))
     case first =>
      have H := HC16.out
      clear HC16
      obtain ⟨ji17, hji17⟩ : ∃ j_ : Int, (wrap64 ((a0.size : Int) - 1)) = j_ := ⟨_, rfl⟩
      replace H : (if 0 ≤ (ji17) then (if (ji17) < (a0.size : Int) then ((formeref06_Class.f kj5 (bt a0 (ji17))).bind fun t320 => (if t320 = (wrap64 (1 + a2)) then (if 0 < (a1.size : Int) then ((formeref06_Class.f kj5 (bt a1 0)).bind fun t321 => (formelaw09_BidiParts.j1 kj5 a0 a1 a2 true (t321 != (wrap64 (1 + a2))))) else (none)) else (formelaw09_BidiParts.j1 kj5 a0 a1 a2 true true))) else (none)) else (none)) = some r := by first | (rw [hji17] at H; exact H) | (simp only [hji17] at H ⊢; exact H)
      have hji17w : (IntKind.i64.wrap ((a0.size : Int) - 1)) = ji17 := (i64_w _).trans hji17
      by_cases c18 : 0 ≤ (ji17)
      ·
       rw [if_pos c18] at H
       have c18b0 : decide (0 ≤ (ji17)) = true := decide_eq_true c18
       clear c18
       (first | rw [c18b0] | (simp only [i64_w, i32_w]; rw [c18b0]) | skip)
       by_cases c19 : (ji17) < (a0.size : Int)
       ·
        rw [if_pos c19] at H
        have c19b0 : decide ((ji17) < (a0.size : Int)) = true := decide_eq_true c19
        clear c19
        replace H := Option.bind_eq_some_iff.mp H
        obtain ⟨t320, A210, H⟩ := H
        replace H : (if t320 = (wrap64 (1 + a2)) then (if 0 < (a1.size : Int) then ((formeref06_Class.f kj5 (bt a1 0)).bind fun t321 => (formelaw09_BidiParts.j1 kj5 a0 a1 a2 true (t321 != (wrap64 (1 + a2))))) else (none)) else (formelaw09_BidiParts.j1 kj5 a0 a1 a2 true true)) = some r := H
        have A21 := Aside0.mk A210
        clear A210
        by_cases c22 : t320 = (wrap64 (1 + a2))
        ·
         rw [if_pos c22] at H
         have c22b0 : (t320 == (wrap64 (1 + a2))) = true := beq_iff_eq.mpr c22
         have c22b1 : (t320 != (wrap64 (1 + a2))) = false := bne_eq_false_iff_eq.mpr c22
         clear c22
         by_cases c23 : 0 < (a1.size : Int)
         ·
          rw [if_pos c23] at H
          have c23b0 : decide (0 < (a1.size : Int)) = true := decide_eq_true c23
          have c23b1 : decide (0 < a1.size) = true := decide_eq_true (by omega)
          clear c23
          replace H := Option.bind_eq_some_iff.mp H
          obtain ⟨t321, A250, H⟩ := H
          replace H : (formelaw09_BidiParts.j1 kj5 a0 a1 a2 true (t321 != (wrap64 (1 + a2)))) = some r := H
          have A25 := Aside0.mk A250
          clear A250
          have H' := Aside0.mk H
          clear H
          have p20 : 0 ≤ ((ji17) : Int) := of_decide_eq_true (by first | (with_reducible assumption) | assumption)
          have q20 : (ji17) < (a0.size : Int) := of_decide_eq_true (by first | (with_reducible assumption) | assumption)
          have hx20 := bt_at a0 (ji17)
          replace p20 := eq_true p20
          replace q20 := eq_true q20
          go_wp2_with (first | ((with_reducible refine gate_callee (f := 22) rfl ?_); refine goesL_ (some 52) rfl rfl Try.func22 (by kernel_rfl) rfl #[.int .u8 (bt a0 (ji17))] rfl (by (try simp only [List.map_toArray, List.map_cons, List.map_nil]); first | done | (simp only [hji17]; rfl) | rfl | (simp only [List.length_drop, List.length_take]; rfl)) ?_; (with_reducible refine (formeref06_Class.calls kj5 (bt a0 (ji17)) t320 _ A21.out).mono ?_); rintro e w' ⟨rfl, ⟨nd, rfl⟩⟩; refine ⟨_, rfl, ?_⟩; have p24 : 0 ≤ (0 : Int) := (by omega); have q24 : 0 < a1.size := (by have : (0 : Int) < (a1.size : Int) := of_decide_eq_true (by first | (with_reducible assumption) | assumption); omega); have hx24 : ∀ h : 0 < a1.size, ((a1[0]'h).toNat : Int) = bt a1 0 := bt_at a1 0; clear p24; have qi24 : (0 < (a1.size : Int)) = True := eq_true (of_decide_eq_true (by first | (with_reducible assumption) | assumption)); replace q24 := eq_true q24) | (go_at_call 22; (with_reducible refine (formeref06_Class.calls kj5 (bt a1 0) t321 _ A25.out).mono ?_); rintro e w' ⟨rfl, ⟨nd, rfl⟩⟩))
          go_meet
          case rel => exact ⟨_, ((t321 != (wrap64 (1 + a2)))), (by first | rfl | (simp; done) | (simp [*]; done)), H', ⟨by have := HJ5.out; first | omega | exact Nat.le_refl _⟩, ⟨by repeat (first | (with_reducible first | exact HB.out | apply below_alloc | apply pw_below_drewN | apply below_drew1) | exact HB.out)⟩⟩
         ·
          rw [if_neg c23] at H
          exact absurd H (by simp)
        ·
         rw [if_neg c22] at H
         have c22b0 : (t320 == (wrap64 (1 + a2))) = false := beq_eq_false_iff_ne.mpr c22
         have c22b1 : (t320 != (wrap64 (1 + a2))) = true := bne_iff_ne.mpr c22
         have H' := Aside0.mk H
         clear H
         have p20 : 0 ≤ ((ji17) : Int) := of_decide_eq_true (by first | (with_reducible assumption) | assumption)
         have q20 : (ji17) < (a0.size : Int) := of_decide_eq_true (by first | (with_reducible assumption) | assumption)
         have hx20 := bt_at a0 (ji17)
         replace p20 := eq_true p20
         replace q20 := eq_true q20
         go_wp2_with (first | ((with_reducible refine gate_callee (f := 22) rfl ?_); refine goesL_ (some 52) rfl rfl Try.func22 (by kernel_rfl) rfl #[.int .u8 (bt a0 (ji17))] rfl (by (try simp only [List.map_toArray, List.map_cons, List.map_nil]); first | done | (simp only [hji17]; rfl) | rfl | (simp only [List.length_drop, List.length_take]; rfl)) ?_; (with_reducible refine (formeref06_Class.calls kj5 (bt a0 (ji17)) t320 _ A21.out).mono ?_); rintro e w' ⟨rfl, ⟨nd, rfl⟩⟩; refine ⟨_, rfl, ?_⟩))
         go_meet
         case rel => exact ⟨_, (true), (by first | rfl | (simp; done) | (simp [*]; done)), H', ⟨by have := HJ5.out; first | omega | exact Nat.le_refl _⟩, ⟨by repeat (first | (with_reducible first | exact HB.out | apply below_alloc | apply pw_below_drewN | apply below_drew1) | exact HB.out)⟩⟩
       ·
        rw [if_neg c19] at H
        exact absurd H (by simp)
      ·
       rw [if_neg c18] at H
       exact absurd H (by simp)
     case rest =>
      clear HC16
      try clear c1
      try clear c2
      try clear p2
      try clear q2
      try clear hx2
      try clear qi2
      try clear c5
      try clear p6
      try clear c8
      try clear c8b0
      try clear c8b1
      try clear c9
      try clear c9b0
      try clear c9b1
      try clear c10
      try clear c11
      try clear c13
      try clear c14
      try clear c14b0
      try clear c14b1
      try clear c15
      try clear c18
      try clear c18b0
      try clear c19
      try clear c19b0
      try clear p20
      try clear q20
      try clear hx20
      try clear c22
      try clear c22b0
      try clear c22b1
      try clear c23
      try clear c23b0
      try clear c23b1
      try clear p24
      try clear q24
      try clear hx24
      try clear qi24
      try clear p2
      try clear p20
      try clear p24
      try clear q20
      try clear q24
      obtain ⟨kq, x63_15, rfl, HA, HJ15, HB⟩ := hcut
      cases kq with
      | zero => exact absurd HA.out (by simp [formelaw09_BidiParts.j1])
      | succ kj15 =>
       have H := HA.out
       clear HA
       simp only [formelaw09_BidiParts.j1] at H
       by_cases c26 : x63_15 = true
       ·
        subst c26
        have H1 : (some true) = some r := by rw [if_pos rfl] at H; exact H
        clear H
        have H := H1
        clear H1
        obtain rfl := Option.some.inj H
        go_wp2
        go_ret
        exact ⟨by first | rfl | (simp [errW_none, errW_some] <;> rfl) | (simp [*, errW_none, errW_some] <;> rfl), by repeat (first | (with_reducible first | exact HB.out | apply below_alloc | apply pw_below_drewN | apply below_drew1) | exact HB.out)⟩
       ·
        replace c26 := Bool.eq_false_iff.mpr c26
        subst c26
        have H1 : ((bidi_Visual.f kj15 a0 a2).bind fun bt322 => ((bidi_Visual.f kj15 a1 a2).bind fun bt324 => (if a0.size + a1.size ≤ 9223372036854775807 then ((bidi_Visual.f kj15 (a0 ++ a1) a2).bind fun bt326 => (if bt322.1.size + bt324.1.size ≤ 9223372036854775807 then (if a2 = 1 then (if bt324.1.size + bt322.1.size ≤ 9223372036854775807 then (if true = true then (if bt322.2 = 0 then (if bt324.2 = 0 then (if bt326.2 = 0 then (some (bt326.1.toList == (bt324.1 ++ bt322.1).toList)) else (some false)) else (some false)) else (some false)) else (some false)) else (none)) else (if true = true then (if bt322.2 = 0 then (if bt324.2 = 0 then (if bt326.2 = 0 then (some (bt326.1.toList == (bt322.1 ++ bt324.1).toList)) else (some false)) else (some false)) else (some false)) else (some false))) else (none))) else (none)))) = some r := by rw [if_neg (show ¬ (false = true) by decide)] at H; exact H
        clear H
        have H := H1
        clear H1
        replace H := Option.bind_eq_some_iff.mp H
        obtain ⟨⟨t322, t323⟩, A270, H⟩ := H
        replace H : ((bidi_Visual.f kj15 a1 a2).bind fun bt324 => (if a0.size + a1.size ≤ 9223372036854775807 then ((bidi_Visual.f kj15 (a0 ++ a1) a2).bind fun bt326 => (if t322.size + bt324.1.size ≤ 9223372036854775807 then (if a2 = 1 then (if bt324.1.size + t322.size ≤ 9223372036854775807 then (if true = true then (if t323 = 0 then (if bt324.2 = 0 then (if bt326.2 = 0 then (some (bt326.1.toList == (bt324.1 ++ t322).toList)) else (some false)) else (some false)) else (some false)) else (some false)) else (none)) else (if true = true then (if t323 = 0 then (if bt324.2 = 0 then (if bt326.2 = 0 then (some (bt326.1.toList == (t322 ++ bt324.1).toList)) else (some false)) else (some false)) else (some false)) else (some false))) else (none))) else (none))) = some r := H
        have A27 := Aside0.mk A270
        clear A270
        replace H := Option.bind_eq_some_iff.mp H
        obtain ⟨⟨t324, t325⟩, A280, H⟩ := H
        replace H : (if a0.size + a1.size ≤ 9223372036854775807 then ((bidi_Visual.f kj15 (a0 ++ a1) a2).bind fun bt326 => (if t322.size + t324.size ≤ 9223372036854775807 then (if a2 = 1 then (if t324.size + t322.size ≤ 9223372036854775807 then (if true = true then (if t323 = 0 then (if t325 = 0 then (if bt326.2 = 0 then (some (bt326.1.toList == (t324 ++ t322).toList)) else (some false)) else (some false)) else (some false)) else (some false)) else (none)) else (if true = true then (if t323 = 0 then (if t325 = 0 then (if bt326.2 = 0 then (some (bt326.1.toList == (t322 ++ t324).toList)) else (some false)) else (some false)) else (some false)) else (some false))) else (none))) else (none)) = some r := H
        have A28 := Aside0.mk A280
        clear A280
        by_cases c29 : a0.size + a1.size ≤ 9223372036854775807
        ·
         rw [if_pos c29] at H
         have c29b0 := eq_true c29
         have c29b1 : decide (a0.size + a1.size ≤ 9223372036854775807) = true := decide_eq_true c29
         try have c29b2 : (9223372036854775807 < a0.size + a1.size) = False := eq_false (Nat.not_lt.2 c29)
         replace H := Option.bind_eq_some_iff.mp H
         obtain ⟨⟨t326, t327⟩, A300, H⟩ := H
         replace H : (if t322.size + t324.size ≤ 9223372036854775807 then (if a2 = 1 then (if t324.size + t322.size ≤ 9223372036854775807 then (if true = true then (if t323 = 0 then (if t325 = 0 then (if t327 = 0 then (some (t326.toList == (t324 ++ t322).toList)) else (some false)) else (some false)) else (some false)) else (some false)) else (none)) else (if true = true then (if t323 = 0 then (if t325 = 0 then (if t327 = 0 then (some (t326.toList == (t322 ++ t324).toList)) else (some false)) else (some false)) else (some false)) else (some false))) else (none)) = some r := H
         have A30 := Aside0.mk A300
         clear A300
         by_cases c31 : t322.size + t324.size ≤ 9223372036854775807
         ·
          rw [if_pos c31] at H
          have c31b0 := eq_true c31
          have c31b1 : decide (t322.size + t324.size ≤ 9223372036854775807) = true := decide_eq_true c31
          try have c31b2 : (9223372036854775807 < t322.size + t324.size) = False := eq_false (Nat.not_lt.2 c31)
          by_cases c32 : a2 = 1
          ·
           rw [if_pos c32] at H
           have c32b0 : (a2 == 1) = true := beq_iff_eq.mpr c32
           have c32b1 : (a2 != 1) = false := bne_eq_false_iff_eq.mpr c32
           clear c32
           by_cases c33 : t324.size + t322.size ≤ 9223372036854775807
           ·
            rw [if_pos c33] at H
            have c33b0 := eq_true c33
            have c33b1 : decide (t324.size + t322.size ≤ 9223372036854775807) = true := decide_eq_true c33
            try have c33b2 : (9223372036854775807 < t324.size + t322.size) = False := eq_false (Nat.not_lt.2 c33)
            (first | rw [if_pos (rfl : true = true)] at H | rw [if_pos True.intro] at H)
            by_cases c34 : t323 = 0
            ·
             rw [if_pos c34] at H
             have c34b0 : (t323 == 0) = true := beq_iff_eq.mpr c34
             have c34b1 : (t323 != 0) = false := bne_eq_false_iff_eq.mpr c34
             clear c34
             by_cases c35 : t325 = 0
             ·
              rw [if_pos c35] at H
              have c35b0 : (t325 == 0) = true := beq_iff_eq.mpr c35
              have c35b1 : (t325 != 0) = false := bne_eq_false_iff_eq.mpr c35
              clear c35
              by_cases c36 : t327 = 0
              ·
               rw [if_pos c36] at H
               have c36b0 : (t327 == 0) = true := beq_iff_eq.mpr c36
               have c36b1 : (t327 != 0) = false := bne_eq_false_iff_eq.mpr c36
               clear c36
               obtain rfl := Option.some.inj H
               go_wp2_with (first | ((with_reducible refine gate_callee (f := 16) rfl ?_); refine goesL_ (some 68) rfl rfl Try.func16 (by kernel_rfl) rfl #[.string a0, .int .i64 a2] rfl (by (try simp only [List.map_toArray, List.map_cons, List.map_nil]); first | done | rfl | (simp only [List.length_drop, List.length_take]; rfl)) ?_; (with_reducible refine (bidi_Visual.calls kj15 a0 a2 t322 t323 _ A27.out).mono ?_); rintro e w37 ⟨rfl, hb⟩; refine ⟨_, rfl, ?_⟩; have n0_ := Aside0.mk (below_step (by repeat (first | (with_reducible first | exact HB.out | apply below_alloc | apply pw_below_drewN | apply below_drew1) | exact HB.out)) hb); clear HB; have HB := n0_; clear n0_; (try clear hb); (try clear hb2); (try clear hk); (try clear hi)) | ((with_reducible refine gate_callee (f := 16) rfl ?_); refine goesL_ (some 74) rfl rfl Try.func16 (by kernel_rfl) rfl #[.string a1, .int .i64 a2] rfl (by (try simp only [List.map_toArray, List.map_cons, List.map_nil]); first | done | rfl | (simp only [List.length_drop, List.length_take]; rfl)) ?_; (with_reducible refine (bidi_Visual.calls kj15 a1 a2 t324 t325 _ A28.out).mono ?_); rintro e w38 ⟨rfl, hb⟩; refine ⟨_, rfl, ?_⟩; have n0_ := Aside0.mk (below_step (by repeat (first | (with_reducible first | exact HB.out | apply below_alloc | apply pw_below_drewN | apply below_drew1) | exact HB.out)) hb); clear HB; have HB := n0_; clear n0_; (try clear hb); (try clear hb2); (try clear hk); (try clear hi)) | ((with_reducible refine gate_callee (f := 16) rfl ?_); refine goesL_ (some 82) rfl rfl Try.func16 (by kernel_rfl) rfl #[.string (a0 ++ a1), .int .i64 a2] rfl (by (try simp only [List.map_toArray, List.map_cons, List.map_nil]); first | done | rfl | (simp only [List.length_drop, List.length_take]; rfl)) ?_; (with_reducible refine (bidi_Visual.calls kj15 (a0 ++ a1) a2 t326 t327 _ A30.out).mono ?_); rintro e w39 ⟨rfl, hb⟩; refine ⟨_, rfl, ?_⟩; have n0_ := Aside0.mk (below_step (by repeat (first | (with_reducible first | exact HB.out | apply below_alloc | apply pw_below_drewN | apply below_drew1) | exact HB.out)) hb); clear HB; have HB := n0_; clear n0_; (try clear hb); (try clear hb2); (try clear hk); (try clear hi)))
               go_ret
               exact ⟨by first | rfl | (simp [errW_none, errW_some] <;> rfl) | (simp [*, errW_none, errW_some] <;> rfl), by repeat (first | (with_reducible first | exact HB.out | apply below_alloc | apply pw_below_drewN | apply below_drew1) | exact HB.out)⟩
              ·
               rw [if_neg c36] at H
               have c36b0 : (t327 == 0) = false := beq_eq_false_iff_ne.mpr c36
               have c36b1 : (t327 != 0) = true := bne_iff_ne.mpr c36
               obtain rfl := Option.some.inj H
               go_wp2_with (first | ((with_reducible refine gate_callee (f := 16) rfl ?_); refine goesL_ (some 68) rfl rfl Try.func16 (by kernel_rfl) rfl #[.string a0, .int .i64 a2] rfl (by (try simp only [List.map_toArray, List.map_cons, List.map_nil]); first | done | rfl | (simp only [List.length_drop, List.length_take]; rfl)) ?_; (with_reducible refine (bidi_Visual.calls kj15 a0 a2 t322 t323 _ A27.out).mono ?_); rintro e w40 ⟨rfl, hb⟩; refine ⟨_, rfl, ?_⟩; have n0_ := Aside0.mk (below_step (by repeat (first | (with_reducible first | exact HB.out | apply below_alloc | apply pw_below_drewN | apply below_drew1) | exact HB.out)) hb); clear HB; have HB := n0_; clear n0_; (try clear hb); (try clear hb2); (try clear hk); (try clear hi)) | ((with_reducible refine gate_callee (f := 16) rfl ?_); refine goesL_ (some 74) rfl rfl Try.func16 (by kernel_rfl) rfl #[.string a1, .int .i64 a2] rfl (by (try simp only [List.map_toArray, List.map_cons, List.map_nil]); first | done | rfl | (simp only [List.length_drop, List.length_take]; rfl)) ?_; (with_reducible refine (bidi_Visual.calls kj15 a1 a2 t324 t325 _ A28.out).mono ?_); rintro e w41 ⟨rfl, hb⟩; refine ⟨_, rfl, ?_⟩; have n0_ := Aside0.mk (below_step (by repeat (first | (with_reducible first | exact HB.out | apply below_alloc | apply pw_below_drewN | apply below_drew1) | exact HB.out)) hb); clear HB; have HB := n0_; clear n0_; (try clear hb); (try clear hb2); (try clear hk); (try clear hi)) | ((with_reducible refine gate_callee (f := 16) rfl ?_); refine goesL_ (some 82) rfl rfl Try.func16 (by kernel_rfl) rfl #[.string (a0 ++ a1), .int .i64 a2] rfl (by (try simp only [List.map_toArray, List.map_cons, List.map_nil]); first | done | rfl | (simp only [List.length_drop, List.length_take]; rfl)) ?_; (with_reducible refine (bidi_Visual.calls kj15 (a0 ++ a1) a2 t326 t327 _ A30.out).mono ?_); rintro e w42 ⟨rfl, hb⟩; refine ⟨_, rfl, ?_⟩; have n0_ := Aside0.mk (below_step (by repeat (first | (with_reducible first | exact HB.out | apply below_alloc | apply pw_below_drewN | apply below_drew1) | exact HB.out)) hb); clear HB; have HB := n0_; clear n0_; (try clear hb); (try clear hb2); (try clear hk); (try clear hi)))
               go_ret
               exact ⟨by first | rfl | (simp [errW_none, errW_some] <;> rfl) | (simp [*, errW_none, errW_some] <;> rfl), by repeat (first | (with_reducible first | exact HB.out | apply below_alloc | apply pw_below_drewN | apply below_drew1) | exact HB.out)⟩
             ·
              rw [if_neg c35] at H
              have c35b0 : (t325 == 0) = false := beq_eq_false_iff_ne.mpr c35
              have c35b1 : (t325 != 0) = true := bne_iff_ne.mpr c35
              obtain rfl := Option.some.inj H
              go_wp2_with (first | ((with_reducible refine gate_callee (f := 16) rfl ?_); refine goesL_ (some 68) rfl rfl Try.func16 (by kernel_rfl) rfl #[.string a0, .int .i64 a2] rfl (by (try simp only [List.map_toArray, List.map_cons, List.map_nil]); first | done | rfl | (simp only [List.length_drop, List.length_take]; rfl)) ?_; (with_reducible refine (bidi_Visual.calls kj15 a0 a2 t322 t323 _ A27.out).mono ?_); rintro e w43 ⟨rfl, hb⟩; refine ⟨_, rfl, ?_⟩; have n0_ := Aside0.mk (below_step (by repeat (first | (with_reducible first | exact HB.out | apply below_alloc | apply pw_below_drewN | apply below_drew1) | exact HB.out)) hb); clear HB; have HB := n0_; clear n0_; (try clear hb); (try clear hb2); (try clear hk); (try clear hi)) | ((with_reducible refine gate_callee (f := 16) rfl ?_); refine goesL_ (some 74) rfl rfl Try.func16 (by kernel_rfl) rfl #[.string a1, .int .i64 a2] rfl (by (try simp only [List.map_toArray, List.map_cons, List.map_nil]); first | done | rfl | (simp only [List.length_drop, List.length_take]; rfl)) ?_; (with_reducible refine (bidi_Visual.calls kj15 a1 a2 t324 t325 _ A28.out).mono ?_); rintro e w44 ⟨rfl, hb⟩; refine ⟨_, rfl, ?_⟩; have n0_ := Aside0.mk (below_step (by repeat (first | (with_reducible first | exact HB.out | apply below_alloc | apply pw_below_drewN | apply below_drew1) | exact HB.out)) hb); clear HB; have HB := n0_; clear n0_; (try clear hb); (try clear hb2); (try clear hk); (try clear hi)) | ((with_reducible refine gate_callee (f := 16) rfl ?_); refine goesL_ (some 82) rfl rfl Try.func16 (by kernel_rfl) rfl #[.string (a0 ++ a1), .int .i64 a2] rfl (by (try simp only [List.map_toArray, List.map_cons, List.map_nil]); first | done | rfl | (simp only [List.length_drop, List.length_take]; rfl)) ?_; (with_reducible refine (bidi_Visual.calls kj15 (a0 ++ a1) a2 t326 t327 _ A30.out).mono ?_); rintro e w45 ⟨rfl, hb⟩; refine ⟨_, rfl, ?_⟩; have n0_ := Aside0.mk (below_step (by repeat (first | (with_reducible first | exact HB.out | apply below_alloc | apply pw_below_drewN | apply below_drew1) | exact HB.out)) hb); clear HB; have HB := n0_; clear n0_; (try clear hb); (try clear hb2); (try clear hk); (try clear hi)))
              go_ret
              exact ⟨by first | rfl | (simp [errW_none, errW_some] <;> rfl) | (simp [*, errW_none, errW_some] <;> rfl), by repeat (first | (with_reducible first | exact HB.out | apply below_alloc | apply pw_below_drewN | apply below_drew1) | exact HB.out)⟩
            ·
             rw [if_neg c34] at H
             have c34b0 : (t323 == 0) = false := beq_eq_false_iff_ne.mpr c34
             have c34b1 : (t323 != 0) = true := bne_iff_ne.mpr c34
             obtain rfl := Option.some.inj H
             go_wp2_with (first | ((with_reducible refine gate_callee (f := 16) rfl ?_); refine goesL_ (some 68) rfl rfl Try.func16 (by kernel_rfl) rfl #[.string a0, .int .i64 a2] rfl (by (try simp only [List.map_toArray, List.map_cons, List.map_nil]); first | done | rfl | (simp only [List.length_drop, List.length_take]; rfl)) ?_; (with_reducible refine (bidi_Visual.calls kj15 a0 a2 t322 t323 _ A27.out).mono ?_); rintro e w46 ⟨rfl, hb⟩; refine ⟨_, rfl, ?_⟩; have n0_ := Aside0.mk (below_step (by repeat (first | (with_reducible first | exact HB.out | apply below_alloc | apply pw_below_drewN | apply below_drew1) | exact HB.out)) hb); clear HB; have HB := n0_; clear n0_; (try clear hb); (try clear hb2); (try clear hk); (try clear hi)) | ((with_reducible refine gate_callee (f := 16) rfl ?_); refine goesL_ (some 74) rfl rfl Try.func16 (by kernel_rfl) rfl #[.string a1, .int .i64 a2] rfl (by (try simp only [List.map_toArray, List.map_cons, List.map_nil]); first | done | rfl | (simp only [List.length_drop, List.length_take]; rfl)) ?_; (with_reducible refine (bidi_Visual.calls kj15 a1 a2 t324 t325 _ A28.out).mono ?_); rintro e w47 ⟨rfl, hb⟩; refine ⟨_, rfl, ?_⟩; have n0_ := Aside0.mk (below_step (by repeat (first | (with_reducible first | exact HB.out | apply below_alloc | apply pw_below_drewN | apply below_drew1) | exact HB.out)) hb); clear HB; have HB := n0_; clear n0_; (try clear hb); (try clear hb2); (try clear hk); (try clear hi)) | ((with_reducible refine gate_callee (f := 16) rfl ?_); refine goesL_ (some 82) rfl rfl Try.func16 (by kernel_rfl) rfl #[.string (a0 ++ a1), .int .i64 a2] rfl (by (try simp only [List.map_toArray, List.map_cons, List.map_nil]); first | done | rfl | (simp only [List.length_drop, List.length_take]; rfl)) ?_; (with_reducible refine (bidi_Visual.calls kj15 (a0 ++ a1) a2 t326 t327 _ A30.out).mono ?_); rintro e w48 ⟨rfl, hb⟩; refine ⟨_, rfl, ?_⟩; have n0_ := Aside0.mk (below_step (by repeat (first | (with_reducible first | exact HB.out | apply below_alloc | apply pw_below_drewN | apply below_drew1) | exact HB.out)) hb); clear HB; have HB := n0_; clear n0_; (try clear hb); (try clear hb2); (try clear hk); (try clear hi)))
             go_ret
             exact ⟨by first | rfl | (simp [errW_none, errW_some] <;> rfl) | (simp [*, errW_none, errW_some] <;> rfl), by repeat (first | (with_reducible first | exact HB.out | apply below_alloc | apply pw_below_drewN | apply below_drew1) | exact HB.out)⟩
           ·
            rw [if_neg c33] at H
            exact absurd H (by simp)
          ·
           rw [if_neg c32] at H
           have c32b0 : (a2 == 1) = false := beq_eq_false_iff_ne.mpr c32
           have c32b1 : (a2 != 1) = true := bne_iff_ne.mpr c32
           (first | rw [if_pos (rfl : true = true)] at H | rw [if_pos True.intro] at H)
           by_cases c49 : t323 = 0
           ·
            rw [if_pos c49] at H
            have c49b0 : (t323 == 0) = true := beq_iff_eq.mpr c49
            have c49b1 : (t323 != 0) = false := bne_eq_false_iff_eq.mpr c49
            clear c49
            by_cases c50 : t325 = 0
            ·
             rw [if_pos c50] at H
             have c50b0 : (t325 == 0) = true := beq_iff_eq.mpr c50
             have c50b1 : (t325 != 0) = false := bne_eq_false_iff_eq.mpr c50
             clear c50
             by_cases c51 : t327 = 0
             ·
              rw [if_pos c51] at H
              have c51b0 : (t327 == 0) = true := beq_iff_eq.mpr c51
              have c51b1 : (t327 != 0) = false := bne_eq_false_iff_eq.mpr c51
              clear c51
              obtain rfl := Option.some.inj H
              go_wp2_with (first | ((with_reducible refine gate_callee (f := 16) rfl ?_); refine goesL_ (some 68) rfl rfl Try.func16 (by kernel_rfl) rfl #[.string a0, .int .i64 a2] rfl (by (try simp only [List.map_toArray, List.map_cons, List.map_nil]); first | done | rfl | (simp only [List.length_drop, List.length_take]; rfl)) ?_; (with_reducible refine (bidi_Visual.calls kj15 a0 a2 t322 t323 _ A27.out).mono ?_); rintro e w52 ⟨rfl, hb⟩; refine ⟨_, rfl, ?_⟩; have n0_ := Aside0.mk (below_step (by repeat (first | (with_reducible first | exact HB.out | apply below_alloc | apply pw_below_drewN | apply below_drew1) | exact HB.out)) hb); clear HB; have HB := n0_; clear n0_; (try clear hb); (try clear hb2); (try clear hk); (try clear hi)) | ((with_reducible refine gate_callee (f := 16) rfl ?_); refine goesL_ (some 74) rfl rfl Try.func16 (by kernel_rfl) rfl #[.string a1, .int .i64 a2] rfl (by (try simp only [List.map_toArray, List.map_cons, List.map_nil]); first | done | rfl | (simp only [List.length_drop, List.length_take]; rfl)) ?_; (with_reducible refine (bidi_Visual.calls kj15 a1 a2 t324 t325 _ A28.out).mono ?_); rintro e w53 ⟨rfl, hb⟩; refine ⟨_, rfl, ?_⟩; have n0_ := Aside0.mk (below_step (by repeat (first | (with_reducible first | exact HB.out | apply below_alloc | apply pw_below_drewN | apply below_drew1) | exact HB.out)) hb); clear HB; have HB := n0_; clear n0_; (try clear hb); (try clear hb2); (try clear hk); (try clear hi)) | ((with_reducible refine gate_callee (f := 16) rfl ?_); refine goesL_ (some 82) rfl rfl Try.func16 (by kernel_rfl) rfl #[.string (a0 ++ a1), .int .i64 a2] rfl (by (try simp only [List.map_toArray, List.map_cons, List.map_nil]); first | done | rfl | (simp only [List.length_drop, List.length_take]; rfl)) ?_; (with_reducible refine (bidi_Visual.calls kj15 (a0 ++ a1) a2 t326 t327 _ A30.out).mono ?_); rintro e w54 ⟨rfl, hb⟩; refine ⟨_, rfl, ?_⟩; have n0_ := Aside0.mk (below_step (by repeat (first | (with_reducible first | exact HB.out | apply below_alloc | apply pw_below_drewN | apply below_drew1) | exact HB.out)) hb); clear HB; have HB := n0_; clear n0_; (try clear hb); (try clear hb2); (try clear hk); (try clear hi)))
              go_ret
              exact ⟨by first | rfl | (simp [errW_none, errW_some] <;> rfl) | (simp [*, errW_none, errW_some] <;> rfl), by repeat (first | (with_reducible first | exact HB.out | apply below_alloc | apply pw_below_drewN | apply below_drew1) | exact HB.out)⟩
             ·
              rw [if_neg c51] at H
              have c51b0 : (t327 == 0) = false := beq_eq_false_iff_ne.mpr c51
              have c51b1 : (t327 != 0) = true := bne_iff_ne.mpr c51
              obtain rfl := Option.some.inj H
              go_wp2_with (first | ((with_reducible refine gate_callee (f := 16) rfl ?_); refine goesL_ (some 68) rfl rfl Try.func16 (by kernel_rfl) rfl #[.string a0, .int .i64 a2] rfl (by (try simp only [List.map_toArray, List.map_cons, List.map_nil]); first | done | rfl | (simp only [List.length_drop, List.length_take]; rfl)) ?_; (with_reducible refine (bidi_Visual.calls kj15 a0 a2 t322 t323 _ A27.out).mono ?_); rintro e w55 ⟨rfl, hb⟩; refine ⟨_, rfl, ?_⟩; have n0_ := Aside0.mk (below_step (by repeat (first | (with_reducible first | exact HB.out | apply below_alloc | apply pw_below_drewN | apply below_drew1) | exact HB.out)) hb); clear HB; have HB := n0_; clear n0_; (try clear hb); (try clear hb2); (try clear hk); (try clear hi)) | ((with_reducible refine gate_callee (f := 16) rfl ?_); refine goesL_ (some 74) rfl rfl Try.func16 (by kernel_rfl) rfl #[.string a1, .int .i64 a2] rfl (by (try simp only [List.map_toArray, List.map_cons, List.map_nil]); first | done | rfl | (simp only [List.length_drop, List.length_take]; rfl)) ?_; (with_reducible refine (bidi_Visual.calls kj15 a1 a2 t324 t325 _ A28.out).mono ?_); rintro e w56 ⟨rfl, hb⟩; refine ⟨_, rfl, ?_⟩; have n0_ := Aside0.mk (below_step (by repeat (first | (with_reducible first | exact HB.out | apply below_alloc | apply pw_below_drewN | apply below_drew1) | exact HB.out)) hb); clear HB; have HB := n0_; clear n0_; (try clear hb); (try clear hb2); (try clear hk); (try clear hi)) | ((with_reducible refine gate_callee (f := 16) rfl ?_); refine goesL_ (some 82) rfl rfl Try.func16 (by kernel_rfl) rfl #[.string (a0 ++ a1), .int .i64 a2] rfl (by (try simp only [List.map_toArray, List.map_cons, List.map_nil]); first | done | rfl | (simp only [List.length_drop, List.length_take]; rfl)) ?_; (with_reducible refine (bidi_Visual.calls kj15 (a0 ++ a1) a2 t326 t327 _ A30.out).mono ?_); rintro e w57 ⟨rfl, hb⟩; refine ⟨_, rfl, ?_⟩; have n0_ := Aside0.mk (below_step (by repeat (first | (with_reducible first | exact HB.out | apply below_alloc | apply pw_below_drewN | apply below_drew1) | exact HB.out)) hb); clear HB; have HB := n0_; clear n0_; (try clear hb); (try clear hb2); (try clear hk); (try clear hi)))
              go_ret
              exact ⟨by first | rfl | (simp [errW_none, errW_some] <;> rfl) | (simp [*, errW_none, errW_some] <;> rfl), by repeat (first | (with_reducible first | exact HB.out | apply below_alloc | apply pw_below_drewN | apply below_drew1) | exact HB.out)⟩
            ·
             rw [if_neg c50] at H
             have c50b0 : (t325 == 0) = false := beq_eq_false_iff_ne.mpr c50
             have c50b1 : (t325 != 0) = true := bne_iff_ne.mpr c50
             obtain rfl := Option.some.inj H
             go_wp2_with (first | ((with_reducible refine gate_callee (f := 16) rfl ?_); refine goesL_ (some 68) rfl rfl Try.func16 (by kernel_rfl) rfl #[.string a0, .int .i64 a2] rfl (by (try simp only [List.map_toArray, List.map_cons, List.map_nil]); first | done | rfl | (simp only [List.length_drop, List.length_take]; rfl)) ?_; (with_reducible refine (bidi_Visual.calls kj15 a0 a2 t322 t323 _ A27.out).mono ?_); rintro e w58 ⟨rfl, hb⟩; refine ⟨_, rfl, ?_⟩; have n0_ := Aside0.mk (below_step (by repeat (first | (with_reducible first | exact HB.out | apply below_alloc | apply pw_below_drewN | apply below_drew1) | exact HB.out)) hb); clear HB; have HB := n0_; clear n0_; (try clear hb); (try clear hb2); (try clear hk); (try clear hi)) | ((with_reducible refine gate_callee (f := 16) rfl ?_); refine goesL_ (some 74) rfl rfl Try.func16 (by kernel_rfl) rfl #[.string a1, .int .i64 a2] rfl (by (try simp only [List.map_toArray, List.map_cons, List.map_nil]); first | done | rfl | (simp only [List.length_drop, List.length_take]; rfl)) ?_; (with_reducible refine (bidi_Visual.calls kj15 a1 a2 t324 t325 _ A28.out).mono ?_); rintro e w59 ⟨rfl, hb⟩; refine ⟨_, rfl, ?_⟩; have n0_ := Aside0.mk (below_step (by repeat (first | (with_reducible first | exact HB.out | apply below_alloc | apply pw_below_drewN | apply below_drew1) | exact HB.out)) hb); clear HB; have HB := n0_; clear n0_; (try clear hb); (try clear hb2); (try clear hk); (try clear hi)) | ((with_reducible refine gate_callee (f := 16) rfl ?_); refine goesL_ (some 82) rfl rfl Try.func16 (by kernel_rfl) rfl #[.string (a0 ++ a1), .int .i64 a2] rfl (by (try simp only [List.map_toArray, List.map_cons, List.map_nil]); first | done | rfl | (simp only [List.length_drop, List.length_take]; rfl)) ?_; (with_reducible refine (bidi_Visual.calls kj15 (a0 ++ a1) a2 t326 t327 _ A30.out).mono ?_); rintro e w60 ⟨rfl, hb⟩; refine ⟨_, rfl, ?_⟩; have n0_ := Aside0.mk (below_step (by repeat (first | (with_reducible first | exact HB.out | apply below_alloc | apply pw_below_drewN | apply below_drew1) | exact HB.out)) hb); clear HB; have HB := n0_; clear n0_; (try clear hb); (try clear hb2); (try clear hk); (try clear hi)))
             go_ret
             exact ⟨by first | rfl | (simp [errW_none, errW_some] <;> rfl) | (simp [*, errW_none, errW_some] <;> rfl), by repeat (first | (with_reducible first | exact HB.out | apply below_alloc | apply pw_below_drewN | apply below_drew1) | exact HB.out)⟩
           ·
            rw [if_neg c49] at H
            have c49b0 : (t323 == 0) = false := beq_eq_false_iff_ne.mpr c49
            have c49b1 : (t323 != 0) = true := bne_iff_ne.mpr c49
            obtain rfl := Option.some.inj H
            go_wp2_with (first | ((with_reducible refine gate_callee (f := 16) rfl ?_); refine goesL_ (some 68) rfl rfl Try.func16 (by kernel_rfl) rfl #[.string a0, .int .i64 a2] rfl (by (try simp only [List.map_toArray, List.map_cons, List.map_nil]); first | done | rfl | (simp only [List.length_drop, List.length_take]; rfl)) ?_; (with_reducible refine (bidi_Visual.calls kj15 a0 a2 t322 t323 _ A27.out).mono ?_); rintro e w61 ⟨rfl, hb⟩; refine ⟨_, rfl, ?_⟩; have n0_ := Aside0.mk (below_step (by repeat (first | (with_reducible first | exact HB.out | apply below_alloc | apply pw_below_drewN | apply below_drew1) | exact HB.out)) hb); clear HB; have HB := n0_; clear n0_; (try clear hb); (try clear hb2); (try clear hk); (try clear hi)) | ((with_reducible refine gate_callee (f := 16) rfl ?_); refine goesL_ (some 74) rfl rfl Try.func16 (by kernel_rfl) rfl #[.string a1, .int .i64 a2] rfl (by (try simp only [List.map_toArray, List.map_cons, List.map_nil]); first | done | rfl | (simp only [List.length_drop, List.length_take]; rfl)) ?_; (with_reducible refine (bidi_Visual.calls kj15 a1 a2 t324 t325 _ A28.out).mono ?_); rintro e w62 ⟨rfl, hb⟩; refine ⟨_, rfl, ?_⟩; have n0_ := Aside0.mk (below_step (by repeat (first | (with_reducible first | exact HB.out | apply below_alloc | apply pw_below_drewN | apply below_drew1) | exact HB.out)) hb); clear HB; have HB := n0_; clear n0_; (try clear hb); (try clear hb2); (try clear hk); (try clear hi)) | ((with_reducible refine gate_callee (f := 16) rfl ?_); refine goesL_ (some 82) rfl rfl Try.func16 (by kernel_rfl) rfl #[.string (a0 ++ a1), .int .i64 a2] rfl (by (try simp only [List.map_toArray, List.map_cons, List.map_nil]); first | done | rfl | (simp only [List.length_drop, List.length_take]; rfl)) ?_; (with_reducible refine (bidi_Visual.calls kj15 (a0 ++ a1) a2 t326 t327 _ A30.out).mono ?_); rintro e w63 ⟨rfl, hb⟩; refine ⟨_, rfl, ?_⟩; have n0_ := Aside0.mk (below_step (by repeat (first | (with_reducible first | exact HB.out | apply below_alloc | apply pw_below_drewN | apply below_drew1) | exact HB.out)) hb); clear HB; have HB := n0_; clear n0_; (try clear hb); (try clear hb2); (try clear hk); (try clear hi)))
            go_ret
            exact ⟨by first | rfl | (simp [errW_none, errW_some] <;> rfl) | (simp [*, errW_none, errW_some] <;> rfl), by repeat (first | (with_reducible first | exact HB.out | apply below_alloc | apply pw_below_drewN | apply below_drew1) | exact HB.out)⟩
         ·
          rw [if_neg c31] at H
          exact absurd H (by simp)
        ·
         rw [if_neg c29] at H
         exact absurd H (by simp)
 ·
  replace c5 := Bool.eq_false_iff.mpr c5
  subst c5
  have H1 : (none) = some r := by rw [if_neg (show ¬ (false = true) by decide)] at H; exact H
  clear H
  have H := H1
  clear H1
  exact absurd H (by simp)

/-- THE ONE PURE STATEMENT of formelaw09_BidiParts: yours. -/
def formelaw09_BidiParts.Pure : Prop := ∀ (a0 : ByteArray) (a1 : ByteArray) (a2 : Int), a0.size ≤ 140737488351232 → a1.size ≤ 140737488351232 → (Lit.int .i64 a2).wf = true → ∃ k, formelaw09_BidiParts.f k a0 a1 a2 = some true
theorem formelaw09_BidiParts.walk (P : formelaw09_BidiParts.Pure) (a0 : ByteArray) (a1 : ByteArray) (a2 : Int) (w : World) (w0 : a0.size ≤ 140737488351232) (w1 : a1.size ≤ 140737488351232) (w2 : (Lit.int .i64 a2).wf = true) :
  Calls Try.prog 8 #[.string a0, .string a1, .int .i64 a2] w fun e w' => e = .returned (.bool true) ∧ Below w.heap.size w w' := by
 obtain ⟨k, h⟩ := P a0 a1 a2 w0 w1 w2
 refine (formelaw09_BidiParts.calls k a0 a1 a2 true w h).mono ?_
 rintro e w' ⟨rfl, hd⟩
 exact ⟨rfl, hd⟩

end Go.Proofs.Ytdmfhabhcagioaa.P
