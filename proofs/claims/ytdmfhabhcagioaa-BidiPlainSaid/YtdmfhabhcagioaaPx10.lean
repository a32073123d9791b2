-- Laid by a program of this session (wip/fam.sh) over the kit's words: Lean checks it.
import Derived.Test.YtdmfhabhcagioaaPx0
import Derived.Test.YtdmfhabhcagioaaPx2
import Derived.Test.YtdmfhabhcagioaaPx6
import Derived.Test.YtdmfhabhcagioaaPx7
import Derived.Test.YtdmfhabhcagioaaHOrder
namespace Go.Proofs.Ytdmfhabhcagioaa.P
open Go.RowKit Go.Proofs.YtdmfhabhcagioaaW.PrintWords Go.Proofs.YtdmfhabhcagioaaW.PrintLast Go.Proofs.YtdmfhabhcagioaaW.PrintMore
attribute [local go_sem] max2_int min2_int max_two min_two max_three min_three max_four min_four   -- for this text's walks alone
set_option linter.unusedVariables false
set_option linter.unusedSimpArgs false

/-! ### formelaw09_BidiPlain: function 5 -/
mutual
def formelaw09_BidiPlain.j0 : Nat → ByteArray → Bool → Bool → Option (Bool)
 | 0, _, _, _ => none
 | k + 1, x0, x3, x18 => if x18 = true then (some x3) else ((formelaw09_classes.f k x0 2).bind fun t275 => (if t275 = 0 then ((bidi_Visual.f k x0 0).bind fun bt276 => (if x3 = true then (if bt276.2 = 0 then (formelaw09_BidiPlain.j1 k x0 (bt276.1.toList == x0.toList)) else (formelaw09_BidiPlain.j1 k x0 false)) else (formelaw09_BidiPlain.j1 k x0 false))) else (formelaw09_BidiPlain.j1 k x0 x3)))
def formelaw09_BidiPlain.j1 : Nat → ByteArray → Bool → Option (Bool)
 | 0, _, _ => none
 | k + 1, x0, x3 => (formelaw09_classes.f k x0 1).bind fun t278 => ((formelaw09_classes.f k x0 3).bind fun t279 => (if (wrap64 (t278 + t279)) > 0 then (some x3) else ((bidi_Order.f x0 1).bind fun bt280 => (if bt280.2 = 0 then (formelaw09_BidiPlain.j2 k x0 x3 bt280.1 ((bt280.1.length : Int) != (x0.size : Int))) else (formelaw09_BidiPlain.j2 k x0 x3 bt280.1 true)))))
def formelaw09_BidiPlain.j2 : Nat → ByteArray → Bool → List Int → Bool → Option (Bool)
 | 0, _, _, _, _ => none
 | k + 1, x0, x3, x6, x58 => if x58 = true then (some false) else (formelaw09_BidiPlain.l0 k x0 x3 x6 (x6.length : Int) 0)
def formelaw09_BidiPlain.l0 : Nat → ByteArray → Bool → List Int → Int → Int → Option (Bool)
 | 0, _, _, _, _, _ => none
 | k + 1, x0, x3, x59, x60, x61 => if x61 < x60 then (if 0 ≤ x61 then (if x61 < (x59.length : Int) then (if x3 = true then (formelaw09_BidiPlain.l0 k x0 ((rd x59 x61) == (wrap64 ((wrap64 ((x0.size : Int) - 1)) - x61))) x59 x60 (wrap64 (x61 + 1))) else (formelaw09_BidiPlain.l0 k x0 false x59 x60 (wrap64 (x61 + 1)))) else (none)) else (none)) else (some x3)
end
def formelaw09_BidiPlain.f (k : Nat) (a0 : ByteArray) : Option (Bool) := (formelaw09_head.f k).bind fun t273 => (if t273 = true then (if (a0.size : Int) > 300 then (formelaw09_BidiPlain.j0 k a0 true true) else ((formeref06_Valid.f k a0).bind fun t274 => (formelaw09_BidiPlain.j0 k a0 true (!t274)))) else (none))
theorem formelaw09_BidiPlain.mono_l : ∀ k, (∀ y0 y1 y2, LeO (formelaw09_BidiPlain.j0 k y0 y1 y2) (formelaw09_BidiPlain.j0 (k + 1) y0 y1 y2)) ∧ (∀ y0 y1, LeO (formelaw09_BidiPlain.j1 k y0 y1) (formelaw09_BidiPlain.j1 (k + 1) y0 y1)) ∧ (∀ y0 y1 y2 y3, LeO (formelaw09_BidiPlain.j2 k y0 y1 y2 y3) (formelaw09_BidiPlain.j2 (k + 1) y0 y1 y2 y3)) ∧ (∀ y0 y1 y2 y3 y4, LeO (formelaw09_BidiPlain.l0 k y0 y1 y2 y3 y4) (formelaw09_BidiPlain.l0 (k + 1) y0 y1 y2 y3 y4))
 | 0 => ⟨fun _ _ _ r h => by simp [formelaw09_BidiPlain.j0] at h, fun _ _ r h => by simp [formelaw09_BidiPlain.j1] at h, fun _ _ _ _ r h => by simp [formelaw09_BidiPlain.j2] at h, fun _ _ _ _ _ r h => by simp [formelaw09_BidiPlain.l0] at h⟩
 | k + 1 => by
  obtain ⟨ih0, ih1, ih2, ih3⟩ := formelaw09_BidiPlain.mono_l k
  refine ⟨?_, ?_, ?_, ?_⟩
  ·
   intro y0 y1 y2
   unfold formelaw09_BidiPlain.j0
   repeat' first
   | (with_reducible exact ih0 _ _ _)
   | (with_reducible exact ih1 _ _)
   | (with_reducible exact ih2 _ _ _ _)
   | (with_reducible exact ih3 _ _ _ _ _)
   | (with_reducible exact bidi_Visual.mono _ _ _)
   | (with_reducible exact formelaw09_classes.mono _ _ _)
   | (with_reducible exact formelaw09_head.mono _)
   | (with_reducible exact formeref06_Valid.mono _ _)
   | (with_reducible exact LeO.refl _)
   | (with_reducible exact LeO.none _)
   | (with_reducible refine LeO.ite ?_ ?_)
   | (with_reducible refine LeO.bind ?_ (fun _ => ?_))
   | exact ih0 _ _ _
   | exact ih1 _ _
   | exact ih2 _ _ _ _
   | exact ih3 _ _ _ _ _
   | exact bidi_Visual.mono _ _ _
   | exact formelaw09_classes.mono _ _ _
   | exact formelaw09_head.mono _
   | exact formeref06_Valid.mono _ _
   | exact LeO.none _
   | refine LeO.ite ?_ ?_
   | refine LeO.bind ?_ (fun _ => ?_)
  ·
   intro y0 y1
   unfold formelaw09_BidiPlain.j1
   repeat' first
   | (with_reducible exact ih0 _ _ _)
   | (with_reducible exact ih1 _ _)
   | (with_reducible exact ih2 _ _ _ _)
   | (with_reducible exact ih3 _ _ _ _ _)
   | (with_reducible exact bidi_Visual.mono _ _ _)
   | (with_reducible exact formelaw09_classes.mono _ _ _)
   | (with_reducible exact formelaw09_head.mono _)
   | (with_reducible exact formeref06_Valid.mono _ _)
   | (with_reducible exact LeO.refl _)
   | (with_reducible exact LeO.none _)
   | (with_reducible refine LeO.ite ?_ ?_)
   | (with_reducible refine LeO.bind ?_ (fun _ => ?_))
   | exact ih0 _ _ _
   | exact ih1 _ _
   | exact ih2 _ _ _ _
   | exact ih3 _ _ _ _ _
   | exact bidi_Visual.mono _ _ _
   | exact formelaw09_classes.mono _ _ _
   | exact formelaw09_head.mono _
   | exact formeref06_Valid.mono _ _
   | exact LeO.none _
   | refine LeO.ite ?_ ?_
   | refine LeO.bind ?_ (fun _ => ?_)
  ·
   intro y0 y1 y2 y3
   unfold formelaw09_BidiPlain.j2
   repeat' first
   | (with_reducible exact ih0 _ _ _)
   | (with_reducible exact ih1 _ _)
   | (with_reducible exact ih2 _ _ _ _)
   | (with_reducible exact ih3 _ _ _ _ _)
   | (with_reducible exact bidi_Visual.mono _ _ _)
   | (with_reducible exact formelaw09_classes.mono _ _ _)
   | (with_reducible exact formelaw09_head.mono _)
   | (with_reducible exact formeref06_Valid.mono _ _)
   | (with_reducible exact LeO.refl _)
   | (with_reducible exact LeO.none _)
   | (with_reducible refine LeO.ite ?_ ?_)
   | (with_reducible refine LeO.bind ?_ (fun _ => ?_))
   | exact ih0 _ _ _
   | exact ih1 _ _
   | exact ih2 _ _ _ _
   | exact ih3 _ _ _ _ _
   | exact bidi_Visual.mono _ _ _
   | exact formelaw09_classes.mono _ _ _
   | exact formelaw09_head.mono _
   | exact formeref06_Valid.mono _ _
   | exact LeO.none _
   | refine LeO.ite ?_ ?_
   | refine LeO.bind ?_ (fun _ => ?_)
  ·
   intro y0 y1 y2 y3 y4
   unfold formelaw09_BidiPlain.l0
   repeat' first
   | (with_reducible exact ih0 _ _ _)
   | (with_reducible exact ih1 _ _)
   | (with_reducible exact ih2 _ _ _ _)
   | (with_reducible exact ih3 _ _ _ _ _)
   | (with_reducible exact bidi_Visual.mono _ _ _)
   | (with_reducible exact formelaw09_classes.mono _ _ _)
   | (with_reducible exact formelaw09_head.mono _)
   | (with_reducible exact formeref06_Valid.mono _ _)
   | (with_reducible exact LeO.refl _)
   | (with_reducible exact LeO.none _)
   | (with_reducible refine LeO.ite ?_ ?_)
   | (with_reducible refine LeO.bind ?_ (fun _ => ?_))
   | exact ih0 _ _ _
   | exact ih1 _ _
   | exact ih2 _ _ _ _
   | exact ih3 _ _ _ _ _
   | exact bidi_Visual.mono _ _ _
   | exact formelaw09_classes.mono _ _ _
   | exact formelaw09_head.mono _
   | exact formeref06_Valid.mono _ _
   | exact LeO.none _
   | refine LeO.ite ?_ ?_
   | refine LeO.bind ?_ (fun _ => ?_)
theorem formelaw09_BidiPlain.mono : ∀ a0 k, LeO (formelaw09_BidiPlain.f k a0) (formelaw09_BidiPlain.f (k + 1) a0) := by
 intro a0 k
 obtain ⟨ih0, ih1, ih2, ih3⟩ := formelaw09_BidiPlain.mono_l k
 unfold formelaw09_BidiPlain.f
 repeat' first
   | (with_reducible exact ih0 _ _ _)
   | (with_reducible exact ih1 _ _)
   | (with_reducible exact ih2 _ _ _ _)
   | (with_reducible exact ih3 _ _ _ _ _)
   | (with_reducible exact bidi_Visual.mono _ _ _)
   | (with_reducible exact formelaw09_classes.mono _ _ _)
   | (with_reducible exact formelaw09_head.mono _)
   | (with_reducible exact formeref06_Valid.mono _ _)
   | (with_reducible exact LeO.refl _)
   | (with_reducible exact LeO.none _)
   | (with_reducible refine LeO.ite ?_ ?_)
   | (with_reducible refine LeO.bind ?_ (fun _ => ?_))
   | exact ih0 _ _ _
   | exact ih1 _ _
   | exact ih2 _ _ _ _
   | exact ih3 _ _ _ _ _
   | exact bidi_Visual.mono _ _ _
   | exact formelaw09_classes.mono _ _ _
   | exact formelaw09_head.mono _
   | exact formeref06_Valid.mono _ _
   | exact LeO.none _
   | refine LeO.ite ?_ ?_
   | refine LeO.bind ?_ (fun _ => ?_)
set_option maxHeartbeats 8000000 in
set_option maxRecDepth 100000 in
theorem formelaw09_BidiPlain.calls (k : Nat) (a0 : ByteArray) (r : Bool) (w : World) (h : formelaw09_BidiPlain.f k a0 = some r) :
  Calls Try.prog 5 #[.string a0] w fun e w' => e = .returned (.bool r) ∧ Below w.heap.size w w' := by
 have HB := Aside0.mk (Below.refl w.heap.size w)
 have H : ((formelaw09_head.f k).bind fun t273 => (if t273 = true then (if (a0.size : Int) > 300 then (formelaw09_BidiPlain.j0 k a0 true true) else ((formeref06_Valid.f k a0).bind fun t274 => (formelaw09_BidiPlain.j0 k a0 true (!t274)))) else (none))) = some r := h
 clear h
 replace H := Option.bind_eq_some_iff.mp H
 obtain ⟨t273, A20, H⟩ := H
 replace H : (if t273 = true then (if (a0.size : Int) > 300 then (formelaw09_BidiPlain.j0 k a0 true true) else ((formeref06_Valid.f k a0).bind fun t274 => (formelaw09_BidiPlain.j0 k a0 true (!t274)))) else (none)) = some r := H
 have A2 := Aside0.mk A20
 clear A20
 by_cases c3 : t273 = true
 ·
  subst c3
  have H1 : (if (a0.size : Int) > 300 then (formelaw09_BidiPlain.j0 k a0 true true) else ((formeref06_Valid.f k a0).bind fun t274 => (formelaw09_BidiPlain.j0 k a0 true (!t274)))) = some r := by rw [if_pos rfl] at H; exact H
  clear H
  have H := H1
  clear H1
  have HC4 := Aside0.mk H
  clear H
  go_enter Try.func5, Try.ntmps5
  go_upto_region 2 with (first | ((with_reducible refine gate_callee (f := 10) rfl ?_); refine goesL_ (some 10) rfl rfl Try.func10 (by kernel_rfl) rfl #[] rfl (by (try simp only [List.map_toArray, List.map_cons, List.map_nil]); first | done | rfl | (simp only [List.length_drop, List.length_take]; rfl)) ?_; (with_reducible refine (formelaw09_head.calls k  true _ A2.out).mono ?_); rintro e w5 ⟨rfl, hb⟩; refine ⟨_, rfl, ?_⟩; have n0_ := Aside0.mk (below_step (by repeat (first | (with_reducible first | exact HB.out | apply below_alloc | apply pw_below_drewN | apply below_drew1) | exact HB.out)) hb); clear HB; have HB := n0_; clear n0_; (try clear hb); (try clear hb2); (try clear hk); (try clear hi)))
  (try simp only [Act.put, List.setIfInBounds_toArray, List.set_cons_zero, List.set_cons_succ])
  go_cut [18] (fun v18 wc => ∃ (kq : Nat) (x18_3 : Bool), v18 = .bool x18_3 ∧ Aside0 (formelaw09_BidiPlain.j0 kq a0 true x18_3 = some r) ∧ Aside0 (kq ≤ k) ∧ Aside0 (Below w.heap.size w wc))
  case first =>
   have H := HC4.out
   clear HC4
   by_cases c6 : (a0.size : Int) > 300
   ·
    rw [if_pos c6] at H
    have c6b0 : decide (300 < (a0.size : Int)) = true := decide_eq_true c6
    have c6b1 : decide (300 < a0.size) = true := decide_eq_true (by omega)
    clear c6
    (first | rw [c6b0] | (simp only [i64_w, i32_w]; rw [c6b0]) | skip)
    have H' := Aside0.mk H
    clear H
    go_wp2
    go_meet
    case rel => exact ⟨_, (true), (by first | rfl | (simp; done) | (simp [*]; done)), H', ⟨by first | omega | exact Nat.le_refl _⟩, ⟨by repeat (first | (with_reducible first | exact HB.out | apply below_alloc | apply pw_below_drewN | apply below_drew1) | exact HB.out)⟩⟩
   ·
    rw [if_neg c6] at H
    have c6b0 : decide (300 < (a0.size : Int)) = false := decide_eq_false c6
    have c6b1 : decide (300 < a0.size) = false := decide_eq_false (by omega)
    clear c6
    (first | rw [c6b0] | (simp only [i64_w, i32_w]; rw [c6b0]) | skip)
    replace H := Option.bind_eq_some_iff.mp H
    obtain ⟨t274, A70, H⟩ := H
    replace H : (formelaw09_BidiPlain.j0 k a0 true (!t274)) = some r := H
    have A7 := Aside0.mk A70
    clear A70
    have H' := Aside0.mk H
    clear H
    go_wp2_with (first | (go_at_call 20; (with_reducible refine (formeref06_Valid.calls k a0 t274 _ A7.out).mono ?_); rintro e w' ⟨rfl, ⟨nd, rfl⟩⟩))
    go_meet
    case rel => exact ⟨_, (!t274), (by first | rfl | (simp; done) | (simp [*]; done)), H', ⟨by first | omega | exact Nat.le_refl _⟩, ⟨by repeat (first | (with_reducible first | exact HB.out | apply below_alloc | apply pw_below_drewN | apply below_drew1) | exact HB.out)⟩⟩
  case rest =>
   clear HC4
   try clear c1
   try clear p2
   try clear c3
   try clear c5
   try clear c6
   try clear c6b0
   try clear c6b1
   obtain ⟨kq, x18_3, rfl, HA, HJ3, HB⟩ := hcut
   cases kq with
   | zero => exact absurd HA.out (by simp [formelaw09_BidiPlain.j0])
   | succ kj3 =>
    have H := HA.out
    clear HA
    simp only [formelaw09_BidiPlain.j0] at H
    by_cases c8 : x18_3 = true
    ·
     subst c8
     have H1 : (some true) = some r := by rw [if_pos rfl] at H; exact H
     clear H
     have H := H1
     clear H1
     obtain rfl := Option.some.inj H
     go_wp2
     go_ret
     exact ⟨by first | rfl | (simp [errW_none, errW_some] <;> rfl) | (simp [*, errW_none, errW_some] <;> rfl), by repeat (first | (with_reducible first | exact HB.out | apply below_alloc | apply pw_below_drewN | apply below_drew1) | exact HB.out)⟩
    ·
     replace c8 := Bool.eq_false_iff.mpr c8
     subst c8
     have H1 : ((formelaw09_classes.f kj3 a0 2).bind fun t275 => (if t275 = 0 then ((bidi_Visual.f kj3 a0 0).bind fun bt276 => (if true = true then (if bt276.2 = 0 then (formelaw09_BidiPlain.j1 kj3 a0 (bt276.1.toList == a0.toList)) else (formelaw09_BidiPlain.j1 kj3 a0 false)) else (formelaw09_BidiPlain.j1 kj3 a0 false))) else (formelaw09_BidiPlain.j1 kj3 a0 true))) = some r := by rw [if_neg (show ¬ (false = true) by decide)] at H; exact H
     clear H
     have H := H1
     clear H1
     replace H := Option.bind_eq_some_iff.mp H
     obtain ⟨t275, A90, H⟩ := H
     replace H : (if t275 = 0 then ((bidi_Visual.f kj3 a0 0).bind fun bt276 => (if true = true then (if bt276.2 = 0 then (formelaw09_BidiPlain.j1 kj3 a0 (bt276.1.toList == a0.toList)) else (formelaw09_BidiPlain.j1 kj3 a0 false)) else (formelaw09_BidiPlain.j1 kj3 a0 false))) else (formelaw09_BidiPlain.j1 kj3 a0 true)) = some r := H
     have A9 := Aside0.mk A90
     clear A90
     have HC10 := Aside0.mk H
     clear H
     go_upto_if 22 with (first | ((with_reducible refine gate_callee (f := 21) rfl ?_); refine goesL_ (some 21) rfl rfl Try.func21 (by kernel_rfl) rfl #[.string a0, .int .i64 2] rfl (by (try simp only [List.map_toArray, List.map_cons, List.map_nil]); first | done | rfl | (simp only [List.length_drop, List.length_take]; rfl)) ?_; (with_reducible refine (formelaw09_classes.calls kj3 a0 2 t275 _ A9.out).mono ?_); rintro e w' ⟨rfl, ⟨nd, rfl⟩⟩; refine ⟨_, rfl, ?_⟩))
     (try simp only [Act.put, List.setIfInBounds_toArray, List.set_cons_zero, List.set_cons_succ])
     go_cut [3] (fun v3 wc => ∃ (kq : Nat) (x3_9 : Bool), v3 = .bool x3_9 ∧ Aside0 (formelaw09_BidiPlain.j1 kq a0 x3_9 = some r) ∧ Aside0 (kq ≤ kj3) ∧ Aside0 (Below w.heap.size w wc))
     case first =>
      have H := HC10.out
      clear HC10
      by_cases c11 : t275 = 0
      ·
       rw [if_pos c11] at H
       have c11b0 : (t275 == 0) = true := beq_iff_eq.mpr c11
       have c11b1 : (t275 != 0) = false := bne_eq_false_iff_eq.mpr c11
       clear c11
       (first | rw [c11b0] | (simp only [i64_w, i32_w]; rw [c11b0]) | skip)
       replace H := Option.bind_eq_some_iff.mp H
       obtain ⟨⟨t276, t277⟩, A120, H⟩ := H
       replace H : (if true = true then (if t277 = 0 then (formelaw09_BidiPlain.j1 kj3 a0 (t276.toList == a0.toList)) else (formelaw09_BidiPlain.j1 kj3 a0 false)) else (formelaw09_BidiPlain.j1 kj3 a0 false)) = some r := H
       have A12 := Aside0.mk A120
       clear A120
       (first | rw [if_pos (rfl : true = true)] at H | rw [if_pos True.intro] at H)
       by_cases c13 : t277 = 0
       ·
        rw [if_pos c13] at H
        have c13b0 : (t277 == 0) = true := beq_iff_eq.mpr c13
        have c13b1 : (t277 != 0) = false := bne_eq_false_iff_eq.mpr c13
        clear c13
        have H' := Aside0.mk H
        clear H
        go_wp2_with (first | ((with_reducible refine gate_callee (f := 16) rfl ?_); refine goesL_ (some 25) rfl rfl Try.func16 (by kernel_rfl) rfl #[.string a0, .int .i64 0] rfl (by (try simp only [List.map_toArray, List.map_cons, List.map_nil]); first | done | rfl | (simp only [List.length_drop, List.length_take]; rfl)) ?_; (with_reducible refine (bidi_Visual.calls kj3 a0 0 t276 t277 _ A12.out).mono ?_); rintro e w14 ⟨rfl, hb⟩; refine ⟨_, rfl, ?_⟩; have n0_ := Aside0.mk (below_step (by repeat (first | (with_reducible first | exact HB.out | apply below_alloc | apply pw_below_drewN | apply below_drew1) | exact HB.out)) hb); clear HB; have HB := n0_; clear n0_; (try clear hb); (try clear hb2); (try clear hk); (try clear hi)))
        go_meet
        case rel => exact ⟨_, ((t276.toList == a0.toList)), (by first | rfl | (simp; done) | (simp [*]; done)), H', ⟨by have := HJ3.out; first | omega | exact Nat.le_refl _⟩, ⟨by repeat (first | (with_reducible first | exact HB.out | apply below_alloc | apply pw_below_drewN | apply below_drew1) | exact HB.out)⟩⟩
       ·
        rw [if_neg c13] at H
        have c13b0 : (t277 == 0) = false := beq_eq_false_iff_ne.mpr c13
        have c13b1 : (t277 != 0) = true := bne_iff_ne.mpr c13
        have H' := Aside0.mk H
        clear H
        go_wp2_with (first | ((with_reducible refine gate_callee (f := 16) rfl ?_); refine goesL_ (some 25) rfl rfl Try.func16 (by kernel_rfl) rfl #[.string a0, .int .i64 0] rfl (by (try simp only [List.map_toArray, List.map_cons, List.map_nil]); first | done | rfl | (simp only [List.length_drop, List.length_take]; rfl)) ?_; (with_reducible refine (bidi_Visual.calls kj3 a0 0 t276 t277 _ A12.out).mono ?_); rintro e w15 ⟨rfl, hb⟩; refine ⟨_, rfl, ?_⟩; have n0_ := Aside0.mk (below_step (by repeat (first | (with_reducible first | exact HB.out | apply below_alloc | apply pw_below_drewN | apply below_drew1) | exact HB.out)) hb); clear HB; have HB := n0_; clear n0_; (try clear hb); (try clear hb2); (try clear hk); (try clear hi)))
        go_meet
        case rel => exact ⟨_, (false), (by first | rfl | (simp; done) | (simp [*]; done)), H', ⟨by have := HJ3.out; first | omega | exact Nat.le_refl _⟩, ⟨by repeat (first | (with_reducible first | exact HB.out | apply below_alloc | apply pw_below_drewN | apply below_drew1) | exact HB.out)⟩⟩
      ·
       rw [if_neg c11] at H
       have c11b0 : (t275 == 0) = false := beq_eq_false_iff_ne.mpr c11
       have c11b1 : (t275 != 0) = true := bne_iff_ne.mpr c11
       (first | rw [c11b0] | (simp only [i64_w, i32_w]; rw [c11b0]) | skip)
       have H' := Aside0.mk H
       clear H
       go_wp2
       go_meet
       case rel => exact ⟨_, (true), (by first | rfl | (simp; done) | (simp [*]; done)), H', ⟨by have := HJ3.out; first | omega | exact Nat.le_refl _⟩, ⟨by repeat (first | (with_reducible first | exact HB.out | apply below_alloc | apply pw_below_drewN | apply below_drew1) | exact HB.out)⟩⟩
     case rest =>
      clear HC10
      try clear c1
      try clear c2
      try clear p2
      try clear c3
      try clear c5
      try clear c6
      try clear c6b0
      try clear c6b1
      try clear c8
      try clear c10
      try clear c11
      try clear c11b0
      try clear c11b1
      try clear c13
      try clear c13b0
      try clear c13b1
      try clear p2
      obtain ⟨kq, x3_9, rfl, HA, HJ9, HB⟩ := hcut
      cases kq with
      | zero => exact absurd HA.out (by simp [formelaw09_BidiPlain.j1])
      | succ kj9 =>
       have H := HA.out
       clear HA
       simp only [formelaw09_BidiPlain.j1] at H
       replace H := Option.bind_eq_some_iff.mp H
       obtain ⟨t278, A160, H⟩ := H
       replace H : ((formelaw09_classes.f kj9 a0 3).bind fun t279 => (if (wrap64 (t278 + t279)) > 0 then (some x3_9) else ((bidi_Order.f a0 1).bind fun bt280 => (if bt280.2 = 0 then (formelaw09_BidiPlain.j2 kj9 a0 x3_9 bt280.1 ((bt280.1.length : Int) != (a0.size : Int))) else (formelaw09_BidiPlain.j2 kj9 a0 x3_9 bt280.1 true))))) = some r := H
       have A16 := Aside0.mk A160
       clear A160
       replace H := Option.bind_eq_some_iff.mp H
       obtain ⟨t279, A170, H⟩ := H
       replace H : (if (wrap64 (t278 + t279)) > 0 then (some x3_9) else ((bidi_Order.f a0 1).bind fun bt280 => (if bt280.2 = 0 then (formelaw09_BidiPlain.j2 kj9 a0 x3_9 bt280.1 ((bt280.1.length : Int) != (a0.size : Int))) else (formelaw09_BidiPlain.j2 kj9 a0 x3_9 bt280.1 true)))) = some r := H
       have A17 := Aside0.mk A170
       clear A170
       by_cases c18 : (wrap64 (t278 + t279)) > 0
       ·
        rw [if_pos c18] at H
        have c18b0 : decide (0 < (wrap64 (t278 + t279))) = true := decide_eq_true c18
        clear c18
        obtain rfl := Option.some.inj H
        go_wp2_with (first | ((with_reducible refine gate_callee (f := 21) rfl ?_); refine goesL_ (some 39) rfl rfl Try.func21 (by kernel_rfl) rfl #[.string a0, .int .i64 1] rfl (by (try simp only [List.map_toArray, List.map_cons, List.map_nil]); first | done | rfl | (simp only [List.length_drop, List.length_take]; rfl)) ?_; (with_reducible refine (formelaw09_classes.calls kj9 a0 1 t278 _ A16.out).mono ?_); rintro e w' ⟨rfl, ⟨nd, rfl⟩⟩; refine ⟨_, rfl, ?_⟩) | ((with_reducible refine gate_callee (f := 21) rfl ?_); refine goesL_ (some 41) rfl rfl Try.func21 (by kernel_rfl) rfl #[.string a0, .int .i64 3] rfl (by (try simp only [List.map_toArray, List.map_cons, List.map_nil]); first | done | rfl | (simp only [List.length_drop, List.length_take]; rfl)) ?_; (with_reducible refine (formelaw09_classes.calls kj9 a0 3 t279 _ A17.out).mono ?_); rintro e w' ⟨rfl, ⟨nd, rfl⟩⟩; refine ⟨_, rfl, ?_⟩))
        go_ret
        exact ⟨by first | rfl | (simp [errW_none, errW_some] <;> rfl) | (simp [*, errW_none, errW_some] <;> rfl), by repeat (first | (with_reducible first | exact HB.out | apply below_alloc | apply pw_below_drewN | apply below_drew1) | exact HB.out)⟩
       ·
        rw [if_neg c18] at H
        have c18b0 : decide (0 < (wrap64 (t278 + t279))) = false := decide_eq_false c18
        clear c18
        replace H := Option.bind_eq_some_iff.mp H
        obtain ⟨⟨t280, t281⟩, A190, H⟩ := H
        replace H : (if t281 = 0 then (formelaw09_BidiPlain.j2 kj9 a0 x3_9 t280 ((t280.length : Int) != (a0.size : Int))) else (formelaw09_BidiPlain.j2 kj9 a0 x3_9 t280 true)) = some r := H
        have A19 := Aside0.mk A190
        clear A190
        have HC20 := Aside0.mk H
        clear H
        go_upto_region 10 with (first | ((with_reducible refine gate_callee (f := 21) rfl ?_); refine goesL_ (some 39) rfl rfl Try.func21 (by kernel_rfl) rfl #[.string a0, .int .i64 1] rfl (by (try simp only [List.map_toArray, List.map_cons, List.map_nil]); first | done | rfl | (simp only [List.length_drop, List.length_take]; rfl)) ?_; (with_reducible refine (formelaw09_classes.calls kj9 a0 1 t278 _ A16.out).mono ?_); rintro e w' ⟨rfl, ⟨nd, rfl⟩⟩; refine ⟨_, rfl, ?_⟩) | ((with_reducible refine gate_callee (f := 21) rfl ?_); refine goesL_ (some 41) rfl rfl Try.func21 (by kernel_rfl) rfl #[.string a0, .int .i64 3] rfl (by (try simp only [List.map_toArray, List.map_cons, List.map_nil]); first | done | rfl | (simp only [List.length_drop, List.length_take]; rfl)) ?_; (with_reducible refine (formelaw09_classes.calls kj9 a0 3 t279 _ A17.out).mono ?_); rintro e w' ⟨rfl, ⟨nd, rfl⟩⟩; refine ⟨_, rfl, ?_⟩) | ((with_reducible refine gate_callee (f := 14) rfl ?_); refine goesL_ (some 47) rfl rfl Try.func14 (by kernel_rfl) rfl #[.string a0, .int .i64 1] rfl (by (try simp only [List.map_toArray, List.map_cons, List.map_nil]); first | done | rfl | (simp only [List.length_drop, List.length_take]; rfl)) ?_; (with_reducible refine (bidi_Order.calls a0 1 t280 t281 _ A19.out).mono ?_); rintro e w21 ⟨v282, rfl, ho0, hb⟩; refine ⟨_, rfl, ?_⟩; have n0_ := Aside0.mk (Kd.R_lower ho0 (below_size (by repeat (first | (with_reducible first | exact HB.out | apply below_alloc | apply pw_below_drewN | apply below_drew1) | exact HB.out)))); have n1_ := Aside0.mk (below_step (by repeat (first | (with_reducible first | exact HB.out | apply below_alloc | apply pw_below_drewN | apply below_drew1) | exact HB.out)) hb); clear HB; have HO283 := n0_; have HB := n1_; clear n0_ n1_; (try clear hb); (try clear hb2); (try clear hk); (try clear hi); (try clear ho0)))
        (try simp only [Act.put, List.setIfInBounds_toArray, List.set_cons_zero, List.set_cons_succ])
        go_cut [58] (fun v58 wc => ∃ (kq : Nat) (x58_19 : Bool), v58 = .bool x58_19 ∧ Aside0 (formelaw09_BidiPlain.j2 kq a0 x3_9 t280 x58_19 = some r) ∧ Aside0 (kq ≤ kj9) ∧ Aside0 (Kd.R (Kd.int .i64) 3 wc w.heap.size (fun _ => True) v282 t280) ∧ Aside0 (Below w.heap.size w wc))
        case first =>
         have H := HC20.out
         clear HC20
         by_cases c22 : t281 = 0
         ·
          rw [if_pos c22] at H
          have c22b0 : (t281 == 0) = true := beq_iff_eq.mpr c22
          have c22b1 : (t281 != 0) = false := bne_eq_false_iff_eq.mpr c22
          clear c22
          (first | rw [c22b0] | (simp only [i64_w, i32_w]; rw [c22b0]) | skip)
          have H' := Aside0.mk H
          clear H
          obtain ⟨Ao23, co23, eo23⟩ := Kd.R_slice HO283.out
          subst eo23
          go_wp2
          go_meet
          case rel => exact ⟨_, (((t280.length : Int) != (a0.size : Int))), (by first | rfl | (simp; done) | (simp [*]; done)), H', ⟨by have := HJ3.out; have := HJ9.out; first | omega | exact Nat.le_refl _⟩, ⟨by (with_reducible repeat (first | apply Kd.R_alloc | apply Kd.R_drewN | apply Kd.R_drew)); exact HO283.out⟩, ⟨by repeat (first | (with_reducible first | exact HB.out | apply below_alloc | apply pw_below_drewN | apply below_drew1) | exact HB.out)⟩⟩
         ·
          rw [if_neg c22] at H
          have c22b0 : (t281 == 0) = false := beq_eq_false_iff_ne.mpr c22
          have c22b1 : (t281 != 0) = true := bne_iff_ne.mpr c22
          (first | rw [c22b0] | (simp only [i64_w, i32_w]; rw [c22b0]) | skip)
          have H' := Aside0.mk H
          clear H
          go_wp2
          go_meet
          case rel => exact ⟨_, (true), (by first | rfl | (simp; done) | (simp [*]; done)), H', ⟨by have := HJ3.out; have := HJ9.out; first | omega | exact Nat.le_refl _⟩, ⟨by (with_reducible repeat (first | apply Kd.R_alloc | apply Kd.R_drewN | apply Kd.R_drew)); exact HO283.out⟩, ⟨by repeat (first | (with_reducible first | exact HB.out | apply below_alloc | apply pw_below_drewN | apply below_drew1) | exact HB.out)⟩⟩
        case rest =>
         clear HC20
         try clear c1
         try clear c2
         try clear p2
         try clear c3
         try clear c5
         try clear c6
         try clear c6b0
         try clear c6b1
         try clear p6
         try clear c8
         try clear c10
         try clear c11
         try clear c11b0
         try clear c11b1
         try clear c13
         try clear c13b0
         try clear c13b1
         try clear c14
         try clear c16
         try clear c18
         try clear c18b0
         try clear c21
         try clear c22
         try clear c22b0
         try clear c22b1
         try clear p2
         obtain ⟨kq, x58_19, rfl, HA, HJ19, HO_6, HB⟩ := hcut
         cases kq with
         | zero => exact absurd HA.out (by simp [formelaw09_BidiPlain.j2])
         | succ kj19 =>
          have H := HA.out
          clear HA
          simp only [formelaw09_BidiPlain.j2] at H
          by_cases c24 : x58_19 = true
          ·
           subst c24
           have H1 : (some false) = some r := by rw [if_pos rfl] at H; exact H
           clear H
           have H := H1
           clear H1
           obtain rfl := Option.some.inj H
           go_wp2
           go_ret
           exact ⟨by first | rfl | (simp [errW_none, errW_some] <;> rfl) | (simp [*, errW_none, errW_some] <;> rfl), by repeat (first | (with_reducible first | exact HB.out | apply below_alloc | apply pw_below_drewN | apply below_drew1) | exact HB.out)⟩
          ·
           replace c24 := Bool.eq_false_iff.mpr c24
           subst c24
           have H1 : (formelaw09_BidiPlain.l0 kj19 a0 x3_9 t280 (t280.length : Int) 0) = some r := by rw [if_neg (show ¬ (false = true) by decide)] at H; exact H
           clear H
           have H := H1
           clear H1
           have H' := Aside0.mk H
           clear H
           obtain ⟨Ao25, co25, eo25⟩ := Kd.R_slice HO_6.out
           subst eo25
           go_wp2
           go_loopg [3, 61] kj19 (fun kq v3 v61 w' => ∃ (x3_4 : Bool) (x61_4 : Int), v3 = .bool x3_4 ∧ v61 = .int .i64 x61_4 ∧ Aside0 (formelaw09_BidiPlain.l0 kq a0 x3_4 t280 (t280.length : Int) x61_4 = some r) ∧ Aside0 (kq ≤ kj19) ∧ Aside0 (Kd.R (Kd.int .i64) 3 w' w.heap.size (fun _ => True) (.slice Ao25 t280.length co25) t280) ∧ Aside0 (Below w.heap.size w w'))
           case atStart => exact ⟨(x3_9), (0), (by first | rfl | (simp; done) | (simp [*]; done)), (by first | rfl | (simp; done) | (simp [*]; done)), H', ⟨Nat.le_refl _⟩, ⟨by (with_reducible repeat (first | apply Kd.R_alloc | apply Kd.R_drewN | apply Kd.R_drew)); exact HO_6.out⟩, ⟨by repeat (first | (with_reducible first | exact HB.out | apply below_alloc | apply pw_below_drewN | apply below_drew1) | exact HB.out)⟩⟩
           case round =>
            clear H'
            try clear c1
            try clear c2
            try clear p2
            try clear c3
            try clear c5
            try clear c6
            try clear c6b0
            try clear c6b1
            try clear p6
            try clear c8
            try clear c10
            try clear c11
            try clear c11b0
            try clear c11b1
            try clear c13
            try clear c13b0
            try clear c13b1
            try clear c14
            try clear c16
            try clear c18
            try clear c18b0
            try clear c21
            try clear c22
            try clear c22b0
            try clear c22b1
            try clear c24
            try clear p2
            try clear p6
            obtain ⟨x3_4, x61_4, rfl, rfl, HA, HK4, HO_59, HB⟩ := hrel
            cases gk with
            | zero => exact absurd HA.out (by simp [formelaw09_BidiPlain.l0])
            | succ k4 =>
             have H := HA.out
             clear HA
             simp only [formelaw09_BidiPlain.l0] at H
             by_cases c26 : x61_4 < (t280.length : Int)
             ·
              rw [if_pos c26] at H
              have c26b0 : decide (x61_4 < (t280.length : Int)) = true := decide_eq_true c26
              clear c26
              by_cases c27 : 0 ≤ x61_4
              ·
               rw [if_pos c27] at H
               have c27b0 : decide (0 ≤ x61_4) = true := decide_eq_true c27
               clear c27
               by_cases c28 : x61_4 < (t280.length : Int)
               ·
                rw [if_pos c28] at H
                have c28b0 : decide (x61_4 < (t280.length : Int)) = true := decide_eq_true c28
                clear c28
                by_cases c29 : x3_4 = true
                ·
                 subst c29
                 have H1 : (formelaw09_BidiPlain.l0 k4 a0 ((rd t280 x61_4) == (wrap64 ((wrap64 ((a0.size : Int) - 1)) - x61_4))) t280 (t280.length : Int) (wrap64 (x61_4 + 1))) = some r := by rw [if_pos rfl] at H; exact H
                 clear H
                 have H := H1
                 clear H1
                 have H' := Aside0.mk H
                 clear H
                 have p284 : 0 ≤ (x61_4 : Int) := of_decide_eq_true (by first | (with_reducible assumption) | assumption)
                 have q284 : x61_4 < (t280.length : Int) := of_decide_eq_true (by first | (with_reducible assumption) | assumption)
                 obtain ⟨ad284, e284, hx284_0⟩ := Kd.at_int (Kd.R_reads' HO_59.out).2.2 x61_4 p284 q284
                 cases e284
                 replace p284 := eq_true p284
                 replace q284 := eq_true q284
                 go_wp2
                 go_roundg k4
                 case measure => have := HJ3.out; have := HJ9.out; have := HJ19.out; have := HK4.out; omega
                 case rel => exact ⟨(((rd t280 x61_4) == (wrap64 ((wrap64 ((a0.size : Int) - 1)) - x61_4)))), (wrap64 (x61_4 + 1)), (by first | rfl | (simp; done) | (simp [*]; done)), (by first | rfl | (simp; done) | (simp [*]; done)), H', ⟨by have := HJ3.out; have := HJ9.out; have := HJ19.out; have := HK4.out; omega⟩, ⟨by (with_reducible repeat (first | apply Kd.R_alloc | apply Kd.R_drewN | apply Kd.R_drew)); exact HO_59.out⟩, ⟨by repeat (first | (with_reducible first | exact HB.out | apply below_alloc | apply pw_below_drewN | apply below_drew1) | exact HB.out)⟩⟩
                ·
                 replace c29 := Bool.eq_false_iff.mpr c29
                 subst c29
                 have H1 : (formelaw09_BidiPlain.l0 k4 a0 false t280 (t280.length : Int) (wrap64 (x61_4 + 1))) = some r := by rw [if_neg (show ¬ (false = true) by decide)] at H; exact H
                 clear H
                 have H := H1
                 clear H1
                 have H' := Aside0.mk H
                 clear H
                 have p284 : 0 ≤ (x61_4 : Int) := of_decide_eq_true (by first | (with_reducible assumption) | assumption)
                 have q284 : x61_4 < (t280.length : Int) := of_decide_eq_true (by first | (with_reducible assumption) | assumption)
                 obtain ⟨ad284, e284, hx284_0⟩ := Kd.at_int (Kd.R_reads' HO_59.out).2.2 x61_4 p284 q284
                 cases e284
                 replace p284 := eq_true p284
                 replace q284 := eq_true q284
                 go_wp2
                 go_roundg k4
                 case measure => have := HJ3.out; have := HJ9.out; have := HJ19.out; have := HK4.out; omega
                 case rel => exact ⟨(false), (wrap64 (x61_4 + 1)), (by first | rfl | (simp; done) | (simp [*]; done)), (by first | rfl | (simp; done) | (simp [*]; done)), H', ⟨by have := HJ3.out; have := HJ9.out; have := HJ19.out; have := HK4.out; omega⟩, ⟨by (with_reducible repeat (first | apply Kd.R_alloc | apply Kd.R_drewN | apply Kd.R_drew)); exact HO_59.out⟩, ⟨by repeat (first | (with_reducible first | exact HB.out | apply below_alloc | apply pw_below_drewN | apply below_drew1) | exact HB.out)⟩⟩
               ·
                rw [if_neg c28] at H
                exact absurd H (by simp)
              ·
               rw [if_neg c27] at H
               exact absurd H (by simp)
             ·
              rw [if_neg c26] at H
              have c26b0 : decide (x61_4 < (t280.length : Int)) = false := decide_eq_false c26
              clear c26
              obtain rfl := Option.some.inj H
              go_wp2
              go_ret
              exact ⟨by first | rfl | (simp [errW_none, errW_some] <;> rfl) | (simp [*, errW_none, errW_some] <;> rfl), by repeat (first | (with_reducible first | exact HB.out | apply below_alloc | apply pw_below_drewN | apply below_drew1) | exact HB.out)⟩
 ·
  replace c3 := Bool.eq_false_iff.mpr c3
  subst c3
  have H1 : (none) = some r := by rw [if_neg (show ¬ (false = true) by decide)] at H; exact H
  clear H
  have H := H1
  clear H1
  exact absurd H (by simp)

/-- THE ONE PURE STATEMENT of formelaw09_BidiPlain: yours. -/
def formelaw09_BidiPlain.Pure : Prop := ∀ (a0 : ByteArray), a0.size ≤ 140737488351232 → ∃ k, formelaw09_BidiPlain.f k a0 = some true
theorem formelaw09_BidiPlain.walk (P : formelaw09_BidiPlain.Pure) (a0 : ByteArray) (w : World) (w0 : a0.size ≤ 140737488351232) :
  Calls Try.prog 5 #[.string a0] w fun e w' => e = .returned (.bool true) ∧ Below w.heap.size w w' := by
 obtain ⟨k, h⟩ := P a0 w0
 refine (formelaw09_BidiPlain.calls k a0 true w h).mono ?_
 rintro e w' ⟨rfl, hd⟩
 exact ⟨rfl, hd⟩

end Go.Proofs.Ytdmfhabhcagioaa.P
