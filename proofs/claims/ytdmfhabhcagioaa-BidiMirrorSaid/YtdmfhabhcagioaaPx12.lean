-- Laid by a program of this session (wip/fam.sh) over the kit's words: Lean checks it.
import Derived.Test.YtdmfhabhcagioaaPx0
import Derived.Test.YtdmfhabhcagioaaPx2
import Derived.Test.YtdmfhabhcagioaaPx6
import Derived.Test.YtdmfhabhcagioaaPx7
import Derived.Test.YtdmfhabhcagioaaHOrder
namespace Go.Proofs.Ytdmfhabhcagioaa.P
open Go.RowKit Go.Proofs.YtdmfhabhcagioaaW.PrintWords Go.Proofs.YtdmfhabhcagioaaW.PrintLast Go.Proofs.YtdmfhabhcagioaaW.PrintMore
attribute [local go_sem] max2_int min2_int max_two min_two max_three min_three max_four min_four   -- for this text's walks alone
set_option linter.unusedVariables false
set_option linter.unusedSimpArgs false

/-! ### formelaw09_BidiMirror: function 7 -/
mutual
def formelaw09_BidiMirror.j0 : Nat → ByteArray → Int → Bool → Bool → Option (Bool)
 | 0, _, _, _, _ => none
 | k + 1, x0, x1, x5, x25 => if x25 = true then (some x5) else ((bidi_Order.f x0 x1).bind fun bt306 => ((formelaw09_mirror.f k x0).bind fun t310 => ((bidi_Order.f t310 (wrap64 (1 - x1))).bind fun bt311 => (if bt306.2 = 0 then (if bt311.2 = 0 then (if (bt306.1.length : Int) = (x0.size : Int) then (formelaw09_BidiMirror.j1 k x5 bt306.1 bt311.1 ((bt311.1.length : Int) != (x0.size : Int))) else (formelaw09_BidiMirror.j1 k x5 bt306.1 bt311.1 true)) else (formelaw09_BidiMirror.j1 k x5 bt306.1 bt311.1 true)) else (formelaw09_BidiMirror.j1 k x5 bt306.1 bt311.1 true)))))
def formelaw09_BidiMirror.j1 : Nat → Bool → List Int → List Int → Bool → Option (Bool)
 | 0, _, _, _, _ => none
 | k + 1, x5, x6, x8, x60 => if x60 = true then (some false) else (formelaw09_BidiMirror.l0 k x5 x6 x8 (x6.length : Int) 0)
def formelaw09_BidiMirror.l0 : Nat → Bool → List Int → List Int → Int → Int → Option (Bool)
 | 0, _, _, _, _, _ => none
 | k + 1, x5, x6, x8, x62, x63 => if x63 < x62 then (if x5 = true then (if 0 ≤ x63 then (if x63 < (x6.length : Int) then (if 0 ≤ (wrap64 ((wrap64 ((x8.length : Int) - 1)) - x63)) then (if (wrap64 ((wrap64 ((x8.length : Int) - 1)) - x63)) < (x8.length : Int) then (formelaw09_BidiMirror.l0 k ((rd x6 x63) == (rd x8 (wrap64 ((wrap64 ((x8.length : Int) - 1)) - x63)))) x6 x8 x62 (wrap64 (x63 + 1))) else (none)) else (none)) else (none)) else (none)) else (formelaw09_BidiMirror.l0 k false x6 x8 x62 (wrap64 (x63 + 1)))) else (some x5)
end
def formelaw09_BidiMirror.f (k : Nat) (a0 : ByteArray) (a1 : Int) : Option (Bool) := (formelaw09_head.f k).bind fun t303 => (if t303 = true then (if (a0.size : Int) > 300 then (formelaw09_BidiMirror.j0 k a0 a1 true true) else ((formeref09_Line.f k a0 a1).bind fun t304 => (if t304 = true then ((formelaw09_classes.f k a0 3).bind fun t305 => (formelaw09_BidiMirror.j0 k a0 a1 true (decide (t305 > 0)))) else (formelaw09_BidiMirror.j0 k a0 a1 true true)))) else (none))
theorem formelaw09_BidiMirror.mono_l : ∀ k, (∀ y0 y1 y2 y3, LeO (formelaw09_BidiMirror.j0 k y0 y1 y2 y3) (formelaw09_BidiMirror.j0 (k + 1) y0 y1 y2 y3)) ∧ (∀ y0 y1 y2 y3, LeO (formelaw09_BidiMirror.j1 k y0 y1 y2 y3) (formelaw09_BidiMirror.j1 (k + 1) y0 y1 y2 y3)) ∧ (∀ y0 y1 y2 y3 y4, LeO (formelaw09_BidiMirror.l0 k y0 y1 y2 y3 y4) (formelaw09_BidiMirror.l0 (k + 1) y0 y1 y2 y3 y4))
 | 0 => ⟨fun _ _ _ _ r h => by simp [formelaw09_BidiMirror.j0] at h, fun _ _ _ _ r h => by simp [formelaw09_BidiMirror.j1] at h, fun _ _ _ _ _ r h => by simp [formelaw09_BidiMirror.l0] at h⟩
 | k + 1 => by
  obtain ⟨ih0, ih1, ih2⟩ := formelaw09_BidiMirror.mono_l k
  refine ⟨?_, ?_, ?_⟩
  ·
   intro y0 y1 y2 y3
   unfold formelaw09_BidiMirror.j0
   repeat' first
   | (with_reducible exact ih0 _ _ _ _)
   | (with_reducible exact ih1 _ _ _ _)
   | (with_reducible exact ih2 _ _ _ _ _)
   | (with_reducible exact formelaw09_classes.mono _ _ _)
   | (with_reducible exact formelaw09_head.mono _)
   | (with_reducible exact formelaw09_mirror.mono _ _)
   | (with_reducible exact formeref09_Line.mono _ _ _)
   | (with_reducible exact LeO.refl _)
   | (with_reducible exact LeO.none _)
   | (with_reducible refine LeO.ite ?_ ?_)
   | (with_reducible refine LeO.bind ?_ (fun _ => ?_))
   | exact ih0 _ _ _ _
   | exact ih1 _ _ _ _
   | exact ih2 _ _ _ _ _
   | exact formelaw09_classes.mono _ _ _
   | exact formelaw09_head.mono _
   | exact formelaw09_mirror.mono _ _
   | exact formeref09_Line.mono _ _ _
   | exact LeO.none _
   | refine LeO.ite ?_ ?_
   | refine LeO.bind ?_ (fun _ => ?_)
  ·
   intro y0 y1 y2 y3
   unfold formelaw09_BidiMirror.j1
   repeat' first
   | (with_reducible exact ih0 _ _ _ _)
   | (with_reducible exact ih1 _ _ _ _)
   | (with_reducible exact ih2 _ _ _ _ _)
   | (with_reducible exact formelaw09_classes.mono _ _ _)
   | (with_reducible exact formelaw09_head.mono _)
   | (with_reducible exact formelaw09_mirror.mono _ _)
   | (with_reducible exact formeref09_Line.mono _ _ _)
   | (with_reducible exact LeO.refl _)
   | (with_reducible exact LeO.none _)
   | (with_reducible refine LeO.ite ?_ ?_)
   | (with_reducible refine LeO.bind ?_ (fun _ => ?_))
   | exact ih0 _ _ _ _
   | exact ih1 _ _ _ _
   | exact ih2 _ _ _ _ _
   | exact formelaw09_classes.mono _ _ _
   | exact formelaw09_head.mono _
   | exact formelaw09_mirror.mono _ _
   | exact formeref09_Line.mono _ _ _
   | exact LeO.none _
   | refine LeO.ite ?_ ?_
   | refine LeO.bind ?_ (fun _ => ?_)
  ·
   intro y0 y1 y2 y3 y4
   unfold formelaw09_BidiMirror.l0
   repeat' first
   | (with_reducible exact ih0 _ _ _ _)
   | (with_reducible exact ih1 _ _ _ _)
   | (with_reducible exact ih2 _ _ _ _ _)
   | (with_reducible exact formelaw09_classes.mono _ _ _)
   | (with_reducible exact formelaw09_head.mono _)
   | (with_reducible exact formelaw09_mirror.mono _ _)
   | (with_reducible exact formeref09_Line.mono _ _ _)
   | (with_reducible exact LeO.refl _)
   | (with_reducible exact LeO.none _)
   | (with_reducible refine LeO.ite ?_ ?_)
   | (with_reducible refine LeO.bind ?_ (fun _ => ?_))
   | exact ih0 _ _ _ _
   | exact ih1 _ _ _ _
   | exact ih2 _ _ _ _ _
   | exact formelaw09_classes.mono _ _ _
   | exact formelaw09_head.mono _
   | exact formelaw09_mirror.mono _ _
   | exact formeref09_Line.mono _ _ _
   | exact LeO.none _
   | refine LeO.ite ?_ ?_
   | refine LeO.bind ?_ (fun _ => ?_)
theorem formelaw09_BidiMirror.mono : ∀ a0 a1 k, LeO (formelaw09_BidiMirror.f k a0 a1) (formelaw09_BidiMirror.f (k + 1) a0 a1) := by
 intro a0 a1 k
 obtain ⟨ih0, ih1, ih2⟩ := formelaw09_BidiMirror.mono_l k
 unfold formelaw09_BidiMirror.f
 repeat' first
   | (with_reducible exact ih0 _ _ _ _)
   | (with_reducible exact ih1 _ _ _ _)
   | (with_reducible exact ih2 _ _ _ _ _)
   | (with_reducible exact formelaw09_classes.mono _ _ _)
   | (with_reducible exact formelaw09_head.mono _)
   | (with_reducible exact formelaw09_mirror.mono _ _)
   | (with_reducible exact formeref09_Line.mono _ _ _)
   | (with_reducible exact LeO.refl _)
   | (with_reducible exact LeO.none _)
   | (with_reducible refine LeO.ite ?_ ?_)
   | (with_reducible refine LeO.bind ?_ (fun _ => ?_))
   | exact ih0 _ _ _ _
   | exact ih1 _ _ _ _
   | exact ih2 _ _ _ _ _
   | exact formelaw09_classes.mono _ _ _
   | exact formelaw09_head.mono _
   | exact formelaw09_mirror.mono _ _
   | exact formeref09_Line.mono _ _ _
   | exact LeO.none _
   | refine LeO.ite ?_ ?_
   | refine LeO.bind ?_ (fun _ => ?_)
set_option maxHeartbeats 8000000 in
set_option maxRecDepth 100000 in
theorem formelaw09_BidiMirror.calls (k : Nat) (a0 : ByteArray) (a1 : Int) (r : Bool) (w : World) (h : formelaw09_BidiMirror.f k a0 a1 = some r) :
  Calls Try.prog 7 #[.string a0, .int .i64 a1] w fun e w' => e = .returned (.bool r) ∧ Below w.heap.size w w' := by
 have HB := Aside0.mk (Below.refl w.heap.size w)
 have H : ((formelaw09_head.f k).bind fun t303 => (if t303 = true then (if (a0.size : Int) > 300 then (formelaw09_BidiMirror.j0 k a0 a1 true true) else ((formeref09_Line.f k a0 a1).bind fun t304 => (if t304 = true then ((formelaw09_classes.f k a0 3).bind fun t305 => (formelaw09_BidiMirror.j0 k a0 a1 true (decide (t305 > 0)))) else (formelaw09_BidiMirror.j0 k a0 a1 true true)))) else (none))) = some r := h
 clear h
 replace H := Option.bind_eq_some_iff.mp H
 obtain ⟨t303, A30, H⟩ := H
 replace H : (if t303 = true then (if (a0.size : Int) > 300 then (formelaw09_BidiMirror.j0 k a0 a1 true true) else ((formeref09_Line.f k a0 a1).bind fun t304 => (if t304 = true then ((formelaw09_classes.f k a0 3).bind fun t305 => (formelaw09_BidiMirror.j0 k a0 a1 true (decide (t305 > 0)))) else (formelaw09_BidiMirror.j0 k a0 a1 true true)))) else (none)) = some r := H
 have A3 := Aside0.mk A30
 clear A30
 by_cases c4 : t303 = true
 ·
  subst c4
  have H1 : (if (a0.size : Int) > 300 then (formelaw09_BidiMirror.j0 k a0 a1 true true) else ((formeref09_Line.f k a0 a1).bind fun t304 => (if t304 = true then ((formelaw09_classes.f k a0 3).bind fun t305 => (formelaw09_BidiMirror.j0 k a0 a1 true (decide (t305 > 0)))) else (formelaw09_BidiMirror.j0 k a0 a1 true true)))) = some r := by rw [if_pos rfl] at H; exact H
  clear H
  have H := H1
  clear H1
  have HC5 := Aside0.mk H
  clear H
  go_enter Try.func7, Try.ntmps7
  go_upto_region 2 with (first | (go_at_call 10; (with_reducible refine (formelaw09_head.calls k  true _ A3.out).mono ?_); rintro e w6 ⟨rfl, hb⟩; have n0_ := Aside0.mk (below_step (by repeat (first | (with_reducible first | exact HB.out | apply below_alloc | apply pw_below_drewN | apply below_drew1) | exact HB.out)) hb); clear HB; have HB := n0_; clear n0_; (try clear hb); (try clear hb2); (try clear hk); (try clear hi)))
  repeat (go_quiet (fail); go_upto_region 2 with (first | (go_at_call 10; (with_reducible refine (formelaw09_head.calls k  true _ A3.out).mono ?_); rintro e w6 ⟨rfl, hb⟩; have n0_ := Aside0.mk (below_step (by repeat (first | (with_reducible first | exact HB.out | apply below_alloc | apply pw_below_drewN | apply below_drew1) | exact HB.out)) hb); clear HB; have HB := n0_; clear n0_; (try clear hb); (try clear hb2); (try clear hk); (try clear hi))))
  (try simp only [Act.put, List.setIfInBounds_toArray, List.set_cons_zero, List.set_cons_succ])
  go_cut [25] (fun v25 wc => ∃ (kq : Nat) (x25_4 : Bool), v25 = .bool x25_4 ∧ Aside0 (formelaw09_BidiMirror.j0 kq a0 a1 true x25_4 = some r) ∧ Aside0 (kq ≤ k) ∧ Aside0 (Below w.heap.size w wc))
  case first =>
   have H := HC5.out
   clear HC5
   by_cases c7 : (a0.size : Int) > 300
   ·
    rw [if_pos c7] at H
    have c7b0 : decide (300 < (a0.size : Int)) = true := decide_eq_true c7
    have c7b1 : decide (300 < a0.size) = true := decide_eq_true (by omega)
    clear c7
    (first | rw [c7b0] | (simp only [i64_w, i32_w]; rw [c7b0]) | skip)
    have H' := Aside0.mk H
    clear H
    go_wp2
    repeat (go_quiet (fail); try go_wp2)
    go_meet
    case rel => exact ⟨_, (true), (by first | rfl | (simp; done) | (simp [*]; done)), H', ⟨by first | omega | exact Nat.le_refl _⟩, ⟨by repeat (first | (with_reducible first | exact HB.out | apply below_alloc | apply pw_below_drewN | apply below_drew1) | exact HB.out)⟩⟩
   ·
    rw [if_neg c7] at H
    have c7b0 : decide (300 < (a0.size : Int)) = false := decide_eq_false c7
    have c7b1 : decide (300 < a0.size) = false := decide_eq_false (by omega)
    clear c7
    (first | rw [c7b0] | (simp only [i64_w, i32_w]; rw [c7b0]) | skip)
    replace H := Option.bind_eq_some_iff.mp H
    obtain ⟨t304, A80, H⟩ := H
    replace H : (if t304 = true then ((formelaw09_classes.f k a0 3).bind fun t305 => (formelaw09_BidiMirror.j0 k a0 a1 true (decide (t305 > 0)))) else (formelaw09_BidiMirror.j0 k a0 a1 true true)) = some r := H
    have A8 := Aside0.mk A80
    clear A80
    by_cases c9 : t304 = true
    ·
     subst c9
     have H1 : ((formelaw09_classes.f k a0 3).bind fun t305 => (formelaw09_BidiMirror.j0 k a0 a1 true (decide (t305 > 0)))) = some r := by rw [if_pos rfl] at H; exact H
     clear H
     have H := H1
     clear H1
     replace H := Option.bind_eq_some_iff.mp H
     obtain ⟨t305, A100, H⟩ := H
     replace H : (formelaw09_BidiMirror.j0 k a0 a1 true (decide (t305 > 0))) = some r := H
     have A10 := Aside0.mk A100
     clear A100
     have H' := Aside0.mk H
     clear H
     go_wp2_with (first | (go_at_call 18; (with_reducible refine (formeref09_Line.calls k a0 a1 true _ A8.out).mono ?_); rintro e w' ⟨rfl, ⟨nd, rfl⟩⟩; (try first | exact ⟨rfl, _, World.drewN_drewN _ _ _⟩ | exact ⟨rfl, _, Eq.trans (World.drewN_drewN _ _ _) (congrArg (World.drewN _) (Nat.add_assoc _ _ _))⟩)) | (go_at_call 21; (with_reducible refine (formelaw09_classes.calls k a0 3 t305 _ A10.out).mono ?_); rintro e w' ⟨rfl, ⟨nd, rfl⟩⟩; (try first | exact ⟨rfl, _, World.drewN_drewN _ _ _⟩ | exact ⟨rfl, _, Eq.trans (World.drewN_drewN _ _ _) (congrArg (World.drewN _) (Nat.add_assoc _ _ _))⟩)))
     repeat (go_quiet (first | (go_at_call 18; (with_reducible refine (formeref09_Line.calls k a0 a1 true _ A8.out).mono ?_); rintro e w' ⟨rfl, ⟨nd, rfl⟩⟩; (try first | exact ⟨rfl, _, World.drewN_drewN _ _ _⟩ | exact ⟨rfl, _, Eq.trans (World.drewN_drewN _ _ _) (congrArg (World.drewN _) (Nat.add_assoc _ _ _))⟩)) | (go_at_call 21; (with_reducible refine (formelaw09_classes.calls k a0 3 t305 _ A10.out).mono ?_); rintro e w' ⟨rfl, ⟨nd, rfl⟩⟩; (try first | exact ⟨rfl, _, World.drewN_drewN _ _ _⟩ | exact ⟨rfl, _, Eq.trans (World.drewN_drewN _ _ _) (congrArg (World.drewN _) (Nat.add_assoc _ _ _))⟩))); try go_wp2_with (first | (go_at_call 18; (with_reducible refine (formeref09_Line.calls k a0 a1 true _ A8.out).mono ?_); rintro e w' ⟨rfl, ⟨nd, rfl⟩⟩; (try first | exact ⟨rfl, _, World.drewN_drewN _ _ _⟩ | exact ⟨rfl, _, Eq.trans (World.drewN_drewN _ _ _) (congrArg (World.drewN _) (Nat.add_assoc _ _ _))⟩)) | (go_at_call 21; (with_reducible refine (formelaw09_classes.calls k a0 3 t305 _ A10.out).mono ?_); rintro e w' ⟨rfl, ⟨nd, rfl⟩⟩; (try first | exact ⟨rfl, _, World.drewN_drewN _ _ _⟩ | exact ⟨rfl, _, Eq.trans (World.drewN_drewN _ _ _) (congrArg (World.drewN _) (Nat.add_assoc _ _ _))⟩))))
     go_meet
     case rel => exact ⟨_, (decide (t305 > 0)), (by first | rfl | (simp; done) | (simp [*]; done)), H', ⟨by first | omega | exact Nat.le_refl _⟩, ⟨by repeat (first | (with_reducible first | exact HB.out | apply below_alloc | apply pw_below_drewN | apply below_drew1) | exact HB.out)⟩⟩
    ·
     replace c9 := Bool.eq_false_iff.mpr c9
     subst c9
     have H1 : (formelaw09_BidiMirror.j0 k a0 a1 true true) = some r := by rw [if_neg (show ¬ (false = true) by decide)] at H; exact H
     clear H
     have H := H1
     clear H1
     have H' := Aside0.mk H
     clear H
     go_wp2_with (first | (go_at_call 18; (with_reducible refine (formeref09_Line.calls k a0 a1 false _ A8.out).mono ?_); rintro e w' ⟨rfl, ⟨nd, rfl⟩⟩; (try first | exact ⟨rfl, _, World.drewN_drewN _ _ _⟩ | exact ⟨rfl, _, Eq.trans (World.drewN_drewN _ _ _) (congrArg (World.drewN _) (Nat.add_assoc _ _ _))⟩)))
     repeat (go_quiet (first | (go_at_call 18; (with_reducible refine (formeref09_Line.calls k a0 a1 false _ A8.out).mono ?_); rintro e w' ⟨rfl, ⟨nd, rfl⟩⟩; (try first | exact ⟨rfl, _, World.drewN_drewN _ _ _⟩ | exact ⟨rfl, _, Eq.trans (World.drewN_drewN _ _ _) (congrArg (World.drewN _) (Nat.add_assoc _ _ _))⟩))); try go_wp2_with (first | (go_at_call 18; (with_reducible refine (formeref09_Line.calls k a0 a1 false _ A8.out).mono ?_); rintro e w' ⟨rfl, ⟨nd, rfl⟩⟩; (try first | exact ⟨rfl, _, World.drewN_drewN _ _ _⟩ | exact ⟨rfl, _, Eq.trans (World.drewN_drewN _ _ _) (congrArg (World.drewN _) (Nat.add_assoc _ _ _))⟩))))
     go_meet
     case rel => exact ⟨_, (true), (by first | rfl | (simp; done) | (simp [*]; done)), H', ⟨by first | omega | exact Nat.le_refl _⟩, ⟨by repeat (first | (with_reducible first | exact HB.out | apply below_alloc | apply pw_below_drewN | apply below_drew1) | exact HB.out)⟩⟩
  case rest =>
   clear HC5
   try clear p2
   try clear c4
   try clear c7
   try clear c7b0
   try clear c7b1
   try clear c9
   obtain ⟨kq, x25_4, rfl, HA, HJ4, HB⟩ := hcut
   cases kq with
   | zero => exact absurd HA.out (by simp [formelaw09_BidiMirror.j0])
   | succ kj4 =>
    have H := HA.out
    clear HA
    simp only [formelaw09_BidiMirror.j0] at H
    by_cases c11 : x25_4 = true
    ·
     subst c11
     have H1 : (some true) = some r := by rw [if_pos rfl] at H; exact H
     clear H
     have H := H1
     clear H1
     obtain rfl := Option.some.inj H
     go_wp2
     repeat (go_quiet (fail); try go_wp2)
     go_ret
     exact ⟨by first | rfl | (simp [errW_none, errW_some] <;> rfl) | (simp [*, errW_none, errW_some] <;> rfl), by repeat (first | (with_reducible first | exact HB.out | apply below_alloc | apply pw_below_drewN | apply below_drew1) | exact HB.out)⟩
    ·
     replace c11 := Bool.eq_false_iff.mpr c11
     subst c11
     have H1 : ((bidi_Order.f a0 a1).bind fun bt306 => ((formelaw09_mirror.f kj4 a0).bind fun t310 => ((bidi_Order.f t310 (wrap64 (1 - a1))).bind fun bt311 => (if bt306.2 = 0 then (if bt311.2 = 0 then (if (bt306.1.length : Int) = (a0.size : Int) then (formelaw09_BidiMirror.j1 kj4 true bt306.1 bt311.1 ((bt311.1.length : Int) != (a0.size : Int))) else (formelaw09_BidiMirror.j1 kj4 true bt306.1 bt311.1 true)) else (formelaw09_BidiMirror.j1 kj4 true bt306.1 bt311.1 true)) else (formelaw09_BidiMirror.j1 kj4 true bt306.1 bt311.1 true))))) = some r := by rw [if_neg (show ¬ (false = true) by decide)] at H; exact H
     clear H
     have H := H1
     clear H1
     replace H := Option.bind_eq_some_iff.mp H
     obtain ⟨⟨t306, t307⟩, A120, H⟩ := H
     replace H : ((formelaw09_mirror.f kj4 a0).bind fun t310 => ((bidi_Order.f t310 (wrap64 (1 - a1))).bind fun bt311 => (if t307 = 0 then (if bt311.2 = 0 then (if (t306.length : Int) = (a0.size : Int) then (formelaw09_BidiMirror.j1 kj4 true t306 bt311.1 ((bt311.1.length : Int) != (a0.size : Int))) else (formelaw09_BidiMirror.j1 kj4 true t306 bt311.1 true)) else (formelaw09_BidiMirror.j1 kj4 true t306 bt311.1 true)) else (formelaw09_BidiMirror.j1 kj4 true t306 bt311.1 true)))) = some r := H
     have A12 := Aside0.mk A120
     clear A120
     replace H := Option.bind_eq_some_iff.mp H
     obtain ⟨t310, A130, H⟩ := H
     replace H : ((bidi_Order.f t310 (wrap64 (1 - a1))).bind fun bt311 => (if t307 = 0 then (if bt311.2 = 0 then (if (t306.length : Int) = (a0.size : Int) then (formelaw09_BidiMirror.j1 kj4 true t306 bt311.1 ((bt311.1.length : Int) != (a0.size : Int))) else (formelaw09_BidiMirror.j1 kj4 true t306 bt311.1 true)) else (formelaw09_BidiMirror.j1 kj4 true t306 bt311.1 true)) else (formelaw09_BidiMirror.j1 kj4 true t306 bt311.1 true))) = some r := H
     have A13 := Aside0.mk A130
     clear A130
     replace H := Option.bind_eq_some_iff.mp H
     obtain ⟨⟨t311, t312⟩, A140, H⟩ := H
     replace H : (if t307 = 0 then (if t312 = 0 then (if (t306.length : Int) = (a0.size : Int) then (formelaw09_BidiMirror.j1 kj4 true t306 t311 ((t311.length : Int) != (a0.size : Int))) else (formelaw09_BidiMirror.j1 kj4 true t306 t311 true)) else (formelaw09_BidiMirror.j1 kj4 true t306 t311 true)) else (formelaw09_BidiMirror.j1 kj4 true t306 t311 true)) = some r := H
     have A14 := Aside0.mk A140
     clear A140
     have HC15 := Aside0.mk H
     clear H
     go_upto_region 6 with (first | (go_at_call 14; (with_reducible refine (bidi_Order.calls a0 a1 t306 t307 _ A12.out).mono ?_); rintro e w16 ⟨v308, rfl, ho0, hb⟩; have n0_ := Aside0.mk (Kd.R_lower ho0 (below_size (by repeat (first | (with_reducible first | exact HB.out | apply below_alloc | apply pw_below_drewN | apply below_drew1) | exact HB.out)))); have n1_ := Aside0.mk (below_step (by repeat (first | (with_reducible first | exact HB.out | apply below_alloc | apply pw_below_drewN | apply below_drew1) | exact HB.out)) hb); clear HB; have HO309 := n0_; have HB := n1_; clear n0_ n1_; (try clear hb); (try clear hb2); (try clear hk); (try clear hi); (try clear ho0)) | (go_at_call 23; (with_reducible refine (formelaw09_mirror.calls kj4 a0 t310 _ A13.out).mono ?_); rintro e w17 ⟨rfl, hb⟩; have n0_ := Aside0.mk (Kd.R_below (by (with_reducible repeat (first | apply Kd.R_alloc | apply Kd.R_drewN | apply Kd.R_drew)); exact HO309.out) hb); have n1_ := Aside0.mk (below_step (by repeat (first | (with_reducible first | exact HB.out | apply below_alloc | apply pw_below_drewN | apply below_drew1) | exact HB.out)) hb); clear HO309; clear HB; have HO309 := n0_; have HB := n1_; clear n0_ n1_; (try clear hb); (try clear hb2); (try clear hk); (try clear hi)) | (go_at_call 14; (with_reducible refine (bidi_Order.calls t310 (wrap64 (1 - a1)) t311 t312 _ A14.out).mono ?_); rintro e w18 ⟨v313, rfl, ho0, hb⟩; have n0_ := Aside0.mk (Kd.R_elder' (by (with_reducible repeat (first | apply Kd.R_alloc | apply Kd.R_drewN | apply Kd.R_drew)); exact HO309.out) (Kd.R_base ho0) hb); have n1_ := Aside0.mk (Kd.R_lower (Kd.R_new' ho0 (Kd.R_lt (by (with_reducible repeat (first | apply Kd.R_alloc | apply Kd.R_drewN | apply Kd.R_drew)); exact HO309.out))) (below_size (by repeat (first | (with_reducible first | exact HB.out | apply below_alloc | apply pw_below_drewN | apply below_drew1) | exact HB.out)))); have n2_ := Aside0.mk (below_step (by repeat (first | (with_reducible first | exact HB.out | apply below_alloc | apply pw_below_drewN | apply below_drew1) | exact HB.out)) hb); clear HO309; clear HB; have HO309 := n0_; have HO314 := n1_; have HB := n2_; clear n0_ n1_ n2_; (try clear hb); (try clear hb2); (try clear hk); (try clear hi); (try clear ho0)))
     repeat (go_quiet (fail); go_upto_region 6 with (first | (go_at_call 14; (with_reducible refine (bidi_Order.calls a0 a1 t306 t307 _ A12.out).mono ?_); rintro e w16 ⟨v308, rfl, ho0, hb⟩; have n0_ := Aside0.mk (Kd.R_lower ho0 (below_size (by repeat (first | (with_reducible first | exact HB.out | apply below_alloc | apply pw_below_drewN | apply below_drew1) | exact HB.out)))); have n1_ := Aside0.mk (below_step (by repeat (first | (with_reducible first | exact HB.out | apply below_alloc | apply pw_below_drewN | apply below_drew1) | exact HB.out)) hb); clear HB; have HO309 := n0_; have HB := n1_; clear n0_ n1_; (try clear hb); (try clear hb2); (try clear hk); (try clear hi); (try clear ho0)) | (go_at_call 23; (with_reducible refine (formelaw09_mirror.calls kj4 a0 t310 _ A13.out).mono ?_); rintro e w17 ⟨rfl, hb⟩; have n0_ := Aside0.mk (Kd.R_below (by (with_reducible repeat (first | apply Kd.R_alloc | apply Kd.R_drewN | apply Kd.R_drew)); exact HO309.out) hb); have n1_ := Aside0.mk (below_step (by repeat (first | (with_reducible first | exact HB.out | apply below_alloc | apply pw_below_drewN | apply below_drew1) | exact HB.out)) hb); clear HO309; clear HB; have HO309 := n0_; have HB := n1_; clear n0_ n1_; (try clear hb); (try clear hb2); (try clear hk); (try clear hi)) | (go_at_call 14; (with_reducible refine (bidi_Order.calls t310 (wrap64 (1 - a1)) t311 t312 _ A14.out).mono ?_); rintro e w18 ⟨v313, rfl, ho0, hb⟩; have n0_ := Aside0.mk (Kd.R_elder' (by (with_reducible repeat (first | apply Kd.R_alloc | apply Kd.R_drewN | apply Kd.R_drew)); exact HO309.out) (Kd.R_base ho0) hb); have n1_ := Aside0.mk (Kd.R_lower (Kd.R_new' ho0 (Kd.R_lt (by (with_reducible repeat (first | apply Kd.R_alloc | apply Kd.R_drewN | apply Kd.R_drew)); exact HO309.out))) (below_size (by repeat (first | (with_reducible first | exact HB.out | apply below_alloc | apply pw_below_drewN | apply below_drew1) | exact HB.out)))); have n2_ := Aside0.mk (below_step (by repeat (first | (with_reducible first | exact HB.out | apply below_alloc | apply pw_below_drewN | apply below_drew1) | exact HB.out)) hb); clear HO309; clear HB; have HO309 := n0_; have HO314 := n1_; have HB := n2_; clear n0_ n1_ n2_; (try clear hb); (try clear hb2); (try clear hk); (try clear hi); (try clear ho0))))
     (try simp only [Act.put, List.setIfInBounds_toArray, List.set_cons_zero, List.set_cons_succ])
     go_cut [60] (fun v60 wc => ∃ (kq : Nat) (x60_14 : Bool), v60 = .bool x60_14 ∧ Aside0 (formelaw09_BidiMirror.j1 kq true t306 t311 x60_14 = some r) ∧ Aside0 (kq ≤ kj4) ∧ Aside0 (Kd.R (Kd.int .i64) 3 wc w.heap.size (fun k_ => some k_ ≠ (v313 : Value).ownBlock) v308 t306) ∧ Aside0 (Kd.R (Kd.int .i64) 3 wc w.heap.size (fun k_ => some k_ ≠ (v308 : Value).ownBlock) v313 t311) ∧ Aside0 (Below w.heap.size w wc))
     case first =>
      have H := HC15.out
      clear HC15
      by_cases c19 : t307 = 0
      ·
       rw [if_pos c19] at H
       have c19b0 : (t307 == 0) = true := beq_iff_eq.mpr c19
       have c19b1 : (t307 != 0) = false := bne_eq_false_iff_eq.mpr c19
       clear c19
       (first | rw [c19b0] | (simp only [i64_w, i32_w]; rw [c19b0]) | skip)
       by_cases c20 : t312 = 0
       ·
        rw [if_pos c20] at H
        have c20b0 : (t312 == 0) = true := beq_iff_eq.mpr c20
        have c20b1 : (t312 != 0) = false := bne_eq_false_iff_eq.mpr c20
        clear c20
        by_cases c21 : (t306.length : Int) = (a0.size : Int)
        ·
         rw [if_pos c21] at H
         have c21b0 : ((t306.length : Int) == (a0.size : Int)) = true := beq_iff_eq.mpr c21
         have c21b1 : ((t306.length : Int) != (a0.size : Int)) = false := bne_eq_false_iff_eq.mpr c21
         have c21b2 : (t306.length == a0.size) = true := by first | simpa using c21 | (simp at c21 ⊢; omega)
         clear c21
         have H' := Aside0.mk H
         clear H
         obtain ⟨Ao22, co22, eo22⟩ := Kd.R_slice HO309.out
         subst eo22
         obtain ⟨Ao23, co23, eo23⟩ := Kd.R_slice HO314.out
         subst eo23
         go_wp2
         repeat (go_quiet (fail); try go_wp2)
         go_meet
         case rel => exact ⟨_, (((t311.length : Int) != (a0.size : Int))), (by first | rfl | (simp; done) | (simp [*]; done)), H', ⟨by have := HJ4.out; first | omega | exact Nat.le_refl _⟩, ⟨by (with_reducible repeat (first | apply Kd.R_alloc | apply Kd.R_drewN | apply Kd.R_drew)); exact Kd.R_mono HO309.out (fun _ hk => hk.2)⟩, ⟨by (with_reducible repeat (first | apply Kd.R_alloc | apply Kd.R_drewN | apply Kd.R_drew)); exact Kd.R_mono HO314.out (fun _ hk => hk.2)⟩, ⟨by repeat (first | (with_reducible first | exact HB.out | apply below_alloc | apply pw_below_drewN | apply below_drew1) | exact HB.out)⟩⟩
        ·
         rw [if_neg c21] at H
         have c21b0 : ((t306.length : Int) == (a0.size : Int)) = false := beq_eq_false_iff_ne.mpr c21
         have c21b1 : ((t306.length : Int) != (a0.size : Int)) = true := bne_iff_ne.mpr c21
         have c21b2 : (t306.length == a0.size) = false := by first | simpa using c21 | (simp at c21 ⊢; omega)
         have H' := Aside0.mk H
         clear H
         obtain ⟨Ao24, co24, eo24⟩ := Kd.R_slice HO309.out
         subst eo24
         go_wp2
         repeat (go_quiet (fail); try go_wp2)
         go_meet
         case rel => exact ⟨_, (true), (by first | rfl | (simp; done) | (simp [*]; done)), H', ⟨by have := HJ4.out; first | omega | exact Nat.le_refl _⟩, ⟨by (with_reducible repeat (first | apply Kd.R_alloc | apply Kd.R_drewN | apply Kd.R_drew)); exact Kd.R_mono HO309.out (fun _ hk => hk.2)⟩, ⟨by (with_reducible repeat (first | apply Kd.R_alloc | apply Kd.R_drewN | apply Kd.R_drew)); exact Kd.R_mono HO314.out (fun _ hk => hk.2)⟩, ⟨by repeat (first | (with_reducible first | exact HB.out | apply below_alloc | apply pw_below_drewN | apply below_drew1) | exact HB.out)⟩⟩
       ·
        rw [if_neg c20] at H
        have c20b0 : (t312 == 0) = false := beq_eq_false_iff_ne.mpr c20
        have c20b1 : (t312 != 0) = true := bne_iff_ne.mpr c20
        have H' := Aside0.mk H
        clear H
        go_wp2
        repeat (go_quiet (fail); try go_wp2)
        go_meet
        case rel => exact ⟨_, (true), (by first | rfl | (simp; done) | (simp [*]; done)), H', ⟨by have := HJ4.out; first | omega | exact Nat.le_refl _⟩, ⟨by (with_reducible repeat (first | apply Kd.R_alloc | apply Kd.R_drewN | apply Kd.R_drew)); exact Kd.R_mono HO309.out (fun _ hk => hk.2)⟩, ⟨by (with_reducible repeat (first | apply Kd.R_alloc | apply Kd.R_drewN | apply Kd.R_drew)); exact Kd.R_mono HO314.out (fun _ hk => hk.2)⟩, ⟨by repeat (first | (with_reducible first | exact HB.out | apply below_alloc | apply pw_below_drewN | apply below_drew1) | exact HB.out)⟩⟩
      ·
       rw [if_neg c19] at H
       have c19b0 : (t307 == 0) = false := beq_eq_false_iff_ne.mpr c19
       have c19b1 : (t307 != 0) = true := bne_iff_ne.mpr c19
       (first | rw [c19b0] | (simp only [i64_w, i32_w]; rw [c19b0]) | skip)
       have H' := Aside0.mk H
       clear H
       go_wp2
       repeat (go_quiet (fail); try go_wp2)
       go_meet
       case rel => exact ⟨_, (true), (by first | rfl | (simp; done) | (simp [*]; done)), H', ⟨by have := HJ4.out; first | omega | exact Nat.le_refl _⟩, ⟨by (with_reducible repeat (first | apply Kd.R_alloc | apply Kd.R_drewN | apply Kd.R_drew)); exact Kd.R_mono HO309.out (fun _ hk => hk.2)⟩, ⟨by (with_reducible repeat (first | apply Kd.R_alloc | apply Kd.R_drewN | apply Kd.R_drew)); exact Kd.R_mono HO314.out (fun _ hk => hk.2)⟩, ⟨by repeat (first | (with_reducible first | exact HB.out | apply below_alloc | apply pw_below_drewN | apply below_drew1) | exact HB.out)⟩⟩
     case rest =>
      clear HC15
      try clear c1
      try clear c2
      try clear p2
      try clear c4
      try clear p6
      try clear c7
      try clear c7b0
      try clear c7b1
      try clear c9
      try clear c11
      try clear c19
      try clear c19b0
      try clear c19b1
      try clear c20
      try clear c20b0
      try clear c20b1
      try clear c21
      try clear c21b0
      try clear c21b1
      try clear c21b2
      try clear p2
      obtain ⟨kq, x60_14, rfl, HA, HJ14, HO_6, HO_8, HB⟩ := hcut
      cases kq with
      | zero => exact absurd HA.out (by simp [formelaw09_BidiMirror.j1])
      | succ kj14 =>
       have H := HA.out
       clear HA
       simp only [formelaw09_BidiMirror.j1] at H
       by_cases c25 : x60_14 = true
       ·
        subst c25
        have H1 : (some false) = some r := by rw [if_pos rfl] at H; exact H
        clear H
        have H := H1
        clear H1
        obtain rfl := Option.some.inj H
        go_wp2
        repeat (go_quiet (fail); try go_wp2)
        go_ret
        exact ⟨by first | rfl | (simp [errW_none, errW_some] <;> rfl) | (simp [*, errW_none, errW_some] <;> rfl), by repeat (first | (with_reducible first | exact HB.out | apply below_alloc | apply pw_below_drewN | apply below_drew1) | exact HB.out)⟩
       ·
        replace c25 := Bool.eq_false_iff.mpr c25
        subst c25
        have H1 : (formelaw09_BidiMirror.l0 kj14 true t306 t311 (t306.length : Int) 0) = some r := by rw [if_neg (show ¬ (false = true) by decide)] at H; exact H
        clear H
        have H := H1
        clear H1
        have H' := Aside0.mk H
        clear H
        obtain ⟨Ao26, co26, eo26⟩ := Kd.R_slice HO_6.out
        subst eo26
        go_wp2
        repeat (go_quiet (fail); try go_wp2)
        go_loopg [5, 63] kj14 (fun kq v5 v63 w' => ∃ (x5_3 : Bool) (x63_3 : Int), v5 = .bool x5_3 ∧ v63 = .int .i64 x63_3 ∧ Aside0 (formelaw09_BidiMirror.l0 kq x5_3 t306 t311 (t306.length : Int) x63_3 = some r) ∧ Aside0 (kq ≤ kj14) ∧ Aside0 (Kd.R (Kd.int .i64) 3 w' w.heap.size (fun k_ => some k_ ≠ (v313 : Value).ownBlock) (.slice Ao26 t306.length co26) t306) ∧ Aside0 (Kd.R (Kd.int .i64) 3 w' w.heap.size (fun k_ => some k_ ≠ ((.slice Ao26 t306.length co26) : Value).ownBlock) v313 t311) ∧ Aside0 (Below w.heap.size w w'))
        case atStart => exact ⟨(true), (0), (by first | rfl | (simp; done) | (simp [*]; done)), (by first | rfl | (simp; done) | (simp [*]; done)), H', ⟨Nat.le_refl _⟩, ⟨by (with_reducible repeat (first | apply Kd.R_alloc | apply Kd.R_drewN | apply Kd.R_drew)); exact HO_6.out⟩, ⟨by (with_reducible repeat (first | apply Kd.R_alloc | apply Kd.R_drewN | apply Kd.R_drew)); exact HO_8.out⟩, ⟨by repeat (first | (with_reducible first | exact HB.out | apply below_alloc | apply pw_below_drewN | apply below_drew1) | exact HB.out)⟩⟩
        case round =>
         clear H'
         try clear c1
         try clear c2
         try clear p2
         try clear c4
         try clear p6
         try clear c7
         try clear c7b0
         try clear c7b1
         try clear c9
         try clear c11
         try clear c19
         try clear c19b0
         try clear c19b1
         try clear c20
         try clear c20b0
         try clear c20b1
         try clear c21
         try clear c21b0
         try clear c21b1
         try clear c21b2
         try clear c25
         try clear p2
         try clear p6
         obtain ⟨x5_3, x63_3, rfl, rfl, HA, HK3, HO_6, HO_8, HB⟩ := hrel
         cases gk with
         | zero => exact absurd HA.out (by simp [formelaw09_BidiMirror.l0])
         | succ k3 =>
          have H := HA.out
          clear HA
          simp only [formelaw09_BidiMirror.l0] at H
          by_cases c27 : x63_3 < (t306.length : Int)
          ·
           rw [if_pos c27] at H
           have c27b0 : decide (x63_3 < (t306.length : Int)) = true := decide_eq_true c27
           clear c27
           by_cases c28 : x5_3 = true
           ·
            subst c28
            have H1 : (if 0 ≤ x63_3 then (if x63_3 < (t306.length : Int) then (if 0 ≤ (wrap64 ((wrap64 ((t311.length : Int) - 1)) - x63_3)) then (if (wrap64 ((wrap64 ((t311.length : Int) - 1)) - x63_3)) < (t311.length : Int) then (formelaw09_BidiMirror.l0 k3 ((rd t306 x63_3) == (rd t311 (wrap64 ((wrap64 ((t311.length : Int) - 1)) - x63_3)))) t306 t311 (t306.length : Int) (wrap64 (x63_3 + 1))) else (none)) else (none)) else (none)) else (none)) = some r := by rw [if_pos rfl] at H; exact H
            clear H
            have H := H1
            clear H1
            by_cases c29 : 0 ≤ x63_3
            ·
             rw [if_pos c29] at H
             have c29b0 : decide (0 ≤ x63_3) = true := decide_eq_true c29
             clear c29
             by_cases c30 : x63_3 < (t306.length : Int)
             ·
              rw [if_pos c30] at H
              have c30b0 : decide (x63_3 < (t306.length : Int)) = true := decide_eq_true c30
              clear c30
              obtain ⟨ji31, hji31⟩ : ∃ j_ : Int, (wrap64 ((wrap64 ((t311.length : Int) - 1)) - x63_3)) = j_ := ⟨_, rfl⟩
              replace H : (if 0 ≤ (ji31) then (if (ji31) < (t311.length : Int) then (formelaw09_BidiMirror.l0 k3 ((rd t306 x63_3) == (rd t311 (ji31))) t306 t311 (t306.length : Int) (wrap64 (x63_3 + 1))) else (none)) else (none)) = some r := by first | (rw [hji31] at H; exact H) | (simp only [hji31] at H ⊢; exact H)
              have hji31w : (IntKind.i64.wrap ((wrap64 ((t311.length : Int) - 1)) - x63_3)) = ji31 := (i64_w _).trans hji31
              by_cases c32 : 0 ≤ (ji31)
              ·
               rw [if_pos c32] at H
               have c32b0 : decide (0 ≤ (ji31)) = true := decide_eq_true c32
               clear c32
               by_cases c33 : (ji31) < (t311.length : Int)
               ·
                rw [if_pos c33] at H
                have c33b0 : decide ((ji31) < (t311.length : Int)) = true := decide_eq_true c33
                clear c33
                have H' := Aside0.mk H
                clear H
                have p315 : 0 ≤ (x63_3 : Int) := of_decide_eq_true (by first | (with_reducible assumption) | assumption)
                have q315 : x63_3 < (t306.length : Int) := of_decide_eq_true (by first | (with_reducible assumption) | assumption)
                obtain ⟨ad315, e315, hx315_0⟩ := Kd.at_int (Kd.R_reads' HO_6.out).2.2 x63_3 p315 q315
                cases e315
                replace p315 := eq_true p315
                replace q315 := eq_true q315
                obtain ⟨Ao34, co34, eo34⟩ := Kd.R_slice HO_8.out
                subst eo34
                have p316 : 0 ≤ ((ji31) : Int) := of_decide_eq_true (by first | (with_reducible assumption) | assumption)
                have q316 : (ji31) < (t311.length : Int) := of_decide_eq_true (by first | (with_reducible assumption) | assumption)
                obtain ⟨ad316, e316, hx316_0⟩ := Kd.at_int (Kd.R_reads' HO_8.out).2.2 (ji31) p316 q316
                cases e316
                replace p316 := eq_true p316
                replace q316 := eq_true q316
                go_wp2
                repeat (go_quiet (fail); try go_wp2)
                go_roundg k3
                case measure => have := HJ4.out; have := HJ14.out; have := HK3.out; omega
                case rel => exact ⟨(((rd t306 x63_3) == (rd t311 (ji31)))), (wrap64 (x63_3 + 1)), (by first | rfl | (simp; done) | (simp only [← hji31] <;> (first | rfl | simp)) | (simp [*]; done)), (by first | rfl | (simp; done) | (simp [*]; done)), H', ⟨by have := HJ4.out; have := HJ14.out; have := HK3.out; omega⟩, ⟨by (with_reducible repeat (first | apply Kd.R_alloc | apply Kd.R_drewN | apply Kd.R_drew)); exact HO_6.out⟩, ⟨by (with_reducible repeat (first | apply Kd.R_alloc | apply Kd.R_drewN | apply Kd.R_drew)); exact HO_8.out⟩, ⟨by repeat (first | (with_reducible first | exact HB.out | apply below_alloc | apply pw_below_drewN | apply below_drew1) | exact HB.out)⟩⟩
               ·
                rw [if_neg c33] at H
                exact absurd H (by simp)
              ·
               rw [if_neg c32] at H
               exact absurd H (by simp)
             ·
              rw [if_neg c30] at H
              exact absurd H (by simp)
            ·
             rw [if_neg c29] at H
             exact absurd H (by simp)
           ·
            replace c28 := Bool.eq_false_iff.mpr c28
            subst c28
            have H1 : (formelaw09_BidiMirror.l0 k3 false t306 t311 (t306.length : Int) (wrap64 (x63_3 + 1))) = some r := by rw [if_neg (show ¬ (false = true) by decide)] at H; exact H
            clear H
            have H := H1
            clear H1
            have H' := Aside0.mk H
            clear H
            go_wp2
            repeat (go_quiet (fail); try go_wp2)
            go_roundg k3
            case measure => have := HJ4.out; have := HJ14.out; have := HK3.out; omega
            case rel => exact ⟨(false), (wrap64 (x63_3 + 1)), (by first | rfl | (simp; done) | (simp [*]; done)), (by first | rfl | (simp; done) | (simp [*]; done)), H', ⟨by have := HJ4.out; have := HJ14.out; have := HK3.out; omega⟩, ⟨by (with_reducible repeat (first | apply Kd.R_alloc | apply Kd.R_drewN | apply Kd.R_drew)); exact HO_6.out⟩, ⟨by (with_reducible repeat (first | apply Kd.R_alloc | apply Kd.R_drewN | apply Kd.R_drew)); exact HO_8.out⟩, ⟨by repeat (first | (with_reducible first | exact HB.out | apply below_alloc | apply pw_below_drewN | apply below_drew1) | exact HB.out)⟩⟩
          ·
           rw [if_neg c27] at H
           have c27b0 : decide (x63_3 < (t306.length : Int)) = false := decide_eq_false c27
           clear c27
           obtain rfl := Option.some.inj H
           go_wp2
           repeat (go_quiet (fail); try go_wp2)
           go_ret
           exact ⟨by first | rfl | (simp [errW_none, errW_some] <;> rfl) | (simp [*, errW_none, errW_some] <;> rfl), by repeat (first | (with_reducible first | exact HB.out | apply below_alloc | apply pw_below_drewN | apply below_drew1) | exact HB.out)⟩
 ·
  replace c4 := Bool.eq_false_iff.mpr c4
  subst c4
  have H1 : (none) = some r := by rw [if_neg (show ¬ (false = true) by decide)] at H; exact H
  clear H
  have H := H1
  clear H1
  exact absurd H (by simp)

/-- THE ONE PURE STATEMENT of formelaw09_BidiMirror: yours. -/
def formelaw09_BidiMirror.Pure : Prop := ∀ (a0 : ByteArray) (a1 : Int), a0.size ≤ 140737488351232 → (Lit.int .i64 a1).wf = true → ∃ k, formelaw09_BidiMirror.f k a0 a1 = some true
theorem formelaw09_BidiMirror.walk (P : formelaw09_BidiMirror.Pure) (a0 : ByteArray) (a1 : Int) (w : World) (w0 : a0.size ≤ 140737488351232) (w1 : (Lit.int .i64 a1).wf = true) :
  Calls Try.prog 7 #[.string a0, .int .i64 a1] w fun e w' => e = .returned (.bool true) ∧ Below w.heap.size w w' := by
 obtain ⟨k, h⟩ := P a0 a1 w0 w1
 refine (formelaw09_BidiMirror.calls k a0 a1 true w h).mono ?_
 rintro e w' ⟨rfl, hd⟩
 exact ⟨rfl, hd⟩

end Go.Proofs.Ytdmfhabhcagioaa.P
