-- Laid by a program of this session (wip/fam.sh) over the kit's words: Lean checks it.
import Derived.Test.YtdmfhabhcagioaaPx0
import Derived.Test.YtdmfhabhcagioaaPx1
import Derived.Test.YtdmfhabhcagioaaPx2
import Derived.Test.YtdmfhabhcagioaaPx7
import Derived.Test.YtdmfhabhcagioaaHLevels
namespace Go.Proofs.Ytdmfhabhcagioaa.P
open Go.RowKit Go.Proofs.YtdmfhabhcagioaaW.PrintWords Go.Proofs.YtdmfhabhcagioaaW.PrintLast Go.Proofs.YtdmfhabhcagioaaW.PrintMore
attribute [local go_sem] max2_int min2_int max_two min_two max_three min_three max_four min_four   -- for this text's walks alone
set_option linter.unusedVariables false
set_option linter.unusedSimpArgs false

/-! ### formelaw09_BidiLevels: function 9 -/
mutual
def formelaw09_BidiLevels.j0 : Nat → ByteArray → Int → Bool → Bool → Option (Bool)
 | 0, _, _, _, _ => none
 | k + 1, x0, x1, x5, x20 => if x20 = true then (some x5) else ((bidi_Levels.f x0 x1).bind fun bt330 => (if bt330.2 = 0 then (formelaw09_BidiLevels.j1 k x0 x1 x5 bt330.1 ((bt330.1.length : Int) != (x0.size : Int))) else (formelaw09_BidiLevels.j1 k x0 x1 x5 bt330.1 true)))
def formelaw09_BidiLevels.j1 : Nat → ByteArray → Int → Bool → List Int → Bool → Option (Bool)
 | 0, _, _, _, _, _ => none
 | k + 1, x0, x1, x5, x6, x36 => if x36 = true then (some false) else (formelaw09_BidiLevels.l0 k x0 x1 x5 x6 (x6.length : Int) 0)
def formelaw09_BidiLevels.l0 : Nat → ByteArray → Int → Bool → List Int → Int → Int → Option (Bool)
 | 0, _, _, _, _, _, _ => none
 | k + 1, x0, x1, x5, x37, x38, x39 => if x39 < x38 then (if 0 ≤ x39 then (if x39 < (x37.length : Int) then (if x39 < (x0.size : Int) then ((formeref06_Class.f k (bt x0 x39)).bind fun t335 => (if x5 = true then (if (rd x37 x39) ≥ x1 then (if (rd x37 x39) ≤ 2 then (if t335 = 2 then (if (rd x37 x39) = 1 then (if t335 = 1 then (formelaw09_BidiLevels.l0 k x0 x1 ((rd x37 x39) != 1) x37 x38 (wrap64 (x39 + 1))) else (if t335 = 3 then (formelaw09_BidiLevels.l0 k x0 x1 ((rd x37 x39) != 1) x37 x38 (wrap64 (x39 + 1))) else (formelaw09_BidiLevels.l0 k x0 x1 true x37 x38 (wrap64 (x39 + 1))))) else (formelaw09_BidiLevels.l0 k x0 x1 false x37 x38 (wrap64 (x39 + 1)))) else (if t335 = 1 then (formelaw09_BidiLevels.l0 k x0 x1 ((rd x37 x39) != 1) x37 x38 (wrap64 (x39 + 1))) else (if t335 = 3 then (formelaw09_BidiLevels.l0 k x0 x1 ((rd x37 x39) != 1) x37 x38 (wrap64 (x39 + 1))) else (formelaw09_BidiLevels.l0 k x0 x1 true x37 x38 (wrap64 (x39 + 1)))))) else (formelaw09_BidiLevels.l0 k x0 x1 false x37 x38 (wrap64 (x39 + 1)))) else (formelaw09_BidiLevels.l0 k x0 x1 false x37 x38 (wrap64 (x39 + 1)))) else (formelaw09_BidiLevels.l0 k x0 x1 false x37 x38 (wrap64 (x39 + 1))))) else (none)) else (none)) else (none)) else (some x5)
end
def formelaw09_BidiLevels.f (k : Nat) (a0 : ByteArray) (a1 : Int) : Option (Bool) := (formelaw09_head.f k).bind fun t328 => (if t328 = true then (if (a0.size : Int) > 300 then (formelaw09_BidiLevels.j0 k a0 a1 true true) else ((formeref09_Line.f k a0 a1).bind fun t329 => (formelaw09_BidiLevels.j0 k a0 a1 true (!t329)))) else (none))
theorem formelaw09_BidiLevels.mono_l : ∀ k, (∀ y0 y1 y2 y3, LeO (formelaw09_BidiLevels.j0 k y0 y1 y2 y3) (formelaw09_BidiLevels.j0 (k + 1) y0 y1 y2 y3)) ∧ (∀ y0 y1 y2 y3 y4, LeO (formelaw09_BidiLevels.j1 k y0 y1 y2 y3 y4) (formelaw09_BidiLevels.j1 (k + 1) y0 y1 y2 y3 y4)) ∧ (∀ y0 y1 y2 y3 y4 y5, LeO (formelaw09_BidiLevels.l0 k y0 y1 y2 y3 y4 y5) (formelaw09_BidiLevels.l0 (k + 1) y0 y1 y2 y3 y4 y5))
 | 0 => ⟨fun _ _ _ _ r h => by simp [formelaw09_BidiLevels.j0] at h, fun _ _ _ _ _ r h => by simp [formelaw09_BidiLevels.j1] at h, fun _ _ _ _ _ _ r h => by simp [formelaw09_BidiLevels.l0] at h⟩
 | k + 1 => by
  obtain ⟨ih0, ih1, ih2⟩ := formelaw09_BidiLevels.mono_l k
  refine ⟨?_, ?_, ?_⟩
  ·
   intro y0 y1 y2 y3
   unfold formelaw09_BidiLevels.j0
   repeat' first
   | (with_reducible exact ih0 _ _ _ _)
   | (with_reducible exact ih1 _ _ _ _ _)
   | (with_reducible exact ih2 _ _ _ _ _ _)
   | (with_reducible exact formelaw09_head.mono _)
   | (with_reducible exact formeref06_Class.mono _ _)
   | (with_reducible exact formeref09_Line.mono _ _ _)
   | (with_reducible exact LeO.refl _)
   | (with_reducible exact LeO.none _)
   | (with_reducible refine LeO.ite ?_ ?_)
   | (with_reducible refine LeO.bind ?_ (fun _ => ?_))
   | exact ih0 _ _ _ _
   | exact ih1 _ _ _ _ _
   | exact ih2 _ _ _ _ _ _
   | exact formelaw09_head.mono _
   | exact formeref06_Class.mono _ _
   | exact formeref09_Line.mono _ _ _
   | exact LeO.none _
   | refine LeO.ite ?_ ?_
   | refine LeO.bind ?_ (fun _ => ?_)
  ·
   intro y0 y1 y2 y3 y4
   unfold formelaw09_BidiLevels.j1
   repeat' first
   | (with_reducible exact ih0 _ _ _ _)
   | (with_reducible exact ih1 _ _ _ _ _)
   | (with_reducible exact ih2 _ _ _ _ _ _)
   | (with_reducible exact formelaw09_head.mono _)
   | (with_reducible exact formeref06_Class.mono _ _)
   | (with_reducible exact formeref09_Line.mono _ _ _)
   | (with_reducible exact LeO.refl _)
   | (with_reducible exact LeO.none _)
   | (with_reducible refine LeO.ite ?_ ?_)
   | (with_reducible refine LeO.bind ?_ (fun _ => ?_))
   | exact ih0 _ _ _ _
   | exact ih1 _ _ _ _ _
   | exact ih2 _ _ _ _ _ _
   | exact formelaw09_head.mono _
   | exact formeref06_Class.mono _ _
   | exact formeref09_Line.mono _ _ _
   | exact LeO.none _
   | refine LeO.ite ?_ ?_
   | refine LeO.bind ?_ (fun _ => ?_)
  ·
   intro y0 y1 y2 y3 y4 y5
   unfold formelaw09_BidiLevels.l0
   repeat' first
   | (with_reducible exact ih0 _ _ _ _)
   | (with_reducible exact ih1 _ _ _ _ _)
   | (with_reducible exact ih2 _ _ _ _ _ _)
   | (with_reducible exact formelaw09_head.mono _)
   | (with_reducible exact formeref06_Class.mono _ _)
   | (with_reducible exact formeref09_Line.mono _ _ _)
   | (with_reducible exact LeO.refl _)
   | (with_reducible exact LeO.none _)
   | (with_reducible refine LeO.ite ?_ ?_)
   | (with_reducible refine LeO.bind ?_ (fun _ => ?_))
   | exact ih0 _ _ _ _
   | exact ih1 _ _ _ _ _
   | exact ih2 _ _ _ _ _ _
   | exact formelaw09_head.mono _
   | exact formeref06_Class.mono _ _
   | exact formeref09_Line.mono _ _ _
   | exact LeO.none _
   | refine LeO.ite ?_ ?_
   | refine LeO.bind ?_ (fun _ => ?_)
theorem formelaw09_BidiLevels.mono : ∀ a0 a1 k, LeO (formelaw09_BidiLevels.f k a0 a1) (formelaw09_BidiLevels.f (k + 1) a0 a1) := by
 intro a0 a1 k
 obtain ⟨ih0, ih1, ih2⟩ := formelaw09_BidiLevels.mono_l k
 unfold formelaw09_BidiLevels.f
 repeat' first
   | (with_reducible exact ih0 _ _ _ _)
   | (with_reducible exact ih1 _ _ _ _ _)
   | (with_reducible exact ih2 _ _ _ _ _ _)
   | (with_reducible exact formelaw09_head.mono _)
   | (with_reducible exact formeref06_Class.mono _ _)
   | (with_reducible exact formeref09_Line.mono _ _ _)
   | (with_reducible exact LeO.refl _)
   | (with_reducible exact LeO.none _)
   | (with_reducible refine LeO.ite ?_ ?_)
   | (with_reducible refine LeO.bind ?_ (fun _ => ?_))
   | exact ih0 _ _ _ _
   | exact ih1 _ _ _ _ _
   | exact ih2 _ _ _ _ _ _
   | exact formelaw09_head.mono _
   | exact formeref06_Class.mono _ _
   | exact formeref09_Line.mono _ _ _
   | exact LeO.none _
   | refine LeO.ite ?_ ?_
   | refine LeO.bind ?_ (fun _ => ?_)
set_option maxHeartbeats 8000000 in
set_option maxRecDepth 100000 in
theorem formelaw09_BidiLevels.calls (k : Nat) (a0 : ByteArray) (a1 : Int) (r : Bool) (w : World) (h : formelaw09_BidiLevels.f k a0 a1 = some r) :
  Calls Try.prog 9 #[.string a0, .int .i64 a1] w fun e w' => e = .returned (.bool r) ∧ Below w.heap.size w w' := by
 have HB := Aside0.mk (Below.refl w.heap.size w)
 have H : ((formelaw09_head.f k).bind fun t328 => (if t328 = true then (if (a0.size : Int) > 300 then (formelaw09_BidiLevels.j0 k a0 a1 true true) else ((formeref09_Line.f k a0 a1).bind fun t329 => (formelaw09_BidiLevels.j0 k a0 a1 true (!t329)))) else (none))) = some r := h
 clear h
 replace H := Option.bind_eq_some_iff.mp H
 obtain ⟨t328, A30, H⟩ := H
 replace H : (if t328 = true then (if (a0.size : Int) > 300 then (formelaw09_BidiLevels.j0 k a0 a1 true true) else ((formeref09_Line.f k a0 a1).bind fun t329 => (formelaw09_BidiLevels.j0 k a0 a1 true (!t329)))) else (none)) = some r := H
 have A3 := Aside0.mk A30
 clear A30
 by_cases c4 : t328 = true
 ·
  subst c4
  have H1 : (if (a0.size : Int) > 300 then (formelaw09_BidiLevels.j0 k a0 a1 true true) else ((formeref09_Line.f k a0 a1).bind fun t329 => (formelaw09_BidiLevels.j0 k a0 a1 true (!t329)))) = some r := by rw [if_pos rfl] at H; exact H
  clear H
  have H := H1
  clear H1
  have HC5 := Aside0.mk H
  clear H
  go_enter Try.func9, Try.ntmps9
  go_upto_region 2 with (first | ((with_reducible refine gate_callee (f := 10) rfl ?_); refine goesL_ (some 11) rfl rfl Try.func10 (by kernel_rfl) rfl #[] rfl (by (try simp only [List.map_toArray, List.map_cons, List.map_nil]); first | done | rfl | (simp only [List.length_drop, List.length_take]; rfl)) ?_; (with_reducible refine (formelaw09_head.calls k  true _ A3.out).mono ?_); rintro e w6 ⟨rfl, hb⟩; refine ⟨_, rfl, ?_⟩; have n0_ := Aside0.mk (below_step (by repeat (first | (with_reducible first | exact HB.out | apply below_alloc | apply pw_below_drewN | apply below_drew1) | exact HB.out)) hb); clear HB; have HB := n0_; clear n0_; (try clear hb); (try clear hb2); (try clear hk); (try clear hi)))
  (try simp only [Act.put, List.setIfInBounds_toArray, List.set_cons_zero, List.set_cons_succ])
  go_cut [20] (fun v20 wc => ∃ (kq : Nat) (x20_4 : Bool), v20 = .bool x20_4 ∧ Aside0 (formelaw09_BidiLevels.j0 kq a0 a1 true x20_4 = some r) ∧ Aside0 (kq ≤ k) ∧ Aside0 (Below w.heap.size w wc))
  case first =>
   have H := HC5.out
   clear HC5
   by_cases c7 : (a0.size : Int) > 300
   ·
    rw [if_pos c7] at H
    have c7b0 : decide (300 < (a0.size : Int)) = true := decide_eq_true c7
    have c7b1 : decide (300 < a0.size) = true := decide_eq_true (by omega)
    clear c7
    (first | rw [c7b0] | (simp only [i64_w, i32_w]; rw [c7b0]) | skip)
    have H' := Aside0.mk H
    clear H
    go_wp2
    go_meet
    case rel => exact ⟨_, (true), (by first | rfl | (simp; done) | (simp [*]; done)), H', ⟨by first | omega | exact Nat.le_refl _⟩, ⟨by repeat (first | (with_reducible first | exact HB.out | apply below_alloc | apply pw_below_drewN | apply below_drew1) | exact HB.out)⟩⟩
   ·
    rw [if_neg c7] at H
    have c7b0 : decide (300 < (a0.size : Int)) = false := decide_eq_false c7
    have c7b1 : decide (300 < a0.size) = false := decide_eq_false (by omega)
    clear c7
    (first | rw [c7b0] | (simp only [i64_w, i32_w]; rw [c7b0]) | skip)
    replace H := Option.bind_eq_some_iff.mp H
    obtain ⟨t329, A80, H⟩ := H
    replace H : (formelaw09_BidiLevels.j0 k a0 a1 true (!t329)) = some r := H
    have A8 := Aside0.mk A80
    clear A80
    have H' := Aside0.mk H
    clear H
    go_wp2_with (first | (go_at_call 18; (with_reducible refine (formeref09_Line.calls k a0 a1 t329 _ A8.out).mono ?_); rintro e w' ⟨rfl, ⟨nd, rfl⟩⟩))
    go_meet
    case rel => exact ⟨_, (!t329), (by first | rfl | (simp; done) | (simp [*]; done)), H', ⟨by first | omega | exact Nat.le_refl _⟩, ⟨by repeat (first | (with_reducible first | exact HB.out | apply below_alloc | apply pw_below_drewN | apply below_drew1) | exact HB.out)⟩⟩
  case rest =>
   clear HC5
   try clear c1
   try clear p2
   try clear c4
   try clear c7
   try clear c7b0
   try clear c7b1
   obtain ⟨kq, x20_4, rfl, HA, HJ4, HB⟩ := hcut
   cases kq with
   | zero => exact absurd HA.out (by simp [formelaw09_BidiLevels.j0])
   | succ kj4 =>
    have H := HA.out
    clear HA
    simp only [formelaw09_BidiLevels.j0] at H
    by_cases c9 : x20_4 = true
    ·
     subst c9
     have H1 : (some true) = some r := by rw [if_pos rfl] at H; exact H
     clear H
     have H := H1
     clear H1
     obtain rfl := Option.some.inj H
     go_wp2
     go_ret
     exact ⟨by first | rfl | (simp [errW_none, errW_some] <;> rfl) | (simp [*, errW_none, errW_some] <;> rfl), by repeat (first | (with_reducible first | exact HB.out | apply below_alloc | apply pw_below_drewN | apply below_drew1) | exact HB.out)⟩
    ·
     replace c9 := Bool.eq_false_iff.mpr c9
     subst c9
     have H1 : ((bidi_Levels.f a0 a1).bind fun bt330 => (if bt330.2 = 0 then (formelaw09_BidiLevels.j1 kj4 a0 a1 true bt330.1 ((bt330.1.length : Int) != (a0.size : Int))) else (formelaw09_BidiLevels.j1 kj4 a0 a1 true bt330.1 true))) = some r := by rw [if_neg (show ¬ (false = true) by decide)] at H; exact H
     clear H
     have H := H1
     clear H1
     replace H := Option.bind_eq_some_iff.mp H
     obtain ⟨⟨t330, t331⟩, A100, H⟩ := H
     replace H : (if t331 = 0 then (formelaw09_BidiLevels.j1 kj4 a0 a1 true t330 ((t330.length : Int) != (a0.size : Int))) else (formelaw09_BidiLevels.j1 kj4 a0 a1 true t330 true)) = some r := H
     have A10 := Aside0.mk A100
     clear A100
     have HC11 := Aside0.mk H
     clear H
     go_upto_region 5 with (first | ((with_reducible refine gate_callee (f := 11) rfl ?_); refine goesL_ (some 25) rfl rfl Try.func11 (by kernel_rfl) rfl #[.string a0, .int .i64 a1] rfl (by (try simp only [List.map_toArray, List.map_cons, List.map_nil]); first | done | rfl | (simp only [List.length_drop, List.length_take]; rfl)) ?_; (with_reducible refine (bidi_Levels.calls a0 a1 t330 t331 _ A10.out).mono ?_); rintro e w12 ⟨v332, rfl, ho0, hb⟩; refine ⟨_, rfl, ?_⟩; have n0_ := Aside0.mk (Kd.R_lower ho0 (below_size (by repeat (first | (with_reducible first | exact HB.out | apply below_alloc | apply pw_below_drewN | apply below_drew1) | exact HB.out)))); have n1_ := Aside0.mk (below_step (by repeat (first | (with_reducible first | exact HB.out | apply below_alloc | apply pw_below_drewN | apply below_drew1) | exact HB.out)) hb); clear HB; have HO333 := n0_; have HB := n1_; clear n0_ n1_; (try clear hb); (try clear hb2); (try clear hk); (try clear hi); (try clear ho0)))
     (try simp only [Act.put, List.setIfInBounds_toArray, List.set_cons_zero, List.set_cons_succ])
     go_cut [36] (fun v36 wc => ∃ (kq : Nat) (x36_10 : Bool), v36 = .bool x36_10 ∧ Aside0 (formelaw09_BidiLevels.j1 kq a0 a1 true t330 x36_10 = some r) ∧ Aside0 (kq ≤ kj4) ∧ Aside0 (Kd.R (Kd.int .i64) 3 wc w.heap.size (fun _ => True) v332 t330) ∧ Aside0 (Below w.heap.size w wc))
     case first =>
      have H := HC11.out
      clear HC11
      by_cases c13 : t331 = 0
      ·
       rw [if_pos c13] at H
       have c13b0 : (t331 == 0) = true := beq_iff_eq.mpr c13
       have c13b1 : (t331 != 0) = false := bne_eq_false_iff_eq.mpr c13
       clear c13
       (first | rw [c13b0] | (simp only [i64_w, i32_w]; rw [c13b0]) | skip)
       have H' := Aside0.mk H
       clear H
       obtain ⟨Ao14, co14, eo14⟩ := Kd.R_slice HO333.out
       subst eo14
       go_wp2
       go_meet
       case rel => exact ⟨_, (((t330.length : Int) != (a0.size : Int))), (by first | rfl | (simp; done) | (simp [*]; done)), H', ⟨by have := HJ4.out; first | omega | exact Nat.le_refl _⟩, ⟨by (with_reducible repeat (first | apply Kd.R_alloc | apply Kd.R_drewN | apply Kd.R_drew)); exact HO333.out⟩, ⟨by repeat (first | (with_reducible first | exact HB.out | apply below_alloc | apply pw_below_drewN | apply below_drew1) | exact HB.out)⟩⟩
      ·
       rw [if_neg c13] at H
       have c13b0 : (t331 == 0) = false := beq_eq_false_iff_ne.mpr c13
       have c13b1 : (t331 != 0) = true := bne_iff_ne.mpr c13
       (first | rw [c13b0] | (simp only [i64_w, i32_w]; rw [c13b0]) | skip)
       have H' := Aside0.mk H
       clear H
       go_wp2
       go_meet
       case rel => exact ⟨_, (true), (by first | rfl | (simp; done) | (simp [*]; done)), H', ⟨by have := HJ4.out; first | omega | exact Nat.le_refl _⟩, ⟨by (with_reducible repeat (first | apply Kd.R_alloc | apply Kd.R_drewN | apply Kd.R_drew)); exact HO333.out⟩, ⟨by repeat (first | (with_reducible first | exact HB.out | apply below_alloc | apply pw_below_drewN | apply below_drew1) | exact HB.out)⟩⟩
     case rest =>
      clear HC11
      try clear c1
      try clear p2
      try clear c4
      try clear c7
      try clear c7b0
      try clear c7b1
      try clear c9
      try clear c10
      try clear c11
      try clear c13
      try clear c13b0
      try clear c13b1
      try clear p2
      obtain ⟨kq, x36_10, rfl, HA, HJ10, HO_6, HB⟩ := hcut
      cases kq with
      | zero => exact absurd HA.out (by simp [formelaw09_BidiLevels.j1])
      | succ kj10 =>
       have H := HA.out
       clear HA
       simp only [formelaw09_BidiLevels.j1] at H
       by_cases c15 : x36_10 = true
       ·
        subst c15
        have H1 : (some false) = some r := by rw [if_pos rfl] at H; exact H
        clear H
        have H := H1
        clear H1
        obtain rfl := Option.some.inj H
        go_wp2
        go_ret
        exact ⟨by first | rfl | (simp [errW_none, errW_some] <;> rfl) | (simp [*, errW_none, errW_some] <;> rfl), by repeat (first | (with_reducible first | exact HB.out | apply below_alloc | apply pw_below_drewN | apply below_drew1) | exact HB.out)⟩
       ·
        replace c15 := Bool.eq_false_iff.mpr c15
        subst c15
        have H1 : (formelaw09_BidiLevels.l0 kj10 a0 a1 true t330 (t330.length : Int) 0) = some r := by rw [if_neg (show ¬ (false = true) by decide)] at H; exact H
        clear H
        have H := H1
        clear H1
        have H' := Aside0.mk H
        clear H
        obtain ⟨Ao16, co16, eo16⟩ := Kd.R_slice HO_6.out
        subst eo16
        go_wp2
        go_loopg [5, 39] kj10 (fun kq v5 v39 w' => ∃ (x5_3 : Bool) (x39_3 : Int), v5 = .bool x5_3 ∧ v39 = .int .i64 x39_3 ∧ Aside0 (formelaw09_BidiLevels.l0 kq a0 a1 x5_3 t330 (t330.length : Int) x39_3 = some r) ∧ Aside0 (kq ≤ kj10) ∧ Aside0 (Kd.R (Kd.int .i64) 3 w' w.heap.size (fun _ => True) (.slice Ao16 t330.length co16) t330) ∧ Aside0 (Below w.heap.size w w'))
        case atStart => exact ⟨(true), (0), (by first | rfl | (simp; done) | (simp [*]; done)), (by first | rfl | (simp; done) | (simp [*]; done)), H', ⟨Nat.le_refl _⟩, ⟨by (with_reducible repeat (first | apply Kd.R_alloc | apply Kd.R_drewN | apply Kd.R_drew)); exact HO_6.out⟩, ⟨by repeat (first | (with_reducible first | exact HB.out | apply below_alloc | apply pw_below_drewN | apply below_drew1) | exact HB.out)⟩⟩
        case round =>
         clear H'
         try clear c1
         try clear p2
         try clear c4
         try clear c7
         try clear c7b0
         try clear c7b1
         try clear c9
         try clear c10
         try clear c11
         try clear c13
         try clear c13b0
         try clear c13b1
         try clear c15
         try clear p2
         obtain ⟨x5_3, x39_3, rfl, rfl, HA, HK3, HO_37, HB⟩ := hrel
         cases gk with
         | zero => exact absurd HA.out (by simp [formelaw09_BidiLevels.l0])
         | succ k3 =>
          have H := HA.out
          clear HA
          simp only [formelaw09_BidiLevels.l0] at H
          by_cases c17 : x39_3 < (t330.length : Int)
          ·
           rw [if_pos c17] at H
           have c17b0 : decide (x39_3 < (t330.length : Int)) = true := decide_eq_true c17
           clear c17
           by_cases c18 : 0 ≤ x39_3
           ·
            rw [if_pos c18] at H
            have c18b0 : decide (0 ≤ x39_3) = true := decide_eq_true c18
            clear c18
            by_cases c19 : x39_3 < (t330.length : Int)
            ·
             rw [if_pos c19] at H
             have c19b0 : decide (x39_3 < (t330.length : Int)) = true := decide_eq_true c19
             clear c19
             by_cases c20 : x39_3 < (a0.size : Int)
             ·
              rw [if_pos c20] at H
              have c20b0 : decide (x39_3 < (a0.size : Int)) = true := decide_eq_true c20
              clear c20
              replace H := Option.bind_eq_some_iff.mp H
              obtain ⟨t335, A220, H⟩ := H
              replace H : (if x5_3 = true then (if (rd t330 x39_3) ≥ a1 then (if (rd t330 x39_3) ≤ 2 then (if t335 = 2 then (if (rd t330 x39_3) = 1 then (if t335 = 1 then (formelaw09_BidiLevels.l0 k3 a0 a1 ((rd t330 x39_3) != 1) t330 (t330.length : Int) (wrap64 (x39_3 + 1))) else (if t335 = 3 then (formelaw09_BidiLevels.l0 k3 a0 a1 ((rd t330 x39_3) != 1) t330 (t330.length : Int) (wrap64 (x39_3 + 1))) else (formelaw09_BidiLevels.l0 k3 a0 a1 true t330 (t330.length : Int) (wrap64 (x39_3 + 1))))) else (formelaw09_BidiLevels.l0 k3 a0 a1 false t330 (t330.length : Int) (wrap64 (x39_3 + 1)))) else (if t335 = 1 then (formelaw09_BidiLevels.l0 k3 a0 a1 ((rd t330 x39_3) != 1) t330 (t330.length : Int) (wrap64 (x39_3 + 1))) else (if t335 = 3 then (formelaw09_BidiLevels.l0 k3 a0 a1 ((rd t330 x39_3) != 1) t330 (t330.length : Int) (wrap64 (x39_3 + 1))) else (formelaw09_BidiLevels.l0 k3 a0 a1 true t330 (t330.length : Int) (wrap64 (x39_3 + 1)))))) else (formelaw09_BidiLevels.l0 k3 a0 a1 false t330 (t330.length : Int) (wrap64 (x39_3 + 1)))) else (formelaw09_BidiLevels.l0 k3 a0 a1 false t330 (t330.length : Int) (wrap64 (x39_3 + 1)))) else (formelaw09_BidiLevels.l0 k3 a0 a1 false t330 (t330.length : Int) (wrap64 (x39_3 + 1)))) = some r := H
              have A22 := Aside0.mk A220
              clear A220
              by_cases c23 : x5_3 = true
              ·
               subst c23
               have H1 : (if (rd t330 x39_3) ≥ a1 then (if (rd t330 x39_3) ≤ 2 then (if t335 = 2 then (if (rd t330 x39_3) = 1 then (if t335 = 1 then (formelaw09_BidiLevels.l0 k3 a0 a1 ((rd t330 x39_3) != 1) t330 (t330.length : Int) (wrap64 (x39_3 + 1))) else (if t335 = 3 then (formelaw09_BidiLevels.l0 k3 a0 a1 ((rd t330 x39_3) != 1) t330 (t330.length : Int) (wrap64 (x39_3 + 1))) else (formelaw09_BidiLevels.l0 k3 a0 a1 true t330 (t330.length : Int) (wrap64 (x39_3 + 1))))) else (formelaw09_BidiLevels.l0 k3 a0 a1 false t330 (t330.length : Int) (wrap64 (x39_3 + 1)))) else (if t335 = 1 then (formelaw09_BidiLevels.l0 k3 a0 a1 ((rd t330 x39_3) != 1) t330 (t330.length : Int) (wrap64 (x39_3 + 1))) else (if t335 = 3 then (formelaw09_BidiLevels.l0 k3 a0 a1 ((rd t330 x39_3) != 1) t330 (t330.length : Int) (wrap64 (x39_3 + 1))) else (formelaw09_BidiLevels.l0 k3 a0 a1 true t330 (t330.length : Int) (wrap64 (x39_3 + 1)))))) else (formelaw09_BidiLevels.l0 k3 a0 a1 false t330 (t330.length : Int) (wrap64 (x39_3 + 1)))) else (formelaw09_BidiLevels.l0 k3 a0 a1 false t330 (t330.length : Int) (wrap64 (x39_3 + 1)))) = some r := by rw [if_pos rfl] at H; exact H
               clear H
               have H := H1
               clear H1
               by_cases c24 : (rd t330 x39_3) ≥ a1
               ·
                rw [if_pos c24] at H
                have c24b0 : decide (a1 ≤ (rd t330 x39_3)) = true := decide_eq_true c24
                clear c24
                by_cases c25 : (rd t330 x39_3) ≤ 2
                ·
                 rw [if_pos c25] at H
                 have c25b0 : decide ((rd t330 x39_3) ≤ 2) = true := decide_eq_true c25
                 clear c25
                 by_cases c26 : t335 = 2
                 ·
                  rw [if_pos c26] at H
                  have c26b0 : (t335 == 2) = true := beq_iff_eq.mpr c26
                  have c26b1 : (t335 != 2) = false := bne_eq_false_iff_eq.mpr c26
                  clear c26
                  by_cases c27 : (rd t330 x39_3) = 1
                  ·
                   rw [if_pos c27] at H
                   have c27b0 : ((rd t330 x39_3) == 1) = true := beq_iff_eq.mpr c27
                   have c27b1 : ((rd t330 x39_3) != 1) = false := bne_eq_false_iff_eq.mpr c27
                   clear c27
                   by_cases c28 : t335 = 1
                   ·
                    rw [if_pos c28] at H
                    have c28b0 : (t335 == 1) = true := beq_iff_eq.mpr c28
                    have c28b1 : (t335 != 1) = false := bne_eq_false_iff_eq.mpr c28
                    clear c28
                    have H' := Aside0.mk H
                    clear H
                    have p334 : 0 ≤ (x39_3 : Int) := of_decide_eq_true (by first | (with_reducible assumption) | assumption)
                    have q334 : x39_3 < (t330.length : Int) := of_decide_eq_true (by first | (with_reducible assumption) | assumption)
                    obtain ⟨ad334, e334, hx334_0⟩ := Kd.at_int (Kd.R_reads' HO_37.out).2.2 x39_3 p334 q334
                    cases e334
                    replace p334 := eq_true p334
                    replace q334 := eq_true q334
                    have p21 : 0 ≤ (x39_3 : Int) := of_decide_eq_true (by first | (with_reducible assumption) | assumption)
                    have q21 : x39_3 < (a0.size : Int) := of_decide_eq_true (by first | (with_reducible assumption) | assumption)
                    have hx21 := bt_at a0 x39_3
                    replace p21 := eq_true p21
                    replace q21 := eq_true q21
                    go_wp2_with (first | ((with_reducible refine gate_callee (f := 22) rfl ?_); refine goesL_ (some 47) rfl rfl Try.func22 (by kernel_rfl) rfl #[.int .u8 (bt a0 x39_3)] rfl (by (try simp only [List.map_toArray, List.map_cons, List.map_nil]); first | done | rfl | (simp only [List.length_drop, List.length_take]; rfl)) ?_; (with_reducible refine (formeref06_Class.calls k3 (bt a0 x39_3) t335 _ A22.out).mono ?_); rintro e w' ⟨rfl, ⟨nd, rfl⟩⟩; refine ⟨_, rfl, ?_⟩))
                    go_roundg k3
                    case measure => have := HJ4.out; have := HJ10.out; have := HK3.out; omega
                    case rel => exact ⟨(((rd t330 x39_3) != 1)), (wrap64 (x39_3 + 1)), (by first | rfl | (simp; done) | (simp [*]; done)), (by first | rfl | (simp; done) | (simp [*]; done)), H', ⟨by have := HJ4.out; have := HJ10.out; have := HK3.out; omega⟩, ⟨by (with_reducible repeat (first | apply Kd.R_alloc | apply Kd.R_drewN | apply Kd.R_drew)); exact HO_37.out⟩, ⟨by repeat (first | (with_reducible first | exact HB.out | apply below_alloc | apply pw_below_drewN | apply below_drew1) | exact HB.out)⟩⟩
                   ·
                    rw [if_neg c28] at H
                    have c28b0 : (t335 == 1) = false := beq_eq_false_iff_ne.mpr c28
                    have c28b1 : (t335 != 1) = true := bne_iff_ne.mpr c28
                    by_cases c29 : t335 = 3
                    ·
                     rw [if_pos c29] at H
                     have c29b0 : (t335 == 3) = true := beq_iff_eq.mpr c29
                     have c29b1 : (t335 != 3) = false := bne_eq_false_iff_eq.mpr c29
                     clear c29
                     have H' := Aside0.mk H
                     clear H
                     have p334 : 0 ≤ (x39_3 : Int) := of_decide_eq_true (by first | (with_reducible assumption) | assumption)
                     have q334 : x39_3 < (t330.length : Int) := of_decide_eq_true (by first | (with_reducible assumption) | assumption)
                     obtain ⟨ad334, e334, hx334_0⟩ := Kd.at_int (Kd.R_reads' HO_37.out).2.2 x39_3 p334 q334
                     cases e334
                     replace p334 := eq_true p334
                     replace q334 := eq_true q334
                     have p21 : 0 ≤ (x39_3 : Int) := of_decide_eq_true (by first | (with_reducible assumption) | assumption)
                     have q21 : x39_3 < (a0.size : Int) := of_decide_eq_true (by first | (with_reducible assumption) | assumption)
                     have hx21 := bt_at a0 x39_3
                     replace p21 := eq_true p21
                     replace q21 := eq_true q21
                     go_wp2_with (first | ((with_reducible refine gate_callee (f := 22) rfl ?_); refine goesL_ (some 47) rfl rfl Try.func22 (by kernel_rfl) rfl #[.int .u8 (bt a0 x39_3)] rfl (by (try simp only [List.map_toArray, List.map_cons, List.map_nil]); first | done | rfl | (simp only [List.length_drop, List.length_take]; rfl)) ?_; (with_reducible refine (formeref06_Class.calls k3 (bt a0 x39_3) t335 _ A22.out).mono ?_); rintro e w' ⟨rfl, ⟨nd, rfl⟩⟩; refine ⟨_, rfl, ?_⟩))
                     go_roundg k3
                     case measure => have := HJ4.out; have := HJ10.out; have := HK3.out; omega
                     case rel => exact ⟨(((rd t330 x39_3) != 1)), (wrap64 (x39_3 + 1)), (by first | rfl | (simp; done) | (simp [*]; done)), (by first | rfl | (simp; done) | (simp [*]; done)), H', ⟨by have := HJ4.out; have := HJ10.out; have := HK3.out; omega⟩, ⟨by (with_reducible repeat (first | apply Kd.R_alloc | apply Kd.R_drewN | apply Kd.R_drew)); exact HO_37.out⟩, ⟨by repeat (first | (with_reducible first | exact HB.out | apply below_alloc | apply pw_below_drewN | apply below_drew1) | exact HB.out)⟩⟩
                    ·
                     rw [if_neg c29] at H
                     have c29b0 : (t335 == 3) = false := beq_eq_false_iff_ne.mpr c29
                     have c29b1 : (t335 != 3) = true := bne_iff_ne.mpr c29
                     have H' := Aside0.mk H
                     clear H
                     have p334 : 0 ≤ (x39_3 : Int) := of_decide_eq_true (by first | (with_reducible assumption) | assumption)
                     have q334 : x39_3 < (t330.length : Int) := of_decide_eq_true (by first | (with_reducible assumption) | assumption)
                     obtain ⟨ad334, e334, hx334_0⟩ := Kd.at_int (Kd.R_reads' HO_37.out).2.2 x39_3 p334 q334
                     cases e334
                     replace p334 := eq_true p334
                     replace q334 := eq_true q334
                     have p21 : 0 ≤ (x39_3 : Int) := of_decide_eq_true (by first | (with_reducible assumption) | assumption)
                     have q21 : x39_3 < (a0.size : Int) := of_decide_eq_true (by first | (with_reducible assumption) | assumption)
                     have hx21 := bt_at a0 x39_3
                     replace p21 := eq_true p21
                     replace q21 := eq_true q21
                     go_wp2_with (first | ((with_reducible refine gate_callee (f := 22) rfl ?_); refine goesL_ (some 47) rfl rfl Try.func22 (by kernel_rfl) rfl #[.int .u8 (bt a0 x39_3)] rfl (by (try simp only [List.map_toArray, List.map_cons, List.map_nil]); first | done | rfl | (simp only [List.length_drop, List.length_take]; rfl)) ?_; (with_reducible refine (formeref06_Class.calls k3 (bt a0 x39_3) t335 _ A22.out).mono ?_); rintro e w' ⟨rfl, ⟨nd, rfl⟩⟩; refine ⟨_, rfl, ?_⟩))
                     go_roundg k3
                     case measure => have := HJ4.out; have := HJ10.out; have := HK3.out; omega
                     case rel => exact ⟨(true), (wrap64 (x39_3 + 1)), (by first | rfl | (simp; done) | (simp [*]; done)), (by first | rfl | (simp; done) | (simp [*]; done)), H', ⟨by have := HJ4.out; have := HJ10.out; have := HK3.out; omega⟩, ⟨by (with_reducible repeat (first | apply Kd.R_alloc | apply Kd.R_drewN | apply Kd.R_drew)); exact HO_37.out⟩, ⟨by repeat (first | (with_reducible first | exact HB.out | apply below_alloc | apply pw_below_drewN | apply below_drew1) | exact HB.out)⟩⟩
                  ·
                   rw [if_neg c27] at H
                   have c27b0 : ((rd t330 x39_3) == 1) = false := beq_eq_false_iff_ne.mpr c27
                   have c27b1 : ((rd t330 x39_3) != 1) = true := bne_iff_ne.mpr c27
                   have H' := Aside0.mk H
                   clear H
                   have p334 : 0 ≤ (x39_3 : Int) := of_decide_eq_true (by first | (with_reducible assumption) | assumption)
                   have q334 : x39_3 < (t330.length : Int) := of_decide_eq_true (by first | (with_reducible assumption) | assumption)
                   obtain ⟨ad334, e334, hx334_0⟩ := Kd.at_int (Kd.R_reads' HO_37.out).2.2 x39_3 p334 q334
                   cases e334
                   replace p334 := eq_true p334
                   replace q334 := eq_true q334
                   have p21 : 0 ≤ (x39_3 : Int) := of_decide_eq_true (by first | (with_reducible assumption) | assumption)
                   have q21 : x39_3 < (a0.size : Int) := of_decide_eq_true (by first | (with_reducible assumption) | assumption)
                   have hx21 := bt_at a0 x39_3
                   replace p21 := eq_true p21
                   replace q21 := eq_true q21
                   go_wp2_with (first | ((with_reducible refine gate_callee (f := 22) rfl ?_); refine goesL_ (some 47) rfl rfl Try.func22 (by kernel_rfl) rfl #[.int .u8 (bt a0 x39_3)] rfl (by (try simp only [List.map_toArray, List.map_cons, List.map_nil]); first | done | rfl | (simp only [List.length_drop, List.length_take]; rfl)) ?_; (with_reducible refine (formeref06_Class.calls k3 (bt a0 x39_3) t335 _ A22.out).mono ?_); rintro e w' ⟨rfl, ⟨nd, rfl⟩⟩; refine ⟨_, rfl, ?_⟩))
                   go_roundg k3
                   case measure => have := HJ4.out; have := HJ10.out; have := HK3.out; omega
                   case rel => exact ⟨(false), (wrap64 (x39_3 + 1)), (by first | rfl | (simp; done) | (simp [*]; done)), (by first | rfl | (simp; done) | (simp [*]; done)), H', ⟨by have := HJ4.out; have := HJ10.out; have := HK3.out; omega⟩, ⟨by (with_reducible repeat (first | apply Kd.R_alloc | apply Kd.R_drewN | apply Kd.R_drew)); exact HO_37.out⟩, ⟨by repeat (first | (with_reducible first | exact HB.out | apply below_alloc | apply pw_below_drewN | apply below_drew1) | exact HB.out)⟩⟩
                 ·
                  rw [if_neg c26] at H
                  have c26b0 : (t335 == 2) = false := beq_eq_false_iff_ne.mpr c26
                  have c26b1 : (t335 != 2) = true := bne_iff_ne.mpr c26
                  by_cases c30 : t335 = 1
                  ·
                   rw [if_pos c30] at H
                   have c30b0 : (t335 == 1) = true := beq_iff_eq.mpr c30
                   have c30b1 : (t335 != 1) = false := bne_eq_false_iff_eq.mpr c30
                   clear c30
                   have H' := Aside0.mk H
                   clear H
                   have p334 : 0 ≤ (x39_3 : Int) := of_decide_eq_true (by first | (with_reducible assumption) | assumption)
                   have q334 : x39_3 < (t330.length : Int) := of_decide_eq_true (by first | (with_reducible assumption) | assumption)
                   obtain ⟨ad334, e334, hx334_0⟩ := Kd.at_int (Kd.R_reads' HO_37.out).2.2 x39_3 p334 q334
                   cases e334
                   replace p334 := eq_true p334
                   replace q334 := eq_true q334
                   have p21 : 0 ≤ (x39_3 : Int) := of_decide_eq_true (by first | (with_reducible assumption) | assumption)
                   have q21 : x39_3 < (a0.size : Int) := of_decide_eq_true (by first | (with_reducible assumption) | assumption)
                   have hx21 := bt_at a0 x39_3
                   replace p21 := eq_true p21
                   replace q21 := eq_true q21
                   go_wp2_with (first | ((with_reducible refine gate_callee (f := 22) rfl ?_); refine goesL_ (some 47) rfl rfl Try.func22 (by kernel_rfl) rfl #[.int .u8 (bt a0 x39_3)] rfl (by (try simp only [List.map_toArray, List.map_cons, List.map_nil]); first | done | rfl | (simp only [List.length_drop, List.length_take]; rfl)) ?_; (with_reducible refine (formeref06_Class.calls k3 (bt a0 x39_3) t335 _ A22.out).mono ?_); rintro e w' ⟨rfl, ⟨nd, rfl⟩⟩; refine ⟨_, rfl, ?_⟩))
                   go_roundg k3
                   case measure => have := HJ4.out; have := HJ10.out; have := HK3.out; omega
                   case rel => exact ⟨(((rd t330 x39_3) != 1)), (wrap64 (x39_3 + 1)), (by first | rfl | (simp; done) | (simp [*]; done)), (by first | rfl | (simp; done) | (simp [*]; done)), H', ⟨by have := HJ4.out; have := HJ10.out; have := HK3.out; omega⟩, ⟨by (with_reducible repeat (first | apply Kd.R_alloc | apply Kd.R_drewN | apply Kd.R_drew)); exact HO_37.out⟩, ⟨by repeat (first | (with_reducible first | exact HB.out | apply below_alloc | apply pw_below_drewN | apply below_drew1) | exact HB.out)⟩⟩
                  ·
                   rw [if_neg c30] at H
                   have c30b0 : (t335 == 1) = false := beq_eq_false_iff_ne.mpr c30
                   have c30b1 : (t335 != 1) = true := bne_iff_ne.mpr c30
                   by_cases c31 : t335 = 3
                   ·
                    rw [if_pos c31] at H
                    have c31b0 : (t335 == 3) = true := beq_iff_eq.mpr c31
                    have c31b1 : (t335 != 3) = false := bne_eq_false_iff_eq.mpr c31
                    clear c31
                    have H' := Aside0.mk H
                    clear H
                    have p334 : 0 ≤ (x39_3 : Int) := of_decide_eq_true (by first | (with_reducible assumption) | assumption)
                    have q334 : x39_3 < (t330.length : Int) := of_decide_eq_true (by first | (with_reducible assumption) | assumption)
                    obtain ⟨ad334, e334, hx334_0⟩ := Kd.at_int (Kd.R_reads' HO_37.out).2.2 x39_3 p334 q334
                    cases e334
                    replace p334 := eq_true p334
                    replace q334 := eq_true q334
                    have p21 : 0 ≤ (x39_3 : Int) := of_decide_eq_true (by first | (with_reducible assumption) | assumption)
                    have q21 : x39_3 < (a0.size : Int) := of_decide_eq_true (by first | (with_reducible assumption) | assumption)
                    have hx21 := bt_at a0 x39_3
                    replace p21 := eq_true p21
                    replace q21 := eq_true q21
                    go_wp2_with (first | ((with_reducible refine gate_callee (f := 22) rfl ?_); refine goesL_ (some 47) rfl rfl Try.func22 (by kernel_rfl) rfl #[.int .u8 (bt a0 x39_3)] rfl (by (try simp only [List.map_toArray, List.map_cons, List.map_nil]); first | done | rfl | (simp only [List.length_drop, List.length_take]; rfl)) ?_; (with_reducible refine (formeref06_Class.calls k3 (bt a0 x39_3) t335 _ A22.out).mono ?_); rintro e w' ⟨rfl, ⟨nd, rfl⟩⟩; refine ⟨_, rfl, ?_⟩))
                    go_roundg k3
                    case measure => have := HJ4.out; have := HJ10.out; have := HK3.out; omega
                    case rel => exact ⟨(((rd t330 x39_3) != 1)), (wrap64 (x39_3 + 1)), (by first | rfl | (simp; done) | (simp [*]; done)), (by first | rfl | (simp; done) | (simp [*]; done)), H', ⟨by have := HJ4.out; have := HJ10.out; have := HK3.out; omega⟩, ⟨by (with_reducible repeat (first | apply Kd.R_alloc | apply Kd.R_drewN | apply Kd.R_drew)); exact HO_37.out⟩, ⟨by repeat (first | (with_reducible first | exact HB.out | apply below_alloc | apply pw_below_drewN | apply below_drew1) | exact HB.out)⟩⟩
                   ·
                    rw [if_neg c31] at H
                    have c31b0 : (t335 == 3) = false := beq_eq_false_iff_ne.mpr c31
                    have c31b1 : (t335 != 3) = true := bne_iff_ne.mpr c31
                    have H' := Aside0.mk H
                    clear H
                    have p334 : 0 ≤ (x39_3 : Int) := of_decide_eq_true (by first | (with_reducible assumption) | assumption)
                    have q334 : x39_3 < (t330.length : Int) := of_decide_eq_true (by first | (with_reducible assumption) | assumption)
                    obtain ⟨ad334, e334, hx334_0⟩ := Kd.at_int (Kd.R_reads' HO_37.out).2.2 x39_3 p334 q334
                    cases e334
                    replace p334 := eq_true p334
                    replace q334 := eq_true q334
                    have p21 : 0 ≤ (x39_3 : Int) := of_decide_eq_true (by first | (with_reducible assumption) | assumption)
                    have q21 : x39_3 < (a0.size : Int) := of_decide_eq_true (by first | (with_reducible assumption) | assumption)
                    have hx21 := bt_at a0 x39_3
                    replace p21 := eq_true p21
                    replace q21 := eq_true q21
                    go_wp2_with (first | ((with_reducible refine gate_callee (f := 22) rfl ?_); refine goesL_ (some 47) rfl rfl Try.func22 (by kernel_rfl) rfl #[.int .u8 (bt a0 x39_3)] rfl (by (try simp only [List.map_toArray, List.map_cons, List.map_nil]); first | done | rfl | (simp only [List.length_drop, List.length_take]; rfl)) ?_; (with_reducible refine (formeref06_Class.calls k3 (bt a0 x39_3) t335 _ A22.out).mono ?_); rintro e w' ⟨rfl, ⟨nd, rfl⟩⟩; refine ⟨_, rfl, ?_⟩))
                    go_roundg k3
                    case measure => have := HJ4.out; have := HJ10.out; have := HK3.out; omega
                    case rel => exact ⟨(true), (wrap64 (x39_3 + 1)), (by first | rfl | (simp; done) | (simp [*]; done)), (by first | rfl | (simp; done) | (simp [*]; done)), H', ⟨by have := HJ4.out; have := HJ10.out; have := HK3.out; omega⟩, ⟨by (with_reducible repeat (first | apply Kd.R_alloc | apply Kd.R_drewN | apply Kd.R_drew)); exact HO_37.out⟩, ⟨by repeat (first | (with_reducible first | exact HB.out | apply below_alloc | apply pw_below_drewN | apply below_drew1) | exact HB.out)⟩⟩
                ·
                 rw [if_neg c25] at H
                 have c25b0 : decide ((rd t330 x39_3) ≤ 2) = false := decide_eq_false c25
                 clear c25
                 have H' := Aside0.mk H
                 clear H
                 have p334 : 0 ≤ (x39_3 : Int) := of_decide_eq_true (by first | (with_reducible assumption) | assumption)
                 have q334 : x39_3 < (t330.length : Int) := of_decide_eq_true (by first | (with_reducible assumption) | assumption)
                 obtain ⟨ad334, e334, hx334_0⟩ := Kd.at_int (Kd.R_reads' HO_37.out).2.2 x39_3 p334 q334
                 cases e334
                 replace p334 := eq_true p334
                 replace q334 := eq_true q334
                 have p21 : 0 ≤ (x39_3 : Int) := of_decide_eq_true (by first | (with_reducible assumption) | assumption)
                 have q21 : x39_3 < (a0.size : Int) := of_decide_eq_true (by first | (with_reducible assumption) | assumption)
                 have hx21 := bt_at a0 x39_3
                 replace p21 := eq_true p21
                 replace q21 := eq_true q21
                 go_wp2_with (first | ((with_reducible refine gate_callee (f := 22) rfl ?_); refine goesL_ (some 47) rfl rfl Try.func22 (by kernel_rfl) rfl #[.int .u8 (bt a0 x39_3)] rfl (by (try simp only [List.map_toArray, List.map_cons, List.map_nil]); first | done | rfl | (simp only [List.length_drop, List.length_take]; rfl)) ?_; (with_reducible refine (formeref06_Class.calls k3 (bt a0 x39_3) t335 _ A22.out).mono ?_); rintro e w' ⟨rfl, ⟨nd, rfl⟩⟩; refine ⟨_, rfl, ?_⟩))
                 go_roundg k3
                 case measure => have := HJ4.out; have := HJ10.out; have := HK3.out; omega
                 case rel => exact ⟨(false), (wrap64 (x39_3 + 1)), (by first | rfl | (simp; done) | (simp [*]; done)), (by first | rfl | (simp; done) | (simp [*]; done)), H', ⟨by have := HJ4.out; have := HJ10.out; have := HK3.out; omega⟩, ⟨by (with_reducible repeat (first | apply Kd.R_alloc | apply Kd.R_drewN | apply Kd.R_drew)); exact HO_37.out⟩, ⟨by repeat (first | (with_reducible first | exact HB.out | apply below_alloc | apply pw_below_drewN | apply below_drew1) | exact HB.out)⟩⟩
               ·
                rw [if_neg c24] at H
                have c24b0 : decide (a1 ≤ (rd t330 x39_3)) = false := decide_eq_false c24
                clear c24
                have H' := Aside0.mk H
                clear H
                have p334 : 0 ≤ (x39_3 : Int) := of_decide_eq_true (by first | (with_reducible assumption) | assumption)
                have q334 : x39_3 < (t330.length : Int) := of_decide_eq_true (by first | (with_reducible assumption) | assumption)
                obtain ⟨ad334, e334, hx334_0⟩ := Kd.at_int (Kd.R_reads' HO_37.out).2.2 x39_3 p334 q334
                cases e334
                replace p334 := eq_true p334
                replace q334 := eq_true q334
                have p21 : 0 ≤ (x39_3 : Int) := of_decide_eq_true (by first | (with_reducible assumption) | assumption)
                have q21 : x39_3 < (a0.size : Int) := of_decide_eq_true (by first | (with_reducible assumption) | assumption)
                have hx21 := bt_at a0 x39_3
                replace p21 := eq_true p21
                replace q21 := eq_true q21
                go_wp2_with (first | ((with_reducible refine gate_callee (f := 22) rfl ?_); refine goesL_ (some 47) rfl rfl Try.func22 (by kernel_rfl) rfl #[.int .u8 (bt a0 x39_3)] rfl (by (try simp only [List.map_toArray, List.map_cons, List.map_nil]); first | done | rfl | (simp only [List.length_drop, List.length_take]; rfl)) ?_; (with_reducible refine (formeref06_Class.calls k3 (bt a0 x39_3) t335 _ A22.out).mono ?_); rintro e w' ⟨rfl, ⟨nd, rfl⟩⟩; refine ⟨_, rfl, ?_⟩))
                go_roundg k3
                case measure => have := HJ4.out; have := HJ10.out; have := HK3.out; omega
                case rel => exact ⟨(false), (wrap64 (x39_3 + 1)), (by first | rfl | (simp; done) | (simp [*]; done)), (by first | rfl | (simp; done) | (simp [*]; done)), H', ⟨by have := HJ4.out; have := HJ10.out; have := HK3.out; omega⟩, ⟨by (with_reducible repeat (first | apply Kd.R_alloc | apply Kd.R_drewN | apply Kd.R_drew)); exact HO_37.out⟩, ⟨by repeat (first | (with_reducible first | exact HB.out | apply below_alloc | apply pw_below_drewN | apply below_drew1) | exact HB.out)⟩⟩
              ·
               replace c23 := Bool.eq_false_iff.mpr c23
               subst c23
               have H1 : (formelaw09_BidiLevels.l0 k3 a0 a1 false t330 (t330.length : Int) (wrap64 (x39_3 + 1))) = some r := by rw [if_neg (show ¬ (false = true) by decide)] at H; exact H
               clear H
               have H := H1
               clear H1
               have H' := Aside0.mk H
               clear H
               have p334 : 0 ≤ (x39_3 : Int) := of_decide_eq_true (by first | (with_reducible assumption) | assumption)
               have q334 : x39_3 < (t330.length : Int) := of_decide_eq_true (by first | (with_reducible assumption) | assumption)
               obtain ⟨ad334, e334, hx334_0⟩ := Kd.at_int (Kd.R_reads' HO_37.out).2.2 x39_3 p334 q334
               cases e334
               replace p334 := eq_true p334
               replace q334 := eq_true q334
               have p21 : 0 ≤ (x39_3 : Int) := of_decide_eq_true (by first | (with_reducible assumption) | assumption)
               have q21 : x39_3 < (a0.size : Int) := of_decide_eq_true (by first | (with_reducible assumption) | assumption)
               have hx21 := bt_at a0 x39_3
               replace p21 := eq_true p21
               replace q21 := eq_true q21
               go_wp2_with (first | ((with_reducible refine gate_callee (f := 22) rfl ?_); refine goesL_ (some 47) rfl rfl Try.func22 (by kernel_rfl) rfl #[.int .u8 (bt a0 x39_3)] rfl (by (try simp only [List.map_toArray, List.map_cons, List.map_nil]); first | done | rfl | (simp only [List.length_drop, List.length_take]; rfl)) ?_; (with_reducible refine (formeref06_Class.calls k3 (bt a0 x39_3) t335 _ A22.out).mono ?_); rintro e w' ⟨rfl, ⟨nd, rfl⟩⟩; refine ⟨_, rfl, ?_⟩))
               go_roundg k3
               case measure => have := HJ4.out; have := HJ10.out; have := HK3.out; omega
               case rel => exact ⟨(false), (wrap64 (x39_3 + 1)), (by first | rfl | (simp; done) | (simp [*]; done)), (by first | rfl | (simp; done) | (simp [*]; done)), H', ⟨by have := HJ4.out; have := HJ10.out; have := HK3.out; omega⟩, ⟨by (with_reducible repeat (first | apply Kd.R_alloc | apply Kd.R_drewN | apply Kd.R_drew)); exact HO_37.out⟩, ⟨by repeat (first | (with_reducible first | exact HB.out | apply below_alloc | apply pw_below_drewN | apply below_drew1) | exact HB.out)⟩⟩
             ·
              rw [if_neg c20] at H
              exact absurd H (by simp)
            ·
             rw [if_neg c19] at H
             exact absurd H (by simp)
           ·
            rw [if_neg c18] at H
            exact absurd H (by simp)
          ·
           rw [if_neg c17] at H
           have c17b0 : decide (x39_3 < (t330.length : Int)) = false := decide_eq_false c17
           clear c17
           obtain rfl := Option.some.inj H
           go_wp2
           go_ret
           exact ⟨by first | rfl | (simp [errW_none, errW_some] <;> rfl) | (simp [*, errW_none, errW_some] <;> rfl), by repeat (first | (with_reducible first | exact HB.out | apply below_alloc | apply pw_below_drewN | apply below_drew1) | exact HB.out)⟩
 ·
  replace c4 := Bool.eq_false_iff.mpr c4
  subst c4
  have H1 : (none) = some r := by rw [if_neg (show ¬ (false = true) by decide)] at H; exact H
  clear H
  have H := H1
  clear H1
  exact absurd H (by simp)

/-- THE ONE PURE STATEMENT of formelaw09_BidiLevels: yours. -/
def formelaw09_BidiLevels.Pure : Prop := ∀ (a0 : ByteArray) (a1 : Int), a0.size ≤ 140737488351232 → (Lit.int .i64 a1).wf = true → ∃ k, formelaw09_BidiLevels.f k a0 a1 = some true
theorem formelaw09_BidiLevels.walk (P : formelaw09_BidiLevels.Pure) (a0 : ByteArray) (a1 : Int) (w : World) (w0 : a0.size ≤ 140737488351232) (w1 : (Lit.int .i64 a1).wf = true) :
  Calls Try.prog 9 #[.string a0, .int .i64 a1] w fun e w' => e = .returned (.bool true) ∧ Below w.heap.size w w' := by
 obtain ⟨k, h⟩ := P a0 a1 w0 w1
 refine (formelaw09_BidiLevels.calls k a0 a1 true w h).mono ?_
 rintro e w' ⟨rfl, hd⟩
 exact ⟨rfl, hd⟩

end Go.Proofs.Ytdmfhabhcagioaa.P
