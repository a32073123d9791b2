-- Laid by a program of this session (wip/fam.sh) over the kit's words: Lean checks it.
import Derived.Test.YtdmfhabhcagioaaPx0
import Derived.Test.YtdmfhabhcagioaaPx2
import Derived.Test.YtdmfhabhcagioaaPx7
namespace Go.Proofs.Ytdmfhabhcagioaa.P
open Go.RowKit Go.Proofs.YtdmfhabhcagioaaW.PrintWords Go.Proofs.YtdmfhabhcagioaaW.PrintLast Go.Proofs.YtdmfhabhcagioaaW.PrintMore
attribute [local go_sem] max2_int min2_int max_two min_two max_three min_three max_four min_four   -- for this text's walks alone
set_option linter.unusedVariables false
set_option linter.unusedSimpArgs false

/-! ### formelaw09_BidiPermutes: function 4 -/
mutual
def formelaw09_BidiPermutes.j0 : Nat → ByteArray → Int → Bool → Bool → Option (Bool)
 | 0, _, _, _, _ => none
 | k + 1, x0, x1, x5, x20 => if x20 = true then (some x5) else ((formelaw09_places.f k x0 x1).bind fun bt266 => ((bidi_Visual.f k x0 x1).bind fun bt270 => (if bt266.2 = true then (if bt270.2 = 0 then (formelaw09_BidiPermutes.j1 k x0 x5 bt266.1 bt270.1 ((bt270.1.size : Int) != (x0.size : Int))) else (formelaw09_BidiPermutes.j1 k x0 x5 bt266.1 bt270.1 true)) else (formelaw09_BidiPermutes.j1 k x0 x5 bt266.1 bt270.1 true))))
def formelaw09_BidiPermutes.j1 : Nat → ByteArray → Bool → List Int → ByteArray → Bool → Option (Bool)
 | 0, _, _, _, _, _ => none
 | k + 1, x0, x5, x6, x8, x46 => if x46 = true then (some false) else (formelaw09_BidiPermutes.l0 k x0 x5 x6 x8 (x6.length : Int) 0)
def formelaw09_BidiPermutes.l0 : Nat → ByteArray → Bool → List Int → ByteArray → Int → Int → Option (Bool)
 | 0, _, _, _, _, _, _ => none
 | k + 1, x0, x5, x6, x8, x48, x49 => if x49 < x48 then (if x5 = true then (if 0 ≤ x49 then (if x49 < (x6.length : Int) then (if 0 ≤ (rd x6 x49) then (if (rd x6 x49) < (x8.size : Int) then (if x49 < (x0.size : Int) then (formelaw09_BidiPermutes.l0 k x0 ((bt x8 (rd x6 x49)) == (bt x0 x49)) x6 x8 x48 (wrap64 (x49 + 1))) else (none)) else (none)) else (none)) else (none)) else (none)) else (formelaw09_BidiPermutes.l0 k x0 false x6 x8 x48 (wrap64 (x49 + 1)))) else (some x5)
end
def formelaw09_BidiPermutes.f (k : Nat) (a0 : ByteArray) (a1 : Int) : Option (Bool) := (formelaw09_head.f k).bind fun t264 => (if t264 = true then (if (a0.size : Int) > 300 then (formelaw09_BidiPermutes.j0 k a0 a1 true true) else ((formeref09_Line.f k a0 a1).bind fun t265 => (formelaw09_BidiPermutes.j0 k a0 a1 true (!t265)))) else (none))
theorem formelaw09_BidiPermutes.mono_l : ∀ k, (∀ y0 y1 y2 y3, LeO (formelaw09_BidiPermutes.j0 k y0 y1 y2 y3) (formelaw09_BidiPermutes.j0 (k + 1) y0 y1 y2 y3)) ∧ (∀ y0 y1 y2 y3 y4, LeO (formelaw09_BidiPermutes.j1 k y0 y1 y2 y3 y4) (formelaw09_BidiPermutes.j1 (k + 1) y0 y1 y2 y3 y4)) ∧ (∀ y0 y1 y2 y3 y4 y5, LeO (formelaw09_BidiPermutes.l0 k y0 y1 y2 y3 y4 y5) (formelaw09_BidiPermutes.l0 (k + 1) y0 y1 y2 y3 y4 y5))
 | 0 => ⟨fun _ _ _ _ r h => by simp [formelaw09_BidiPermutes.j0] at h, fun _ _ _ _ _ r h => by simp [formelaw09_BidiPermutes.j1] at h, fun _ _ _ _ _ _ r h => by simp [formelaw09_BidiPermutes.l0] at h⟩
 | k + 1 => by
  obtain ⟨ih0, ih1, ih2⟩ := formelaw09_BidiPermutes.mono_l k
  refine ⟨?_, ?_, ?_⟩
  ·
   intro y0 y1 y2 y3
   unfold formelaw09_BidiPermutes.j0
   repeat' first
   | (with_reducible exact ih0 _ _ _ _)
   | (with_reducible exact ih1 _ _ _ _ _)
   | (with_reducible exact ih2 _ _ _ _ _ _)
   | (with_reducible exact bidi_Visual.mono _ _ _)
   | (with_reducible exact formelaw09_head.mono _)
   | (with_reducible exact formelaw09_places.mono _ _ _)
   | (with_reducible exact formeref09_Line.mono _ _ _)
   | (with_reducible exact LeO.refl _)
   | (with_reducible exact LeO.none _)
   | (with_reducible refine LeO.ite ?_ ?_)
   | (with_reducible refine LeO.bind ?_ (fun _ => ?_))
   | exact ih0 _ _ _ _
   | exact ih1 _ _ _ _ _
   | exact ih2 _ _ _ _ _ _
   | exact bidi_Visual.mono _ _ _
   | exact formelaw09_head.mono _
   | exact formelaw09_places.mono _ _ _
   | exact formeref09_Line.mono _ _ _
   | exact LeO.none _
   | refine LeO.ite ?_ ?_
   | refine LeO.bind ?_ (fun _ => ?_)
  ·
   intro y0 y1 y2 y3 y4
   unfold formelaw09_BidiPermutes.j1
   repeat' first
   | (with_reducible exact ih0 _ _ _ _)
   | (with_reducible exact ih1 _ _ _ _ _)
   | (with_reducible exact ih2 _ _ _ _ _ _)
   | (with_reducible exact bidi_Visual.mono _ _ _)
   | (with_reducible exact formelaw09_head.mono _)
   | (with_reducible exact formelaw09_places.mono _ _ _)
   | (with_reducible exact formeref09_Line.mono _ _ _)
   | (with_reducible exact LeO.refl _)
   | (with_reducible exact LeO.none _)
   | (with_reducible refine LeO.ite ?_ ?_)
   | (with_reducible refine LeO.bind ?_ (fun _ => ?_))
   | exact ih0 _ _ _ _
   | exact ih1 _ _ _ _ _
   | exact ih2 _ _ _ _ _ _
   | exact bidi_Visual.mono _ _ _
   | exact formelaw09_head.mono _
   | exact formelaw09_places.mono _ _ _
   | exact formeref09_Line.mono _ _ _
   | exact LeO.none _
   | refine LeO.ite ?_ ?_
   | refine LeO.bind ?_ (fun _ => ?_)
  ·
   intro y0 y1 y2 y3 y4 y5
   unfold formelaw09_BidiPermutes.l0
   repeat' first
   | (with_reducible exact ih0 _ _ _ _)
   | (with_reducible exact ih1 _ _ _ _ _)
   | (with_reducible exact ih2 _ _ _ _ _ _)
   | (with_reducible exact bidi_Visual.mono _ _ _)
   | (with_reducible exact formelaw09_head.mono _)
   | (with_reducible exact formelaw09_places.mono _ _ _)
   | (with_reducible exact formeref09_Line.mono _ _ _)
   | (with_reducible exact LeO.refl _)
   | (with_reducible exact LeO.none _)
   | (with_reducible refine LeO.ite ?_ ?_)
   | (with_reducible refine LeO.bind ?_ (fun _ => ?_))
   | exact ih0 _ _ _ _
   | exact ih1 _ _ _ _ _
   | exact ih2 _ _ _ _ _ _
   | exact bidi_Visual.mono _ _ _
   | exact formelaw09_head.mono _
   | exact formelaw09_places.mono _ _ _
   | exact formeref09_Line.mono _ _ _
   | exact LeO.none _
   | refine LeO.ite ?_ ?_
   | refine LeO.bind ?_ (fun _ => ?_)
theorem formelaw09_BidiPermutes.mono : ∀ a0 a1 k, LeO (formelaw09_BidiPermutes.f k a0 a1) (formelaw09_BidiPermutes.f (k + 1) a0 a1) := by
 intro a0 a1 k
 obtain ⟨ih0, ih1, ih2⟩ := formelaw09_BidiPermutes.mono_l k
 unfold formelaw09_BidiPermutes.f
 repeat' first
   | (with_reducible exact ih0 _ _ _ _)
   | (with_reducible exact ih1 _ _ _ _ _)
   | (with_reducible exact ih2 _ _ _ _ _ _)
   | (with_reducible exact bidi_Visual.mono _ _ _)
   | (with_reducible exact formelaw09_head.mono _)
   | (with_reducible exact formelaw09_places.mono _ _ _)
   | (with_reducible exact formeref09_Line.mono _ _ _)
   | (with_reducible exact LeO.refl _)
   | (with_reducible exact LeO.none _)
   | (with_reducible refine LeO.ite ?_ ?_)
   | (with_reducible refine LeO.bind ?_ (fun _ => ?_))
   | exact ih0 _ _ _ _
   | exact ih1 _ _ _ _ _
   | exact ih2 _ _ _ _ _ _
   | exact bidi_Visual.mono _ _ _
   | exact formelaw09_head.mono _
   | exact formelaw09_places.mono _ _ _
   | exact formeref09_Line.mono _ _ _
   | exact LeO.none _
   | refine LeO.ite ?_ ?_
   | refine LeO.bind ?_ (fun _ => ?_)
set_option maxHeartbeats 8000000 in
set_option maxRecDepth 100000 in
theorem formelaw09_BidiPermutes.calls (k : Nat) (a0 : ByteArray) (a1 : Int) (r : Bool) (w : World) (h : formelaw09_BidiPermutes.f k a0 a1 = some r) :
  Calls Try.prog 4 #[.string a0, .int .i64 a1] w fun e w' => e = .returned (.bool r) ∧ Below w.heap.size w w' := by
 have HB := Aside0.mk (Below.refl w.heap.size w)
 have H : ((formelaw09_head.f k).bind fun t264 => (if t264 = true then (if (a0.size : Int) > 300 then (formelaw09_BidiPermutes.j0 k a0 a1 true true) else ((formeref09_Line.f k a0 a1).bind fun t265 => (formelaw09_BidiPermutes.j0 k a0 a1 true (!t265)))) else (none))) = some r := h
 clear h
 replace H := Option.bind_eq_some_iff.mp H
 obtain ⟨t264, A30, H⟩ := H
 replace H : (if t264 = true then (if (a0.size : Int) > 300 then (formelaw09_BidiPermutes.j0 k a0 a1 true true) else ((formeref09_Line.f k a0 a1).bind fun t265 => (formelaw09_BidiPermutes.j0 k a0 a1 true (!t265)))) else (none)) = some r := H
 have A3 := Aside0.mk A30
 clear A30
 by_cases c4 : t264 = true
 ·
  subst c4
  have H1 : (if (a0.size : Int) > 300 then (formelaw09_BidiPermutes.j0 k a0 a1 true true) else ((formeref09_Line.f k a0 a1).bind fun t265 => (formelaw09_BidiPermutes.j0 k a0 a1 true (!t265)))) = some r := by rw [if_pos rfl] at H; exact H
  clear H
  have H := H1
  clear H1
  have HC5 := Aside0.mk H
  clear H
  go_enter Try.func4, Try.ntmps4
  go_upto_region 2 with (first | (go_at_call 10; (with_reducible refine (formelaw09_head.calls k  true _ A3.out).mono ?_); rintro e w6 ⟨rfl, hb⟩; have n0_ := Aside0.mk (below_step (by repeat (first | (with_reducible first | exact HB.out | apply below_alloc | apply pw_below_drewN | apply below_drew1) | exact HB.out)) hb); clear HB; have HB := n0_; clear n0_; (try clear hb); (try clear hb2); (try clear hk); (try clear hi)))
  repeat (go_quiet (fail); go_upto_region 2 with (first | (go_at_call 10; (with_reducible refine (formelaw09_head.calls k  true _ A3.out).mono ?_); rintro e w6 ⟨rfl, hb⟩; have n0_ := Aside0.mk (below_step (by repeat (first | (with_reducible first | exact HB.out | apply below_alloc | apply pw_below_drewN | apply below_drew1) | exact HB.out)) hb); clear HB; have HB := n0_; clear n0_; (try clear hb); (try clear hb2); (try clear hk); (try clear hi))))
  (try simp only [Act.put, List.setIfInBounds_toArray, List.set_cons_zero, List.set_cons_succ])
  go_cut [20] (fun v20 wc => ∃ (kq : Nat) (x20_4 : Bool), v20 = .bool x20_4 ∧ Aside0 (formelaw09_BidiPermutes.j0 kq a0 a1 true x20_4 = some r) ∧ Aside0 (kq ≤ k) ∧ Aside0 (Below w.heap.size w wc))
  case first =>
   have H := HC5.out
   clear HC5
   by_cases c7 : (a0.size : Int) > 300
   ·
    rw [if_pos c7] at H
    have c7b0 : decide (300 < (a0.size : Int)) = true := decide_eq_true c7
    have c7b1 : decide (300 < a0.size) = true := decide_eq_true (by omega)
    clear c7
    (first | rw [c7b0] | (simp only [i64_w, i32_w]; rw [c7b0]) | skip)
    have H' := Aside0.mk H
    clear H
    go_wp2
    repeat (go_quiet (fail); try go_wp2)
    go_meet
    case rel => exact ⟨_, (true), (by first | rfl | (simp; done) | (simp [*]; done)), H', ⟨by first | omega | exact Nat.le_refl _⟩, ⟨by repeat (first | (with_reducible first | exact HB.out | apply below_alloc | apply pw_below_drewN | apply below_drew1) | exact HB.out)⟩⟩
   ·
    rw [if_neg c7] at H
    have c7b0 : decide (300 < (a0.size : Int)) = false := decide_eq_false c7
    have c7b1 : decide (300 < a0.size) = false := decide_eq_false (by omega)
    clear c7
    (first | rw [c7b0] | (simp only [i64_w, i32_w]; rw [c7b0]) | skip)
    replace H := Option.bind_eq_some_iff.mp H
    obtain ⟨t265, A80, H⟩ := H
    replace H : (formelaw09_BidiPermutes.j0 k a0 a1 true (!t265)) = some r := H
    have A8 := Aside0.mk A80
    clear A80
    have H' := Aside0.mk H
    clear H
    go_wp2_with (first | (go_at_call 18; (with_reducible refine (formeref09_Line.calls k a0 a1 t265 _ A8.out).mono ?_); rintro e w' ⟨rfl, ⟨nd, rfl⟩⟩; (try first | exact ⟨rfl, _, World.drewN_drewN _ _ _⟩ | exact ⟨rfl, _, Eq.trans (World.drewN_drewN _ _ _) (congrArg (World.drewN _) (Nat.add_assoc _ _ _))⟩)))
    repeat (go_quiet (first | (go_at_call 18; (with_reducible refine (formeref09_Line.calls k a0 a1 t265 _ A8.out).mono ?_); rintro e w' ⟨rfl, ⟨nd, rfl⟩⟩; (try first | exact ⟨rfl, _, World.drewN_drewN _ _ _⟩ | exact ⟨rfl, _, Eq.trans (World.drewN_drewN _ _ _) (congrArg (World.drewN _) (Nat.add_assoc _ _ _))⟩))); try go_wp2_with (first | (go_at_call 18; (with_reducible refine (formeref09_Line.calls k a0 a1 t265 _ A8.out).mono ?_); rintro e w' ⟨rfl, ⟨nd, rfl⟩⟩; (try first | exact ⟨rfl, _, World.drewN_drewN _ _ _⟩ | exact ⟨rfl, _, Eq.trans (World.drewN_drewN _ _ _) (congrArg (World.drewN _) (Nat.add_assoc _ _ _))⟩))))
    go_meet
    case rel => exact ⟨_, (!t265), (by first | rfl | (simp; done) | (simp [*]; done)), H', ⟨by first | omega | exact Nat.le_refl _⟩, ⟨by repeat (first | (with_reducible first | exact HB.out | apply below_alloc | apply pw_below_drewN | apply below_drew1) | exact HB.out)⟩⟩
  case rest =>
   clear HC5
   try clear p2
   try clear c4
   try clear c7
   try clear c7b0
   try clear c7b1
   obtain ⟨kq, x20_4, rfl, HA, HJ4, HB⟩ := hcut
   cases kq with
   | zero => exact absurd HA.out (by simp [formelaw09_BidiPermutes.j0])
   | succ kj4 =>
    have H := HA.out
    clear HA
    simp only [formelaw09_BidiPermutes.j0] at H
    by_cases c9 : x20_4 = true
    ·
     subst c9
     have H1 : (some true) = some r := by rw [if_pos rfl] at H; exact H
     clear H
     have H := H1
     clear H1
     obtain rfl := Option.some.inj H
     go_wp2
     repeat (go_quiet (fail); try go_wp2)
     go_ret
     exact ⟨by first | rfl | (simp [errW_none, errW_some] <;> rfl) | (simp [*, errW_none, errW_some] <;> rfl), by repeat (first | (with_reducible first | exact HB.out | apply below_alloc | apply pw_below_drewN | apply below_drew1) | exact HB.out)⟩
    ·
     replace c9 := Bool.eq_false_iff.mpr c9
     subst c9
     have H1 : ((formelaw09_places.f kj4 a0 a1).bind fun bt266 => ((bidi_Visual.f kj4 a0 a1).bind fun bt270 => (if bt266.2 = true then (if bt270.2 = 0 then (formelaw09_BidiPermutes.j1 kj4 a0 true bt266.1 bt270.1 ((bt270.1.size : Int) != (a0.size : Int))) else (formelaw09_BidiPermutes.j1 kj4 a0 true bt266.1 bt270.1 true)) else (formelaw09_BidiPermutes.j1 kj4 a0 true bt266.1 bt270.1 true)))) = some r := by rw [if_neg (show ¬ (false = true) by decide)] at H; exact H
     clear H
     have H := H1
     clear H1
     replace H := Option.bind_eq_some_iff.mp H
     obtain ⟨⟨t266, t267⟩, A100, H⟩ := H
     replace H : ((bidi_Visual.f kj4 a0 a1).bind fun bt270 => (if t267 = true then (if bt270.2 = 0 then (formelaw09_BidiPermutes.j1 kj4 a0 true t266 bt270.1 ((bt270.1.size : Int) != (a0.size : Int))) else (formelaw09_BidiPermutes.j1 kj4 a0 true t266 bt270.1 true)) else (formelaw09_BidiPermutes.j1 kj4 a0 true t266 bt270.1 true))) = some r := H
     have A10 := Aside0.mk A100
     clear A100
     replace H := Option.bind_eq_some_iff.mp H
     obtain ⟨⟨t270, t271⟩, A110, H⟩ := H
     replace H : (if t267 = true then (if t271 = 0 then (formelaw09_BidiPermutes.j1 kj4 a0 true t266 t270 ((t270.size : Int) != (a0.size : Int))) else (formelaw09_BidiPermutes.j1 kj4 a0 true t266 t270 true)) else (formelaw09_BidiPermutes.j1 kj4 a0 true t266 t270 true)) = some r := H
     have A11 := Aside0.mk A110
     clear A110
     have HC12 := Aside0.mk H
     clear H
     go_upto_region 6 with (first | (go_at_call 19; (with_reducible refine (formelaw09_places.calls kj4 a0 a1 t266 t267 _ A10.out).mono ?_); rintro e w13 ⟨v268, rfl, ho0, hb⟩; have n0_ := Aside0.mk (Kd.R_lower ho0 (below_size (by repeat (first | (with_reducible first | exact HB.out | apply below_alloc | apply pw_below_drewN | apply below_drew1) | exact HB.out)))); have n1_ := Aside0.mk (below_step (by repeat (first | (with_reducible first | exact HB.out | apply below_alloc | apply pw_below_drewN | apply below_drew1) | exact HB.out)) hb); clear HB; have HO269 := n0_; have HB := n1_; clear n0_ n1_; (try clear hb); (try clear hb2); (try clear hk); (try clear hi); (try clear ho0)) | (go_at_call 16; (with_reducible refine (bidi_Visual.calls kj4 a0 a1 t270 t271 _ A11.out).mono ?_); rintro e w14 ⟨rfl, hb⟩; have n0_ := Aside0.mk (Kd.R_below (by (with_reducible repeat (first | apply Kd.R_alloc | apply Kd.R_drewN | apply Kd.R_drew)); exact HO269.out) hb); have n1_ := Aside0.mk (below_step (by repeat (first | (with_reducible first | exact HB.out | apply below_alloc | apply pw_below_drewN | apply below_drew1) | exact HB.out)) hb); clear HO269; clear HB; have HO269 := n0_; have HB := n1_; clear n0_ n1_; (try clear hb); (try clear hb2); (try clear hk); (try clear hi)))
     repeat (go_quiet (fail); go_upto_region 6 with (first | (go_at_call 19; (with_reducible refine (formelaw09_places.calls kj4 a0 a1 t266 t267 _ A10.out).mono ?_); rintro e w13 ⟨v268, rfl, ho0, hb⟩; have n0_ := Aside0.mk (Kd.R_lower ho0 (below_size (by repeat (first | (with_reducible first | exact HB.out | apply below_alloc | apply pw_below_drewN | apply below_drew1) | exact HB.out)))); have n1_ := Aside0.mk (below_step (by repeat (first | (with_reducible first | exact HB.out | apply below_alloc | apply pw_below_drewN | apply below_drew1) | exact HB.out)) hb); clear HB; have HO269 := n0_; have HB := n1_; clear n0_ n1_; (try clear hb); (try clear hb2); (try clear hk); (try clear hi); (try clear ho0)) | (go_at_call 16; (with_reducible refine (bidi_Visual.calls kj4 a0 a1 t270 t271 _ A11.out).mono ?_); rintro e w14 ⟨rfl, hb⟩; have n0_ := Aside0.mk (Kd.R_below (by (with_reducible repeat (first | apply Kd.R_alloc | apply Kd.R_drewN | apply Kd.R_drew)); exact HO269.out) hb); have n1_ := Aside0.mk (below_step (by repeat (first | (with_reducible first | exact HB.out | apply below_alloc | apply pw_below_drewN | apply below_drew1) | exact HB.out)) hb); clear HO269; clear HB; have HO269 := n0_; have HB := n1_; clear n0_ n1_; (try clear hb); (try clear hb2); (try clear hk); (try clear hi))))
     (try simp only [Act.put, List.setIfInBounds_toArray, List.set_cons_zero, List.set_cons_succ])
     go_cut [46] (fun v46 wc => ∃ (kq : Nat) (x46_11 : Bool), v46 = .bool x46_11 ∧ Aside0 (formelaw09_BidiPermutes.j1 kq a0 true t266 t270 x46_11 = some r) ∧ Aside0 (kq ≤ kj4) ∧ Aside0 (Kd.R (Kd.int .i64) 3 wc w.heap.size (fun _ => True) v268 t266) ∧ Aside0 (Below w.heap.size w wc))
     case first =>
      have H := HC12.out
      clear HC12
      by_cases c15 : t267 = true
      ·
       subst c15
       have H1 : (if t271 = 0 then (formelaw09_BidiPermutes.j1 kj4 a0 true t266 t270 ((t270.size : Int) != (a0.size : Int))) else (formelaw09_BidiPermutes.j1 kj4 a0 true t266 t270 true)) = some r := by rw [if_pos rfl] at H; exact H
       clear H
       have H := H1
       clear H1
       by_cases c16 : t271 = 0
       ·
        rw [if_pos c16] at H
        have c16b0 : (t271 == 0) = true := beq_iff_eq.mpr c16
        have c16b1 : (t271 != 0) = false := bne_eq_false_iff_eq.mpr c16
        clear c16
        (first | rw [c16b0] | (simp only [i64_w, i32_w]; rw [c16b0]) | skip)
        have H' := Aside0.mk H
        clear H
        go_wp2
        repeat (go_quiet (fail); try go_wp2)
        go_meet
        case rel => exact ⟨_, (((t270.size : Int) != (a0.size : Int))), (by first | rfl | (simp; done) | (simp [*]; done)), H', ⟨by have := HJ4.out; first | omega | exact Nat.le_refl _⟩, ⟨by (with_reducible repeat (first | apply Kd.R_alloc | apply Kd.R_drewN | apply Kd.R_drew)); exact HO269.out⟩, ⟨by repeat (first | (with_reducible first | exact HB.out | apply below_alloc | apply pw_below_drewN | apply below_drew1) | exact HB.out)⟩⟩
       ·
        rw [if_neg c16] at H
        have c16b0 : (t271 == 0) = false := beq_eq_false_iff_ne.mpr c16
        have c16b1 : (t271 != 0) = true := bne_iff_ne.mpr c16
        (first | rw [c16b0] | (simp only [i64_w, i32_w]; rw [c16b0]) | skip)
        have H' := Aside0.mk H
        clear H
        go_wp2
        repeat (go_quiet (fail); try go_wp2)
        go_meet
        case rel => exact ⟨_, (true), (by first | rfl | (simp; done) | (simp [*]; done)), H', ⟨by have := HJ4.out; first | omega | exact Nat.le_refl _⟩, ⟨by (with_reducible repeat (first | apply Kd.R_alloc | apply Kd.R_drewN | apply Kd.R_drew)); exact HO269.out⟩, ⟨by repeat (first | (with_reducible first | exact HB.out | apply below_alloc | apply pw_below_drewN | apply below_drew1) | exact HB.out)⟩⟩
      ·
       replace c15 := Bool.eq_false_iff.mpr c15
       subst c15
       have H1 : (formelaw09_BidiPermutes.j1 kj4 a0 true t266 t270 true) = some r := by rw [if_neg (show ¬ (false = true) by decide)] at H; exact H
       clear H
       have H := H1
       clear H1
       have H' := Aside0.mk H
       clear H
       go_wp2
       repeat (go_quiet (fail); try go_wp2)
       go_meet
       case rel => exact ⟨_, (true), (by first | rfl | (simp; done) | (simp [*]; done)), H', ⟨by have := HJ4.out; first | omega | exact Nat.le_refl _⟩, ⟨by (with_reducible repeat (first | apply Kd.R_alloc | apply Kd.R_drewN | apply Kd.R_drew)); exact HO269.out⟩, ⟨by repeat (first | (with_reducible first | exact HB.out | apply below_alloc | apply pw_below_drewN | apply below_drew1) | exact HB.out)⟩⟩
     case rest =>
      clear HC12
      try clear c1
      try clear p2
      try clear c4
      try clear c7
      try clear c7b0
      try clear c7b1
      try clear c9
      try clear c15
      try clear c16
      try clear c16b0
      try clear c16b1
      try clear p2
      obtain ⟨kq, x46_11, rfl, HA, HJ11, HO_6, HB⟩ := hcut
      cases kq with
      | zero => exact absurd HA.out (by simp [formelaw09_BidiPermutes.j1])
      | succ kj11 =>
       have H := HA.out
       clear HA
       simp only [formelaw09_BidiPermutes.j1] at H
       by_cases c17 : x46_11 = true
       ·
        subst c17
        have H1 : (some false) = some r := by rw [if_pos rfl] at H; exact H
        clear H
        have H := H1
        clear H1
        obtain rfl := Option.some.inj H
        go_wp2
        repeat (go_quiet (fail); try go_wp2)
        go_ret
        exact ⟨by first | rfl | (simp [errW_none, errW_some] <;> rfl) | (simp [*, errW_none, errW_some] <;> rfl), by repeat (first | (with_reducible first | exact HB.out | apply below_alloc | apply pw_below_drewN | apply below_drew1) | exact HB.out)⟩
       ·
        replace c17 := Bool.eq_false_iff.mpr c17
        subst c17
        have H1 : (formelaw09_BidiPermutes.l0 kj11 a0 true t266 t270 (t266.length : Int) 0) = some r := by rw [if_neg (show ¬ (false = true) by decide)] at H; exact H
        clear H
        have H := H1
        clear H1
        have H' := Aside0.mk H
        clear H
        obtain ⟨Ao18, co18, eo18⟩ := Kd.R_slice HO_6.out
        subst eo18
        go_wp2
        repeat (go_quiet (fail); try go_wp2)
        go_loopg [5, 49] kj11 (fun kq v5 v49 w' => ∃ (x5_3 : Bool) (x49_3 : Int), v5 = .bool x5_3 ∧ v49 = .int .i64 x49_3 ∧ Aside0 (formelaw09_BidiPermutes.l0 kq a0 x5_3 t266 t270 (t266.length : Int) x49_3 = some r) ∧ Aside0 (kq ≤ kj11) ∧ Aside0 (Kd.R (Kd.int .i64) 3 w' w.heap.size (fun _ => True) (.slice Ao18 t266.length co18) t266) ∧ Aside0 (Below w.heap.size w w'))
        case atStart => exact ⟨(true), (0), (by first | rfl | (simp; done) | (simp [*]; done)), (by first | rfl | (simp; done) | (simp [*]; done)), H', ⟨Nat.le_refl _⟩, ⟨by (with_reducible repeat (first | apply Kd.R_alloc | apply Kd.R_drewN | apply Kd.R_drew)); exact HO_6.out⟩, ⟨by repeat (first | (with_reducible first | exact HB.out | apply below_alloc | apply pw_below_drewN | apply below_drew1) | exact HB.out)⟩⟩
        case round =>
         clear H'
         try clear c1
         try clear p2
         try clear c4
         try clear c7
         try clear c7b0
         try clear c7b1
         try clear c9
         try clear c15
         try clear c16
         try clear c16b0
         try clear c16b1
         try clear c17
         try clear p2
         obtain ⟨x5_3, x49_3, rfl, rfl, HA, HK3, HO_6, HB⟩ := hrel
         cases gk with
         | zero => exact absurd HA.out (by simp [formelaw09_BidiPermutes.l0])
         | succ k3 =>
          have H := HA.out
          clear HA
          simp only [formelaw09_BidiPermutes.l0] at H
          by_cases c19 : x49_3 < (t266.length : Int)
          ·
           rw [if_pos c19] at H
           have c19b0 : decide (x49_3 < (t266.length : Int)) = true := decide_eq_true c19
           clear c19
           by_cases c20 : x5_3 = true
           ·
            subst c20
            have H1 : (if 0 ≤ x49_3 then (if x49_3 < (t266.length : Int) then (if 0 ≤ (rd t266 x49_3) then (if (rd t266 x49_3) < (t270.size : Int) then (if x49_3 < (a0.size : Int) then (formelaw09_BidiPermutes.l0 k3 a0 ((bt t270 (rd t266 x49_3)) == (bt a0 x49_3)) t266 t270 (t266.length : Int) (wrap64 (x49_3 + 1))) else (none)) else (none)) else (none)) else (none)) else (none)) = some r := by rw [if_pos rfl] at H; exact H
            clear H
            have H := H1
            clear H1
            by_cases c21 : 0 ≤ x49_3
            ·
             rw [if_pos c21] at H
             have c21b0 : decide (0 ≤ x49_3) = true := decide_eq_true c21
             clear c21
             by_cases c22 : x49_3 < (t266.length : Int)
             ·
              rw [if_pos c22] at H
              have c22b0 : decide (x49_3 < (t266.length : Int)) = true := decide_eq_true c22
              clear c22
              by_cases c23 : 0 ≤ (rd t266 x49_3)
              ·
               rw [if_pos c23] at H
               have c23b0 : decide (0 ≤ (rd t266 x49_3)) = true := decide_eq_true c23
               clear c23
               by_cases c24 : (rd t266 x49_3) < (t270.size : Int)
               ·
                rw [if_pos c24] at H
                have c24b0 : decide ((rd t266 x49_3) < (t270.size : Int)) = true := decide_eq_true c24
                clear c24
                by_cases c26 : x49_3 < (a0.size : Int)
                ·
                 rw [if_pos c26] at H
                 have c26b0 : decide (x49_3 < (a0.size : Int)) = true := decide_eq_true c26
                 clear c26
                 have H' := Aside0.mk H
                 clear H
                 have p272 : 0 ≤ (x49_3 : Int) := of_decide_eq_true (by first | (with_reducible assumption) | assumption)
                 have q272 : x49_3 < (t266.length : Int) := of_decide_eq_true (by first | (with_reducible assumption) | assumption)
                 obtain ⟨ad272, e272, hx272_0⟩ := Kd.at_int (Kd.R_reads' HO_6.out).2.2 x49_3 p272 q272
                 cases e272
                 replace p272 := eq_true p272
                 replace q272 := eq_true q272
                 have p25 : 0 ≤ ((rd t266 x49_3) : Int) := of_decide_eq_true (by first | (with_reducible assumption) | assumption)
                 have q25 : (rd t266 x49_3) < (t270.size : Int) := of_decide_eq_true (by first | (with_reducible assumption) | assumption)
                 have hx25 := bt_at t270 (rd t266 x49_3)
                 replace p25 := eq_true p25
                 replace q25 := eq_true q25
                 have p27 : 0 ≤ (x49_3 : Int) := of_decide_eq_true (by first | (with_reducible assumption) | assumption)
                 have q27 : x49_3 < (a0.size : Int) := of_decide_eq_true (by first | (with_reducible assumption) | assumption)
                 have hx27 := bt_at a0 x49_3
                 replace p27 := eq_true p27
                 replace q27 := eq_true q27
                 go_wp2
                 repeat (go_quiet (fail); try go_wp2)
                 go_roundg k3
                 case measure => have := HJ4.out; have := HJ11.out; have := HK3.out; omega
                 case rel => exact ⟨(((bt t270 (rd t266 x49_3)) == (bt a0 x49_3))), (wrap64 (x49_3 + 1)), (by first | rfl | (simp; done) | (simp [*]; done)), (by first | rfl | (simp; done) | (simp [*]; done)), H', ⟨by have := HJ4.out; have := HJ11.out; have := HK3.out; omega⟩, ⟨by (with_reducible repeat (first | apply Kd.R_alloc | apply Kd.R_drewN | apply Kd.R_drew)); exact HO_6.out⟩, ⟨by repeat (first | (with_reducible first | exact HB.out | apply below_alloc | apply pw_below_drewN | apply below_drew1) | exact HB.out)⟩⟩
                ·
                 rw [if_neg c26] at H
                 exact absurd H (by simp)
               ·
                rw [if_neg c24] at H
                exact absurd H (by simp)
              ·
               rw [if_neg c23] at H
               exact absurd H (by simp)
             ·
              rw [if_neg c22] at H
              exact absurd H (by simp)
            ·
             rw [if_neg c21] at H
             exact absurd H (by simp)
           ·
            replace c20 := Bool.eq_false_iff.mpr c20
            subst c20
            have H1 : (formelaw09_BidiPermutes.l0 k3 a0 false t266 t270 (t266.length : Int) (wrap64 (x49_3 + 1))) = some r := by rw [if_neg (show ¬ (false = true) by decide)] at H; exact H
            clear H
            have H := H1
            clear H1
            have H' := Aside0.mk H
            clear H
            go_wp2
            repeat (go_quiet (fail); try go_wp2)
            go_roundg k3
            case measure => have := HJ4.out; have := HJ11.out; have := HK3.out; omega
            case rel => exact ⟨(false), (wrap64 (x49_3 + 1)), (by first | rfl | (simp; done) | (simp [*]; done)), (by first | rfl | (simp; done) | (simp [*]; done)), H', ⟨by have := HJ4.out; have := HJ11.out; have := HK3.out; omega⟩, ⟨by (with_reducible repeat (first | apply Kd.R_alloc | apply Kd.R_drewN | apply Kd.R_drew)); exact HO_6.out⟩, ⟨by repeat (first | (with_reducible first | exact HB.out | apply below_alloc | apply pw_below_drewN | apply below_drew1) | exact HB.out)⟩⟩
          ·
           rw [if_neg c19] at H
           have c19b0 : decide (x49_3 < (t266.length : Int)) = false := decide_eq_false c19
           clear c19
           obtain rfl := Option.some.inj H
           go_wp2
           repeat (go_quiet (fail); try go_wp2)
           go_ret
           exact ⟨by first | rfl | (simp [errW_none, errW_some] <;> rfl) | (simp [*, errW_none, errW_some] <;> rfl), by repeat (first | (with_reducible first | exact HB.out | apply below_alloc | apply pw_below_drewN | apply below_drew1) | exact HB.out)⟩
 ·
  replace c4 := Bool.eq_false_iff.mpr c4
  subst c4
  have H1 : (none) = some r := by rw [if_neg (show ¬ (false = true) by decide)] at H; exact H
  clear H
  have H := H1
  clear H1
  exact absurd H (by simp)

/-- THE ONE PURE STATEMENT of formelaw09_BidiPermutes: yours. -/
def formelaw09_BidiPermutes.Pure : Prop := ∀ (a0 : ByteArray) (a1 : Int), a0.size ≤ 140737488351232 → (Lit.int .i64 a1).wf = true → ∃ k, formelaw09_BidiPermutes.f k a0 a1 = some true
theorem formelaw09_BidiPermutes.walk (P : formelaw09_BidiPermutes.Pure) (a0 : ByteArray) (a1 : Int) (w : World) (w0 : a0.size ≤ 140737488351232) (w1 : (Lit.int .i64 a1).wf = true) :
  Calls Try.prog 4 #[.string a0, .int .i64 a1] w fun e w' => e = .returned (.bool true) ∧ Below w.heap.size w w' := by
 obtain ⟨k, h⟩ := P a0 a1 w0 w1
 refine (formelaw09_BidiPermutes.calls k a0 a1 true w h).mono ?_
 rintro e w' ⟨rfl, hd⟩
 exact ⟨rfl, hd⟩

end Go.Proofs.Ytdmfhabhcagioaa.P
