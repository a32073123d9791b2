-- Laid by a program of this session (wip/fam.sh) over the kit's words: Lean checks it.
import Derived.Test.YtpggngomdemdgaaPx0
import Derived.Test.YtpggngomdemdgaaPx2
import Derived.Test.YtpggngomdemdgaaPx6
import Derived.Test.YtpggngomdemdgaaPx7
namespace Go.Proofs.Ytpggngomdemdgaa.P
open Go.RowKit Go.Proofs.YtpggngomdemdgaaW.PrintWords Go.Proofs.YtpggngomdemdgaaW.PrintLast Go.Proofs.YtpggngomdemdgaaW.PrintMore
attribute [local go_sem] max2_int min2_int max_two min_two max_three min_three max_four min_four   -- for this text's walks alone
set_option linter.unusedVariables false
set_option linter.unusedSimpArgs false

/-! ### formelaw05_CodecChanged: function 8 -/
mutual
def formelaw05_CodecChanged.j0 : Nat → List (List Int) → Int → Int → Bool → Bool → Option (Bool)
 | 0, _, _, _, _, _ => none
 | k + 1, x0, x1, x2, x7, x28 => if x28 = true then (some x7) else ((formelaw05_frames.f k x0).bind fun bt498 => (if bt498.2.2 = true then (formelaw05_CodecChanged.j1 k x0 x1 x2 x7 bt498.1 bt498.2.1 ((bt498.2.1.length : Int) != (x0.length : Int))) else (formelaw05_CodecChanged.j1 k x0 x1 x2 x7 bt498.1 bt498.2.1 true)))
def formelaw05_CodecChanged.j1 : Nat → List (List Int) → Int → Int → Bool → List Int → List Int → Bool → Option (Bool)
 | 0, _, _, _, _, _, _, _ => none
 | k + 1, x0, x1, x2, x7, x8, x9, x44 => if x44 = true then (some false) else (if (x9.length : Int) > 1 then (if 0 ≤ (wrap64 ((x9.length : Int) - 2)) then (if (wrap64 ((x9.length : Int) - 2)) < (x9.length : Int) then ((some (([] : List Int) : List Int)).bind fun y506 => (if y506.length + x8.length < 140737488355328 then ((some (y506 ++ x8 : List Int)).bind fun y509 => (if (wrap64 ((wrap64 ((x8.length : Int) - (rd x9 (wrap64 ((x9.length : Int) - 2))))) - 3)) = 0 then (none) else (if 0 ≤ (wrap64 ((wrap64 ((rd x9 (wrap64 ((x9.length : Int) - 2))) + 3)) + (Int.tmod (wrap64 (x1)) (wrap64 ((wrap64 ((x8.length : Int) - (rd x9 (wrap64 ((x9.length : Int) - 2))))) - 3))))) then (if (wrap64 ((wrap64 ((rd x9 (wrap64 ((x9.length : Int) - 2))) + 3)) + (Int.tmod (wrap64 (x1)) (wrap64 ((wrap64 ((x8.length : Int) - (rd x9 (wrap64 ((x9.length : Int) - 2))))) - 3))))) < (y509.length : Int) then ((codec_Frames.f k (y509.set ((wrap64 ((wrap64 ((rd x9 (wrap64 ((x9.length : Int) - 2))) + 3)) + (Int.tmod (wrap64 (x1)) (wrap64 ((wrap64 ((x8.length : Int) - (rd x9 (wrap64 ((x9.length : Int) - 2))))) - 3))))) : Int).toNat (Go.bits .xor .u8 (rd y509 (wrap64 ((wrap64 ((rd x9 (wrap64 ((x9.length : Int) - 2))) + 3)) + (Int.tmod (wrap64 (x1)) (wrap64 ((wrap64 ((x8.length : Int) - (rd x9 (wrap64 ((x9.length : Int) - 2))))) - 3)))))) x2))).bind fun bt514 => (if x7 = true then (if bt514.2.2 = 0 then (if bt514.2.1 = (rd x9 (wrap64 ((x9.length : Int) - 2))) then (if 0 ≤ (wrap64 ((x0.length : Int) - 1)) then (if (wrap64 ((x0.length : Int) - 1)) ≤ (x0.length : Int) then ((formeref05_SameLists.f k bt514.1 (x0.take ((wrap64 ((x0.length : Int) - 1)) : Int).toNat)).bind fun t523 => (some t523)) else (none)) else (none)) else (some false)) else (some false)) else (some false))) else (none)) else (none)))) else (none))) else (none)) else (none)) else ((some (([] : List Int) : List Int)).bind fun y524 => (if y524.length + x8.length < 140737488355328 then ((some (y524 ++ x8 : List Int)).bind fun y527 => (if (wrap64 ((wrap64 (x8.length : Int)) - 3)) = 0 then (none) else (if 0 ≤ (wrap64 (3 + (Int.tmod (wrap64 (x1)) (wrap64 ((wrap64 (x8.length : Int)) - 3))))) then (if (wrap64 (3 + (Int.tmod (wrap64 (x1)) (wrap64 ((wrap64 (x8.length : Int)) - 3))))) < (y527.length : Int) then ((codec_Frames.f k (y527.set ((wrap64 (3 + (Int.tmod (wrap64 (x1)) (wrap64 ((wrap64 (x8.length : Int)) - 3))))) : Int).toNat (Go.bits .xor .u8 (rd y527 (wrap64 (3 + (Int.tmod (wrap64 (x1)) (wrap64 ((wrap64 (x8.length : Int)) - 3)))))) x2))).bind fun bt532 => (if x7 = true then (if bt532.2.2 = 0 then (if bt532.2.1 = 0 then (if 0 ≤ (wrap64 ((x0.length : Int) - 1)) then (if (wrap64 ((x0.length : Int) - 1)) ≤ (x0.length : Int) then ((formeref05_SameLists.f k bt532.1 (x0.take ((wrap64 ((x0.length : Int) - 1)) : Int).toNat)).bind fun t541 => (some t541)) else (none)) else (none)) else (some false)) else (some false)) else (some false))) else (none)) else (none)))) else (none))))
end
def formelaw05_CodecChanged.f (k : Nat) (l0 : List (List Int)) (a1 : Int) (a2 : Int) : Option (Bool) := (formelaw05_head.f k).bind fun t496 => (if t496 = true then ((formelaw05_small.f k l0).bind fun t497 => (if t497 = true then (if (l0.length : Int) = 0 then (formelaw05_CodecChanged.j0 k l0 a1 a2 true true) else (formelaw05_CodecChanged.j0 k l0 a1 a2 true (a2 == 0))) else (formelaw05_CodecChanged.j0 k l0 a1 a2 true true))) else (none))
theorem formelaw05_CodecChanged.mono_l : ∀ k, (∀ y0 y1 y2 y3 y4, LeO (formelaw05_CodecChanged.j0 k y0 y1 y2 y3 y4) (formelaw05_CodecChanged.j0 (k + 1) y0 y1 y2 y3 y4)) ∧ (∀ y0 y1 y2 y3 y4 y5 y6, LeO (formelaw05_CodecChanged.j1 k y0 y1 y2 y3 y4 y5 y6) (formelaw05_CodecChanged.j1 (k + 1) y0 y1 y2 y3 y4 y5 y6))
 | 0 => ⟨fun _ _ _ _ _ r h => by simp [formelaw05_CodecChanged.j0] at h, fun _ _ _ _ _ _ _ r h => by simp [formelaw05_CodecChanged.j1] at h⟩
 | k + 1 => by
  obtain ⟨ih0, ih1⟩ := formelaw05_CodecChanged.mono_l k
  refine ⟨?_, ?_⟩
  ·
   intro y0 y1 y2 y3 y4
   unfold formelaw05_CodecChanged.j0
   repeat' first
   | (with_reducible exact ih0 _ _ _ _ _)
   | (with_reducible exact ih1 _ _ _ _ _ _ _)
   | (with_reducible exact codec_Frames.mono _ _)
   | (with_reducible exact formelaw05_frames.mono _ _)
   | (with_reducible exact formelaw05_head.mono _)
   | (with_reducible exact formelaw05_small.mono _ _)
   | (with_reducible exact formeref05_SameLists.mono _ _ _)
   | (with_reducible exact LeO.refl _)
   | (with_reducible exact LeO.none _)
   | (with_reducible refine LeO.ite ?_ ?_)
   | (with_reducible refine LeO.bind ?_ (fun _ => ?_))
   | exact ih0 _ _ _ _ _
   | exact ih1 _ _ _ _ _ _ _
   | exact codec_Frames.mono _ _
   | exact formelaw05_frames.mono _ _
   | exact formelaw05_head.mono _
   | exact formelaw05_small.mono _ _
   | exact formeref05_SameLists.mono _ _ _
   | exact LeO.none _
   | refine LeO.ite ?_ ?_
   | refine LeO.bind ?_ (fun _ => ?_)
  ·
   intro y0 y1 y2 y3 y4 y5 y6
   unfold formelaw05_CodecChanged.j1
   repeat' first
   | (with_reducible exact ih0 _ _ _ _ _)
   | (with_reducible exact ih1 _ _ _ _ _ _ _)
   | (with_reducible exact codec_Frames.mono _ _)
   | (with_reducible exact formelaw05_frames.mono _ _)
   | (with_reducible exact formelaw05_head.mono _)
   | (with_reducible exact formelaw05_small.mono _ _)
   | (with_reducible exact formeref05_SameLists.mono _ _ _)
   | (with_reducible exact LeO.refl _)
   | (with_reducible exact LeO.none _)
   | (with_reducible refine LeO.ite ?_ ?_)
   | (with_reducible refine LeO.bind ?_ (fun _ => ?_))
   | exact ih0 _ _ _ _ _
   | exact ih1 _ _ _ _ _ _ _
   | exact codec_Frames.mono _ _
   | exact formelaw05_frames.mono _ _
   | exact formelaw05_head.mono _
   | exact formelaw05_small.mono _ _
   | exact formeref05_SameLists.mono _ _ _
   | exact LeO.none _
   | refine LeO.ite ?_ ?_
   | refine LeO.bind ?_ (fun _ => ?_)
theorem formelaw05_CodecChanged.mono : ∀ a0 a1 a2 k, LeO (formelaw05_CodecChanged.f k a0 a1 a2) (formelaw05_CodecChanged.f (k + 1) a0 a1 a2) := by
 intro a0 a1 a2 k
 obtain ⟨ih0, ih1⟩ := formelaw05_CodecChanged.mono_l k
 unfold formelaw05_CodecChanged.f
 repeat' first
   | (with_reducible exact ih0 _ _ _ _ _)
   | (with_reducible exact ih1 _ _ _ _ _ _ _)
   | (with_reducible exact codec_Frames.mono _ _)
   | (with_reducible exact formelaw05_frames.mono _ _)
   | (with_reducible exact formelaw05_head.mono _)
   | (with_reducible exact formelaw05_small.mono _ _)
   | (with_reducible exact formeref05_SameLists.mono _ _ _)
   | (with_reducible exact LeO.refl _)
   | (with_reducible exact LeO.none _)
   | (with_reducible refine LeO.ite ?_ ?_)
   | (with_reducible refine LeO.bind ?_ (fun _ => ?_))
   | exact ih0 _ _ _ _ _
   | exact ih1 _ _ _ _ _ _ _
   | exact codec_Frames.mono _ _
   | exact formelaw05_frames.mono _ _
   | exact formelaw05_head.mono _
   | exact formelaw05_small.mono _ _
   | exact formeref05_SameLists.mono _ _ _
   | exact LeO.none _
   | refine LeO.ite ?_ ?_
   | refine LeO.bind ?_ (fun _ => ?_)
set_option maxHeartbeats 8000000 in
set_option maxRecDepth 100000 in
theorem formelaw05_CodecChanged.calls (k : Nat) (A0 : Option Addr) (c0 : Nat) (l0 : List (List Int)) (a1 : Int) (a2 : Int) (r : Bool) (w : World) (hr0 : Kd.C (Kd.slice 3 (Kd.int .i64)) w A0 l0.length l0) (hc0 : l0.length ≤ c0) (h : formelaw05_CodecChanged.f k l0 a1 a2 = some r) :
  Calls Try.prog 8 #[.slice A0 l0.length c0, .int .u16 a1, .int .u8 a2] w fun e w' => e = .returned (.bool r) ∧ Below w.heap.size w w' := by
 have HR0 := Aside0.mk hr0
 have HC0 := Aside0.mk hc0
 clear hr0 hc0
 have HB := Aside0.mk (Below.refl w.heap.size w)
 have H : ((formelaw05_head.f k).bind fun t496 => (if t496 = true then ((formelaw05_small.f k l0).bind fun t497 => (if t497 = true then (if (l0.length : Int) = 0 then (formelaw05_CodecChanged.j0 k l0 a1 a2 true true) else (formelaw05_CodecChanged.j0 k l0 a1 a2 true (a2 == 0))) else (formelaw05_CodecChanged.j0 k l0 a1 a2 true true))) else (none))) = some r := h
 clear h
 replace H := Option.bind_eq_some_iff.mp H
 obtain ⟨t496, A40, H⟩ := H
 replace H : (if t496 = true then ((formelaw05_small.f k l0).bind fun t497 => (if t497 = true then (if (l0.length : Int) = 0 then (formelaw05_CodecChanged.j0 k l0 a1 a2 true true) else (formelaw05_CodecChanged.j0 k l0 a1 a2 true (a2 == 0))) else (formelaw05_CodecChanged.j0 k l0 a1 a2 true true))) else (none)) = some r := H
 have A4 := Aside0.mk A40
 clear A40
 by_cases c5 : t496 = true
 ·
  subst c5
  have H1 : ((formelaw05_small.f k l0).bind fun t497 => (if t497 = true then (if (l0.length : Int) = 0 then (formelaw05_CodecChanged.j0 k l0 a1 a2 true true) else (formelaw05_CodecChanged.j0 k l0 a1 a2 true (a2 == 0))) else (formelaw05_CodecChanged.j0 k l0 a1 a2 true true))) = some r := by rw [if_pos rfl] at H; exact H
  clear H
  have H := H1
  clear H1
  have HC6 := Aside0.mk H
  clear H
  go_enter Try.func8, Try.ntmps8
  go_upto_region 2 with (first | ((with_reducible refine gate_callee (f := 10) rfl ?_); refine goesL_ (some 16) rfl rfl Try.func10 (by kernel_rfl) rfl #[] rfl (by (try simp only [List.map_toArray, List.map_cons, List.map_nil]); first | done | rfl | (simp only [List.length_drop, List.length_take]; rfl)) ?_; (with_reducible refine (formelaw05_head.calls k  true _ A4.out).mono ?_); rintro e w7 ⟨rfl, hb⟩; refine ⟨_, rfl, ?_⟩; have n0_ := Aside0.mk (below_step (by repeat (first | (with_reducible first | exact HB.out | apply below_alloc | apply pw_below_drewN | apply below_drew1) | exact HB.out)) hb); clear HB; have HB := n0_; clear n0_; (try clear hb); (try clear hb2); (try clear hk); (try clear hi)))
  (try simp only [Act.put, List.setIfInBounds_toArray, List.set_cons_zero, List.set_cons_succ])
  go_cut [28] (fun v28 wc => ∃ (kq : Nat) (x28_5 : Bool), v28 = .bool x28_5 ∧ Aside0 (formelaw05_CodecChanged.j0 kq l0 a1 a2 true x28_5 = some r) ∧ Aside0 (kq ≤ k) ∧ Aside0 (Below w.heap.size w wc))
  case first =>
   have H := HC6.out
   clear HC6
   replace H := Option.bind_eq_some_iff.mp H
   obtain ⟨t497, A80, H⟩ := H
   replace H : (if t497 = true then (if (l0.length : Int) = 0 then (formelaw05_CodecChanged.j0 k l0 a1 a2 true true) else (formelaw05_CodecChanged.j0 k l0 a1 a2 true (a2 == 0))) else (formelaw05_CodecChanged.j0 k l0 a1 a2 true true)) = some r := H
   have A8 := Aside0.mk A80
   clear A80
   by_cases c9 : t497 = true
   ·
    subst c9
    have H1 : (if (l0.length : Int) = 0 then (formelaw05_CodecChanged.j0 k l0 a1 a2 true true) else (formelaw05_CodecChanged.j0 k l0 a1 a2 true (a2 == 0))) = some r := by rw [if_pos rfl] at H; exact H
    clear H
    have H := H1
    clear H1
    by_cases c10 : (l0.length : Int) = 0
    ·
     rw [if_pos c10] at H
     have c10b0 : ((l0.length : Int) == 0) = true := beq_iff_eq.mpr c10
     have c10b1 : ((l0.length : Int) != 0) = false := bne_eq_false_iff_eq.mpr c10
     clear c10
     (first | rw [c10b0] | (simp only [i64_w, i32_w]; rw [c10b0]) | skip)
     have H' := Aside0.mk H
     clear H
     go_wp2_with (first | ((with_reducible refine gate_callee (f := 26) rfl ?_); refine goesL_ (some 18) rfl rfl Try.func26 (by kernel_rfl) rfl #[.slice A0 l0.length c0] rfl (by (try simp only [List.map_toArray, List.map_cons, List.map_nil]); first | done | rfl | (simp only [List.length_drop, List.length_take]; rfl)) ?_; (with_reducible refine (formelaw05_small.calls k _ _ l0 true _ ?side1 ?side2 A8.out).mono ?_); (case side1 => repeat (first | exact (Kd.C_below HR0.out HB.out) | (with_reducible refine Kd.C_alloc ?_ _) | (with_reducible refine Kd.C_drewN ?_ _) | (with_reducible refine Kd.C_drew ?_))); (case side2 => exact HC0.out); rintro e w' ⟨rfl, ⟨nd, rfl⟩⟩; refine ⟨_, rfl, ?_⟩))
     go_meet
     case rel => exact ⟨_, (true), (by first | rfl | (simp; done) | (simp [*]; done)), H', ⟨by first | omega | exact Nat.le_refl _⟩, ⟨by repeat (first | (with_reducible first | exact HB.out | apply below_alloc | apply pw_below_drewN | apply below_drew1) | exact HB.out)⟩⟩
    ·
     rw [if_neg c10] at H
     have c10b0 : ((l0.length : Int) == 0) = false := beq_eq_false_iff_ne.mpr c10
     have c10b1 : ((l0.length : Int) != 0) = true := bne_iff_ne.mpr c10
     have c10b2 : ¬ (l0 = []) := fun h_ => c10 (by rw [h_]; rfl)
     (first | rw [c10b0] | (simp only [i64_w, i32_w]; rw [c10b0]) | skip)
     have H' := Aside0.mk H
     clear H
     go_wp2_with (first | ((with_reducible refine gate_callee (f := 26) rfl ?_); refine goesL_ (some 18) rfl rfl Try.func26 (by kernel_rfl) rfl #[.slice A0 l0.length c0] rfl (by (try simp only [List.map_toArray, List.map_cons, List.map_nil]); first | done | rfl | (simp only [List.length_drop, List.length_take]; rfl)) ?_; (with_reducible refine (formelaw05_small.calls k _ _ l0 true _ ?side1 ?side2 A8.out).mono ?_); (case side1 => repeat (first | exact (Kd.C_below HR0.out HB.out) | (with_reducible refine Kd.C_alloc ?_ _) | (with_reducible refine Kd.C_drewN ?_ _) | (with_reducible refine Kd.C_drew ?_))); (case side2 => exact HC0.out); rintro e w' ⟨rfl, ⟨nd, rfl⟩⟩; refine ⟨_, rfl, ?_⟩))
     go_meet
     case rel => exact ⟨_, ((a2 == 0)), (by first | rfl | (simp; done) | (simp [*]; done)), H', ⟨by first | omega | exact Nat.le_refl _⟩, ⟨by repeat (first | (with_reducible first | exact HB.out | apply below_alloc | apply pw_below_drewN | apply below_drew1) | exact HB.out)⟩⟩
   ·
    replace c9 := Bool.eq_false_iff.mpr c9
    subst c9
    have H1 : (formelaw05_CodecChanged.j0 k l0 a1 a2 true true) = some r := by rw [if_neg (show ¬ (false = true) by decide)] at H; exact H
    clear H
    have H := H1
    clear H1
    have H' := Aside0.mk H
    clear H
    go_wp2_with (first | ((with_reducible refine gate_callee (f := 26) rfl ?_); refine goesL_ (some 18) rfl rfl Try.func26 (by kernel_rfl) rfl #[.slice A0 l0.length c0] rfl (by (try simp only [List.map_toArray, List.map_cons, List.map_nil]); first | done | rfl | (simp only [List.length_drop, List.length_take]; rfl)) ?_; (with_reducible refine (formelaw05_small.calls k _ _ l0 false _ ?side1 ?side2 A8.out).mono ?_); (case side1 => repeat (first | exact (Kd.C_below HR0.out HB.out) | (with_reducible refine Kd.C_alloc ?_ _) | (with_reducible refine Kd.C_drewN ?_ _) | (with_reducible refine Kd.C_drew ?_))); (case side2 => exact HC0.out); rintro e w' ⟨rfl, ⟨nd, rfl⟩⟩; refine ⟨_, rfl, ?_⟩))
    go_meet
    case rel => exact ⟨_, (true), (by first | rfl | (simp; done) | (simp [*]; done)), H', ⟨by first | omega | exact Nat.le_refl _⟩, ⟨by repeat (first | (with_reducible first | exact HB.out | apply below_alloc | apply pw_below_drewN | apply below_drew1) | exact HB.out)⟩⟩
  case rest =>
   clear HC6
   try clear c1
   try clear c2
   try clear p2
   try clear c5
   try clear c8
   try clear c9
   try clear c10
   try clear c10b0
   try clear c10b1
   try clear c10b2
   obtain ⟨kq, x28_5, rfl, HA, HJ5, HB⟩ := hcut
   cases kq with
   | zero => exact absurd HA.out (by simp [formelaw05_CodecChanged.j0])
   | succ kj5 =>
    have H := HA.out
    clear HA
    simp only [formelaw05_CodecChanged.j0] at H
    by_cases c11 : x28_5 = true
    ·
     subst c11
     have H1 : (some true) = some r := by rw [if_pos rfl] at H; exact H
     clear H
     have H := H1
     clear H1
     obtain rfl := Option.some.inj H
     go_wp2
     go_ret
     exact ⟨by first | rfl | (simp [errW_none, errW_some] <;> rfl) | (simp [*, errW_none, errW_some] <;> rfl), by repeat (first | (with_reducible first | exact HB.out | apply below_alloc | apply pw_below_drewN | apply below_drew1) | exact HB.out)⟩
    ·
     replace c11 := Bool.eq_false_iff.mpr c11
     subst c11
     have H1 : ((formelaw05_frames.f kj5 l0).bind fun bt498 => (if bt498.2.2 = true then (formelaw05_CodecChanged.j1 kj5 l0 a1 a2 true bt498.1 bt498.2.1 ((bt498.2.1.length : Int) != (l0.length : Int))) else (formelaw05_CodecChanged.j1 kj5 l0 a1 a2 true bt498.1 bt498.2.1 true))) = some r := by rw [if_neg (show ¬ (false = true) by decide)] at H; exact H
     clear H
     have H := H1
     clear H1
     replace H := Option.bind_eq_some_iff.mp H
     obtain ⟨⟨t498, t499, t500⟩, A120, H⟩ := H
     replace H : (if t500 = true then (formelaw05_CodecChanged.j1 kj5 l0 a1 a2 true t498 t499 ((t499.length : Int) != (l0.length : Int))) else (formelaw05_CodecChanged.j1 kj5 l0 a1 a2 true t498 t499 true)) = some r := H
     have A12 := Aside0.mk A120
     clear A120
     have HC13 := Aside0.mk H
     clear H
     go_upto_region 5 with (first | ((with_reducible refine gate_callee (f := 27) rfl ?_); refine goesL_ (some 32) rfl rfl Try.func27 (by kernel_rfl) rfl #[.slice A0 l0.length c0] rfl (by (try simp only [List.map_toArray, List.map_cons, List.map_nil]); first | done | rfl | (simp only [List.length_drop, List.length_take]; rfl)) ?_; (with_reducible refine (formelaw05_frames.calls kj5 _ _ l0 t498 t499 t500 _ ?side1 ?side2 A12.out).mono ?_); (case side1 => repeat (first | exact (Kd.C_below HR0.out HB.out) | (with_reducible refine Kd.C_alloc ?_ _) | (with_reducible refine Kd.C_drewN ?_ _) | (with_reducible refine Kd.C_drew ?_))); (case side2 => exact HC0.out); rintro e w14 ⟨v501, v503, rfl, ho0, ho1, hb⟩; refine ⟨_, rfl, ?_⟩; have n0_ := Aside0.mk (Kd.R_lower ho0 (below_size (by repeat (first | (with_reducible first | exact HB.out | apply below_alloc | apply pw_below_drewN | apply below_drew1) | exact HB.out)))); have n1_ := Aside0.mk (Kd.R_lower ho1 (below_size (by repeat (first | (with_reducible first | exact HB.out | apply below_alloc | apply pw_below_drewN | apply below_drew1) | exact HB.out)))); have n2_ := Aside0.mk (below_step (by repeat (first | (with_reducible first | exact HB.out | apply below_alloc | apply pw_below_drewN | apply below_drew1) | exact HB.out)) hb); clear HB; have HO502 := n0_; have HO504 := n1_; have HB := n2_; clear n0_ n1_ n2_; (try clear hb); (try clear hb2); (try clear hk); (try clear hi); (try clear ho0); (try clear ho1)))
     (try simp only [Act.put, List.setIfInBounds_toArray, List.set_cons_zero, List.set_cons_succ])
     go_cut [44] (fun v44 wc => ∃ (kq : Nat) (x44_12 : Bool), v44 = .bool x44_12 ∧ Aside0 (formelaw05_CodecChanged.j1 kq l0 a1 a2 true t498 t499 x44_12 = some r) ∧ Aside0 (kq ≤ kj5) ∧ Aside0 (Kd.R (Kd.int .u8) 5 wc w.heap.size (fun _ => True) v501 t498) ∧ Aside0 (Kd.R (Kd.int .i64) 3 wc w.heap.size (fun _ => True) v503 t499) ∧ Aside0 (Below w.heap.size w wc))
     case first =>
      have H := HC13.out
      clear HC13
      by_cases c15 : t500 = true
      ·
       subst c15
       have H1 : (formelaw05_CodecChanged.j1 kj5 l0 a1 a2 true t498 t499 ((t499.length : Int) != (l0.length : Int))) = some r := by rw [if_pos rfl] at H; exact H
       clear H
       have H := H1
       clear H1
       have H' := Aside0.mk H
       clear H
       obtain ⟨Ao16, co16, eo16⟩ := Kd.R_slice HO504.out
       subst eo16
       go_wp2
       go_meet
       case rel => exact ⟨_, (((t499.length : Int) != (l0.length : Int))), (by first | rfl | (simp; done) | (simp [*]; done)), H', ⟨by have := HJ5.out; first | omega | exact Nat.le_refl _⟩, ⟨by (with_reducible repeat (first | apply Kd.R_alloc | apply Kd.R_drewN | apply Kd.R_drew)); exact HO502.out⟩, ⟨by (with_reducible repeat (first | apply Kd.R_alloc | apply Kd.R_drewN | apply Kd.R_drew)); exact HO504.out⟩, ⟨by repeat (first | (with_reducible first | exact HB.out | apply below_alloc | apply pw_below_drewN | apply below_drew1) | exact HB.out)⟩⟩
      ·
       replace c15 := Bool.eq_false_iff.mpr c15
       subst c15
       have H1 : (formelaw05_CodecChanged.j1 kj5 l0 a1 a2 true t498 t499 true) = some r := by rw [if_neg (show ¬ (false = true) by decide)] at H; exact H
       clear H
       have H := H1
       clear H1
       have H' := Aside0.mk H
       clear H
       go_wp2
       go_meet
       case rel => exact ⟨_, (true), (by first | rfl | (simp; done) | (simp [*]; done)), H', ⟨by have := HJ5.out; first | omega | exact Nat.le_refl _⟩, ⟨by (with_reducible repeat (first | apply Kd.R_alloc | apply Kd.R_drewN | apply Kd.R_drew)); exact HO502.out⟩, ⟨by (with_reducible repeat (first | apply Kd.R_alloc | apply Kd.R_drewN | apply Kd.R_drew)); exact HO504.out⟩, ⟨by repeat (first | (with_reducible first | exact HB.out | apply below_alloc | apply pw_below_drewN | apply below_drew1) | exact HB.out)⟩⟩
     case rest =>
      clear HC13
      try clear c1
      try clear c2
      try clear p2
      try clear c5
      try clear c8
      try clear c9
      try clear c10
      try clear c10b0
      try clear c10b1
      try clear c10b2
      try clear c11
      try clear c15
      try clear p2
      obtain ⟨kq, x44_12, rfl, HA, HJ12, HO_8, HO_9, HB⟩ := hcut
      cases kq with
      | zero => exact absurd HA.out (by simp [formelaw05_CodecChanged.j1])
      | succ kj12 =>
       have H := HA.out
       clear HA
       simp only [formelaw05_CodecChanged.j1] at H
       by_cases c17 : x44_12 = true
       ·
        subst c17
        have H1 : (some false) = some r := by rw [if_pos rfl] at H; exact H
        clear H
        have H := H1
        clear H1
        obtain rfl := Option.some.inj H
        go_wp2
        go_ret
        exact ⟨by first | rfl | (simp [errW_none, errW_some] <;> rfl) | (simp [*, errW_none, errW_some] <;> rfl), by repeat (first | (with_reducible first | exact HB.out | apply below_alloc | apply pw_below_drewN | apply below_drew1) | exact HB.out)⟩
       ·
        replace c17 := Bool.eq_false_iff.mpr c17
        subst c17
        have H1 : (if (t499.length : Int) > 1 then (if 0 ≤ (wrap64 ((t499.length : Int) - 2)) then (if (wrap64 ((t499.length : Int) - 2)) < (t499.length : Int) then ((some (([] : List Int) : List Int)).bind fun y506 => (if y506.length + t498.length < 140737488355328 then ((some (y506 ++ t498 : List Int)).bind fun y509 => (if (wrap64 ((wrap64 ((t498.length : Int) - (rd t499 (wrap64 ((t499.length : Int) - 2))))) - 3)) = 0 then (none) else (if 0 ≤ (wrap64 ((wrap64 ((rd t499 (wrap64 ((t499.length : Int) - 2))) + 3)) + (Int.tmod (wrap64 (a1)) (wrap64 ((wrap64 ((t498.length : Int) - (rd t499 (wrap64 ((t499.length : Int) - 2))))) - 3))))) then (if (wrap64 ((wrap64 ((rd t499 (wrap64 ((t499.length : Int) - 2))) + 3)) + (Int.tmod (wrap64 (a1)) (wrap64 ((wrap64 ((t498.length : Int) - (rd t499 (wrap64 ((t499.length : Int) - 2))))) - 3))))) < (y509.length : Int) then ((codec_Frames.f kj12 (y509.set ((wrap64 ((wrap64 ((rd t499 (wrap64 ((t499.length : Int) - 2))) + 3)) + (Int.tmod (wrap64 (a1)) (wrap64 ((wrap64 ((t498.length : Int) - (rd t499 (wrap64 ((t499.length : Int) - 2))))) - 3))))) : Int).toNat (Go.bits .xor .u8 (rd y509 (wrap64 ((wrap64 ((rd t499 (wrap64 ((t499.length : Int) - 2))) + 3)) + (Int.tmod (wrap64 (a1)) (wrap64 ((wrap64 ((t498.length : Int) - (rd t499 (wrap64 ((t499.length : Int) - 2))))) - 3)))))) a2))).bind fun bt514 => (if true = true then (if bt514.2.2 = 0 then (if bt514.2.1 = (rd t499 (wrap64 ((t499.length : Int) - 2))) then (if 0 ≤ (wrap64 ((l0.length : Int) - 1)) then (if (wrap64 ((l0.length : Int) - 1)) ≤ (l0.length : Int) then ((formeref05_SameLists.f kj12 bt514.1 (l0.take ((wrap64 ((l0.length : Int) - 1)) : Int).toNat)).bind fun t523 => (some t523)) else (none)) else (none)) else (some false)) else (some false)) else (some false))) else (none)) else (none)))) else (none))) else (none)) else (none)) else ((some (([] : List Int) : List Int)).bind fun y524 => (if y524.length + t498.length < 140737488355328 then ((some (y524 ++ t498 : List Int)).bind fun y527 => (if (wrap64 ((wrap64 (t498.length : Int)) - 3)) = 0 then (none) else (if 0 ≤ (wrap64 (3 + (Int.tmod (wrap64 (a1)) (wrap64 ((wrap64 (t498.length : Int)) - 3))))) then (if (wrap64 (3 + (Int.tmod (wrap64 (a1)) (wrap64 ((wrap64 (t498.length : Int)) - 3))))) < (y527.length : Int) then ((codec_Frames.f kj12 (y527.set ((wrap64 (3 + (Int.tmod (wrap64 (a1)) (wrap64 ((wrap64 (t498.length : Int)) - 3))))) : Int).toNat (Go.bits .xor .u8 (rd y527 (wrap64 (3 + (Int.tmod (wrap64 (a1)) (wrap64 ((wrap64 (t498.length : Int)) - 3)))))) a2))).bind fun bt532 => (if true = true then (if bt532.2.2 = 0 then (if bt532.2.1 = 0 then (if 0 ≤ (wrap64 ((l0.length : Int) - 1)) then (if (wrap64 ((l0.length : Int) - 1)) ≤ (l0.length : Int) then ((formeref05_SameLists.f kj12 bt532.1 (l0.take ((wrap64 ((l0.length : Int) - 1)) : Int).toNat)).bind fun t541 => (some t541)) else (none)) else (none)) else (some false)) else (some false)) else (some false))) else (none)) else (none)))) else (none)))) = some r := by rw [if_neg (show ¬ (false = true) by decide)] at H; exact H
        clear H
        have H := H1
        clear H1
        by_cases c18 : (t499.length : Int) > 1
        ·
         rw [if_pos c18] at H
         have c18b0 : decide (1 < (t499.length : Int)) = true := decide_eq_true c18
         have c18b1 : decide (1 < t499.length) = true := decide_eq_true (by omega)
         clear c18
         obtain ⟨ji19, hji19⟩ : ∃ j_ : Int, (wrap64 ((t499.length : Int) - 2)) = j_ := ⟨_, rfl⟩
         replace H : (if 0 ≤ (ji19) then (if (ji19) < (t499.length : Int) then ((some (([] : List Int) : List Int)).bind fun y506 => (if y506.length + t498.length < 140737488355328 then ((some (y506 ++ t498 : List Int)).bind fun y509 => (if (wrap64 ((wrap64 ((t498.length : Int) - (rd t499 (ji19)))) - 3)) = 0 then (none) else (if 0 ≤ (wrap64 ((wrap64 ((rd t499 (ji19)) + 3)) + (Int.tmod (wrap64 (a1)) (wrap64 ((wrap64 ((t498.length : Int) - (rd t499 (ji19)))) - 3))))) then (if (wrap64 ((wrap64 ((rd t499 (ji19)) + 3)) + (Int.tmod (wrap64 (a1)) (wrap64 ((wrap64 ((t498.length : Int) - (rd t499 (ji19)))) - 3))))) < (y509.length : Int) then ((codec_Frames.f kj12 (y509.set ((wrap64 ((wrap64 ((rd t499 (ji19)) + 3)) + (Int.tmod (wrap64 (a1)) (wrap64 ((wrap64 ((t498.length : Int) - (rd t499 (ji19)))) - 3))))) : Int).toNat (Go.bits .xor .u8 (rd y509 (wrap64 ((wrap64 ((rd t499 (ji19)) + 3)) + (Int.tmod (wrap64 (a1)) (wrap64 ((wrap64 ((t498.length : Int) - (rd t499 (ji19)))) - 3)))))) a2))).bind fun bt514 => (if true = true then (if bt514.2.2 = 0 then (if bt514.2.1 = (rd t499 (ji19)) then (if 0 ≤ (wrap64 ((l0.length : Int) - 1)) then (if (wrap64 ((l0.length : Int) - 1)) ≤ (l0.length : Int) then ((formeref05_SameLists.f kj12 bt514.1 (l0.take ((wrap64 ((l0.length : Int) - 1)) : Int).toNat)).bind fun t523 => (some t523)) else (none)) else (none)) else (some false)) else (some false)) else (some false))) else (none)) else (none)))) else (none))) else (none)) else (none)) = some r := by first | (rw [hji19] at H; exact H) | (simp only [hji19] at H ⊢; exact H)
         have hji19w : (IntKind.i64.wrap ((t499.length : Int) - 2)) = ji19 := (i64_w _).trans hji19
         by_cases c20 : 0 ≤ (ji19)
         ·
          rw [if_pos c20] at H
          have c20b0 : decide (0 ≤ (ji19)) = true := decide_eq_true c20
          clear c20
          by_cases c21 : (ji19) < (t499.length : Int)
          ·
           rw [if_pos c21] at H
           have c21b0 : decide ((ji19) < (t499.length : Int)) = true := decide_eq_true c21
           clear c21
           obtain ⟨y506, hy506⟩ : ∃ y_ : List Int, y_ = (([] : List Int)) := ⟨_, rfl⟩
           replace H : (if y506.length + t498.length < 140737488355328 then ((some (y506 ++ t498 : List Int)).bind fun y509 => (if (wrap64 ((wrap64 ((t498.length : Int) - (rd t499 (ji19)))) - 3)) = 0 then (none) else (if 0 ≤ (wrap64 ((wrap64 ((rd t499 (ji19)) + 3)) + (Int.tmod (wrap64 (a1)) (wrap64 ((wrap64 ((t498.length : Int) - (rd t499 (ji19)))) - 3))))) then (if (wrap64 ((wrap64 ((rd t499 (ji19)) + 3)) + (Int.tmod (wrap64 (a1)) (wrap64 ((wrap64 ((t498.length : Int) - (rd t499 (ji19)))) - 3))))) < (y509.length : Int) then ((codec_Frames.f kj12 (y509.set ((wrap64 ((wrap64 ((rd t499 (ji19)) + 3)) + (Int.tmod (wrap64 (a1)) (wrap64 ((wrap64 ((t498.length : Int) - (rd t499 (ji19)))) - 3))))) : Int).toNat (Go.bits .xor .u8 (rd y509 (wrap64 ((wrap64 ((rd t499 (ji19)) + 3)) + (Int.tmod (wrap64 (a1)) (wrap64 ((wrap64 ((t498.length : Int) - (rd t499 (ji19)))) - 3)))))) a2))).bind fun bt514 => (if true = true then (if bt514.2.2 = 0 then (if bt514.2.1 = (rd t499 (ji19)) then (if 0 ≤ (wrap64 ((l0.length : Int) - 1)) then (if (wrap64 ((l0.length : Int) - 1)) ≤ (l0.length : Int) then ((formeref05_SameLists.f kj12 bt514.1 (l0.take ((wrap64 ((l0.length : Int) - 1)) : Int).toNat)).bind fun t523 => (some t523)) else (none)) else (none)) else (some false)) else (some false)) else (some false))) else (none)) else (none)))) else (none)) = some r := by first | (rw [hy506]; with_reducible exact H) | (have H2_ := (Option.bind_some _ _).symm.trans H; rw [hy506]; with_reducible exact H2_) | (have H2_ := (Option.bind_some _ _).symm.trans H; with_reducible exact H2_) | with_reducible exact H | (rw [hy506]; exact H) | exact H
           have Ny506 := Aside0.mk hy506
           clear hy506
           by_cases c22 : y506.length + t498.length < 140737488355328
           ·
            rw [if_pos c22] at H
            have LMc22 := Aside0.mk c22
            clear c22
            obtain ⟨y509, hy509⟩ : ∃ y_ : List Int, y_ = (y506 ++ t498) := ⟨_, rfl⟩
            replace H : (if (wrap64 ((wrap64 ((t498.length : Int) - (rd t499 (ji19)))) - 3)) = 0 then (none) else (if 0 ≤ (wrap64 ((wrap64 ((rd t499 (ji19)) + 3)) + (Int.tmod (wrap64 (a1)) (wrap64 ((wrap64 ((t498.length : Int) - (rd t499 (ji19)))) - 3))))) then (if (wrap64 ((wrap64 ((rd t499 (ji19)) + 3)) + (Int.tmod (wrap64 (a1)) (wrap64 ((wrap64 ((t498.length : Int) - (rd t499 (ji19)))) - 3))))) < (y509.length : Int) then ((codec_Frames.f kj12 (y509.set ((wrap64 ((wrap64 ((rd t499 (ji19)) + 3)) + (Int.tmod (wrap64 (a1)) (wrap64 ((wrap64 ((t498.length : Int) - (rd t499 (ji19)))) - 3))))) : Int).toNat (Go.bits .xor .u8 (rd y509 (wrap64 ((wrap64 ((rd t499 (ji19)) + 3)) + (Int.tmod (wrap64 (a1)) (wrap64 ((wrap64 ((t498.length : Int) - (rd t499 (ji19)))) - 3)))))) a2))).bind fun bt514 => (if true = true then (if bt514.2.2 = 0 then (if bt514.2.1 = (rd t499 (ji19)) then (if 0 ≤ (wrap64 ((l0.length : Int) - 1)) then (if (wrap64 ((l0.length : Int) - 1)) ≤ (l0.length : Int) then ((formeref05_SameLists.f kj12 bt514.1 (l0.take ((wrap64 ((l0.length : Int) - 1)) : Int).toNat)).bind fun t523 => (some t523)) else (none)) else (none)) else (some false)) else (some false)) else (some false))) else (none)) else (none))) = some r := by first | (rw [hy509]; with_reducible exact H) | (have H2_ := (Option.bind_some _ _).symm.trans H; rw [hy509]; with_reducible exact H2_) | (have H2_ := (Option.bind_some _ _).symm.trans H; with_reducible exact H2_) | with_reducible exact H | (rw [hy509]; exact H) | exact H
            have Ny509 := Aside0.mk hy509
            clear hy509
            by_cases c23 : (wrap64 ((wrap64 ((t498.length : Int) - (rd t499 (ji19)))) - 3)) = 0
            ·
             rw [if_pos c23] at H
             exact absurd H (by simp)
            ·
             rw [if_neg c23] at H
             have c23b0 : ((wrap64 ((wrap64 ((t498.length : Int) - (rd t499 (ji19)))) - 3)) == 0) = false := beq_eq_false_iff_ne.mpr c23
             have c23b1 : ((wrap64 ((wrap64 ((t498.length : Int) - (rd t499 (ji19)))) - 3)) != 0) = true := bne_iff_ne.mpr c23
             obtain ⟨ji24, hji24⟩ : ∃ j_ : Int, (wrap64 ((wrap64 ((rd t499 (ji19)) + 3)) + (Int.tmod (wrap64 (a1)) (wrap64 ((wrap64 ((t498.length : Int) - (rd t499 (ji19)))) - 3))))) = j_ := ⟨_, rfl⟩
             replace H : (if 0 ≤ (ji24) then (if (ji24) < (y509.length : Int) then ((codec_Frames.f kj12 (y509.set ((ji24) : Int).toNat (Go.bits .xor .u8 (rd y509 (ji24)) a2))).bind fun bt514 => (if true = true then (if bt514.2.2 = 0 then (if bt514.2.1 = (rd t499 (ji19)) then (if 0 ≤ (wrap64 ((l0.length : Int) - 1)) then (if (wrap64 ((l0.length : Int) - 1)) ≤ (l0.length : Int) then ((formeref05_SameLists.f kj12 bt514.1 (l0.take ((wrap64 ((l0.length : Int) - 1)) : Int).toNat)).bind fun t523 => (some t523)) else (none)) else (none)) else (some false)) else (some false)) else (some false))) else (none)) else (none)) = some r := by first | (rw [hji24] at H; exact H) | (simp only [hji24] at H ⊢; exact H)
             have hji24w : (IntKind.i64.wrap ((wrap64 ((rd t499 (ji19)) + 3)) + (Int.tmod (wrap64 (a1)) (wrap64 ((wrap64 ((t498.length : Int) - (rd t499 (ji19)))) - 3))))) = ji24 := (i64_w _).trans hji24
             by_cases c25 : 0 ≤ (ji24)
             ·
              rw [if_pos c25] at H
              have c25b0 : decide (0 ≤ (ji24)) = true := decide_eq_true c25
              clear c25
              by_cases c26 : (ji24) < (y509.length : Int)
              ·
               rw [if_pos c26] at H
               have c26b0 : decide ((ji24) < (y509.length : Int)) = true := decide_eq_true c26
               clear c26
               obtain ⟨y513, hy513⟩ : ∃ y_ : List Int, y_ = (y509.set ((ji24) : Int).toNat (Go.bits .xor .u8 (rd y509 (ji24)) a2)) := ⟨_, rfl⟩
               replace H : ((codec_Frames.f kj12 y513).bind fun bt514 => (if true = true then (if bt514.2.2 = 0 then (if bt514.2.1 = (rd t499 (ji19)) then (if 0 ≤ (wrap64 ((l0.length : Int) - 1)) then (if (wrap64 ((l0.length : Int) - 1)) ≤ (l0.length : Int) then ((formeref05_SameLists.f kj12 bt514.1 (l0.take ((wrap64 ((l0.length : Int) - 1)) : Int).toNat)).bind fun t523 => (some t523)) else (none)) else (none)) else (some false)) else (some false)) else (some false))) = some r := by first | (rw [hy513]; with_reducible exact H) | (have H2_ := (Option.bind_some _ _).symm.trans H; rw [hy513]; with_reducible exact H2_) | (have H2_ := (Option.bind_some _ _).symm.trans H; with_reducible exact H2_) | with_reducible exact H | (rw [hy513]; exact H) | exact H
               have Ny513 := Aside0.mk hy513
               clear hy513
               replace H := Option.bind_eq_some_iff.mp H
               obtain ⟨⟨t514, t515, t516⟩, A280, H⟩ := H
               replace H : (if true = true then (if t516 = 0 then (if t515 = (rd t499 (ji19)) then (if 0 ≤ (wrap64 ((l0.length : Int) - 1)) then (if (wrap64 ((l0.length : Int) - 1)) ≤ (l0.length : Int) then ((formeref05_SameLists.f kj12 t514 (l0.take ((wrap64 ((l0.length : Int) - 1)) : Int).toNat)).bind fun t523 => (some t523)) else (none)) else (none)) else (some false)) else (some false)) else (some false)) = some r := H
               have A28 := Aside0.mk A280
               clear A280
               (first | rw [if_pos (rfl : true = true)] at H | rw [if_pos True.intro] at H)
               by_cases c29 : t516 = 0
               ·
                rw [if_pos c29] at H
                have c29b0 : (t516 == 0) = true := beq_iff_eq.mpr c29
                have c29b1 : (t516 != 0) = false := bne_eq_false_iff_eq.mpr c29
                clear c29
                by_cases c30 : t515 = (rd t499 (ji19))
                ·
                 rw [if_pos c30] at H
                 have c30b0 : (t515 == (rd t499 (ji19))) = true := beq_iff_eq.mpr c30
                 have c30b1 : (t515 != (rd t499 (ji19))) = false := bne_eq_false_iff_eq.mpr c30
                 clear c30
                 obtain ⟨ji31, hji31⟩ : ∃ j_ : Int, (wrap64 ((l0.length : Int) - 1)) = j_ := ⟨_, rfl⟩
                 replace H : (if 0 ≤ (ji31) then (if (ji31) ≤ (l0.length : Int) then ((formeref05_SameLists.f kj12 t514 (l0.take ((ji31) : Int).toNat)).bind fun t523 => (some t523)) else (none)) else (none)) = some r := by first | (rw [hji31] at H; exact H) | (simp only [hji31] at H ⊢; exact H)
                 (try rw [hji31] at A28)
                 have hji31w : (IntKind.i64.wrap ((l0.length : Int) - 1)) = ji31 := (i64_w _).trans hji31
                 by_cases c32 : 0 ≤ (ji31)
                 ·
                  rw [if_pos c32] at H
                  have c32b0 := eq_true c32
                  have c32b1 : decide (0 ≤ (ji31)) = true := decide_eq_true c32
                  clear c32
                  by_cases c33 : (ji31) ≤ (l0.length : Int)
                  ·
                   rw [if_pos c33] at H
                   have c33b0 := eq_true c33
                   have c33b1 : decide ((ji31) ≤ (l0.length : Int)) = true := decide_eq_true c33
                   clear c33
                   obtain ⟨y519, hy519⟩ : ∃ y_ : List (List Int), y_ = (l0.take ((ji31) : Int).toNat) := ⟨_, rfl⟩
                   replace H : ((formeref05_SameLists.f kj12 t514 y519).bind fun t523 => (some t523)) = some r := by first | (rw [hy519]; with_reducible exact H) | (have H2_ := (Option.bind_some _ _).symm.trans H; rw [hy519]; with_reducible exact H2_) | (have H2_ := (Option.bind_some _ _).symm.trans H; with_reducible exact H2_) | with_reducible exact H | (rw [hy519]; exact H) | exact H
                   have Ny519 := Aside0.mk hy519
                   clear hy519
                   replace H := Option.bind_eq_some_iff.mp H
                   obtain ⟨t523, A340, H⟩ := H
                   replace H : (some t523) = some r := H
                   have A34 := Aside0.mk A340
                   clear A340
                   obtain rfl := Option.some.inj H
                   obtain ⟨Ao35, co35, eo35⟩ := Kd.R_slice HO_9.out
                   subst eo35
                   have p505 : 0 ≤ ((ji19) : Int) := of_decide_eq_true (by first | (with_reducible assumption) | assumption)
                   have q505 : (ji19) < (t499.length : Int) := of_decide_eq_true (by first | (with_reducible assumption) | assumption)
                   obtain ⟨ad505, e505, hx505_0⟩ := Kd.at_int (Kd.R_reads' HO_9.out).2.2 (ji19) p505 q505
                   cases e505
                   replace p505 := eq_true p505
                   replace q505 := eq_true q505
                   go_wp2_with (first | ((with_reducible refine gate_dst (N := 54) rfl ?_); (try (refine gate_guard (by rfl) ?_; dsimp only)); refine Kd.R_lit (Kd.int .u8) _ 5 ?hg (N := 54) ?hd (xs := ([] : List Int)) (inner := []) (ok := fun _ => True) (okp := fun _ => True) ?hr ?hp (fun _ hk => hk) trivial (Below.refl _ _) (Nat.le_refl _) (by simp) ?_; (case hd => rfl); (case hg => rfl); (case hr => first | (go_simp; done) | (go_simp; rfl)); (case hp => exact (Reps.none _ _)); intro v507 w36 ho37 hb hg_ hnew_; clear hg_ hnew_; (first | rw [← Ny506.out] at ho37 | (simp only [Int.reduceToNat] at ho37; rw [← Ny506.out] at ho37)); have n0_ := Aside0.mk (Kd.R_elder' (by (with_reducible repeat (first | apply Kd.R_alloc | apply Kd.R_drewN | apply Kd.R_drew)); exact HO_8.out) (Kd.R_base ho37) hb); have n1_ := Aside0.mk (Kd.R_below (by (with_reducible repeat (first | apply Kd.R_alloc | apply Kd.R_drewN | apply Kd.R_drew)); exact HO_9.out) hb); have n2_ := Aside0.mk (Kd.R_lower (Kd.R_new' ho37 (Kd.R_lt (by (with_reducible repeat (first | apply Kd.R_alloc | apply Kd.R_drewN | apply Kd.R_drew)); exact HO_8.out))) (below_size (by repeat (first | (with_reducible first | exact HB.out | apply below_alloc | apply pw_below_drewN | apply below_drew1) | exact HB.out)))); have n3_ := Aside0.mk (below_step (by repeat (first | (with_reducible first | exact HB.out | apply below_alloc | apply pw_below_drewN | apply below_drew1) | exact HB.out)) hb); clear HO_8; clear HO_9; clear HB; have HO_8 := n0_; have HO_9 := n1_; have HO508 := n2_; have HB := n3_; clear n0_ n1_ n2_ n3_; clear hb ho37; obtain ⟨Ao39, co39, eo39⟩ := Kd.R_slice HO_8.out; subst eo39) | ((with_reducible refine gate_builtin (b := .append) (xs := #[.tmp 54, .tmp 55]) rfl ?_); (try (refine gate_guard (by rfl) ?_; dsimp only)); at_builtin; refine Kd.R_append_rows (Kd.int .u8) (w0 := w) w.heap.size rfl (.tmp 54) (.tmp 55) 23 5 (.int .u8 0) 1 rfl Try.underlying23 info5 rfl (by decide) (by omega) v507 y506 t498 _ _ _ (fun k_ => some k_ ≠ (.slice Ao39 t498.length co39 : Value).ownBlock) (fun _ => False) rfl rfl ?aO ?aR (fun _ _ h => h) (fun _ h => h.elim) ?aF ?aB ?aS ?aL ?_; (case aR => repeat (first | exact (Kd.R_reads' HO_8.out).2.2 | (with_reducible refine Kd.C_alloc ?_ _) | (with_reducible refine Kd.C_drewN ?_ _) | (with_reducible refine Kd.C_drew ?_))); (case aB => exact (by repeat (first | (with_reducible first | exact HB.out | apply below_alloc | apply pw_below_drewN | apply below_drew1) | exact HB.out))); (case aF => exact (fun k_ hk => Kd.fresh' (Kd.R_lt (by (with_reducible repeat (first | apply Kd.R_alloc | apply Kd.R_drewN | apply Kd.R_drew)); exact HO_8.out)) k_ hk)); (case aO => exact (by (with_reducible repeat (first | apply Kd.R_alloc | apply Kd.R_drewN | apply Kd.R_drew)); exact Kd.R_mono HO508.out (fun _ hk => hk.2))); (case aS => exact (below_size (by repeat (first | (with_reducible first | exact HB.out | apply below_alloc | apply pw_below_drewN | apply below_drew1) | exact HB.out)))); (case aL => have := LMc22.out; omega); intro v510 w38 ho hb hg hat; rw [← Ny509.out] at ho; have n0_ := Aside0.mk (Kd.R_after (ok := (fun _ => True)) (by (with_reducible repeat (first | apply Kd.R_alloc | apply Kd.R_drewN | apply Kd.R_drew)); exact HO_8.out) hg hat); have n1_ := Aside0.mk (Kd.R_over' (by (with_reducible repeat (first | apply Kd.R_alloc | apply Kd.R_drewN | apply Kd.R_drew)); exact HO_9.out) (Kd.R_typed (by (with_reducible repeat (first | apply Kd.R_alloc | apply Kd.R_drewN | apply Kd.R_drew)); exact HO508.out)) (by decide) hg); have n2_ := Aside0.mk (hb); have n3_ := Aside0.mk (ho); clear HO_8; clear HO_9; clear HB; clear HO508; have HO_8 := n0_; have HO_9 := n1_; have HB := n2_; have HO511 := n3_; clear n0_ n1_ n2_ n3_; clear ho hb hg hat; obtain ⟨Ao40, co40, eo40⟩ := Kd.R_slice HO511.out; subst eo40; have p512 : 0 ≤ ((ji24) : Int) := of_decide_eq_true (by first | (with_reducible assumption) | assumption); have q512 : (ji24) < (y509.length : Int) := of_decide_eq_true (by first | (with_reducible assumption) | assumption); obtain ⟨ad512, e512, hx512_0⟩ := Kd.at_int (Kd.R_reads' HO511.out).2.2 (ji24) p512 q512; cases e512; replace p512 := eq_true p512; replace q512 := eq_true q512; have p27 : 0 ≤ ((ji24) : Int) := of_decide_eq_true (by first | (with_reducible assumption) | assumption); have q27 : ((ji24) : Int) < ((y509.length : Int) : Int) := of_decide_eq_true (by first | (with_reducible assumption) | assumption); obtain ⟨go27, co27, eo27, gb27, gl27, cl27, HG27⟩ := Kd.R_form HO511.out (by omega); (first | cases eo27 | (injection eo27 with ea_ en_ ec_; (first | subst ea_ | (injection ea_ with ea_; subst ea_)); subst ec_; clear en_)); have GB27 := Aside0.mk gb27; have GG27 := Aside0.mk HG27; clear gb27 gl27 HG27; (first | simp only [add_plain] at hx512_0 | skip); obtain ⟨hx27_0, hf27_0⟩ := Kd.R_celln 0 HO511.out ((ji24) : Int) p27 q27; replace p27 := eq_true p27; replace q27 := eq_true q27; obtain ⟨hy41_, hz41_⟩ := Kd.R_celln 0 HO511.out ((ji24) : Int) (of_decide_eq_true (by first | (with_reducible assumption) | assumption)) (of_decide_eq_true (by first | (with_reducible assumption) | assumption)); have HP41 := Kd.R_putg HO511.out ((ji24) : Int) (Go.bits .xor .u8 (rd y509 (ji24)) a2)) | ((with_reducible refine gate_store (t := 5) (p := 73) rfl ?_); refine store_event (t := 5) (p := 73) (v := ?vo_w42) (w1 := (w38.setCell ⟨go27, ((ji24) : Int).toNat, none⟩ (.int .u8 (Go.bits .xor .u8 (rd y509 (ji24)) a2)))) ?hg ?ho ?hn ?hr ?_; (case ho => rfl); (case hg => rfl); (case hn => rfl); (case hr => first | (go_simp; done) | (go_simp; rfl)); intro w42 hw; have hg : w38.grownBy w42 (some go27) := (by rw [hw]; exact HP41.2); have hp_ : Kd.R (Kd.int .u8) 5 w42 w.heap.size (fun k_ => some k_ ≠ (.slice Ao39 t498.length co39 : Value).ownBlock) (.slice (some ⟨go27, 0, none⟩) y509.length co40) y513 := (by rw [hw, Ny513.out]; exact HP41.1); clear HP41; have n0_ := Aside0.mk (Kd.R_after (v := (.slice (some ⟨go27, 0, none⟩) y509.length co40)) (v1 := (.slice (some ⟨go27, 0, none⟩) y509.length co40)) (ok := (fun _ => True)) (by (with_reducible repeat (first | apply Kd.R_alloc | apply Kd.R_drewN | apply Kd.R_drew)); exact HO_8.out) hg (.inl rfl)); have n1_ := Aside0.mk (Kd.R_over' (v := (.slice (some ⟨go27, 0, none⟩) y509.length co40)) (by (with_reducible repeat (first | apply Kd.R_alloc | apply Kd.R_drewN | apply Kd.R_drew)); exact HO_9.out) (Kd.R_typed HO511.out) (by decide) hg); have n2_ := Aside0.mk (hp_); have n3_ := Aside0.mk ((by rw [hw]; exact below_set (HB.out) GB27.out : Below w.heap.size w w42)); clear HO_8; clear HO_9; clear HO511; clear HB; have HO_8 := n0_; have HO_9 := n1_; have HO511 := n2_; have HB := n3_; clear n0_ n1_ n2_ n3_; clear hg hw hp_) | ((with_reducible refine gate_callee (f := 23) rfl ?_); refine goesL_ (some 76) rfl rfl Try.func23 (by kernel_rfl) rfl #[.slice (some ⟨go27, 0, none⟩) y513.length co40] rfl (by (try simp only [List.map_toArray, List.map_cons, List.map_nil]); first | done | (rw [show y513.length = y509.length from (Kd.R_reads' HO511.out).1.symm] <;> rfl) | rfl | (simp only [List.length_drop, List.length_take]; rfl)) ?_; (with_reducible refine (codec_Frames.calls kj12 _ _ y513 t514 t515 t516 _ ?side1 ?side2 A28.out).mono ?_); (case side1 => repeat (first | exact (Kd.R_reads' HO511.out).2.2 | (with_reducible refine Kd.C_alloc ?_ _) | (with_reducible refine Kd.C_drewN ?_ _) | (with_reducible refine Kd.C_drew ?_))); (case side2 => rw [show y513.length = y509.length from (Kd.R_reads' HO511.out).1.symm]; exact (Kd.R_reads' HO511.out).2.1); rintro e w43 ⟨v517, rfl, ho0, hb⟩; refine ⟨_, rfl, ?_⟩; have n0_ := Aside0.mk (Kd.R_below (by (with_reducible repeat (first | apply Kd.R_alloc | apply Kd.R_drewN | apply Kd.R_drew)); exact HO_8.out) hb); have n1_ := Aside0.mk (Kd.R_below (by (with_reducible repeat (first | apply Kd.R_alloc | apply Kd.R_drewN | apply Kd.R_drew)); exact HO_9.out) hb); have n2_ := Aside0.mk (Kd.R_below (by (with_reducible repeat (first | apply Kd.R_alloc | apply Kd.R_drewN | apply Kd.R_drew)); exact HO511.out) hb); have n3_ := Aside0.mk (Kd.S_lower (Kd.S_new' ho0 (Kd.R_lt (by (with_reducible repeat (first | apply Kd.R_alloc | apply Kd.R_drewN | apply Kd.R_drew)); exact HO_9.out))) (below_size (by repeat (first | (with_reducible first | exact HB.out | apply below_alloc | apply pw_below_drewN | apply below_drew1) | exact HB.out)))); have n4_ := Aside0.mk (below_step (by repeat (first | (with_reducible first | exact HB.out | apply below_alloc | apply pw_below_drewN | apply below_drew1) | exact HB.out)) hb); clear HO_8; clear HO_9; clear HO511; clear HB; have HO_8 := n0_; have HO_9 := n1_; have HO511 := n2_; have HO518 := n3_; have HB := n4_; clear n0_ n1_ n2_ n3_ n4_; (try clear hb); (try clear hb2); (try clear hk); (try clear hi); (try clear ho0); have q44 : ((ji31) : Int) ≤ ((l0.length : Int) : Int) := of_decide_eq_true (by first | (with_reducible assumption) | assumption); obtain ⟨i044, hi044, _, hsz44, _⟩ := info_parts info22; have hroom44 : l0.length ≤ c0 := HC0.out; have hC44 : Kd.C (Kd.slice 3 (Kd.int .i64)) _ A0 l0.length l0 := HR0.out; have hcut44 := cut_to (P := Try.prog) 35 22 .i64 Try.underlying35 hi044 A0 l0.length c0 (ji31) (of_decide_eq_true (by first | (with_reducible assumption) | assumption)) q44 hroom44; have hr44 := Kd.C_take (m := ((ji31) : Int).toNat) hC44 (by omega); have hy44 : y519.length = ((ji31) : Int).toNat := (by rw [Ny519.out, List.length_take]; omega); rw [← Ny519.out] at hr44; rw [← hy44] at hcut44; have HR522 := Aside0.mk hr44; have HC522 := Aside0.mk (show y519.length ≤ c0 from by omega); clear hr44 hC44 hroom44 hi044 hsz44; have KY44 := Aside0.mk hy44; clear hy44; replace q44 := eq_true q44; obtain ⟨Ao45, co45, eo45⟩ := Kd.S_slice HO518.out; subst eo45) | (go_at_call 25; (with_reducible refine (formeref05_SameLists.calls kj12 _ _ t514 _ _ y519 t523 _ ?side1 ?side2 ?side3 ?side4 A34.out).mono ?_); (case side1 => repeat (first | exact (Kd.S_reads' HO518.out).2.2 | (with_reducible refine Kd.C_alloc ?_ _) | (with_reducible refine Kd.C_drewN ?_ _) | (with_reducible refine Kd.C_drew ?_))); (case side2 => exact (Kd.S_reads' HO518.out).2.1); (case side3 => repeat (first | exact (Kd.C_below HR522.out HB.out) | (with_reducible refine Kd.C_alloc ?_ _) | (with_reducible refine Kd.C_drewN ?_ _) | (with_reducible refine Kd.C_drew ?_))); (case side4 => exact HC522.out); rintro e w' ⟨rfl, ⟨nd, rfl⟩⟩))
                   go_ret
                   exact ⟨by first | rfl | (simp [errW_none, errW_some] <;> rfl) | (simp only [← hji19, ← hji24, ← hji31]; first | rfl | (simp [errW_none, errW_some] <;> rfl)) | (simp [*, errW_none, errW_some] <;> rfl), by repeat (first | (with_reducible first | exact HB.out | apply below_alloc | apply pw_below_drewN | apply below_drew1) | exact HB.out)⟩
                  ·
                   rw [if_neg c33] at H
                   exact absurd H (by simp)
                 ·
                  rw [if_neg c32] at H
                  exact absurd H (by simp)
                ·
                 rw [if_neg c30] at H
                 have c30b0 : (t515 == (rd t499 (ji19))) = false := beq_eq_false_iff_ne.mpr c30
                 have c30b1 : (t515 != (rd t499 (ji19))) = true := bne_iff_ne.mpr c30
                 obtain rfl := Option.some.inj H
                 obtain ⟨Ao46, co46, eo46⟩ := Kd.R_slice HO_9.out
                 subst eo46
                 have p505 : 0 ≤ ((ji19) : Int) := of_decide_eq_true (by first | (with_reducible assumption) | assumption)
                 have q505 : (ji19) < (t499.length : Int) := of_decide_eq_true (by first | (with_reducible assumption) | assumption)
                 obtain ⟨ad505, e505, hx505_0⟩ := Kd.at_int (Kd.R_reads' HO_9.out).2.2 (ji19) p505 q505
                 cases e505
                 replace p505 := eq_true p505
                 replace q505 := eq_true q505
                 go_wp2_with (first | ((with_reducible refine gate_dst (N := 54) rfl ?_); (try (refine gate_guard (by rfl) ?_; dsimp only)); refine Kd.R_lit (Kd.int .u8) _ 5 ?hg (N := 54) ?hd (xs := ([] : List Int)) (inner := []) (ok := fun _ => True) (okp := fun _ => True) ?hr ?hp (fun _ hk => hk) trivial (Below.refl _ _) (Nat.le_refl _) (by simp) ?_; (case hd => rfl); (case hg => rfl); (case hr => first | (go_simp; done) | (go_simp; rfl)); (case hp => exact (Reps.none _ _)); intro v507 w47 ho48 hb hg_ hnew_; clear hg_ hnew_; (first | rw [← Ny506.out] at ho48 | (simp only [Int.reduceToNat] at ho48; rw [← Ny506.out] at ho48)); have n0_ := Aside0.mk (Kd.R_elder' (by (with_reducible repeat (first | apply Kd.R_alloc | apply Kd.R_drewN | apply Kd.R_drew)); exact HO_8.out) (Kd.R_base ho48) hb); have n1_ := Aside0.mk (Kd.R_below (by (with_reducible repeat (first | apply Kd.R_alloc | apply Kd.R_drewN | apply Kd.R_drew)); exact HO_9.out) hb); have n2_ := Aside0.mk (Kd.R_lower (Kd.R_new' ho48 (Kd.R_lt (by (with_reducible repeat (first | apply Kd.R_alloc | apply Kd.R_drewN | apply Kd.R_drew)); exact HO_8.out))) (below_size (by repeat (first | (with_reducible first | exact HB.out | apply below_alloc | apply pw_below_drewN | apply below_drew1) | exact HB.out)))); have n3_ := Aside0.mk (below_step (by repeat (first | (with_reducible first | exact HB.out | apply below_alloc | apply pw_below_drewN | apply below_drew1) | exact HB.out)) hb); clear HO_8; clear HO_9; clear HB; have HO_8 := n0_; have HO_9 := n1_; have HO508 := n2_; have HB := n3_; clear n0_ n1_ n2_ n3_; clear hb ho48; obtain ⟨Ao50, co50, eo50⟩ := Kd.R_slice HO_8.out; subst eo50) | ((with_reducible refine gate_builtin (b := .append) (xs := #[.tmp 54, .tmp 55]) rfl ?_); (try (refine gate_guard (by rfl) ?_; dsimp only)); at_builtin; refine Kd.R_append_rows (Kd.int .u8) (w0 := w) w.heap.size rfl (.tmp 54) (.tmp 55) 23 5 (.int .u8 0) 1 rfl Try.underlying23 info5 rfl (by decide) (by omega) v507 y506 t498 _ _ _ (fun k_ => some k_ ≠ (.slice Ao50 t498.length co50 : Value).ownBlock) (fun _ => False) rfl rfl ?aO ?aR (fun _ _ h => h) (fun _ h => h.elim) ?aF ?aB ?aS ?aL ?_; (case aR => repeat (first | exact (Kd.R_reads' HO_8.out).2.2 | (with_reducible refine Kd.C_alloc ?_ _) | (with_reducible refine Kd.C_drewN ?_ _) | (with_reducible refine Kd.C_drew ?_))); (case aB => exact (by repeat (first | (with_reducible first | exact HB.out | apply below_alloc | apply pw_below_drewN | apply below_drew1) | exact HB.out))); (case aF => exact (fun k_ hk => Kd.fresh' (Kd.R_lt (by (with_reducible repeat (first | apply Kd.R_alloc | apply Kd.R_drewN | apply Kd.R_drew)); exact HO_8.out)) k_ hk)); (case aO => exact (by (with_reducible repeat (first | apply Kd.R_alloc | apply Kd.R_drewN | apply Kd.R_drew)); exact Kd.R_mono HO508.out (fun _ hk => hk.2))); (case aS => exact (below_size (by repeat (first | (with_reducible first | exact HB.out | apply below_alloc | apply pw_below_drewN | apply below_drew1) | exact HB.out)))); (case aL => have := LMc22.out; omega); intro v510 w49 ho hb hg hat; rw [← Ny509.out] at ho; have n0_ := Aside0.mk (Kd.R_after (ok := (fun _ => True)) (by (with_reducible repeat (first | apply Kd.R_alloc | apply Kd.R_drewN | apply Kd.R_drew)); exact HO_8.out) hg hat); have n1_ := Aside0.mk (Kd.R_over' (by (with_reducible repeat (first | apply Kd.R_alloc | apply Kd.R_drewN | apply Kd.R_drew)); exact HO_9.out) (Kd.R_typed (by (with_reducible repeat (first | apply Kd.R_alloc | apply Kd.R_drewN | apply Kd.R_drew)); exact HO508.out)) (by decide) hg); have n2_ := Aside0.mk (hb); have n3_ := Aside0.mk (ho); clear HO_8; clear HO_9; clear HB; clear HO508; have HO_8 := n0_; have HO_9 := n1_; have HB := n2_; have HO511 := n3_; clear n0_ n1_ n2_ n3_; clear ho hb hg hat; obtain ⟨Ao51, co51, eo51⟩ := Kd.R_slice HO511.out; subst eo51; have p512 : 0 ≤ ((ji24) : Int) := of_decide_eq_true (by first | (with_reducible assumption) | assumption); have q512 : (ji24) < (y509.length : Int) := of_decide_eq_true (by first | (with_reducible assumption) | assumption); obtain ⟨ad512, e512, hx512_0⟩ := Kd.at_int (Kd.R_reads' HO511.out).2.2 (ji24) p512 q512; cases e512; replace p512 := eq_true p512; replace q512 := eq_true q512; have p27 : 0 ≤ ((ji24) : Int) := of_decide_eq_true (by first | (with_reducible assumption) | assumption); have q27 : ((ji24) : Int) < ((y509.length : Int) : Int) := of_decide_eq_true (by first | (with_reducible assumption) | assumption); obtain ⟨go27, co27, eo27, gb27, gl27, cl27, HG27⟩ := Kd.R_form HO511.out (by omega); (first | cases eo27 | (injection eo27 with ea_ en_ ec_; (first | subst ea_ | (injection ea_ with ea_; subst ea_)); subst ec_; clear en_)); have GB27 := Aside0.mk gb27; have GG27 := Aside0.mk HG27; clear gb27 gl27 HG27; (first | simp only [add_plain] at hx512_0 | skip); obtain ⟨hx27_0, hf27_0⟩ := Kd.R_celln 0 HO511.out ((ji24) : Int) p27 q27; replace p27 := eq_true p27; replace q27 := eq_true q27; obtain ⟨hy52_, hz52_⟩ := Kd.R_celln 0 HO511.out ((ji24) : Int) (of_decide_eq_true (by first | (with_reducible assumption) | assumption)) (of_decide_eq_true (by first | (with_reducible assumption) | assumption)); have HP52 := Kd.R_putg HO511.out ((ji24) : Int) (Go.bits .xor .u8 (rd y509 (ji24)) a2)) | ((with_reducible refine gate_store (t := 5) (p := 73) rfl ?_); refine store_event (t := 5) (p := 73) (v := ?vo_w53) (w1 := (w49.setCell ⟨go27, ((ji24) : Int).toNat, none⟩ (.int .u8 (Go.bits .xor .u8 (rd y509 (ji24)) a2)))) ?hg ?ho ?hn ?hr ?_; (case ho => rfl); (case hg => rfl); (case hn => rfl); (case hr => first | (go_simp; done) | (go_simp; rfl)); intro w53 hw; have hg : w49.grownBy w53 (some go27) := (by rw [hw]; exact HP52.2); have hp_ : Kd.R (Kd.int .u8) 5 w53 w.heap.size (fun k_ => some k_ ≠ (.slice Ao50 t498.length co50 : Value).ownBlock) (.slice (some ⟨go27, 0, none⟩) y509.length co51) y513 := (by rw [hw, Ny513.out]; exact HP52.1); clear HP52; have n0_ := Aside0.mk (Kd.R_after (v := (.slice (some ⟨go27, 0, none⟩) y509.length co51)) (v1 := (.slice (some ⟨go27, 0, none⟩) y509.length co51)) (ok := (fun _ => True)) (by (with_reducible repeat (first | apply Kd.R_alloc | apply Kd.R_drewN | apply Kd.R_drew)); exact HO_8.out) hg (.inl rfl)); have n1_ := Aside0.mk (Kd.R_over' (v := (.slice (some ⟨go27, 0, none⟩) y509.length co51)) (by (with_reducible repeat (first | apply Kd.R_alloc | apply Kd.R_drewN | apply Kd.R_drew)); exact HO_9.out) (Kd.R_typed HO511.out) (by decide) hg); have n2_ := Aside0.mk (hp_); have n3_ := Aside0.mk ((by rw [hw]; exact below_set (HB.out) GB27.out : Below w.heap.size w w53)); clear HO_8; clear HO_9; clear HO511; clear HB; have HO_8 := n0_; have HO_9 := n1_; have HO511 := n2_; have HB := n3_; clear n0_ n1_ n2_ n3_; clear hg hw hp_) | ((with_reducible refine gate_callee (f := 23) rfl ?_); refine goesL_ (some 76) rfl rfl Try.func23 (by kernel_rfl) rfl #[.slice (some ⟨go27, 0, none⟩) y513.length co51] rfl (by (try simp only [List.map_toArray, List.map_cons, List.map_nil]); first | done | (rw [show y513.length = y509.length from (Kd.R_reads' HO511.out).1.symm] <;> rfl) | rfl | (simp only [List.length_drop, List.length_take]; rfl)) ?_; (with_reducible refine (codec_Frames.calls kj12 _ _ y513 t514 t515 t516 _ ?side1 ?side2 A28.out).mono ?_); (case side1 => repeat (first | exact (Kd.R_reads' HO511.out).2.2 | (with_reducible refine Kd.C_alloc ?_ _) | (with_reducible refine Kd.C_drewN ?_ _) | (with_reducible refine Kd.C_drew ?_))); (case side2 => rw [show y513.length = y509.length from (Kd.R_reads' HO511.out).1.symm]; exact (Kd.R_reads' HO511.out).2.1); rintro e w54 ⟨v517, rfl, ho0, hb⟩; refine ⟨_, rfl, ?_⟩; have n0_ := Aside0.mk (Kd.R_below (by (with_reducible repeat (first | apply Kd.R_alloc | apply Kd.R_drewN | apply Kd.R_drew)); exact HO_8.out) hb); have n1_ := Aside0.mk (Kd.R_below (by (with_reducible repeat (first | apply Kd.R_alloc | apply Kd.R_drewN | apply Kd.R_drew)); exact HO_9.out) hb); have n2_ := Aside0.mk (Kd.R_below (by (with_reducible repeat (first | apply Kd.R_alloc | apply Kd.R_drewN | apply Kd.R_drew)); exact HO511.out) hb); have n3_ := Aside0.mk (Kd.S_lower (Kd.S_new' ho0 (Kd.R_lt (by (with_reducible repeat (first | apply Kd.R_alloc | apply Kd.R_drewN | apply Kd.R_drew)); exact HO_9.out))) (below_size (by repeat (first | (with_reducible first | exact HB.out | apply below_alloc | apply pw_below_drewN | apply below_drew1) | exact HB.out)))); have n4_ := Aside0.mk (below_step (by repeat (first | (with_reducible first | exact HB.out | apply below_alloc | apply pw_below_drewN | apply below_drew1) | exact HB.out)) hb); clear HO_8; clear HO_9; clear HO511; clear HB; have HO_8 := n0_; have HO_9 := n1_; have HO511 := n2_; have HO518 := n3_; have HB := n4_; clear n0_ n1_ n2_ n3_ n4_; (try clear hb); (try clear hb2); (try clear hk); (try clear hi); (try clear ho0)))
                 go_ret
                 exact ⟨by first | rfl | (simp [errW_none, errW_some] <;> rfl) | (simp only [← hji19, ← hji24]; first | rfl | (simp [errW_none, errW_some] <;> rfl)) | (simp [*, errW_none, errW_some] <;> rfl), by repeat (first | (with_reducible first | exact HB.out | apply below_alloc | apply pw_below_drewN | apply below_drew1) | exact HB.out)⟩
               ·
                rw [if_neg c29] at H
                have c29b0 : (t516 == 0) = false := beq_eq_false_iff_ne.mpr c29
                have c29b1 : (t516 != 0) = true := bne_iff_ne.mpr c29
                obtain rfl := Option.some.inj H
                obtain ⟨Ao55, co55, eo55⟩ := Kd.R_slice HO_9.out
                subst eo55
                have p505 : 0 ≤ ((ji19) : Int) := of_decide_eq_true (by first | (with_reducible assumption) | assumption)
                have q505 : (ji19) < (t499.length : Int) := of_decide_eq_true (by first | (with_reducible assumption) | assumption)
                obtain ⟨ad505, e505, hx505_0⟩ := Kd.at_int (Kd.R_reads' HO_9.out).2.2 (ji19) p505 q505
                cases e505
                replace p505 := eq_true p505
                replace q505 := eq_true q505
                go_wp2_with (first | ((with_reducible refine gate_dst (N := 54) rfl ?_); (try (refine gate_guard (by rfl) ?_; dsimp only)); refine Kd.R_lit (Kd.int .u8) _ 5 ?hg (N := 54) ?hd (xs := ([] : List Int)) (inner := []) (ok := fun _ => True) (okp := fun _ => True) ?hr ?hp (fun _ hk => hk) trivial (Below.refl _ _) (Nat.le_refl _) (by simp) ?_; (case hd => rfl); (case hg => rfl); (case hr => first | (go_simp; done) | (go_simp; rfl)); (case hp => exact (Reps.none _ _)); intro v507 w56 ho57 hb hg_ hnew_; clear hg_ hnew_; (first | rw [← Ny506.out] at ho57 | (simp only [Int.reduceToNat] at ho57; rw [← Ny506.out] at ho57)); have n0_ := Aside0.mk (Kd.R_elder' (by (with_reducible repeat (first | apply Kd.R_alloc | apply Kd.R_drewN | apply Kd.R_drew)); exact HO_8.out) (Kd.R_base ho57) hb); have n1_ := Aside0.mk (Kd.R_below (by (with_reducible repeat (first | apply Kd.R_alloc | apply Kd.R_drewN | apply Kd.R_drew)); exact HO_9.out) hb); have n2_ := Aside0.mk (Kd.R_lower (Kd.R_new' ho57 (Kd.R_lt (by (with_reducible repeat (first | apply Kd.R_alloc | apply Kd.R_drewN | apply Kd.R_drew)); exact HO_8.out))) (below_size (by repeat (first | (with_reducible first | exact HB.out | apply below_alloc | apply pw_below_drewN | apply below_drew1) | exact HB.out)))); have n3_ := Aside0.mk (below_step (by repeat (first | (with_reducible first | exact HB.out | apply below_alloc | apply pw_below_drewN | apply below_drew1) | exact HB.out)) hb); clear HO_8; clear HO_9; clear HB; have HO_8 := n0_; have HO_9 := n1_; have HO508 := n2_; have HB := n3_; clear n0_ n1_ n2_ n3_; clear hb ho57; obtain ⟨Ao59, co59, eo59⟩ := Kd.R_slice HO_8.out; subst eo59) | ((with_reducible refine gate_builtin (b := .append) (xs := #[.tmp 54, .tmp 55]) rfl ?_); (try (refine gate_guard (by rfl) ?_; dsimp only)); at_builtin; refine Kd.R_append_rows (Kd.int .u8) (w0 := w) w.heap.size rfl (.tmp 54) (.tmp 55) 23 5 (.int .u8 0) 1 rfl Try.underlying23 info5 rfl (by decide) (by omega) v507 y506 t498 _ _ _ (fun k_ => some k_ ≠ (.slice Ao59 t498.length co59 : Value).ownBlock) (fun _ => False) rfl rfl ?aO ?aR (fun _ _ h => h) (fun _ h => h.elim) ?aF ?aB ?aS ?aL ?_; (case aR => repeat (first | exact (Kd.R_reads' HO_8.out).2.2 | (with_reducible refine Kd.C_alloc ?_ _) | (with_reducible refine Kd.C_drewN ?_ _) | (with_reducible refine Kd.C_drew ?_))); (case aB => exact (by repeat (first | (with_reducible first | exact HB.out | apply below_alloc | apply pw_below_drewN | apply below_drew1) | exact HB.out))); (case aF => exact (fun k_ hk => Kd.fresh' (Kd.R_lt (by (with_reducible repeat (first | apply Kd.R_alloc | apply Kd.R_drewN | apply Kd.R_drew)); exact HO_8.out)) k_ hk)); (case aO => exact (by (with_reducible repeat (first | apply Kd.R_alloc | apply Kd.R_drewN | apply Kd.R_drew)); exact Kd.R_mono HO508.out (fun _ hk => hk.2))); (case aS => exact (below_size (by repeat (first | (with_reducible first | exact HB.out | apply below_alloc | apply pw_below_drewN | apply below_drew1) | exact HB.out)))); (case aL => have := LMc22.out; omega); intro v510 w58 ho hb hg hat; rw [← Ny509.out] at ho; have n0_ := Aside0.mk (Kd.R_after (ok := (fun _ => True)) (by (with_reducible repeat (first | apply Kd.R_alloc | apply Kd.R_drewN | apply Kd.R_drew)); exact HO_8.out) hg hat); have n1_ := Aside0.mk (Kd.R_over' (by (with_reducible repeat (first | apply Kd.R_alloc | apply Kd.R_drewN | apply Kd.R_drew)); exact HO_9.out) (Kd.R_typed (by (with_reducible repeat (first | apply Kd.R_alloc | apply Kd.R_drewN | apply Kd.R_drew)); exact HO508.out)) (by decide) hg); have n2_ := Aside0.mk (hb); have n3_ := Aside0.mk (ho); clear HO_8; clear HO_9; clear HB; clear HO508; have HO_8 := n0_; have HO_9 := n1_; have HB := n2_; have HO511 := n3_; clear n0_ n1_ n2_ n3_; clear ho hb hg hat; obtain ⟨Ao60, co60, eo60⟩ := Kd.R_slice HO511.out; subst eo60; have p512 : 0 ≤ ((ji24) : Int) := of_decide_eq_true (by first | (with_reducible assumption) | assumption); have q512 : (ji24) < (y509.length : Int) := of_decide_eq_true (by first | (with_reducible assumption) | assumption); obtain ⟨ad512, e512, hx512_0⟩ := Kd.at_int (Kd.R_reads' HO511.out).2.2 (ji24) p512 q512; cases e512; replace p512 := eq_true p512; replace q512 := eq_true q512; have p27 : 0 ≤ ((ji24) : Int) := of_decide_eq_true (by first | (with_reducible assumption) | assumption); have q27 : ((ji24) : Int) < ((y509.length : Int) : Int) := of_decide_eq_true (by first | (with_reducible assumption) | assumption); obtain ⟨go27, co27, eo27, gb27, gl27, cl27, HG27⟩ := Kd.R_form HO511.out (by omega); (first | cases eo27 | (injection eo27 with ea_ en_ ec_; (first | subst ea_ | (injection ea_ with ea_; subst ea_)); subst ec_; clear en_)); have GB27 := Aside0.mk gb27; have GG27 := Aside0.mk HG27; clear gb27 gl27 HG27; (first | simp only [add_plain] at hx512_0 | skip); obtain ⟨hx27_0, hf27_0⟩ := Kd.R_celln 0 HO511.out ((ji24) : Int) p27 q27; replace p27 := eq_true p27; replace q27 := eq_true q27; obtain ⟨hy61_, hz61_⟩ := Kd.R_celln 0 HO511.out ((ji24) : Int) (of_decide_eq_true (by first | (with_reducible assumption) | assumption)) (of_decide_eq_true (by first | (with_reducible assumption) | assumption)); have HP61 := Kd.R_putg HO511.out ((ji24) : Int) (Go.bits .xor .u8 (rd y509 (ji24)) a2)) | ((with_reducible refine gate_store (t := 5) (p := 73) rfl ?_); refine store_event (t := 5) (p := 73) (v := ?vo_w62) (w1 := (w58.setCell ⟨go27, ((ji24) : Int).toNat, none⟩ (.int .u8 (Go.bits .xor .u8 (rd y509 (ji24)) a2)))) ?hg ?ho ?hn ?hr ?_; (case ho => rfl); (case hg => rfl); (case hn => rfl); (case hr => first | (go_simp; done) | (go_simp; rfl)); intro w62 hw; have hg : w58.grownBy w62 (some go27) := (by rw [hw]; exact HP61.2); have hp_ : Kd.R (Kd.int .u8) 5 w62 w.heap.size (fun k_ => some k_ ≠ (.slice Ao59 t498.length co59 : Value).ownBlock) (.slice (some ⟨go27, 0, none⟩) y509.length co60) y513 := (by rw [hw, Ny513.out]; exact HP61.1); clear HP61; have n0_ := Aside0.mk (Kd.R_after (v := (.slice (some ⟨go27, 0, none⟩) y509.length co60)) (v1 := (.slice (some ⟨go27, 0, none⟩) y509.length co60)) (ok := (fun _ => True)) (by (with_reducible repeat (first | apply Kd.R_alloc | apply Kd.R_drewN | apply Kd.R_drew)); exact HO_8.out) hg (.inl rfl)); have n1_ := Aside0.mk (Kd.R_over' (v := (.slice (some ⟨go27, 0, none⟩) y509.length co60)) (by (with_reducible repeat (first | apply Kd.R_alloc | apply Kd.R_drewN | apply Kd.R_drew)); exact HO_9.out) (Kd.R_typed HO511.out) (by decide) hg); have n2_ := Aside0.mk (hp_); have n3_ := Aside0.mk ((by rw [hw]; exact below_set (HB.out) GB27.out : Below w.heap.size w w62)); clear HO_8; clear HO_9; clear HO511; clear HB; have HO_8 := n0_; have HO_9 := n1_; have HO511 := n2_; have HB := n3_; clear n0_ n1_ n2_ n3_; clear hg hw hp_) | ((with_reducible refine gate_callee (f := 23) rfl ?_); refine goesL_ (some 76) rfl rfl Try.func23 (by kernel_rfl) rfl #[.slice (some ⟨go27, 0, none⟩) y513.length co60] rfl (by (try simp only [List.map_toArray, List.map_cons, List.map_nil]); first | done | (rw [show y513.length = y509.length from (Kd.R_reads' HO511.out).1.symm] <;> rfl) | rfl | (simp only [List.length_drop, List.length_take]; rfl)) ?_; (with_reducible refine (codec_Frames.calls kj12 _ _ y513 t514 t515 t516 _ ?side1 ?side2 A28.out).mono ?_); (case side1 => repeat (first | exact (Kd.R_reads' HO511.out).2.2 | (with_reducible refine Kd.C_alloc ?_ _) | (with_reducible refine Kd.C_drewN ?_ _) | (with_reducible refine Kd.C_drew ?_))); (case side2 => rw [show y513.length = y509.length from (Kd.R_reads' HO511.out).1.symm]; exact (Kd.R_reads' HO511.out).2.1); rintro e w63 ⟨v517, rfl, ho0, hb⟩; refine ⟨_, rfl, ?_⟩; have n0_ := Aside0.mk (Kd.R_below (by (with_reducible repeat (first | apply Kd.R_alloc | apply Kd.R_drewN | apply Kd.R_drew)); exact HO_8.out) hb); have n1_ := Aside0.mk (Kd.R_below (by (with_reducible repeat (first | apply Kd.R_alloc | apply Kd.R_drewN | apply Kd.R_drew)); exact HO_9.out) hb); have n2_ := Aside0.mk (Kd.R_below (by (with_reducible repeat (first | apply Kd.R_alloc | apply Kd.R_drewN | apply Kd.R_drew)); exact HO511.out) hb); have n3_ := Aside0.mk (Kd.S_lower (Kd.S_new' ho0 (Kd.R_lt (by (with_reducible repeat (first | apply Kd.R_alloc | apply Kd.R_drewN | apply Kd.R_drew)); exact HO_9.out))) (below_size (by repeat (first | (with_reducible first | exact HB.out | apply below_alloc | apply pw_below_drewN | apply below_drew1) | exact HB.out)))); have n4_ := Aside0.mk (below_step (by repeat (first | (with_reducible first | exact HB.out | apply below_alloc | apply pw_below_drewN | apply below_drew1) | exact HB.out)) hb); clear HO_8; clear HO_9; clear HO511; clear HB; have HO_8 := n0_; have HO_9 := n1_; have HO511 := n2_; have HO518 := n3_; have HB := n4_; clear n0_ n1_ n2_ n3_ n4_; (try clear hb); (try clear hb2); (try clear hk); (try clear hi); (try clear ho0)))
                go_ret
                exact ⟨by first | rfl | (simp [errW_none, errW_some] <;> rfl) | (simp only [← hji19, ← hji24]; first | rfl | (simp [errW_none, errW_some] <;> rfl)) | (simp [*, errW_none, errW_some] <;> rfl), by repeat (first | (with_reducible first | exact HB.out | apply below_alloc | apply pw_below_drewN | apply below_drew1) | exact HB.out)⟩
              ·
               rw [if_neg c26] at H
               exact absurd H (by simp)
             ·
              rw [if_neg c25] at H
              exact absurd H (by simp)
           ·
            rw [if_neg c22] at H
            exact absurd H (by simp)
          ·
           rw [if_neg c21] at H
           exact absurd H (by simp)
         ·
          rw [if_neg c20] at H
          exact absurd H (by simp)
        ·
         rw [if_neg c18] at H
         have c18b0 : decide (1 < (t499.length : Int)) = false := decide_eq_false c18
         have c18b1 : decide (1 < t499.length) = false := decide_eq_false (by omega)
         clear c18
         obtain ⟨y524, hy524⟩ : ∃ y_ : List Int, y_ = (([] : List Int)) := ⟨_, rfl⟩
         replace H : (if y524.length + t498.length < 140737488355328 then ((some (y524 ++ t498 : List Int)).bind fun y527 => (if (wrap64 ((wrap64 (t498.length : Int)) - 3)) = 0 then (none) else (if 0 ≤ (wrap64 (3 + (Int.tmod (wrap64 (a1)) (wrap64 ((wrap64 (t498.length : Int)) - 3))))) then (if (wrap64 (3 + (Int.tmod (wrap64 (a1)) (wrap64 ((wrap64 (t498.length : Int)) - 3))))) < (y527.length : Int) then ((codec_Frames.f kj12 (y527.set ((wrap64 (3 + (Int.tmod (wrap64 (a1)) (wrap64 ((wrap64 (t498.length : Int)) - 3))))) : Int).toNat (Go.bits .xor .u8 (rd y527 (wrap64 (3 + (Int.tmod (wrap64 (a1)) (wrap64 ((wrap64 (t498.length : Int)) - 3)))))) a2))).bind fun bt532 => (if true = true then (if bt532.2.2 = 0 then (if bt532.2.1 = 0 then (if 0 ≤ (wrap64 ((l0.length : Int) - 1)) then (if (wrap64 ((l0.length : Int) - 1)) ≤ (l0.length : Int) then ((formeref05_SameLists.f kj12 bt532.1 (l0.take ((wrap64 ((l0.length : Int) - 1)) : Int).toNat)).bind fun t541 => (some t541)) else (none)) else (none)) else (some false)) else (some false)) else (some false))) else (none)) else (none)))) else (none)) = some r := by first | (rw [hy524]; with_reducible exact H) | (have H2_ := (Option.bind_some _ _).symm.trans H; rw [hy524]; with_reducible exact H2_) | (have H2_ := (Option.bind_some _ _).symm.trans H; with_reducible exact H2_) | with_reducible exact H | (rw [hy524]; exact H) | exact H
         have Ny524 := Aside0.mk hy524
         clear hy524
         by_cases c64 : y524.length + t498.length < 140737488355328
         ·
          rw [if_pos c64] at H
          have LMc64 := Aside0.mk c64
          clear c64
          obtain ⟨y527, hy527⟩ : ∃ y_ : List Int, y_ = (y524 ++ t498) := ⟨_, rfl⟩
          replace H : (if (wrap64 ((wrap64 (t498.length : Int)) - 3)) = 0 then (none) else (if 0 ≤ (wrap64 (3 + (Int.tmod (wrap64 (a1)) (wrap64 ((wrap64 (t498.length : Int)) - 3))))) then (if (wrap64 (3 + (Int.tmod (wrap64 (a1)) (wrap64 ((wrap64 (t498.length : Int)) - 3))))) < (y527.length : Int) then ((codec_Frames.f kj12 (y527.set ((wrap64 (3 + (Int.tmod (wrap64 (a1)) (wrap64 ((wrap64 (t498.length : Int)) - 3))))) : Int).toNat (Go.bits .xor .u8 (rd y527 (wrap64 (3 + (Int.tmod (wrap64 (a1)) (wrap64 ((wrap64 (t498.length : Int)) - 3)))))) a2))).bind fun bt532 => (if true = true then (if bt532.2.2 = 0 then (if bt532.2.1 = 0 then (if 0 ≤ (wrap64 ((l0.length : Int) - 1)) then (if (wrap64 ((l0.length : Int) - 1)) ≤ (l0.length : Int) then ((formeref05_SameLists.f kj12 bt532.1 (l0.take ((wrap64 ((l0.length : Int) - 1)) : Int).toNat)).bind fun t541 => (some t541)) else (none)) else (none)) else (some false)) else (some false)) else (some false))) else (none)) else (none))) = some r := by first | (rw [hy527]; with_reducible exact H) | (have H2_ := (Option.bind_some _ _).symm.trans H; rw [hy527]; with_reducible exact H2_) | (have H2_ := (Option.bind_some _ _).symm.trans H; with_reducible exact H2_) | with_reducible exact H | (rw [hy527]; exact H) | exact H
          have Ny527 := Aside0.mk hy527
          clear hy527
          by_cases c65 : (wrap64 ((wrap64 (t498.length : Int)) - 3)) = 0
          ·
           rw [if_pos c65] at H
           exact absurd H (by simp)
          ·
           rw [if_neg c65] at H
           have c65b0 : ((wrap64 ((wrap64 (t498.length : Int)) - 3)) == 0) = false := beq_eq_false_iff_ne.mpr c65
           have c65b1 : ((wrap64 ((wrap64 (t498.length : Int)) - 3)) != 0) = true := bne_iff_ne.mpr c65
           obtain ⟨ji66, hji66⟩ : ∃ j_ : Int, (wrap64 (3 + (Int.tmod (wrap64 (a1)) (wrap64 ((wrap64 (t498.length : Int)) - 3))))) = j_ := ⟨_, rfl⟩
           replace H : (if 0 ≤ (ji66) then (if (ji66) < (y527.length : Int) then ((codec_Frames.f kj12 (y527.set ((ji66) : Int).toNat (Go.bits .xor .u8 (rd y527 (ji66)) a2))).bind fun bt532 => (if true = true then (if bt532.2.2 = 0 then (if bt532.2.1 = 0 then (if 0 ≤ (wrap64 ((l0.length : Int) - 1)) then (if (wrap64 ((l0.length : Int) - 1)) ≤ (l0.length : Int) then ((formeref05_SameLists.f kj12 bt532.1 (l0.take ((wrap64 ((l0.length : Int) - 1)) : Int).toNat)).bind fun t541 => (some t541)) else (none)) else (none)) else (some false)) else (some false)) else (some false))) else (none)) else (none)) = some r := by first | (rw [hji66] at H; exact H) | (simp only [hji66] at H ⊢; exact H)
           have hji66w : (IntKind.i64.wrap (3 + (Int.tmod (wrap64 (a1)) (wrap64 ((wrap64 (t498.length : Int)) - 3))))) = ji66 := (i64_w _).trans hji66
           by_cases c67 : 0 ≤ (ji66)
           ·
            rw [if_pos c67] at H
            have c67b0 : decide (0 ≤ (ji66)) = true := decide_eq_true c67
            clear c67
            by_cases c68 : (ji66) < (y527.length : Int)
            ·
             rw [if_pos c68] at H
             have c68b0 : decide ((ji66) < (y527.length : Int)) = true := decide_eq_true c68
             clear c68
             obtain ⟨y531, hy531⟩ : ∃ y_ : List Int, y_ = (y527.set ((ji66) : Int).toNat (Go.bits .xor .u8 (rd y527 (ji66)) a2)) := ⟨_, rfl⟩
             replace H : ((codec_Frames.f kj12 y531).bind fun bt532 => (if true = true then (if bt532.2.2 = 0 then (if bt532.2.1 = 0 then (if 0 ≤ (wrap64 ((l0.length : Int) - 1)) then (if (wrap64 ((l0.length : Int) - 1)) ≤ (l0.length : Int) then ((formeref05_SameLists.f kj12 bt532.1 (l0.take ((wrap64 ((l0.length : Int) - 1)) : Int).toNat)).bind fun t541 => (some t541)) else (none)) else (none)) else (some false)) else (some false)) else (some false))) = some r := by first | (rw [hy531]; with_reducible exact H) | (have H2_ := (Option.bind_some _ _).symm.trans H; rw [hy531]; with_reducible exact H2_) | (have H2_ := (Option.bind_some _ _).symm.trans H; with_reducible exact H2_) | with_reducible exact H | (rw [hy531]; exact H) | exact H
             have Ny531 := Aside0.mk hy531
             clear hy531
             replace H := Option.bind_eq_some_iff.mp H
             obtain ⟨⟨t532, t533, t534⟩, A700, H⟩ := H
             replace H : (if true = true then (if t534 = 0 then (if t533 = 0 then (if 0 ≤ (wrap64 ((l0.length : Int) - 1)) then (if (wrap64 ((l0.length : Int) - 1)) ≤ (l0.length : Int) then ((formeref05_SameLists.f kj12 t532 (l0.take ((wrap64 ((l0.length : Int) - 1)) : Int).toNat)).bind fun t541 => (some t541)) else (none)) else (none)) else (some false)) else (some false)) else (some false)) = some r := H
             have A70 := Aside0.mk A700
             clear A700
             (first | rw [if_pos (rfl : true = true)] at H | rw [if_pos True.intro] at H)
             by_cases c71 : t534 = 0
             ·
              rw [if_pos c71] at H
              have c71b0 : (t534 == 0) = true := beq_iff_eq.mpr c71
              have c71b1 : (t534 != 0) = false := bne_eq_false_iff_eq.mpr c71
              clear c71
              by_cases c72 : t533 = 0
              ·
               rw [if_pos c72] at H
               have c72b0 : (t533 == 0) = true := beq_iff_eq.mpr c72
               have c72b1 : (t533 != 0) = false := bne_eq_false_iff_eq.mpr c72
               clear c72
               obtain ⟨ji73, hji73⟩ : ∃ j_ : Int, (wrap64 ((l0.length : Int) - 1)) = j_ := ⟨_, rfl⟩
               replace H : (if 0 ≤ (ji73) then (if (ji73) ≤ (l0.length : Int) then ((formeref05_SameLists.f kj12 t532 (l0.take ((ji73) : Int).toNat)).bind fun t541 => (some t541)) else (none)) else (none)) = some r := by first | (rw [hji73] at H; exact H) | (simp only [hji73] at H ⊢; exact H)
               (try rw [hji73] at A70)
               have hji73w : (IntKind.i64.wrap ((l0.length : Int) - 1)) = ji73 := (i64_w _).trans hji73
               by_cases c74 : 0 ≤ (ji73)
               ·
                rw [if_pos c74] at H
                have c74b0 := eq_true c74
                have c74b1 : decide (0 ≤ (ji73)) = true := decide_eq_true c74
                clear c74
                by_cases c75 : (ji73) ≤ (l0.length : Int)
                ·
                 rw [if_pos c75] at H
                 have c75b0 := eq_true c75
                 have c75b1 : decide ((ji73) ≤ (l0.length : Int)) = true := decide_eq_true c75
                 clear c75
                 obtain ⟨y537, hy537⟩ : ∃ y_ : List (List Int), y_ = (l0.take ((ji73) : Int).toNat) := ⟨_, rfl⟩
                 replace H : ((formeref05_SameLists.f kj12 t532 y537).bind fun t541 => (some t541)) = some r := by first | (rw [hy537]; with_reducible exact H) | (have H2_ := (Option.bind_some _ _).symm.trans H; rw [hy537]; with_reducible exact H2_) | (have H2_ := (Option.bind_some _ _).symm.trans H; with_reducible exact H2_) | with_reducible exact H | (rw [hy537]; exact H) | exact H
                 have Ny537 := Aside0.mk hy537
                 clear hy537
                 replace H := Option.bind_eq_some_iff.mp H
                 obtain ⟨t541, A760, H⟩ := H
                 replace H : (some t541) = some r := H
                 have A76 := Aside0.mk A760
                 clear A760
                 obtain rfl := Option.some.inj H
                 obtain ⟨Ao77, co77, eo77⟩ := Kd.R_slice HO_9.out
                 subst eo77
                 go_wp2_with (first | ((with_reducible refine gate_dst (N := 54) rfl ?_); (try (refine gate_guard (by rfl) ?_; dsimp only)); refine Kd.R_lit (Kd.int .u8) _ 5 ?hg (N := 54) ?hd (xs := ([] : List Int)) (inner := []) (ok := fun _ => True) (okp := fun _ => True) ?hr ?hp (fun _ hk => hk) trivial (Below.refl _ _) (Nat.le_refl _) (by simp) ?_; (case hd => rfl); (case hg => rfl); (case hr => first | (go_simp; done) | (go_simp; rfl)); (case hp => exact (Reps.none _ _)); intro v525 w78 ho79 hb hg_ hnew_; clear hg_ hnew_; (first | rw [← Ny524.out] at ho79 | (simp only [Int.reduceToNat] at ho79; rw [← Ny524.out] at ho79)); have n0_ := Aside0.mk (Kd.R_elder' (by (with_reducible repeat (first | apply Kd.R_alloc | apply Kd.R_drewN | apply Kd.R_drew)); exact HO_8.out) (Kd.R_base ho79) hb); have n1_ := Aside0.mk (Kd.R_below (by (with_reducible repeat (first | apply Kd.R_alloc | apply Kd.R_drewN | apply Kd.R_drew)); exact HO_9.out) hb); have n2_ := Aside0.mk (Kd.R_lower (Kd.R_new' ho79 (Kd.R_lt (by (with_reducible repeat (first | apply Kd.R_alloc | apply Kd.R_drewN | apply Kd.R_drew)); exact HO_8.out))) (below_size (by repeat (first | (with_reducible first | exact HB.out | apply below_alloc | apply pw_below_drewN | apply below_drew1) | exact HB.out)))); have n3_ := Aside0.mk (below_step (by repeat (first | (with_reducible first | exact HB.out | apply below_alloc | apply pw_below_drewN | apply below_drew1) | exact HB.out)) hb); clear HO_8; clear HO_9; clear HB; have HO_8 := n0_; have HO_9 := n1_; have HO526 := n2_; have HB := n3_; clear n0_ n1_ n2_ n3_; clear hb ho79; obtain ⟨Ao81, co81, eo81⟩ := Kd.R_slice HO_8.out; subst eo81) | ((with_reducible refine gate_builtin (b := .append) (xs := #[.tmp 54, .tmp 55]) rfl ?_); (try (refine gate_guard (by rfl) ?_; dsimp only)); at_builtin; refine Kd.R_append_rows (Kd.int .u8) (w0 := w) w.heap.size rfl (.tmp 54) (.tmp 55) 23 5 (.int .u8 0) 1 rfl Try.underlying23 info5 rfl (by decide) (by omega) v525 y524 t498 _ _ _ (fun k_ => some k_ ≠ (.slice Ao81 t498.length co81 : Value).ownBlock) (fun _ => False) rfl rfl ?aO ?aR (fun _ _ h => h) (fun _ h => h.elim) ?aF ?aB ?aS ?aL ?_; (case aR => repeat (first | exact (Kd.R_reads' HO_8.out).2.2 | (with_reducible refine Kd.C_alloc ?_ _) | (with_reducible refine Kd.C_drewN ?_ _) | (with_reducible refine Kd.C_drew ?_))); (case aB => exact (by repeat (first | (with_reducible first | exact HB.out | apply below_alloc | apply pw_below_drewN | apply below_drew1) | exact HB.out))); (case aF => exact (fun k_ hk => Kd.fresh' (Kd.R_lt (by (with_reducible repeat (first | apply Kd.R_alloc | apply Kd.R_drewN | apply Kd.R_drew)); exact HO_8.out)) k_ hk)); (case aO => exact (by (with_reducible repeat (first | apply Kd.R_alloc | apply Kd.R_drewN | apply Kd.R_drew)); exact Kd.R_mono HO526.out (fun _ hk => hk.2))); (case aS => exact (below_size (by repeat (first | (with_reducible first | exact HB.out | apply below_alloc | apply pw_below_drewN | apply below_drew1) | exact HB.out)))); (case aL => have := LMc64.out; omega); intro v528 w80 ho hb hg hat; rw [← Ny527.out] at ho; have n0_ := Aside0.mk (Kd.R_after (ok := (fun _ => True)) (by (with_reducible repeat (first | apply Kd.R_alloc | apply Kd.R_drewN | apply Kd.R_drew)); exact HO_8.out) hg hat); have n1_ := Aside0.mk (Kd.R_over' (by (with_reducible repeat (first | apply Kd.R_alloc | apply Kd.R_drewN | apply Kd.R_drew)); exact HO_9.out) (Kd.R_typed (by (with_reducible repeat (first | apply Kd.R_alloc | apply Kd.R_drewN | apply Kd.R_drew)); exact HO526.out)) (by decide) hg); have n2_ := Aside0.mk (hb); have n3_ := Aside0.mk (ho); clear HO_8; clear HO_9; clear HB; clear HO526; have HO_8 := n0_; have HO_9 := n1_; have HB := n2_; have HO529 := n3_; clear n0_ n1_ n2_ n3_; clear ho hb hg hat; obtain ⟨Ao82, co82, eo82⟩ := Kd.R_slice HO529.out; subst eo82; have p530 : 0 ≤ ((ji66) : Int) := of_decide_eq_true (by first | (with_reducible assumption) | assumption); have q530 : (ji66) < (y527.length : Int) := of_decide_eq_true (by first | (with_reducible assumption) | assumption); obtain ⟨ad530, e530, hx530_0⟩ := Kd.at_int (Kd.R_reads' HO529.out).2.2 (ji66) p530 q530; cases e530; replace p530 := eq_true p530; replace q530 := eq_true q530; have p69 : 0 ≤ ((ji66) : Int) := of_decide_eq_true (by first | (with_reducible assumption) | assumption); have q69 : ((ji66) : Int) < ((y527.length : Int) : Int) := of_decide_eq_true (by first | (with_reducible assumption) | assumption); obtain ⟨go69, co69, eo69, gb69, gl69, cl69, HG69⟩ := Kd.R_form HO529.out (by omega); (first | cases eo69 | (injection eo69 with ea_ en_ ec_; (first | subst ea_ | (injection ea_ with ea_; subst ea_)); subst ec_; clear en_)); have GB69 := Aside0.mk gb69; have GG69 := Aside0.mk HG69; clear gb69 gl69 HG69; (first | simp only [add_plain] at hx530_0 | skip); obtain ⟨hx69_0, hf69_0⟩ := Kd.R_celln 0 HO529.out ((ji66) : Int) p69 q69; replace p69 := eq_true p69; replace q69 := eq_true q69; obtain ⟨hy83_, hz83_⟩ := Kd.R_celln 0 HO529.out ((ji66) : Int) (of_decide_eq_true (by first | (with_reducible assumption) | assumption)) (of_decide_eq_true (by first | (with_reducible assumption) | assumption)); have HP83 := Kd.R_putg HO529.out ((ji66) : Int) (Go.bits .xor .u8 (rd y527 (ji66)) a2)) | ((with_reducible refine gate_store (t := 5) (p := 73) rfl ?_); refine store_event (t := 5) (p := 73) (v := ?vo_w84) (w1 := (w80.setCell ⟨go69, ((ji66) : Int).toNat, none⟩ (.int .u8 (Go.bits .xor .u8 (rd y527 (ji66)) a2)))) ?hg ?ho ?hn ?hr ?_; (case ho => rfl); (case hg => rfl); (case hn => rfl); (case hr => first | (go_simp; done) | (go_simp; rfl)); intro w84 hw; have hg : w80.grownBy w84 (some go69) := (by rw [hw]; exact HP83.2); have hp_ : Kd.R (Kd.int .u8) 5 w84 w.heap.size (fun k_ => some k_ ≠ (.slice Ao81 t498.length co81 : Value).ownBlock) (.slice (some ⟨go69, 0, none⟩) y527.length co82) y531 := (by rw [hw, Ny531.out]; exact HP83.1); clear HP83; have n0_ := Aside0.mk (Kd.R_after (v := (.slice (some ⟨go69, 0, none⟩) y527.length co82)) (v1 := (.slice (some ⟨go69, 0, none⟩) y527.length co82)) (ok := (fun _ => True)) (by (with_reducible repeat (first | apply Kd.R_alloc | apply Kd.R_drewN | apply Kd.R_drew)); exact HO_8.out) hg (.inl rfl)); have n1_ := Aside0.mk (Kd.R_over' (v := (.slice (some ⟨go69, 0, none⟩) y527.length co82)) (by (with_reducible repeat (first | apply Kd.R_alloc | apply Kd.R_drewN | apply Kd.R_drew)); exact HO_9.out) (Kd.R_typed HO529.out) (by decide) hg); have n2_ := Aside0.mk (hp_); have n3_ := Aside0.mk ((by rw [hw]; exact below_set (HB.out) GB69.out : Below w.heap.size w w84)); clear HO_8; clear HO_9; clear HO529; clear HB; have HO_8 := n0_; have HO_9 := n1_; have HO529 := n2_; have HB := n3_; clear n0_ n1_ n2_ n3_; clear hg hw hp_) | ((with_reducible refine gate_callee (f := 23) rfl ?_); refine goesL_ (some 76) rfl rfl Try.func23 (by kernel_rfl) rfl #[.slice (some ⟨go69, 0, none⟩) y531.length co82] rfl (by (try simp only [List.map_toArray, List.map_cons, List.map_nil]); first | done | (rw [show y531.length = y527.length from (Kd.R_reads' HO529.out).1.symm] <;> rfl) | rfl | (simp only [List.length_drop, List.length_take]; rfl)) ?_; (with_reducible refine (codec_Frames.calls kj12 _ _ y531 t532 t533 t534 _ ?side1 ?side2 A70.out).mono ?_); (case side1 => repeat (first | exact (Kd.R_reads' HO529.out).2.2 | (with_reducible refine Kd.C_alloc ?_ _) | (with_reducible refine Kd.C_drewN ?_ _) | (with_reducible refine Kd.C_drew ?_))); (case side2 => rw [show y531.length = y527.length from (Kd.R_reads' HO529.out).1.symm]; exact (Kd.R_reads' HO529.out).2.1); rintro e w85 ⟨v535, rfl, ho0, hb⟩; refine ⟨_, rfl, ?_⟩; have n0_ := Aside0.mk (Kd.R_below (by (with_reducible repeat (first | apply Kd.R_alloc | apply Kd.R_drewN | apply Kd.R_drew)); exact HO_8.out) hb); have n1_ := Aside0.mk (Kd.R_below (by (with_reducible repeat (first | apply Kd.R_alloc | apply Kd.R_drewN | apply Kd.R_drew)); exact HO_9.out) hb); have n2_ := Aside0.mk (Kd.R_below (by (with_reducible repeat (first | apply Kd.R_alloc | apply Kd.R_drewN | apply Kd.R_drew)); exact HO529.out) hb); have n3_ := Aside0.mk (Kd.S_lower (Kd.S_new' ho0 (Kd.R_lt (by (with_reducible repeat (first | apply Kd.R_alloc | apply Kd.R_drewN | apply Kd.R_drew)); exact HO_9.out))) (below_size (by repeat (first | (with_reducible first | exact HB.out | apply below_alloc | apply pw_below_drewN | apply below_drew1) | exact HB.out)))); have n4_ := Aside0.mk (below_step (by repeat (first | (with_reducible first | exact HB.out | apply below_alloc | apply pw_below_drewN | apply below_drew1) | exact HB.out)) hb); clear HO_8; clear HO_9; clear HO529; clear HB; have HO_8 := n0_; have HO_9 := n1_; have HO529 := n2_; have HO536 := n3_; have HB := n4_; clear n0_ n1_ n2_ n3_ n4_; (try clear hb); (try clear hb2); (try clear hk); (try clear hi); (try clear ho0); have q86 : ((ji73) : Int) ≤ ((l0.length : Int) : Int) := of_decide_eq_true (by first | (with_reducible assumption) | assumption); obtain ⟨i086, hi086, _, hsz86, _⟩ := info_parts info22; have hroom86 : l0.length ≤ c0 := HC0.out; have hC86 : Kd.C (Kd.slice 3 (Kd.int .i64)) _ A0 l0.length l0 := HR0.out; have hcut86 := cut_to (P := Try.prog) 35 22 .i64 Try.underlying35 hi086 A0 l0.length c0 (ji73) (of_decide_eq_true (by first | (with_reducible assumption) | assumption)) q86 hroom86; have hr86 := Kd.C_take (m := ((ji73) : Int).toNat) hC86 (by omega); have hy86 : y537.length = ((ji73) : Int).toNat := (by rw [Ny537.out, List.length_take]; omega); rw [← Ny537.out] at hr86; rw [← hy86] at hcut86; have HR540 := Aside0.mk hr86; have HC540 := Aside0.mk (show y537.length ≤ c0 from by omega); clear hr86 hC86 hroom86 hi086 hsz86; have KY86 := Aside0.mk hy86; clear hy86; replace q86 := eq_true q86; obtain ⟨Ao87, co87, eo87⟩ := Kd.S_slice HO536.out; subst eo87) | (go_at_call 25; (with_reducible refine (formeref05_SameLists.calls kj12 _ _ t532 _ _ y537 t541 _ ?side1 ?side2 ?side3 ?side4 A76.out).mono ?_); (case side1 => repeat (first | exact (Kd.S_reads' HO536.out).2.2 | (with_reducible refine Kd.C_alloc ?_ _) | (with_reducible refine Kd.C_drewN ?_ _) | (with_reducible refine Kd.C_drew ?_))); (case side2 => exact (Kd.S_reads' HO536.out).2.1); (case side3 => repeat (first | exact (Kd.C_below HR540.out HB.out) | (with_reducible refine Kd.C_alloc ?_ _) | (with_reducible refine Kd.C_drewN ?_ _) | (with_reducible refine Kd.C_drew ?_))); (case side4 => exact HC540.out); rintro e w' ⟨rfl, ⟨nd, rfl⟩⟩))
                 go_ret
                 exact ⟨by first | rfl | (simp [errW_none, errW_some] <;> rfl) | (simp only [← hji66, ← hji73]; first | rfl | (simp [errW_none, errW_some] <;> rfl)) | (simp [*, errW_none, errW_some] <;> rfl), by repeat (first | (with_reducible first | exact HB.out | apply below_alloc | apply pw_below_drewN | apply below_drew1) | exact HB.out)⟩
                ·
                 rw [if_neg c75] at H
                 exact absurd H (by simp)
               ·
                rw [if_neg c74] at H
                exact absurd H (by simp)
              ·
               rw [if_neg c72] at H
               have c72b0 : (t533 == 0) = false := beq_eq_false_iff_ne.mpr c72
               have c72b1 : (t533 != 0) = true := bne_iff_ne.mpr c72
               obtain rfl := Option.some.inj H
               obtain ⟨Ao88, co88, eo88⟩ := Kd.R_slice HO_9.out
               subst eo88
               go_wp2_with (first | ((with_reducible refine gate_dst (N := 54) rfl ?_); (try (refine gate_guard (by rfl) ?_; dsimp only)); refine Kd.R_lit (Kd.int .u8) _ 5 ?hg (N := 54) ?hd (xs := ([] : List Int)) (inner := []) (ok := fun _ => True) (okp := fun _ => True) ?hr ?hp (fun _ hk => hk) trivial (Below.refl _ _) (Nat.le_refl _) (by simp) ?_; (case hd => rfl); (case hg => rfl); (case hr => first | (go_simp; done) | (go_simp; rfl)); (case hp => exact (Reps.none _ _)); intro v525 w89 ho90 hb hg_ hnew_; clear hg_ hnew_; (first | rw [← Ny524.out] at ho90 | (simp only [Int.reduceToNat] at ho90; rw [← Ny524.out] at ho90)); have n0_ := Aside0.mk (Kd.R_elder' (by (with_reducible repeat (first | apply Kd.R_alloc | apply Kd.R_drewN | apply Kd.R_drew)); exact HO_8.out) (Kd.R_base ho90) hb); have n1_ := Aside0.mk (Kd.R_below (by (with_reducible repeat (first | apply Kd.R_alloc | apply Kd.R_drewN | apply Kd.R_drew)); exact HO_9.out) hb); have n2_ := Aside0.mk (Kd.R_lower (Kd.R_new' ho90 (Kd.R_lt (by (with_reducible repeat (first | apply Kd.R_alloc | apply Kd.R_drewN | apply Kd.R_drew)); exact HO_8.out))) (below_size (by repeat (first | (with_reducible first | exact HB.out | apply below_alloc | apply pw_below_drewN | apply below_drew1) | exact HB.out)))); have n3_ := Aside0.mk (below_step (by repeat (first | (with_reducible first | exact HB.out | apply below_alloc | apply pw_below_drewN | apply below_drew1) | exact HB.out)) hb); clear HO_8; clear HO_9; clear HB; have HO_8 := n0_; have HO_9 := n1_; have HO526 := n2_; have HB := n3_; clear n0_ n1_ n2_ n3_; clear hb ho90; obtain ⟨Ao92, co92, eo92⟩ := Kd.R_slice HO_8.out; subst eo92) | ((with_reducible refine gate_builtin (b := .append) (xs := #[.tmp 54, .tmp 55]) rfl ?_); (try (refine gate_guard (by rfl) ?_; dsimp only)); at_builtin; refine Kd.R_append_rows (Kd.int .u8) (w0 := w) w.heap.size rfl (.tmp 54) (.tmp 55) 23 5 (.int .u8 0) 1 rfl Try.underlying23 info5 rfl (by decide) (by omega) v525 y524 t498 _ _ _ (fun k_ => some k_ ≠ (.slice Ao92 t498.length co92 : Value).ownBlock) (fun _ => False) rfl rfl ?aO ?aR (fun _ _ h => h) (fun _ h => h.elim) ?aF ?aB ?aS ?aL ?_; (case aR => repeat (first | exact (Kd.R_reads' HO_8.out).2.2 | (with_reducible refine Kd.C_alloc ?_ _) | (with_reducible refine Kd.C_drewN ?_ _) | (with_reducible refine Kd.C_drew ?_))); (case aB => exact (by repeat (first | (with_reducible first | exact HB.out | apply below_alloc | apply pw_below_drewN | apply below_drew1) | exact HB.out))); (case aF => exact (fun k_ hk => Kd.fresh' (Kd.R_lt (by (with_reducible repeat (first | apply Kd.R_alloc | apply Kd.R_drewN | apply Kd.R_drew)); exact HO_8.out)) k_ hk)); (case aO => exact (by (with_reducible repeat (first | apply Kd.R_alloc | apply Kd.R_drewN | apply Kd.R_drew)); exact Kd.R_mono HO526.out (fun _ hk => hk.2))); (case aS => exact (below_size (by repeat (first | (with_reducible first | exact HB.out | apply below_alloc | apply pw_below_drewN | apply below_drew1) | exact HB.out)))); (case aL => have := LMc64.out; omega); intro v528 w91 ho hb hg hat; rw [← Ny527.out] at ho; have n0_ := Aside0.mk (Kd.R_after (ok := (fun _ => True)) (by (with_reducible repeat (first | apply Kd.R_alloc | apply Kd.R_drewN | apply Kd.R_drew)); exact HO_8.out) hg hat); have n1_ := Aside0.mk (Kd.R_over' (by (with_reducible repeat (first | apply Kd.R_alloc | apply Kd.R_drewN | apply Kd.R_drew)); exact HO_9.out) (Kd.R_typed (by (with_reducible repeat (first | apply Kd.R_alloc | apply Kd.R_drewN | apply Kd.R_drew)); exact HO526.out)) (by decide) hg); have n2_ := Aside0.mk (hb); have n3_ := Aside0.mk (ho); clear HO_8; clear HO_9; clear HB; clear HO526; have HO_8 := n0_; have HO_9 := n1_; have HB := n2_; have HO529 := n3_; clear n0_ n1_ n2_ n3_; clear ho hb hg hat; obtain ⟨Ao93, co93, eo93⟩ := Kd.R_slice HO529.out; subst eo93; have p530 : 0 ≤ ((ji66) : Int) := of_decide_eq_true (by first | (with_reducible assumption) | assumption); have q530 : (ji66) < (y527.length : Int) := of_decide_eq_true (by first | (with_reducible assumption) | assumption); obtain ⟨ad530, e530, hx530_0⟩ := Kd.at_int (Kd.R_reads' HO529.out).2.2 (ji66) p530 q530; cases e530; replace p530 := eq_true p530; replace q530 := eq_true q530; have p69 : 0 ≤ ((ji66) : Int) := of_decide_eq_true (by first | (with_reducible assumption) | assumption); have q69 : ((ji66) : Int) < ((y527.length : Int) : Int) := of_decide_eq_true (by first | (with_reducible assumption) | assumption); obtain ⟨go69, co69, eo69, gb69, gl69, cl69, HG69⟩ := Kd.R_form HO529.out (by omega); (first | cases eo69 | (injection eo69 with ea_ en_ ec_; (first | subst ea_ | (injection ea_ with ea_; subst ea_)); subst ec_; clear en_)); have GB69 := Aside0.mk gb69; have GG69 := Aside0.mk HG69; clear gb69 gl69 HG69; (first | simp only [add_plain] at hx530_0 | skip); obtain ⟨hx69_0, hf69_0⟩ := Kd.R_celln 0 HO529.out ((ji66) : Int) p69 q69; replace p69 := eq_true p69; replace q69 := eq_true q69; obtain ⟨hy94_, hz94_⟩ := Kd.R_celln 0 HO529.out ((ji66) : Int) (of_decide_eq_true (by first | (with_reducible assumption) | assumption)) (of_decide_eq_true (by first | (with_reducible assumption) | assumption)); have HP94 := Kd.R_putg HO529.out ((ji66) : Int) (Go.bits .xor .u8 (rd y527 (ji66)) a2)) | ((with_reducible refine gate_store (t := 5) (p := 73) rfl ?_); refine store_event (t := 5) (p := 73) (v := ?vo_w95) (w1 := (w91.setCell ⟨go69, ((ji66) : Int).toNat, none⟩ (.int .u8 (Go.bits .xor .u8 (rd y527 (ji66)) a2)))) ?hg ?ho ?hn ?hr ?_; (case ho => rfl); (case hg => rfl); (case hn => rfl); (case hr => first | (go_simp; done) | (go_simp; rfl)); intro w95 hw; have hg : w91.grownBy w95 (some go69) := (by rw [hw]; exact HP94.2); have hp_ : Kd.R (Kd.int .u8) 5 w95 w.heap.size (fun k_ => some k_ ≠ (.slice Ao92 t498.length co92 : Value).ownBlock) (.slice (some ⟨go69, 0, none⟩) y527.length co93) y531 := (by rw [hw, Ny531.out]; exact HP94.1); clear HP94; have n0_ := Aside0.mk (Kd.R_after (v := (.slice (some ⟨go69, 0, none⟩) y527.length co93)) (v1 := (.slice (some ⟨go69, 0, none⟩) y527.length co93)) (ok := (fun _ => True)) (by (with_reducible repeat (first | apply Kd.R_alloc | apply Kd.R_drewN | apply Kd.R_drew)); exact HO_8.out) hg (.inl rfl)); have n1_ := Aside0.mk (Kd.R_over' (v := (.slice (some ⟨go69, 0, none⟩) y527.length co93)) (by (with_reducible repeat (first | apply Kd.R_alloc | apply Kd.R_drewN | apply Kd.R_drew)); exact HO_9.out) (Kd.R_typed HO529.out) (by decide) hg); have n2_ := Aside0.mk (hp_); have n3_ := Aside0.mk ((by rw [hw]; exact below_set (HB.out) GB69.out : Below w.heap.size w w95)); clear HO_8; clear HO_9; clear HO529; clear HB; have HO_8 := n0_; have HO_9 := n1_; have HO529 := n2_; have HB := n3_; clear n0_ n1_ n2_ n3_; clear hg hw hp_) | ((with_reducible refine gate_callee (f := 23) rfl ?_); refine goesL_ (some 76) rfl rfl Try.func23 (by kernel_rfl) rfl #[.slice (some ⟨go69, 0, none⟩) y531.length co93] rfl (by (try simp only [List.map_toArray, List.map_cons, List.map_nil]); first | done | (rw [show y531.length = y527.length from (Kd.R_reads' HO529.out).1.symm] <;> rfl) | rfl | (simp only [List.length_drop, List.length_take]; rfl)) ?_; (with_reducible refine (codec_Frames.calls kj12 _ _ y531 t532 t533 t534 _ ?side1 ?side2 A70.out).mono ?_); (case side1 => repeat (first | exact (Kd.R_reads' HO529.out).2.2 | (with_reducible refine Kd.C_alloc ?_ _) | (with_reducible refine Kd.C_drewN ?_ _) | (with_reducible refine Kd.C_drew ?_))); (case side2 => rw [show y531.length = y527.length from (Kd.R_reads' HO529.out).1.symm]; exact (Kd.R_reads' HO529.out).2.1); rintro e w96 ⟨v535, rfl, ho0, hb⟩; refine ⟨_, rfl, ?_⟩; have n0_ := Aside0.mk (Kd.R_below (by (with_reducible repeat (first | apply Kd.R_alloc | apply Kd.R_drewN | apply Kd.R_drew)); exact HO_8.out) hb); have n1_ := Aside0.mk (Kd.R_below (by (with_reducible repeat (first | apply Kd.R_alloc | apply Kd.R_drewN | apply Kd.R_drew)); exact HO_9.out) hb); have n2_ := Aside0.mk (Kd.R_below (by (with_reducible repeat (first | apply Kd.R_alloc | apply Kd.R_drewN | apply Kd.R_drew)); exact HO529.out) hb); have n3_ := Aside0.mk (Kd.S_lower (Kd.S_new' ho0 (Kd.R_lt (by (with_reducible repeat (first | apply Kd.R_alloc | apply Kd.R_drewN | apply Kd.R_drew)); exact HO_9.out))) (below_size (by repeat (first | (with_reducible first | exact HB.out | apply below_alloc | apply pw_below_drewN | apply below_drew1) | exact HB.out)))); have n4_ := Aside0.mk (below_step (by repeat (first | (with_reducible first | exact HB.out | apply below_alloc | apply pw_below_drewN | apply below_drew1) | exact HB.out)) hb); clear HO_8; clear HO_9; clear HO529; clear HB; have HO_8 := n0_; have HO_9 := n1_; have HO529 := n2_; have HO536 := n3_; have HB := n4_; clear n0_ n1_ n2_ n3_ n4_; (try clear hb); (try clear hb2); (try clear hk); (try clear hi); (try clear ho0)))
               go_ret
               exact ⟨by first | rfl | (simp [errW_none, errW_some] <;> rfl) | (simp only [← hji66]; first | rfl | (simp [errW_none, errW_some] <;> rfl)) | (simp [*, errW_none, errW_some] <;> rfl), by repeat (first | (with_reducible first | exact HB.out | apply below_alloc | apply pw_below_drewN | apply below_drew1) | exact HB.out)⟩
             ·
              rw [if_neg c71] at H
              have c71b0 : (t534 == 0) = false := beq_eq_false_iff_ne.mpr c71
              have c71b1 : (t534 != 0) = true := bne_iff_ne.mpr c71
              obtain rfl := Option.some.inj H
              obtain ⟨Ao97, co97, eo97⟩ := Kd.R_slice HO_9.out
              subst eo97
              go_wp2_with (first | ((with_reducible refine gate_dst (N := 54) rfl ?_); (try (refine gate_guard (by rfl) ?_; dsimp only)); refine Kd.R_lit (Kd.int .u8) _ 5 ?hg (N := 54) ?hd (xs := ([] : List Int)) (inner := []) (ok := fun _ => True) (okp := fun _ => True) ?hr ?hp (fun _ hk => hk) trivial (Below.refl _ _) (Nat.le_refl _) (by simp) ?_; (case hd => rfl); (case hg => rfl); (case hr => first | (go_simp; done) | (go_simp; rfl)); (case hp => exact (Reps.none _ _)); intro v525 w98 ho99 hb hg_ hnew_; clear hg_ hnew_; (first | rw [← Ny524.out] at ho99 | (simp only [Int.reduceToNat] at ho99; rw [← Ny524.out] at ho99)); have n0_ := Aside0.mk (Kd.R_elder' (by (with_reducible repeat (first | apply Kd.R_alloc | apply Kd.R_drewN | apply Kd.R_drew)); exact HO_8.out) (Kd.R_base ho99) hb); have n1_ := Aside0.mk (Kd.R_below (by (with_reducible repeat (first | apply Kd.R_alloc | apply Kd.R_drewN | apply Kd.R_drew)); exact HO_9.out) hb); have n2_ := Aside0.mk (Kd.R_lower (Kd.R_new' ho99 (Kd.R_lt (by (with_reducible repeat (first | apply Kd.R_alloc | apply Kd.R_drewN | apply Kd.R_drew)); exact HO_8.out))) (below_size (by repeat (first | (with_reducible first | exact HB.out | apply below_alloc | apply pw_below_drewN | apply below_drew1) | exact HB.out)))); have n3_ := Aside0.mk (below_step (by repeat (first | (with_reducible first | exact HB.out | apply below_alloc | apply pw_below_drewN | apply below_drew1) | exact HB.out)) hb); clear HO_8; clear HO_9; clear HB; have HO_8 := n0_; have HO_9 := n1_; have HO526 := n2_; have HB := n3_; clear n0_ n1_ n2_ n3_; clear hb ho99; obtain ⟨Ao101, co101, eo101⟩ := Kd.R_slice HO_8.out; subst eo101) | ((with_reducible refine gate_builtin (b := .append) (xs := #[.tmp 54, .tmp 55]) rfl ?_); (try (refine gate_guard (by rfl) ?_; dsimp only)); at_builtin; refine Kd.R_append_rows (Kd.int .u8) (w0 := w) w.heap.size rfl (.tmp 54) (.tmp 55) 23 5 (.int .u8 0) 1 rfl Try.underlying23 info5 rfl (by decide) (by omega) v525 y524 t498 _ _ _ (fun k_ => some k_ ≠ (.slice Ao101 t498.length co101 : Value).ownBlock) (fun _ => False) rfl rfl ?aO ?aR (fun _ _ h => h) (fun _ h => h.elim) ?aF ?aB ?aS ?aL ?_; (case aR => repeat (first | exact (Kd.R_reads' HO_8.out).2.2 | (with_reducible refine Kd.C_alloc ?_ _) | (with_reducible refine Kd.C_drewN ?_ _) | (with_reducible refine Kd.C_drew ?_))); (case aB => exact (by repeat (first | (with_reducible first | exact HB.out | apply below_alloc | apply pw_below_drewN | apply below_drew1) | exact HB.out))); (case aF => exact (fun k_ hk => Kd.fresh' (Kd.R_lt (by (with_reducible repeat (first | apply Kd.R_alloc | apply Kd.R_drewN | apply Kd.R_drew)); exact HO_8.out)) k_ hk)); (case aO => exact (by (with_reducible repeat (first | apply Kd.R_alloc | apply Kd.R_drewN | apply Kd.R_drew)); exact Kd.R_mono HO526.out (fun _ hk => hk.2))); (case aS => exact (below_size (by repeat (first | (with_reducible first | exact HB.out | apply below_alloc | apply pw_below_drewN | apply below_drew1) | exact HB.out)))); (case aL => have := LMc64.out; omega); intro v528 w100 ho hb hg hat; rw [← Ny527.out] at ho; have n0_ := Aside0.mk (Kd.R_after (ok := (fun _ => True)) (by (with_reducible repeat (first | apply Kd.R_alloc | apply Kd.R_drewN | apply Kd.R_drew)); exact HO_8.out) hg hat); have n1_ := Aside0.mk (Kd.R_over' (by (with_reducible repeat (first | apply Kd.R_alloc | apply Kd.R_drewN | apply Kd.R_drew)); exact HO_9.out) (Kd.R_typed (by (with_reducible repeat (first | apply Kd.R_alloc | apply Kd.R_drewN | apply Kd.R_drew)); exact HO526.out)) (by decide) hg); have n2_ := Aside0.mk (hb); have n3_ := Aside0.mk (ho); clear HO_8; clear HO_9; clear HB; clear HO526; have HO_8 := n0_; have HO_9 := n1_; have HB := n2_; have HO529 := n3_; clear n0_ n1_ n2_ n3_; clear ho hb hg hat; obtain ⟨Ao102, co102, eo102⟩ := Kd.R_slice HO529.out; subst eo102; have p530 : 0 ≤ ((ji66) : Int) := of_decide_eq_true (by first | (with_reducible assumption) | assumption); have q530 : (ji66) < (y527.length : Int) := of_decide_eq_true (by first | (with_reducible assumption) | assumption); obtain ⟨ad530, e530, hx530_0⟩ := Kd.at_int (Kd.R_reads' HO529.out).2.2 (ji66) p530 q530; cases e530; replace p530 := eq_true p530; replace q530 := eq_true q530; have p69 : 0 ≤ ((ji66) : Int) := of_decide_eq_true (by first | (with_reducible assumption) | assumption); have q69 : ((ji66) : Int) < ((y527.length : Int) : Int) := of_decide_eq_true (by first | (with_reducible assumption) | assumption); obtain ⟨go69, co69, eo69, gb69, gl69, cl69, HG69⟩ := Kd.R_form HO529.out (by omega); (first | cases eo69 | (injection eo69 with ea_ en_ ec_; (first | subst ea_ | (injection ea_ with ea_; subst ea_)); subst ec_; clear en_)); have GB69 := Aside0.mk gb69; have GG69 := Aside0.mk HG69; clear gb69 gl69 HG69; (first | simp only [add_plain] at hx530_0 | skip); obtain ⟨hx69_0, hf69_0⟩ := Kd.R_celln 0 HO529.out ((ji66) : Int) p69 q69; replace p69 := eq_true p69; replace q69 := eq_true q69; obtain ⟨hy103_, hz103_⟩ := Kd.R_celln 0 HO529.out ((ji66) : Int) (of_decide_eq_true (by first | (with_reducible assumption) | assumption)) (of_decide_eq_true (by first | (with_reducible assumption) | assumption)); have HP103 := Kd.R_putg HO529.out ((ji66) : Int) (Go.bits .xor .u8 (rd y527 (ji66)) a2)) | ((with_reducible refine gate_store (t := 5) (p := 73) rfl ?_); refine store_event (t := 5) (p := 73) (v := ?vo_w104) (w1 := (w100.setCell ⟨go69, ((ji66) : Int).toNat, none⟩ (.int .u8 (Go.bits .xor .u8 (rd y527 (ji66)) a2)))) ?hg ?ho ?hn ?hr ?_; (case ho => rfl); (case hg => rfl); (case hn => rfl); (case hr => first | (go_simp; done) | (go_simp; rfl)); intro w104 hw; have hg : w100.grownBy w104 (some go69) := (by rw [hw]; exact HP103.2); have hp_ : Kd.R (Kd.int .u8) 5 w104 w.heap.size (fun k_ => some k_ ≠ (.slice Ao101 t498.length co101 : Value).ownBlock) (.slice (some ⟨go69, 0, none⟩) y527.length co102) y531 := (by rw [hw, Ny531.out]; exact HP103.1); clear HP103; have n0_ := Aside0.mk (Kd.R_after (v := (.slice (some ⟨go69, 0, none⟩) y527.length co102)) (v1 := (.slice (some ⟨go69, 0, none⟩) y527.length co102)) (ok := (fun _ => True)) (by (with_reducible repeat (first | apply Kd.R_alloc | apply Kd.R_drewN | apply Kd.R_drew)); exact HO_8.out) hg (.inl rfl)); have n1_ := Aside0.mk (Kd.R_over' (v := (.slice (some ⟨go69, 0, none⟩) y527.length co102)) (by (with_reducible repeat (first | apply Kd.R_alloc | apply Kd.R_drewN | apply Kd.R_drew)); exact HO_9.out) (Kd.R_typed HO529.out) (by decide) hg); have n2_ := Aside0.mk (hp_); have n3_ := Aside0.mk ((by rw [hw]; exact below_set (HB.out) GB69.out : Below w.heap.size w w104)); clear HO_8; clear HO_9; clear HO529; clear HB; have HO_8 := n0_; have HO_9 := n1_; have HO529 := n2_; have HB := n3_; clear n0_ n1_ n2_ n3_; clear hg hw hp_) | ((with_reducible refine gate_callee (f := 23) rfl ?_); refine goesL_ (some 76) rfl rfl Try.func23 (by kernel_rfl) rfl #[.slice (some ⟨go69, 0, none⟩) y531.length co102] rfl (by (try simp only [List.map_toArray, List.map_cons, List.map_nil]); first | done | (rw [show y531.length = y527.length from (Kd.R_reads' HO529.out).1.symm] <;> rfl) | rfl | (simp only [List.length_drop, List.length_take]; rfl)) ?_; (with_reducible refine (codec_Frames.calls kj12 _ _ y531 t532 t533 t534 _ ?side1 ?side2 A70.out).mono ?_); (case side1 => repeat (first | exact (Kd.R_reads' HO529.out).2.2 | (with_reducible refine Kd.C_alloc ?_ _) | (with_reducible refine Kd.C_drewN ?_ _) | (with_reducible refine Kd.C_drew ?_))); (case side2 => rw [show y531.length = y527.length from (Kd.R_reads' HO529.out).1.symm]; exact (Kd.R_reads' HO529.out).2.1); rintro e w105 ⟨v535, rfl, ho0, hb⟩; refine ⟨_, rfl, ?_⟩; have n0_ := Aside0.mk (Kd.R_below (by (with_reducible repeat (first | apply Kd.R_alloc | apply Kd.R_drewN | apply Kd.R_drew)); exact HO_8.out) hb); have n1_ := Aside0.mk (Kd.R_below (by (with_reducible repeat (first | apply Kd.R_alloc | apply Kd.R_drewN | apply Kd.R_drew)); exact HO_9.out) hb); have n2_ := Aside0.mk (Kd.R_below (by (with_reducible repeat (first | apply Kd.R_alloc | apply Kd.R_drewN | apply Kd.R_drew)); exact HO529.out) hb); have n3_ := Aside0.mk (Kd.S_lower (Kd.S_new' ho0 (Kd.R_lt (by (with_reducible repeat (first | apply Kd.R_alloc | apply Kd.R_drewN | apply Kd.R_drew)); exact HO_9.out))) (below_size (by repeat (first | (with_reducible first | exact HB.out | apply below_alloc | apply pw_below_drewN | apply below_drew1) | exact HB.out)))); have n4_ := Aside0.mk (below_step (by repeat (first | (with_reducible first | exact HB.out | apply below_alloc | apply pw_below_drewN | apply below_drew1) | exact HB.out)) hb); clear HO_8; clear HO_9; clear HO529; clear HB; have HO_8 := n0_; have HO_9 := n1_; have HO529 := n2_; have HO536 := n3_; have HB := n4_; clear n0_ n1_ n2_ n3_ n4_; (try clear hb); (try clear hb2); (try clear hk); (try clear hi); (try clear ho0)))
              go_ret
              exact ⟨by first | rfl | (simp [errW_none, errW_some] <;> rfl) | (simp only [← hji66]; first | rfl | (simp [errW_none, errW_some] <;> rfl)) | (simp [*, errW_none, errW_some] <;> rfl), by repeat (first | (with_reducible first | exact HB.out | apply below_alloc | apply pw_below_drewN | apply below_drew1) | exact HB.out)⟩
            ·
             rw [if_neg c68] at H
             exact absurd H (by simp)
           ·
            rw [if_neg c67] at H
            exact absurd H (by simp)
         ·
          rw [if_neg c64] at H
          exact absurd H (by simp)
 ·
  replace c5 := Bool.eq_false_iff.mpr c5
  subst c5
  have H1 : (none) = some r := by rw [if_neg (show ¬ (false = true) by decide)] at H; exact H
  clear H
  have H := H1
  clear H1
  exact absurd H (by simp)

end Go.Proofs.Ytpggngomdemdgaa.P
