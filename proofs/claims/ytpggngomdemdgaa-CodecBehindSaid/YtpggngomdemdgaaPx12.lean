-- Laid by a program of this session (wip/fam.sh) over the kit's words: Lean checks it.
import Derived.Test.YtpggngomdemdgaaPx0
import Derived.Test.YtpggngomdemdgaaPx2
import Derived.Test.YtpggngomdemdgaaPx6
import Derived.Test.YtpggngomdemdgaaPx7
namespace Go.Proofs.Ytpggngomdemdgaa.P
open Go.RowKit Go.Proofs.YtpggngomdemdgaaW.PrintWords Go.Proofs.YtpggngomdemdgaaW.PrintLast Go.Proofs.YtpggngomdemdgaaW.PrintMore
attribute [local go_sem] max2_int min2_int max_two min_two max_three min_three max_four min_four   -- for this text's walks alone
set_option linter.unusedVariables false
set_option linter.unusedSimpArgs false

/-! ### formelaw05_CodecBehind: function 7 -/
mutual
def formelaw05_CodecBehind.j0 : Nat → List (List Int) → List Int → Bool → Bool → Option (Bool)
 | 0, _, _, _, _ => none
 | k + 1, x0, x1, x5, x23 => if x23 = true then (some x5) else ((formelaw05_frames.f k x0).bind fun bt460 => (if bt460.2.2 = true then ((some (([] : List Int) : List Int)).bind fun y467 => (if y467.length + bt460.1.length < 140737488355328 then ((some (y467 ++ bt460.1 : List Int)).bind fun y470 => (if y470.length + x1.length < 140737488355328 then ((codec_Frames.f k (y470 ++ x1)).bind fun bt476 => ((codec_Frames.f k x1).bind fun bt481 => (if bt476.2.2 = 0 then (if bt481.2.2 = 0 then (if (bt476.1.length : Int) = (wrap64 ((x0.length : Int) + (bt481.1.length : Int))) then (formelaw05_CodecBehind.j1 k x0 x5 bt476.1 bt481.1 (bt476.2.1 != (wrap64 ((bt460.1.length : Int) + bt481.2.1)))) else (formelaw05_CodecBehind.j1 k x0 x5 bt476.1 bt481.1 true)) else (formelaw05_CodecBehind.j1 k x0 x5 bt476.1 bt481.1 true)) else (formelaw05_CodecBehind.j1 k x0 x5 bt476.1 bt481.1 true)))) else (none))) else (none))) else (some false)))
def formelaw05_CodecBehind.j1 : Nat → List (List Int) → Bool → List (List Int) → List (List Int) → Bool → Option (Bool)
 | 0, _, _, _, _, _ => none
 | k + 1, x0, x5, x9, x12, x72 => if x72 = true then (some false) else (if x5 = true then (if 0 ≤ (x0.length : Int) then (if (x0.length : Int) ≤ (x9.length : Int) then ((formeref05_SameLists.f k (x9.take ((x0.length : Int) : Int).toNat) x0).bind fun t490 => (if t490 = true then ((formeref05_SameLists.f k (x9.drop ((x0.length : Int) : Int).toNat) x12).bind fun t495 => (some t495)) else (some false))) else (none)) else (none)) else (some false))
end
def formelaw05_CodecBehind.f (k : Nat) (l0 : List (List Int)) (l1 : List Int) : Option (Bool) := (formelaw05_head.f k).bind fun t458 => (if t458 = true then ((formelaw05_small.f k l0).bind fun t459 => (if t459 = true then (formelaw05_CodecBehind.j0 k l0 l1 true (decide ((l1.length : Int) > 1000))) else (formelaw05_CodecBehind.j0 k l0 l1 true true))) else (none))
theorem formelaw05_CodecBehind.mono_l : ∀ k, (∀ y0 y1 y2 y3, LeO (formelaw05_CodecBehind.j0 k y0 y1 y2 y3) (formelaw05_CodecBehind.j0 (k + 1) y0 y1 y2 y3)) ∧ (∀ y0 y1 y2 y3 y4, LeO (formelaw05_CodecBehind.j1 k y0 y1 y2 y3 y4) (formelaw05_CodecBehind.j1 (k + 1) y0 y1 y2 y3 y4))
 | 0 => ⟨fun _ _ _ _ r h => by simp [formelaw05_CodecBehind.j0] at h, fun _ _ _ _ _ r h => by simp [formelaw05_CodecBehind.j1] at h⟩
 | k + 1 => by
  obtain ⟨ih0, ih1⟩ := formelaw05_CodecBehind.mono_l k
  refine ⟨?_, ?_⟩
  ·
   intro y0 y1 y2 y3
   unfold formelaw05_CodecBehind.j0
   repeat' first
   | (with_reducible exact ih0 _ _ _ _)
   | (with_reducible exact ih1 _ _ _ _ _)
   | (with_reducible exact codec_Frames.mono _ _)
   | (with_reducible exact formelaw05_frames.mono _ _)
   | (with_reducible exact formelaw05_head.mono _)
   | (with_reducible exact formelaw05_small.mono _ _)
   | (with_reducible exact formeref05_SameLists.mono _ _ _)
   | (with_reducible exact LeO.refl _)
   | (with_reducible exact LeO.none _)
   | (with_reducible refine LeO.ite ?_ ?_)
   | (with_reducible refine LeO.bind ?_ (fun _ => ?_))
   | exact ih0 _ _ _ _
   | exact ih1 _ _ _ _ _
   | exact codec_Frames.mono _ _
   | exact formelaw05_frames.mono _ _
   | exact formelaw05_head.mono _
   | exact formelaw05_small.mono _ _
   | exact formeref05_SameLists.mono _ _ _
   | exact LeO.none _
   | refine LeO.ite ?_ ?_
   | refine LeO.bind ?_ (fun _ => ?_)
  ·
   intro y0 y1 y2 y3 y4
   unfold formelaw05_CodecBehind.j1
   repeat' first
   | (with_reducible exact ih0 _ _ _ _)
   | (with_reducible exact ih1 _ _ _ _ _)
   | (with_reducible exact codec_Frames.mono _ _)
   | (with_reducible exact formelaw05_frames.mono _ _)
   | (with_reducible exact formelaw05_head.mono _)
   | (with_reducible exact formelaw05_small.mono _ _)
   | (with_reducible exact formeref05_SameLists.mono _ _ _)
   | (with_reducible exact LeO.refl _)
   | (with_reducible exact LeO.none _)
   | (with_reducible refine LeO.ite ?_ ?_)
   | (with_reducible refine LeO.bind ?_ (fun _ => ?_))
   | exact ih0 _ _ _ _
   | exact ih1 _ _ _ _ _
   | exact codec_Frames.mono _ _
   | exact formelaw05_frames.mono _ _
   | exact formelaw05_head.mono _
   | exact formelaw05_small.mono _ _
   | exact formeref05_SameLists.mono _ _ _
   | exact LeO.none _
   | refine LeO.ite ?_ ?_
   | refine LeO.bind ?_ (fun _ => ?_)
theorem formelaw05_CodecBehind.mono : ∀ a0 a1 k, LeO (formelaw05_CodecBehind.f k a0 a1) (formelaw05_CodecBehind.f (k + 1) a0 a1) := by
 intro a0 a1 k
 obtain ⟨ih0, ih1⟩ := formelaw05_CodecBehind.mono_l k
 unfold formelaw05_CodecBehind.f
 repeat' first
   | (with_reducible exact ih0 _ _ _ _)
   | (with_reducible exact ih1 _ _ _ _ _)
   | (with_reducible exact codec_Frames.mono _ _)
   | (with_reducible exact formelaw05_frames.mono _ _)
   | (with_reducible exact formelaw05_head.mono _)
   | (with_reducible exact formelaw05_small.mono _ _)
   | (with_reducible exact formeref05_SameLists.mono _ _ _)
   | (with_reducible exact LeO.refl _)
   | (with_reducible exact LeO.none _)
   | (with_reducible refine LeO.ite ?_ ?_)
   | (with_reducible refine LeO.bind ?_ (fun _ => ?_))
   | exact ih0 _ _ _ _
   | exact ih1 _ _ _ _ _
   | exact codec_Frames.mono _ _
   | exact formelaw05_frames.mono _ _
   | exact formelaw05_head.mono _
   | exact formelaw05_small.mono _ _
   | exact formeref05_SameLists.mono _ _ _
   | exact LeO.none _
   | refine LeO.ite ?_ ?_
   | refine LeO.bind ?_ (fun _ => ?_)
set_option maxHeartbeats 8000000 in
set_option maxRecDepth 100000 in
theorem formelaw05_CodecBehind.calls (k : Nat) (A0 : Option Addr) (c0 : Nat) (l0 : List (List Int)) (A1 : Option Addr) (c1 : Nat) (l1 : List Int) (r : Bool) (w : World) (hr0 : Kd.C (Kd.slice 3 (Kd.int .i64)) w A0 l0.length l0) (hc0 : l0.length ≤ c0) (hr1 : Kd.C (Kd.int .u8) w A1 l1.length l1) (hc1 : l1.length ≤ c1) (h : formelaw05_CodecBehind.f k l0 l1 = some r) :
  Calls Try.prog 7 #[.slice A0 l0.length c0, .slice A1 l1.length c1] w fun e w' => e = .returned (.bool r) ∧ Below w.heap.size w w' := by
 have HR0 := Aside0.mk hr0
 have HC0 := Aside0.mk hc0
 clear hr0 hc0
 have HR1 := Aside0.mk hr1
 have HC1 := Aside0.mk hc1
 clear hr1 hc1
 have HB := Aside0.mk (Below.refl w.heap.size w)
 have H : ((formelaw05_head.f k).bind fun t458 => (if t458 = true then ((formelaw05_small.f k l0).bind fun t459 => (if t459 = true then (formelaw05_CodecBehind.j0 k l0 l1 true (decide ((l1.length : Int) > 1000))) else (formelaw05_CodecBehind.j0 k l0 l1 true true))) else (none))) = some r := h
 clear h
 replace H := Option.bind_eq_some_iff.mp H
 obtain ⟨t458, A30, H⟩ := H
 replace H : (if t458 = true then ((formelaw05_small.f k l0).bind fun t459 => (if t459 = true then (formelaw05_CodecBehind.j0 k l0 l1 true (decide ((l1.length : Int) > 1000))) else (formelaw05_CodecBehind.j0 k l0 l1 true true))) else (none)) = some r := H
 have A3 := Aside0.mk A30
 clear A30
 by_cases c4 : t458 = true
 ·
  subst c4
  have H1 : ((formelaw05_small.f k l0).bind fun t459 => (if t459 = true then (formelaw05_CodecBehind.j0 k l0 l1 true (decide ((l1.length : Int) > 1000))) else (formelaw05_CodecBehind.j0 k l0 l1 true true))) = some r := by rw [if_pos rfl] at H; exact H
  clear H
  have H := H1
  clear H1
  have HC5 := Aside0.mk H
  clear H
  go_enter Try.func7, Try.ntmps7
  go_upto_region 2 with (first | ((with_reducible refine gate_callee (f := 10) rfl ?_); refine goesL_ (some 15) rfl rfl Try.func10 (by kernel_rfl) rfl #[] rfl (by (try simp only [List.map_toArray, List.map_cons, List.map_nil]); first | done | rfl | (simp only [List.length_drop, List.length_take]; rfl)) ?_; (with_reducible refine (formelaw05_head.calls k  true _ A3.out).mono ?_); rintro e w6 ⟨rfl, hb⟩; refine ⟨_, rfl, ?_⟩; have n0_ := Aside0.mk (below_step (by repeat (first | (with_reducible first | exact HB.out | apply below_alloc | apply pw_below_drewN | apply below_drew1) | exact HB.out)) hb); clear HB; have HB := n0_; clear n0_; (try clear hb); (try clear hb2); (try clear hk); (try clear hi)))
  (try simp only [Act.put, List.setIfInBounds_toArray, List.set_cons_zero, List.set_cons_succ])
  go_cut [23] (fun v23 wc => ∃ (kq : Nat) (x23_4 : Bool), v23 = .bool x23_4 ∧ Aside0 (formelaw05_CodecBehind.j0 kq l0 l1 true x23_4 = some r) ∧ Aside0 (kq ≤ k) ∧ Aside0 (Below w.heap.size w wc))
  case first =>
   have H := HC5.out
   clear HC5
   replace H := Option.bind_eq_some_iff.mp H
   obtain ⟨t459, A70, H⟩ := H
   replace H : (if t459 = true then (formelaw05_CodecBehind.j0 k l0 l1 true (decide ((l1.length : Int) > 1000))) else (formelaw05_CodecBehind.j0 k l0 l1 true true)) = some r := H
   have A7 := Aside0.mk A70
   clear A70
   by_cases c8 : t459 = true
   ·
    subst c8
    have H1 : (formelaw05_CodecBehind.j0 k l0 l1 true (decide ((l1.length : Int) > 1000))) = some r := by rw [if_pos rfl] at H; exact H
    clear H
    have H := H1
    clear H1
    have H' := Aside0.mk H
    clear H
    go_wp2_with (first | ((with_reducible refine gate_callee (f := 26) rfl ?_); refine goesL_ (some 17) rfl rfl Try.func26 (by kernel_rfl) rfl #[.slice A0 l0.length c0] rfl (by (try simp only [List.map_toArray, List.map_cons, List.map_nil]); first | done | rfl | (simp only [List.length_drop, List.length_take]; rfl)) ?_; (with_reducible refine (formelaw05_small.calls k _ _ l0 true _ ?side1 ?side2 A7.out).mono ?_); (case side1 => repeat (first | exact (Kd.C_below HR0.out HB.out) | (with_reducible refine Kd.C_alloc ?_ _) | (with_reducible refine Kd.C_drewN ?_ _) | (with_reducible refine Kd.C_drew ?_))); (case side2 => exact HC0.out); rintro e w' ⟨rfl, ⟨nd, rfl⟩⟩; refine ⟨_, rfl, ?_⟩))
    go_meet
    case rel => exact ⟨_, (decide ((l1.length : Int) > 1000)), (by first | rfl | (simp; done) | (simp [*]; done)), H', ⟨by first | omega | exact Nat.le_refl _⟩, ⟨by repeat (first | (with_reducible first | exact HB.out | apply below_alloc | apply pw_below_drewN | apply below_drew1) | exact HB.out)⟩⟩
   ·
    replace c8 := Bool.eq_false_iff.mpr c8
    subst c8
    have H1 : (formelaw05_CodecBehind.j0 k l0 l1 true true) = some r := by rw [if_neg (show ¬ (false = true) by decide)] at H; exact H
    clear H
    have H := H1
    clear H1
    have H' := Aside0.mk H
    clear H
    go_wp2_with (first | ((with_reducible refine gate_callee (f := 26) rfl ?_); refine goesL_ (some 17) rfl rfl Try.func26 (by kernel_rfl) rfl #[.slice A0 l0.length c0] rfl (by (try simp only [List.map_toArray, List.map_cons, List.map_nil]); first | done | rfl | (simp only [List.length_drop, List.length_take]; rfl)) ?_; (with_reducible refine (formelaw05_small.calls k _ _ l0 false _ ?side1 ?side2 A7.out).mono ?_); (case side1 => repeat (first | exact (Kd.C_below HR0.out HB.out) | (with_reducible refine Kd.C_alloc ?_ _) | (with_reducible refine Kd.C_drewN ?_ _) | (with_reducible refine Kd.C_drew ?_))); (case side2 => exact HC0.out); rintro e w' ⟨rfl, ⟨nd, rfl⟩⟩; refine ⟨_, rfl, ?_⟩))
    go_meet
    case rel => exact ⟨_, (true), (by first | rfl | (simp; done) | (simp [*]; done)), H', ⟨by first | omega | exact Nat.le_refl _⟩, ⟨by repeat (first | (with_reducible first | exact HB.out | apply below_alloc | apply pw_below_drewN | apply below_drew1) | exact HB.out)⟩⟩
  case rest =>
   clear HC5
   try clear c1
   try clear c2
   try clear p2
   try clear c4
   try clear c7
   try clear c8
   obtain ⟨kq, x23_4, rfl, HA, HJ4, HB⟩ := hcut
   cases kq with
   | zero => exact absurd HA.out (by simp [formelaw05_CodecBehind.j0])
   | succ kj4 =>
    have H := HA.out
    clear HA
    simp only [formelaw05_CodecBehind.j0] at H
    by_cases c9 : x23_4 = true
    ·
     subst c9
     have H1 : (some true) = some r := by rw [if_pos rfl] at H; exact H
     clear H
     have H := H1
     clear H1
     obtain rfl := Option.some.inj H
     go_wp2
     go_ret
     exact ⟨by first | rfl | (simp [errW_none, errW_some] <;> rfl) | (simp [*, errW_none, errW_some] <;> rfl), by repeat (first | (with_reducible first | exact HB.out | apply below_alloc | apply pw_below_drewN | apply below_drew1) | exact HB.out)⟩
    ·
     replace c9 := Bool.eq_false_iff.mpr c9
     subst c9
     have H1 : ((formelaw05_frames.f kj4 l0).bind fun bt460 => (if bt460.2.2 = true then ((some (([] : List Int) : List Int)).bind fun y467 => (if y467.length + bt460.1.length < 140737488355328 then ((some (y467 ++ bt460.1 : List Int)).bind fun y470 => (if y470.length + l1.length < 140737488355328 then ((codec_Frames.f kj4 (y470 ++ l1)).bind fun bt476 => ((codec_Frames.f kj4 l1).bind fun bt481 => (if bt476.2.2 = 0 then (if bt481.2.2 = 0 then (if (bt476.1.length : Int) = (wrap64 ((l0.length : Int) + (bt481.1.length : Int))) then (formelaw05_CodecBehind.j1 kj4 l0 true bt476.1 bt481.1 (bt476.2.1 != (wrap64 ((bt460.1.length : Int) + bt481.2.1)))) else (formelaw05_CodecBehind.j1 kj4 l0 true bt476.1 bt481.1 true)) else (formelaw05_CodecBehind.j1 kj4 l0 true bt476.1 bt481.1 true)) else (formelaw05_CodecBehind.j1 kj4 l0 true bt476.1 bt481.1 true)))) else (none))) else (none))) else (some false))) = some r := by rw [if_neg (show ¬ (false = true) by decide)] at H; exact H
     clear H
     have H := H1
     clear H1
     replace H := Option.bind_eq_some_iff.mp H
     obtain ⟨⟨t460, t461, t462⟩, A100, H⟩ := H
     replace H : (if t462 = true then ((some (([] : List Int) : List Int)).bind fun y467 => (if y467.length + t460.length < 140737488355328 then ((some (y467 ++ t460 : List Int)).bind fun y470 => (if y470.length + l1.length < 140737488355328 then ((codec_Frames.f kj4 (y470 ++ l1)).bind fun bt476 => ((codec_Frames.f kj4 l1).bind fun bt481 => (if bt476.2.2 = 0 then (if bt481.2.2 = 0 then (if (bt476.1.length : Int) = (wrap64 ((l0.length : Int) + (bt481.1.length : Int))) then (formelaw05_CodecBehind.j1 kj4 l0 true bt476.1 bt481.1 (bt476.2.1 != (wrap64 ((t460.length : Int) + bt481.2.1)))) else (formelaw05_CodecBehind.j1 kj4 l0 true bt476.1 bt481.1 true)) else (formelaw05_CodecBehind.j1 kj4 l0 true bt476.1 bt481.1 true)) else (formelaw05_CodecBehind.j1 kj4 l0 true bt476.1 bt481.1 true)))) else (none))) else (none))) else (some false)) = some r := H
     have A10 := Aside0.mk A100
     clear A100
     by_cases c11 : t462 = true
     ·
      subst c11
      have H1 : ((some (([] : List Int) : List Int)).bind fun y467 => (if y467.length + t460.length < 140737488355328 then ((some (y467 ++ t460 : List Int)).bind fun y470 => (if y470.length + l1.length < 140737488355328 then ((codec_Frames.f kj4 (y470 ++ l1)).bind fun bt476 => ((codec_Frames.f kj4 l1).bind fun bt481 => (if bt476.2.2 = 0 then (if bt481.2.2 = 0 then (if (bt476.1.length : Int) = (wrap64 ((l0.length : Int) + (bt481.1.length : Int))) then (formelaw05_CodecBehind.j1 kj4 l0 true bt476.1 bt481.1 (bt476.2.1 != (wrap64 ((t460.length : Int) + bt481.2.1)))) else (formelaw05_CodecBehind.j1 kj4 l0 true bt476.1 bt481.1 true)) else (formelaw05_CodecBehind.j1 kj4 l0 true bt476.1 bt481.1 true)) else (formelaw05_CodecBehind.j1 kj4 l0 true bt476.1 bt481.1 true)))) else (none))) else (none))) = some r := by rw [if_pos rfl] at H; exact H
      clear H
      have H := H1
      clear H1
      obtain ⟨y467, hy467⟩ : ∃ y_ : List Int, y_ = (([] : List Int)) := ⟨_, rfl⟩
      replace H : (if y467.length + t460.length < 140737488355328 then ((some (y467 ++ t460 : List Int)).bind fun y470 => (if y470.length + l1.length < 140737488355328 then ((codec_Frames.f kj4 (y470 ++ l1)).bind fun bt476 => ((codec_Frames.f kj4 l1).bind fun bt481 => (if bt476.2.2 = 0 then (if bt481.2.2 = 0 then (if (bt476.1.length : Int) = (wrap64 ((l0.length : Int) + (bt481.1.length : Int))) then (formelaw05_CodecBehind.j1 kj4 l0 true bt476.1 bt481.1 (bt476.2.1 != (wrap64 ((t460.length : Int) + bt481.2.1)))) else (formelaw05_CodecBehind.j1 kj4 l0 true bt476.1 bt481.1 true)) else (formelaw05_CodecBehind.j1 kj4 l0 true bt476.1 bt481.1 true)) else (formelaw05_CodecBehind.j1 kj4 l0 true bt476.1 bt481.1 true)))) else (none))) else (none)) = some r := by first | (rw [hy467]; with_reducible exact H) | (have H2_ := (Option.bind_some _ _).symm.trans H; rw [hy467]; with_reducible exact H2_) | (have H2_ := (Option.bind_some _ _).symm.trans H; with_reducible exact H2_) | with_reducible exact H | (rw [hy467]; exact H) | exact H
      have Ny467 := Aside0.mk hy467
      clear hy467
      by_cases c12 : y467.length + t460.length < 140737488355328
      ·
       rw [if_pos c12] at H
       have LMc12 := Aside0.mk c12
       clear c12
       obtain ⟨y470, hy470⟩ : ∃ y_ : List Int, y_ = (y467 ++ t460) := ⟨_, rfl⟩
       replace H : (if y470.length + l1.length < 140737488355328 then ((codec_Frames.f kj4 (y470 ++ l1)).bind fun bt476 => ((codec_Frames.f kj4 l1).bind fun bt481 => (if bt476.2.2 = 0 then (if bt481.2.2 = 0 then (if (bt476.1.length : Int) = (wrap64 ((l0.length : Int) + (bt481.1.length : Int))) then (formelaw05_CodecBehind.j1 kj4 l0 true bt476.1 bt481.1 (bt476.2.1 != (wrap64 ((t460.length : Int) + bt481.2.1)))) else (formelaw05_CodecBehind.j1 kj4 l0 true bt476.1 bt481.1 true)) else (formelaw05_CodecBehind.j1 kj4 l0 true bt476.1 bt481.1 true)) else (formelaw05_CodecBehind.j1 kj4 l0 true bt476.1 bt481.1 true)))) else (none)) = some r := by first | (rw [hy470]; with_reducible exact H) | (have H2_ := (Option.bind_some _ _).symm.trans H; rw [hy470]; with_reducible exact H2_) | (have H2_ := (Option.bind_some _ _).symm.trans H; with_reducible exact H2_) | with_reducible exact H | (rw [hy470]; exact H) | exact H
       have Ny470 := Aside0.mk hy470
       clear hy470
       by_cases c13 : y470.length + l1.length < 140737488355328
       ·
        rw [if_pos c13] at H
        have LMc13 := Aside0.mk c13
        clear c13
        obtain ⟨y473, hy473⟩ : ∃ y_ : List Int, y_ = (y470 ++ l1) := ⟨_, rfl⟩
        replace H : ((codec_Frames.f kj4 y473).bind fun bt476 => ((codec_Frames.f kj4 l1).bind fun bt481 => (if bt476.2.2 = 0 then (if bt481.2.2 = 0 then (if (bt476.1.length : Int) = (wrap64 ((l0.length : Int) + (bt481.1.length : Int))) then (formelaw05_CodecBehind.j1 kj4 l0 true bt476.1 bt481.1 (bt476.2.1 != (wrap64 ((t460.length : Int) + bt481.2.1)))) else (formelaw05_CodecBehind.j1 kj4 l0 true bt476.1 bt481.1 true)) else (formelaw05_CodecBehind.j1 kj4 l0 true bt476.1 bt481.1 true)) else (formelaw05_CodecBehind.j1 kj4 l0 true bt476.1 bt481.1 true)))) = some r := by first | (rw [hy473]; with_reducible exact H) | (have H2_ := (Option.bind_some _ _).symm.trans H; rw [hy473]; with_reducible exact H2_) | (have H2_ := (Option.bind_some _ _).symm.trans H; with_reducible exact H2_) | with_reducible exact H | (rw [hy473]; exact H) | exact H
        have Ny473 := Aside0.mk hy473
        clear hy473
        replace H := Option.bind_eq_some_iff.mp H
        obtain ⟨⟨t476, t477, t478⟩, A140, H⟩ := H
        replace H : ((codec_Frames.f kj4 l1).bind fun bt481 => (if t478 = 0 then (if bt481.2.2 = 0 then (if (t476.length : Int) = (wrap64 ((l0.length : Int) + (bt481.1.length : Int))) then (formelaw05_CodecBehind.j1 kj4 l0 true t476 bt481.1 (t477 != (wrap64 ((t460.length : Int) + bt481.2.1)))) else (formelaw05_CodecBehind.j1 kj4 l0 true t476 bt481.1 true)) else (formelaw05_CodecBehind.j1 kj4 l0 true t476 bt481.1 true)) else (formelaw05_CodecBehind.j1 kj4 l0 true t476 bt481.1 true))) = some r := H
        have A14 := Aside0.mk A140
        clear A140
        replace H := Option.bind_eq_some_iff.mp H
        obtain ⟨⟨t481, t482, t483⟩, A150, H⟩ := H
        replace H : (if t478 = 0 then (if t483 = 0 then (if (t476.length : Int) = (wrap64 ((l0.length : Int) + (t481.length : Int))) then (formelaw05_CodecBehind.j1 kj4 l0 true t476 t481 (t477 != (wrap64 ((t460.length : Int) + t482)))) else (formelaw05_CodecBehind.j1 kj4 l0 true t476 t481 true)) else (formelaw05_CodecBehind.j1 kj4 l0 true t476 t481 true)) else (formelaw05_CodecBehind.j1 kj4 l0 true t476 t481 true)) = some r := H
        have A15 := Aside0.mk A150
        clear A150
        have HC16 := Aside0.mk H
        clear H
        go_upto_region 9 with (first | ((with_reducible refine gate_callee (f := 27) rfl ?_); refine goesL_ (some 27) rfl rfl Try.func27 (by kernel_rfl) rfl #[.slice A0 l0.length c0] rfl (by (try simp only [List.map_toArray, List.map_cons, List.map_nil]); first | done | rfl | (simp only [List.length_drop, List.length_take]; rfl)) ?_; (with_reducible refine (formelaw05_frames.calls kj4 _ _ l0 t460 t461 true _ ?side1 ?side2 A10.out).mono ?_); (case side1 => repeat (first | exact (Kd.C_below HR0.out HB.out) | (with_reducible refine Kd.C_alloc ?_ _) | (with_reducible refine Kd.C_drewN ?_ _) | (with_reducible refine Kd.C_drew ?_))); (case side2 => exact HC0.out); rintro e w17 ⟨v463, v465, rfl, ho0, ho1, hb⟩; refine ⟨_, rfl, ?_⟩; have n0_ := Aside0.mk (Kd.R_lower ho0 (below_size (by repeat (first | (with_reducible first | exact HB.out | apply below_alloc | apply pw_below_drewN | apply below_drew1) | exact HB.out)))); have n1_ := Aside0.mk (Kd.R_lower ho1 (below_size (by repeat (first | (with_reducible first | exact HB.out | apply below_alloc | apply pw_below_drewN | apply below_drew1) | exact HB.out)))); have n2_ := Aside0.mk (below_step (by repeat (first | (with_reducible first | exact HB.out | apply below_alloc | apply pw_below_drewN | apply below_drew1) | exact HB.out)) hb); clear HB; have HO464 := n0_; have HO466 := n1_; have HB := n2_; clear n0_ n1_ n2_; (try clear hb); (try clear hb2); (try clear hk); (try clear hi); (try clear ho0); (try clear ho1)) | ((with_reducible refine gate_dst (N := 34) rfl ?_); (try (refine gate_guard (by rfl) ?_; dsimp only)); refine Kd.R_lit (Kd.int .u8) _ 5 ?hg (N := 34) ?hd (xs := ([] : List Int)) (inner := []) (ok := fun _ => True) (okp := fun _ => True) ?hr ?hp (fun _ hk => hk) trivial (Below.refl _ _) (Nat.le_refl _) (by simp) ?_; (case hd => rfl); (case hg => rfl); (case hr => first | (go_simp; done) | (go_simp; rfl)); (case hp => exact (Reps.none _ _)); intro v468 w18 ho19 hb hg_ hnew_; clear hg_ hnew_; (first | rw [← Ny467.out] at ho19 | (simp only [Int.reduceToNat] at ho19; rw [← Ny467.out] at ho19)); have n0_ := Aside0.mk (Kd.R_elder' (by (with_reducible repeat (first | apply Kd.R_alloc | apply Kd.R_drewN | apply Kd.R_drew)); exact HO464.out) (Kd.R_base ho19) hb); have n1_ := Aside0.mk (Kd.R_below (by (with_reducible repeat (first | apply Kd.R_alloc | apply Kd.R_drewN | apply Kd.R_drew)); exact HO466.out) hb); have n2_ := Aside0.mk (Kd.R_lower (Kd.R_new' ho19 (Kd.R_lt (by (with_reducible repeat (first | apply Kd.R_alloc | apply Kd.R_drewN | apply Kd.R_drew)); exact HO464.out))) (below_size (by repeat (first | (with_reducible first | exact HB.out | apply below_alloc | apply pw_below_drewN | apply below_drew1) | exact HB.out)))); have n3_ := Aside0.mk (below_step (by repeat (first | (with_reducible first | exact HB.out | apply below_alloc | apply pw_below_drewN | apply below_drew1) | exact HB.out)) hb); clear HO464; clear HO466; clear HB; have HO464 := n0_; have HO466 := n1_; have HO469 := n2_; have HB := n3_; clear n0_ n1_ n2_ n3_; clear hb ho19; obtain ⟨Ao21, co21, eo21⟩ := Kd.R_slice HO464.out; subst eo21) | ((with_reducible refine gate_builtin (b := .append) (xs := #[.tmp 34, .tmp 35]) rfl ?_); (try (refine gate_guard (by rfl) ?_; dsimp only)); at_builtin; refine Kd.R_append_rows (Kd.int .u8) (w0 := w) w.heap.size rfl (.tmp 34) (.tmp 35) 23 5 (.int .u8 0) 1 rfl Try.underlying23 info5 rfl (by decide) (by omega) v468 y467 t460 _ _ _ (fun k_ => some k_ ≠ (.slice Ao21 t460.length co21 : Value).ownBlock) (fun _ => False) rfl rfl ?aO ?aR (fun _ _ h => h) (fun _ h => h.elim) ?aF ?aB ?aS ?aL ?_; (case aR => repeat (first | exact (Kd.R_reads' HO464.out).2.2 | (with_reducible refine Kd.C_alloc ?_ _) | (with_reducible refine Kd.C_drewN ?_ _) | (with_reducible refine Kd.C_drew ?_))); (case aB => exact (by repeat (first | (with_reducible first | exact HB.out | apply below_alloc | apply pw_below_drewN | apply below_drew1) | exact HB.out))); (case aF => exact (fun k_ hk => Kd.fresh' (Kd.R_lt (by (with_reducible repeat (first | apply Kd.R_alloc | apply Kd.R_drewN | apply Kd.R_drew)); exact HO464.out)) k_ hk)); (case aO => exact (by (with_reducible repeat (first | apply Kd.R_alloc | apply Kd.R_drewN | apply Kd.R_drew)); exact Kd.R_mono HO469.out (fun _ hk => hk.2))); (case aS => exact (below_size (by repeat (first | (with_reducible first | exact HB.out | apply below_alloc | apply pw_below_drewN | apply below_drew1) | exact HB.out)))); (case aL => have := LMc12.out; omega); intro v471 w20 ho hb hg hat; rw [← Ny470.out] at ho; have n0_ := Aside0.mk (Kd.R_after (ok := (fun _ => True)) (by (with_reducible repeat (first | apply Kd.R_alloc | apply Kd.R_drewN | apply Kd.R_drew)); exact HO464.out) hg hat); have n1_ := Aside0.mk (Kd.R_over' (by (with_reducible repeat (first | apply Kd.R_alloc | apply Kd.R_drewN | apply Kd.R_drew)); exact HO466.out) (Kd.R_typed (by (with_reducible repeat (first | apply Kd.R_alloc | apply Kd.R_drewN | apply Kd.R_drew)); exact HO469.out)) (by decide) hg); have n2_ := Aside0.mk (hb); have n3_ := Aside0.mk (ho); clear HO464; clear HO466; clear HB; clear HO469; have HO464 := n0_; have HO466 := n1_; have HB := n2_; have HO472 := n3_; clear n0_ n1_ n2_ n3_; clear ho hb hg hat) | ((with_reducible refine gate_builtin (b := .append) (xs := #[.tmp 36, .tmp 37]) rfl ?_); (try (refine gate_guard (by rfl) ?_; dsimp only)); at_builtin; refine Kd.R_append_rows (Kd.int .u8) (w0 := w) w.heap.size rfl (.tmp 36) (.tmp 37) 23 5 (.int .u8 0) 1 rfl Try.underlying23 info5 rfl (by decide) (by omega) v471 y470 l1 _ _ _ (fun k_ => some k_ ≠ (.slice Ao21 t460.length co21 : Value).ownBlock) (fun _ => False) rfl rfl ?aO ?aR (fun _ _ h => h) (fun _ h => h.elim) ?aF ?aB ?aS ?aL ?_; (case aR => repeat (first | exact (Kd.C_below HR1.out HB.out) | (with_reducible refine Kd.C_alloc ?_ _) | (with_reducible refine Kd.C_drewN ?_ _) | (with_reducible refine Kd.C_drew ?_))); (case aB => exact (by repeat (first | (with_reducible first | exact HB.out | apply below_alloc | apply pw_below_drewN | apply below_drew1) | exact HB.out))); (case aF => exact (fun k_ hk => Kd.fresh' (Kd.R_lt (by (with_reducible repeat (first | apply Kd.R_alloc | apply Kd.R_drewN | apply Kd.R_drew)); exact HO464.out)) k_ hk)); (case aO => exact (by (with_reducible repeat (first | apply Kd.R_alloc | apply Kd.R_drewN | apply Kd.R_drew)); exact HO472.out)); (case aS => exact (below_size (by repeat (first | (with_reducible first | exact HB.out | apply below_alloc | apply pw_below_drewN | apply below_drew1) | exact HB.out)))); (case aL => have := LMc13.out; omega); intro v474 w22 ho hb hg hat; rw [← Ny473.out] at ho; have n0_ := Aside0.mk (Kd.R_after (ok := (fun _ => True)) (by (with_reducible repeat (first | apply Kd.R_alloc | apply Kd.R_drewN | apply Kd.R_drew)); exact HO464.out) hg hat); have n1_ := Aside0.mk (Kd.R_over' (by (with_reducible repeat (first | apply Kd.R_alloc | apply Kd.R_drewN | apply Kd.R_drew)); exact HO466.out) (Kd.R_typed (by (with_reducible repeat (first | apply Kd.R_alloc | apply Kd.R_drewN | apply Kd.R_drew)); exact HO472.out)) (by decide) hg); have n2_ := Aside0.mk (hb); have n3_ := Aside0.mk (ho); clear HO464; clear HO466; clear HB; clear HO472; have HO464 := n0_; have HO466 := n1_; have HB := n2_; have HO475 := n3_; clear n0_ n1_ n2_ n3_; clear ho hb hg hat; obtain ⟨Ao23, co23, eo23⟩ := Kd.R_slice HO475.out; subst eo23) | ((with_reducible refine gate_callee (f := 23) rfl ?_); refine goesL_ (some 39) rfl rfl Try.func23 (by kernel_rfl) rfl #[.slice Ao23 y473.length co23] rfl (by (try simp only [List.map_toArray, List.map_cons, List.map_nil]); first | done | rfl | (simp only [List.length_drop, List.length_take]; rfl)) ?_; (with_reducible refine (codec_Frames.calls kj4 _ _ y473 t476 t477 t478 _ ?side1 ?side2 A14.out).mono ?_); (case side1 => repeat (first | exact (Kd.R_reads' HO475.out).2.2 | (with_reducible refine Kd.C_alloc ?_ _) | (with_reducible refine Kd.C_drewN ?_ _) | (with_reducible refine Kd.C_drew ?_))); (case side2 => exact (Kd.R_reads' HO475.out).2.1); rintro e w24 ⟨v479, rfl, ho0, hb⟩; refine ⟨_, rfl, ?_⟩; have n0_ := Aside0.mk (Kd.R_below (by (with_reducible repeat (first | apply Kd.R_alloc | apply Kd.R_drewN | apply Kd.R_drew)); exact HO464.out) hb); have n1_ := Aside0.mk (Kd.R_below (by (with_reducible repeat (first | apply Kd.R_alloc | apply Kd.R_drewN | apply Kd.R_drew)); exact HO466.out) hb); have n2_ := Aside0.mk (Kd.R_below (by (with_reducible repeat (first | apply Kd.R_alloc | apply Kd.R_drewN | apply Kd.R_drew)); exact HO475.out) hb); have n3_ := Aside0.mk (Kd.S_lower (Kd.S_new' ho0 (Kd.R_lt (by (with_reducible repeat (first | apply Kd.R_alloc | apply Kd.R_drewN | apply Kd.R_drew)); exact HO466.out))) (below_size (by repeat (first | (with_reducible first | exact HB.out | apply below_alloc | apply pw_below_drewN | apply below_drew1) | exact HB.out)))); have n4_ := Aside0.mk (below_step (by repeat (first | (with_reducible first | exact HB.out | apply below_alloc | apply pw_below_drewN | apply below_drew1) | exact HB.out)) hb); clear HO464; clear HO466; clear HO475; clear HB; have HO464 := n0_; have HO466 := n1_; have HO475 := n2_; have HO480 := n3_; have HB := n4_; clear n0_ n1_ n2_ n3_ n4_; (try clear hb); (try clear hb2); (try clear hk); (try clear hi); (try clear ho0)) | ((with_reducible refine gate_callee (f := 23) rfl ?_); refine goesL_ (some 45) rfl rfl Try.func23 (by kernel_rfl) rfl #[.slice A1 l1.length c1] rfl (by (try simp only [List.map_toArray, List.map_cons, List.map_nil]); first | done | rfl | (simp only [List.length_drop, List.length_take]; rfl)) ?_; (with_reducible refine (codec_Frames.calls kj4 _ _ l1 t481 t482 t483 _ ?side1 ?side2 A15.out).mono ?_); (case side1 => repeat (first | exact (Kd.C_below HR1.out HB.out) | (with_reducible refine Kd.C_alloc ?_ _) | (with_reducible refine Kd.C_drewN ?_ _) | (with_reducible refine Kd.C_drew ?_))); (case side2 => exact HC1.out); rintro e w25 ⟨v484, rfl, ho0, hb⟩; refine ⟨_, rfl, ?_⟩; have n0_ := Aside0.mk (Kd.R_below (by (with_reducible repeat (first | apply Kd.R_alloc | apply Kd.R_drewN | apply Kd.R_drew)); exact HO464.out) hb); have n1_ := Aside0.mk (Kd.R_below (by (with_reducible repeat (first | apply Kd.R_alloc | apply Kd.R_drewN | apply Kd.R_drew)); exact HO466.out) hb); have n2_ := Aside0.mk (Kd.R_below (by (with_reducible repeat (first | apply Kd.R_alloc | apply Kd.R_drewN | apply Kd.R_drew)); exact HO475.out) hb); have n3_ := Aside0.mk (Kd.S_elder' (by (with_reducible repeat (first | apply Kd.S_alloc | apply Kd.S_drewN | apply Kd.S_drew)); exact HO480.out) (Kd.S_base ho0) hb); have n4_ := Aside0.mk (Kd.S_lower (Kd.S_new' (Kd.S_new' ho0 (Kd.R_lt (by (with_reducible repeat (first | apply Kd.R_alloc | apply Kd.R_drewN | apply Kd.R_drew)); exact HO466.out))) (Kd.S_lt (by (with_reducible repeat (first | apply Kd.S_alloc | apply Kd.S_drewN | apply Kd.S_drew)); exact HO480.out))) (below_size (by repeat (first | (with_reducible first | exact HB.out | apply below_alloc | apply pw_below_drewN | apply below_drew1) | exact HB.out)))); have n5_ := Aside0.mk (below_step (by repeat (first | (with_reducible first | exact HB.out | apply below_alloc | apply pw_below_drewN | apply below_drew1) | exact HB.out)) hb); clear HO464; clear HO466; clear HO475; clear HO480; clear HB; have HO464 := n0_; have HO466 := n1_; have HO475 := n2_; have HO480 := n3_; have HO485 := n4_; have HB := n5_; clear n0_ n1_ n2_ n3_ n4_ n5_; (try clear hb); (try clear hb2); (try clear hk); (try clear hi); (try clear ho0)))
        (try simp only [Act.put, List.setIfInBounds_toArray, List.set_cons_zero, List.set_cons_succ])
        go_cut [72] (fun v72 wc => ∃ (kq : Nat) (x72_15 : Bool), v72 = .bool x72_15 ∧ Aside0 (formelaw05_CodecBehind.j1 kq l0 true t476 t481 x72_15 = some r) ∧ Aside0 (kq ≤ kj4) ∧ Aside0 (Kd.S (Kd.slice 3 (Kd.int .i64)) 22 wc w.heap.size (fun k_ => some k_ ≠ (v484 : Value).ownBlock) v479 t476) ∧ Aside0 (Kd.S (Kd.slice 3 (Kd.int .i64)) 22 wc w.heap.size (fun k_ => some k_ ≠ (v479 : Value).ownBlock) v484 t481) ∧ Aside0 (Below w.heap.size w wc))
        case first =>
         have H := HC16.out
         clear HC16
         by_cases c26 : t478 = 0
         ·
          rw [if_pos c26] at H
          have c26b0 : (t478 == 0) = true := beq_iff_eq.mpr c26
          have c26b1 : (t478 != 0) = false := bne_eq_false_iff_eq.mpr c26
          clear c26
          (first | rw [c26b0] | (simp only [i64_w, i32_w]; rw [c26b0]) | skip)
          by_cases c27 : t483 = 0
          ·
           rw [if_pos c27] at H
           have c27b0 : (t483 == 0) = true := beq_iff_eq.mpr c27
           have c27b1 : (t483 != 0) = false := bne_eq_false_iff_eq.mpr c27
           clear c27
           by_cases c28 : (t476.length : Int) = (wrap64 ((l0.length : Int) + (t481.length : Int)))
           ·
            rw [if_pos c28] at H
            have c28b0 : ((t476.length : Int) == (wrap64 ((l0.length : Int) + (t481.length : Int)))) = true := beq_iff_eq.mpr c28
            have c28b1 : ((t476.length : Int) != (wrap64 ((l0.length : Int) + (t481.length : Int)))) = false := bne_eq_false_iff_eq.mpr c28
            clear c28
            have H' := Aside0.mk H
            clear H
            obtain ⟨Ao29, co29, eo29⟩ := Kd.S_slice HO480.out
            subst eo29
            obtain ⟨Ao30, co30, eo30⟩ := Kd.S_slice HO485.out
            subst eo30
            go_wp2
            go_meet
            case rel => exact ⟨_, ((t477 != (wrap64 ((t460.length : Int) + t482)))), (by first | rfl | (simp; done) | (simp [*]; done)), H', ⟨by have := HJ4.out; first | omega | exact Nat.le_refl _⟩, ⟨by (with_reducible repeat (first | apply Kd.S_alloc | apply Kd.S_drewN | apply Kd.S_drew)); exact Kd.S_mono HO480.out (fun _ hk => hk.2)⟩, ⟨by (with_reducible repeat (first | apply Kd.S_alloc | apply Kd.S_drewN | apply Kd.S_drew)); exact Kd.S_mono HO485.out (fun _ hk => hk.2)⟩, ⟨by repeat (first | (with_reducible first | exact HB.out | apply below_alloc | apply pw_below_drewN | apply below_drew1) | exact HB.out)⟩⟩
           ·
            rw [if_neg c28] at H
            have c28b0 : ((t476.length : Int) == (wrap64 ((l0.length : Int) + (t481.length : Int)))) = false := beq_eq_false_iff_ne.mpr c28
            have c28b1 : ((t476.length : Int) != (wrap64 ((l0.length : Int) + (t481.length : Int)))) = true := bne_iff_ne.mpr c28
            have H' := Aside0.mk H
            clear H
            obtain ⟨Ao31, co31, eo31⟩ := Kd.S_slice HO480.out
            subst eo31
            obtain ⟨Ao32, co32, eo32⟩ := Kd.S_slice HO485.out
            subst eo32
            go_wp2
            go_meet
            case rel => exact ⟨_, (true), (by first | rfl | (simp; done) | (simp [*]; done)), H', ⟨by have := HJ4.out; first | omega | exact Nat.le_refl _⟩, ⟨by (with_reducible repeat (first | apply Kd.S_alloc | apply Kd.S_drewN | apply Kd.S_drew)); exact Kd.S_mono HO480.out (fun _ hk => hk.2)⟩, ⟨by (with_reducible repeat (first | apply Kd.S_alloc | apply Kd.S_drewN | apply Kd.S_drew)); exact Kd.S_mono HO485.out (fun _ hk => hk.2)⟩, ⟨by repeat (first | (with_reducible first | exact HB.out | apply below_alloc | apply pw_below_drewN | apply below_drew1) | exact HB.out)⟩⟩
          ·
           rw [if_neg c27] at H
           have c27b0 : (t483 == 0) = false := beq_eq_false_iff_ne.mpr c27
           have c27b1 : (t483 != 0) = true := bne_iff_ne.mpr c27
           have H' := Aside0.mk H
           clear H
           go_wp2
           go_meet
           case rel => exact ⟨_, (true), (by first | rfl | (simp; done) | (simp [*]; done)), H', ⟨by have := HJ4.out; first | omega | exact Nat.le_refl _⟩, ⟨by (with_reducible repeat (first | apply Kd.S_alloc | apply Kd.S_drewN | apply Kd.S_drew)); exact Kd.S_mono HO480.out (fun _ hk => hk.2)⟩, ⟨by (with_reducible repeat (first | apply Kd.S_alloc | apply Kd.S_drewN | apply Kd.S_drew)); exact Kd.S_mono HO485.out (fun _ hk => hk.2)⟩, ⟨by repeat (first | (with_reducible first | exact HB.out | apply below_alloc | apply pw_below_drewN | apply below_drew1) | exact HB.out)⟩⟩
         ·
          rw [if_neg c26] at H
          have c26b0 : (t478 == 0) = false := beq_eq_false_iff_ne.mpr c26
          have c26b1 : (t478 != 0) = true := bne_iff_ne.mpr c26
          (first | rw [c26b0] | (simp only [i64_w, i32_w]; rw [c26b0]) | skip)
          have H' := Aside0.mk H
          clear H
          go_wp2
          go_meet
          case rel => exact ⟨_, (true), (by first | rfl | (simp; done) | (simp [*]; done)), H', ⟨by have := HJ4.out; first | omega | exact Nat.le_refl _⟩, ⟨by (with_reducible repeat (first | apply Kd.S_alloc | apply Kd.S_drewN | apply Kd.S_drew)); exact Kd.S_mono HO480.out (fun _ hk => hk.2)⟩, ⟨by (with_reducible repeat (first | apply Kd.S_alloc | apply Kd.S_drewN | apply Kd.S_drew)); exact Kd.S_mono HO485.out (fun _ hk => hk.2)⟩, ⟨by repeat (first | (with_reducible first | exact HB.out | apply below_alloc | apply pw_below_drewN | apply below_drew1) | exact HB.out)⟩⟩
        case rest =>
         clear HC16
         try clear c1
         try clear c2
         try clear p2
         try clear c4
         try clear p6
         try clear c7
         try clear c8
         try clear c9
         try clear c10
         try clear c11
         try clear c12
         try clear c13
         try clear c23
         try clear c26
         try clear c26b0
         try clear c26b1
         try clear c27
         try clear c27b0
         try clear c27b1
         try clear c28
         try clear c28b0
         try clear c28b1
         try clear p2
         obtain ⟨kq, x72_15, rfl, HA, HJ15, HO_9, HO_12, HB⟩ := hcut
         cases kq with
         | zero => exact absurd HA.out (by simp [formelaw05_CodecBehind.j1])
         | succ kj15 =>
          have H := HA.out
          clear HA
          simp only [formelaw05_CodecBehind.j1] at H
          by_cases c33 : x72_15 = true
          ·
           subst c33
           have H1 : (some false) = some r := by rw [if_pos rfl] at H; exact H
           clear H
           have H := H1
           clear H1
           obtain rfl := Option.some.inj H
           go_wp2
           go_ret
           exact ⟨by first | rfl | (simp [errW_none, errW_some] <;> rfl) | (simp [*, errW_none, errW_some] <;> rfl), by repeat (first | (with_reducible first | exact HB.out | apply below_alloc | apply pw_below_drewN | apply below_drew1) | exact HB.out)⟩
          ·
           replace c33 := Bool.eq_false_iff.mpr c33
           subst c33
           have H1 : (if true = true then (if 0 ≤ (l0.length : Int) then (if (l0.length : Int) ≤ (t476.length : Int) then ((formeref05_SameLists.f kj15 (t476.take ((l0.length : Int) : Int).toNat) l0).bind fun t490 => (if t490 = true then ((formeref05_SameLists.f kj15 (t476.drop ((l0.length : Int) : Int).toNat) t481).bind fun t495 => (some t495)) else (some false))) else (none)) else (none)) else (some false)) = some r := by rw [if_neg (show ¬ (false = true) by decide)] at H; exact H
           clear H
           have H := H1
           clear H1
           (first | rw [if_pos (rfl : true = true)] at H | rw [if_pos True.intro] at H)
           by_cases c34 : 0 ≤ (l0.length : Int)
           ·
            rw [if_pos c34] at H
            have c34b0 := eq_true c34
            have c34b1 : decide (0 ≤ (l0.length : Int)) = true := decide_eq_true c34
            clear c34
            by_cases c35 : (l0.length : Int) ≤ (t476.length : Int)
            ·
             rw [if_pos c35] at H
             have c35b0 := eq_true c35
             have c35b1 : decide ((l0.length : Int) ≤ (t476.length : Int)) = true := decide_eq_true c35
             clear c35
             obtain ⟨y486, hy486⟩ : ∃ y_ : List (List Int), y_ = (t476.take ((l0.length : Int) : Int).toNat) := ⟨_, rfl⟩
             replace H : ((formeref05_SameLists.f kj15 y486 l0).bind fun t490 => (if t490 = true then ((formeref05_SameLists.f kj15 (t476.drop ((l0.length : Int) : Int).toNat) t481).bind fun t495 => (some t495)) else (some false))) = some r := by first | (rw [hy486]; with_reducible exact H) | (have H2_ := (Option.bind_some _ _).symm.trans H; rw [hy486]; with_reducible exact H2_) | (have H2_ := (Option.bind_some _ _).symm.trans H; with_reducible exact H2_) | with_reducible exact H | (rw [hy486]; exact H) | exact H
             have Ny486 := Aside0.mk hy486
             clear hy486
             replace H := Option.bind_eq_some_iff.mp H
             obtain ⟨t490, A360, H⟩ := H
             replace H : (if t490 = true then ((formeref05_SameLists.f kj15 (t476.drop ((l0.length : Int) : Int).toNat) t481).bind fun t495 => (some t495)) else (some false)) = some r := H
             have A36 := Aside0.mk A360
             clear A360
             by_cases c37 : t490 = true
             ·
              subst c37
              have H1 : ((formeref05_SameLists.f kj15 (t476.drop ((l0.length : Int) : Int).toNat) t481).bind fun t495 => (some t495)) = some r := by rw [if_pos rfl] at H; exact H
              clear H
              have H := H1
              clear H1
              have c38b0 := eq_true (of_decide_eq_true (by first | (with_reducible assumption) | assumption) : 0 ≤ (l0.length : Int))
              have c39b0 := eq_true (of_decide_eq_true (by first | (with_reducible assumption) | assumption) : (l0.length : Int) ≤ (t476.length : Int))
              obtain ⟨y491, hy491⟩ : ∃ y_ : List (List Int), y_ = (t476.drop ((l0.length : Int) : Int).toNat) := ⟨_, rfl⟩
              replace H : ((formeref05_SameLists.f kj15 y491 t481).bind fun t495 => (some t495)) = some r := by first | (rw [hy491]; with_reducible exact H) | (have H2_ := (Option.bind_some _ _).symm.trans H; rw [hy491]; with_reducible exact H2_) | (have H2_ := (Option.bind_some _ _).symm.trans H; with_reducible exact H2_) | with_reducible exact H | (rw [hy491]; exact H) | exact H
              have Ny491 := Aside0.mk hy491
              clear hy491
              replace H := Option.bind_eq_some_iff.mp H
              obtain ⟨t495, A400, H⟩ := H
              replace H : (some t495) = some r := H
              have A40 := Aside0.mk A400
              clear A400
              obtain rfl := Option.some.inj H
              obtain ⟨Ao42, co42, eo42⟩ := Kd.S_slice HO_9.out
              subst eo42
              have q41 : ((l0.length : Int) : Int) ≤ ((t476.length : Int) : Int) := of_decide_eq_true (by first | (with_reducible assumption) | assumption)
              obtain ⟨i041, hi041, _, hsz41, _⟩ := info_parts info22
              have hroom41 : t476.length ≤ co42 := (Kd.S_reads' HO_9.out).2.1
              have hC41 : Kd.C (Kd.slice 3 (Kd.int .i64)) _ Ao42 t476.length t476 := (Kd.S_reads' HO_9.out).2.2
              have hcut41 := cut_to (P := Try.prog) 35 22 .i64 Try.underlying35 hi041 Ao42 t476.length co42 (l0.length : Int) (of_decide_eq_true (by first | (with_reducible assumption) | assumption)) q41 hroom41
              have hr41 := Kd.C_take (m := ((l0.length : Int) : Int).toNat) hC41 (by omega)
              have hy41 : y486.length = ((l0.length : Int) : Int).toNat := (by rw [Ny486.out, List.length_take]; omega)
              rw [← Ny486.out] at hr41
              rw [← hy41] at hcut41
              have HR489 := Aside0.mk hr41
              have HC489 := Aside0.mk (show y486.length ≤ co42 from by omega)
              clear hr41 hC41 hroom41 hi041 hsz41
              have KY41 := Aside0.mk hy41
              clear hy41
              have KL41 := Aside0.mk (show ((l0.length : Int) : Int).toNat ≤ t476.length from by omega)
              replace q41 := eq_true q41
              go_wp2_with (first | (go_at_call 25; (with_reducible refine (formeref05_SameLists.calls kj15 _ _ y486 _ _ l0 true _ ?side1 ?side2 ?side3 ?side4 A36.out).mono ?_); (case side1 => repeat (first | exact (by repeat (first | (with_reducible exact HR489.out) | (with_reducible refine Kd.C_alloc ?_ _) | (with_reducible refine Kd.C_drewN ?_ _) | (with_reducible refine Kd.C_drew ?_) | exact HR489.out)) | (with_reducible refine Kd.C_alloc ?_ _) | (with_reducible refine Kd.C_drewN ?_ _) | (with_reducible refine Kd.C_drew ?_))); (case side2 => exact HC489.out); (case side3 => repeat (first | exact (Kd.C_below HR0.out HB.out) | (with_reducible refine Kd.C_alloc ?_ _) | (with_reducible refine Kd.C_drewN ?_ _) | (with_reducible refine Kd.C_drew ?_))); (case side4 => exact HC0.out); rintro e w' ⟨rfl, ⟨nd, rfl⟩⟩; have q43 : ((l0.length : Int) : Int) ≤ ((t476.length : Int) : Int) := of_decide_eq_true (by first | (with_reducible assumption) | assumption); obtain ⟨i043, hi043, _, hsz43, _⟩ := info_parts info22; have hroom43 : t476.length ≤ co42 := (Kd.S_reads' HO_9.out).2.1; have hC43 : Kd.C (Kd.slice 3 (Kd.int .i64)) _ Ao42 t476.length t476 := (Kd.S_reads' HO_9.out).2.2; have q043 : (0 : Int) ≤ ((l0.length : Int) : Int) := of_decide_eq_true (by first | (with_reducible assumption) | assumption); have hcut43 := cut_from (P := Try.prog) 35 22 .i64 Try.underlying35 hi043 1 hsz43 Ao42 t476.length co42 (l0.length : Int) q043 q43; have hr43 := Kd.C_drop (m := ((l0.length : Int) : Int).toNat) (c := co42) hC43 (by omega) hroom43; obtain ⟨A43, hA43⟩ : ∃ A1, A1 = (if co42 = ((l0.length : Int) : Int).toNat then Ao42 else (Ao42 : Option Addr).map (·.add (((l0.length : Int) : Int).toNat * 1))) := ⟨_, rfl⟩; obtain ⟨c43, hc43⟩ : ∃ c1, c1 = co42 - ((l0.length : Int) : Int).toNat := ⟨_, rfl⟩; have hy43 : y491.length = t476.length - ((l0.length : Int) : Int).toNat := (by rw [Ny491.out, List.length_drop] <;> omega); rw [show (t476).drop ((l0.length : Int) : Int).toNat = y491 from Ny491.out.symm] at hr43; replace hr43 : Kd.C (Kd.slice 3 (Kd.int .i64)) _ A43 y491.length y491 := (by rw [hA43]; exact hr43); rw [← hy43, ← hA43, ← hc43] at hcut43; have HR494 := Aside0.mk hr43; have HC494 := Aside0.mk (show y491.length ≤ c43 from by rw [hy43, hc43]; exact Nat.sub_le_sub_right hroom43 _); clear hr43 hC43 hroom43 hi043 hsz43 hc43; have KY43 := Aside0.mk hy43; have KA43 := Aside0.mk hA43; clear hy43 hA43; have KL43 := Aside0.mk (show ((l0.length : Int) : Int).toNat ≤ t476.length from by omega); replace q43 := eq_true q43; obtain ⟨Ao44, co44, eo44⟩ := Kd.S_slice HO_12.out; subst eo44) | (go_at_call 25; (with_reducible refine (formeref05_SameLists.calls kj15 _ _ y491 _ _ t481 t495 _ ?side1 ?side2 ?side3 ?side4 A40.out).mono ?_); (case side1 => repeat (first | exact (by repeat (first | (with_reducible exact HR494.out) | (with_reducible refine Kd.C_alloc ?_ _) | (with_reducible refine Kd.C_drewN ?_ _) | (with_reducible refine Kd.C_drew ?_) | exact HR494.out)) | (with_reducible refine Kd.C_alloc ?_ _) | (with_reducible refine Kd.C_drewN ?_ _) | (with_reducible refine Kd.C_drew ?_))); (case side2 => exact HC494.out); (case side3 => repeat (first | exact (Kd.S_reads' HO_12.out).2.2 | (with_reducible refine Kd.C_alloc ?_ _) | (with_reducible refine Kd.C_drewN ?_ _) | (with_reducible refine Kd.C_drew ?_))); (case side4 => exact (Kd.S_reads' HO_12.out).2.1); rintro e w' ⟨rfl, ⟨nd, rfl⟩⟩))
              go_ret
              exact ⟨by first | rfl | (simp [errW_none, errW_some] <;> rfl) | (simp [*, errW_none, errW_some] <;> rfl), by repeat (first | (with_reducible first | exact HB.out | apply below_alloc | apply pw_below_drewN | apply below_drew1) | exact HB.out)⟩
             ·
              replace c37 := Bool.eq_false_iff.mpr c37
              subst c37
              have H1 : (some false) = some r := by rw [if_neg (show ¬ (false = true) by decide)] at H; exact H
              clear H
              have H := H1
              clear H1
              obtain rfl := Option.some.inj H
              obtain ⟨Ao46, co46, eo46⟩ := Kd.S_slice HO_9.out
              subst eo46
              have q45 : ((l0.length : Int) : Int) ≤ ((t476.length : Int) : Int) := of_decide_eq_true (by first | (with_reducible assumption) | assumption)
              obtain ⟨i045, hi045, _, hsz45, _⟩ := info_parts info22
              have hroom45 : t476.length ≤ co46 := (Kd.S_reads' HO_9.out).2.1
              have hC45 : Kd.C (Kd.slice 3 (Kd.int .i64)) _ Ao46 t476.length t476 := (Kd.S_reads' HO_9.out).2.2
              have hcut45 := cut_to (P := Try.prog) 35 22 .i64 Try.underlying35 hi045 Ao46 t476.length co46 (l0.length : Int) (of_decide_eq_true (by first | (with_reducible assumption) | assumption)) q45 hroom45
              have hr45 := Kd.C_take (m := ((l0.length : Int) : Int).toNat) hC45 (by omega)
              have hy45 : y486.length = ((l0.length : Int) : Int).toNat := (by rw [Ny486.out, List.length_take]; omega)
              rw [← Ny486.out] at hr45
              rw [← hy45] at hcut45
              have HR489 := Aside0.mk hr45
              have HC489 := Aside0.mk (show y486.length ≤ co46 from by omega)
              clear hr45 hC45 hroom45 hi045 hsz45
              have KY45 := Aside0.mk hy45
              clear hy45
              have KL45 := Aside0.mk (show ((l0.length : Int) : Int).toNat ≤ t476.length from by omega)
              replace q45 := eq_true q45
              go_wp2_with (first | (go_at_call 25; (with_reducible refine (formeref05_SameLists.calls kj15 _ _ y486 _ _ l0 false _ ?side1 ?side2 ?side3 ?side4 A36.out).mono ?_); (case side1 => repeat (first | exact (by repeat (first | (with_reducible exact HR489.out) | (with_reducible refine Kd.C_alloc ?_ _) | (with_reducible refine Kd.C_drewN ?_ _) | (with_reducible refine Kd.C_drew ?_) | exact HR489.out)) | (with_reducible refine Kd.C_alloc ?_ _) | (with_reducible refine Kd.C_drewN ?_ _) | (with_reducible refine Kd.C_drew ?_))); (case side2 => exact HC489.out); (case side3 => repeat (first | exact (Kd.C_below HR0.out HB.out) | (with_reducible refine Kd.C_alloc ?_ _) | (with_reducible refine Kd.C_drewN ?_ _) | (with_reducible refine Kd.C_drew ?_))); (case side4 => exact HC0.out); rintro e w' ⟨rfl, ⟨nd, rfl⟩⟩))
              go_ret
              exact ⟨by first | rfl | (simp [errW_none, errW_some] <;> rfl) | (simp [*, errW_none, errW_some] <;> rfl), by repeat (first | (with_reducible first | exact HB.out | apply below_alloc | apply pw_below_drewN | apply below_drew1) | exact HB.out)⟩
            ·
             rw [if_neg c35] at H
             exact absurd H (by simp)
           ·
            rw [if_neg c34] at H
            exact absurd H (by simp)
       ·
        rw [if_neg c13] at H
        exact absurd H (by simp)
      ·
       rw [if_neg c12] at H
       exact absurd H (by simp)
     ·
      replace c11 := Bool.eq_false_iff.mpr c11
      subst c11
      have H1 : (some false) = some r := by rw [if_neg (show ¬ (false = true) by decide)] at H; exact H
      clear H
      have H := H1
      clear H1
      obtain rfl := Option.some.inj H
      go_wp2_with (first | ((with_reducible refine gate_callee (f := 27) rfl ?_); refine goesL_ (some 27) rfl rfl Try.func27 (by kernel_rfl) rfl #[.slice A0 l0.length c0] rfl (by (try simp only [List.map_toArray, List.map_cons, List.map_nil]); first | done | rfl | (simp only [List.length_drop, List.length_take]; rfl)) ?_; (with_reducible refine (formelaw05_frames.calls kj4 _ _ l0 t460 t461 false _ ?side1 ?side2 A10.out).mono ?_); (case side1 => repeat (first | exact (Kd.C_below HR0.out HB.out) | (with_reducible refine Kd.C_alloc ?_ _) | (with_reducible refine Kd.C_drewN ?_ _) | (with_reducible refine Kd.C_drew ?_))); (case side2 => exact HC0.out); rintro e w47 ⟨v463, v465, rfl, ho0, ho1, hb⟩; refine ⟨_, rfl, ?_⟩; have n0_ := Aside0.mk (Kd.R_lower ho0 (below_size (by repeat (first | (with_reducible first | exact HB.out | apply below_alloc | apply pw_below_drewN | apply below_drew1) | exact HB.out)))); have n1_ := Aside0.mk (Kd.R_lower ho1 (below_size (by repeat (first | (with_reducible first | exact HB.out | apply below_alloc | apply pw_below_drewN | apply below_drew1) | exact HB.out)))); have n2_ := Aside0.mk (below_step (by repeat (first | (with_reducible first | exact HB.out | apply below_alloc | apply pw_below_drewN | apply below_drew1) | exact HB.out)) hb); clear HB; have HO464 := n0_; have HO466 := n1_; have HB := n2_; clear n0_ n1_ n2_; (try clear hb); (try clear hb2); (try clear hk); (try clear hi); (try clear ho0); (try clear ho1)))
      go_ret
      exact ⟨by first | rfl | (simp [errW_none, errW_some] <;> rfl) | (simp [*, errW_none, errW_some] <;> rfl), by repeat (first | (with_reducible first | exact HB.out | apply below_alloc | apply pw_below_drewN | apply below_drew1) | exact HB.out)⟩
 ·
  replace c4 := Bool.eq_false_iff.mpr c4
  subst c4
  have H1 : (none) = some r := by rw [if_neg (show ¬ (false = true) by decide)] at H; exact H
  clear H
  have H := H1
  clear H1
  exact absurd H (by simp)

end Go.Proofs.Ytpggngomdemdgaa.P
