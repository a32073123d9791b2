-- Laid by a program of this session (wip/fam.sh) over the kit's words: Lean checks it.
import Derived.Test.YtpggngomdemdgaaPx0
import Derived.Test.YtpggngomdemdgaaPx1
import Derived.Test.YtpggngomdemdgaaPx2
import Derived.Test.YtpggngomdemdgaaPx3
import Derived.Test.YtpggngomdemdgaaPx4
import Derived.Test.YtpggngomdemdgaaPx6
import Derived.Test.YtpggngomdemdgaaPx7
import Derived.Test.YtpggngomdemdgaaHFrame
import Derived.Test.YtpggngomdemdgaaHGet
import Derived.Test.YtpggngomdemdgaaHText
namespace Go.Proofs.Ytpggngomdemdgaa.P
open Go.RowKit Go.Proofs.YtpggngomdemdgaaW.PrintWords Go.Proofs.YtpggngomdemdgaaW.PrintLast Go.Proofs.YtpggngomdemdgaaW.PrintMore
attribute [local go_sem] max2_int min2_int max_two min_two max_three min_three max_four min_four   -- for this text's walks alone
set_option linter.unusedVariables false
set_option linter.unusedSimpArgs false

/-! ### formelaw05_CodecMatchesReference: function 3 -/
mutual
def formelaw05_CodecMatchesReference.j0 : Nat → List Int → List Int → ByteArray → Bool → Bool → Option (Bool)
 | 0, _, _, _, _, _ => none
 | k + 1, x0, x1, x2, x7, x48 => if x48 = true then (some x7) else ((codec_Put.f k x0).bind fun bt313 => ((formeref05_Put.f k x0).bind fun bt317 => (if x7 = true then ((formeref05_SameBytes.f bt313.1 bt317.1).bind fun t321 => (if t321 = true then ((codec_Frame.f x0).bind fun bt322 => ((formeref05_Frame.f k x0).bind fun bt326 => (if bt313.2 = bt317.2 then ((formeref05_SameBytes.f bt322.1 bt326.1).bind fun t330 => (if t330 = true then (formelaw05_CodecMatchesReference.j1 k x0 x1 x2 (bt322.2 == bt326.2)) else (none))) else (formelaw05_CodecMatchesReference.j1 k x0 x1 x2 false)))) else (none))) else (none))))
def formelaw05_CodecMatchesReference.j1 : Nat → List Int → List Int → ByteArray → Bool → Option (Bool)
 | 0, _, _, _, _ => none
 | k + 1, x0, x1, x2, x7 => (codec_Text.f x2).bind fun bt331 => ((formeref05_Text.f k x2).bind fun bt335 => (if x7 = true then ((formeref05_SameInts.f k bt331.1 bt335.1).bind fun t339 => (if t339 = true then ((codec_Read.f k x0).bind fun bt340 => ((formeref05_Read.f k x0).bind fun bt343 => (if bt331.2 = bt335.2 then (if bt340.1.toList = bt343.1.toList then (if bt340.2.1 = bt343.2.1 then (formelaw05_CodecMatchesReference.j2 k x1 (bt340.2.2 == bt343.2.2)) else (formelaw05_CodecMatchesReference.j2 k x1 false)) else (none)) else (formelaw05_CodecMatchesReference.j2 k x1 false)))) else (none))) else (none)))
def formelaw05_CodecMatchesReference.j2 : Nat → List Int → Bool → Option (Bool)
 | 0, _, _ => none
 | k + 1, x1, x7 => if (x1.length : Int) ≤ 3000 then ((codec_Get.f x1).bind fun bt346 => ((formeref05_Get.f k x1).bind fun bt350 => (if x7 = true then ((formeref05_SameInts.f k bt346.1 bt350.1).bind fun t354 => (if t354 = true then ((codec_Frames.f k x1).bind fun bt355 => ((formeref05_Frames.f k x1).bind fun bt360 => (if bt346.2 = bt350.2 then ((formeref05_SameLists.f k bt355.1 bt360.1).bind fun t365 => (if t365 = true then (if bt355.2.1 = bt360.2.1 then (some (bt355.2.2 == bt360.2.2)) else (some false)) else (none))) else (some false)))) else (none))) else (none)))) else ((codec_Frames.f k x1).bind fun bt366 => ((formeref05_Frames.f k x1).bind fun bt371 => (if x7 = true then ((formeref05_SameLists.f k bt366.1 bt371.1).bind fun t376 => (if t376 = true then (if bt366.2.1 = bt371.2.1 then (some (bt366.2.2 == bt371.2.2)) else (some false)) else (none))) else (none))))
end
def formelaw05_CodecMatchesReference.f (k : Nat) (l0 : List Int) (l1 : List Int) (a2 : ByteArray) : Option (Bool) := (formelaw05_head.f k).bind fun t312 => (if t312 = true then (if (l0.length : Int) > 300 then (if (l0.length : Int) ≤ 4000 then (formelaw05_CodecMatchesReference.j0 k l0 l1 a2 true true) else (if (l1.length : Int) > 3000 then (if (l1.length : Int) ≤ 200000 then (formelaw05_CodecMatchesReference.j0 k l0 l1 a2 true true) else (if (a2.size : Int) > 300 then (formelaw05_CodecMatchesReference.j0 k l0 l1 a2 true (decide ((a2.size : Int) ≤ 2000))) else (formelaw05_CodecMatchesReference.j0 k l0 l1 a2 true false))) else (if (a2.size : Int) > 300 then (formelaw05_CodecMatchesReference.j0 k l0 l1 a2 true (decide ((a2.size : Int) ≤ 2000))) else (formelaw05_CodecMatchesReference.j0 k l0 l1 a2 true false)))) else (if (l1.length : Int) > 3000 then (if (l1.length : Int) ≤ 200000 then (formelaw05_CodecMatchesReference.j0 k l0 l1 a2 true true) else (if (a2.size : Int) > 300 then (formelaw05_CodecMatchesReference.j0 k l0 l1 a2 true (decide ((a2.size : Int) ≤ 2000))) else (formelaw05_CodecMatchesReference.j0 k l0 l1 a2 true false))) else (if (a2.size : Int) > 300 then (formelaw05_CodecMatchesReference.j0 k l0 l1 a2 true (decide ((a2.size : Int) ≤ 2000))) else (formelaw05_CodecMatchesReference.j0 k l0 l1 a2 true false)))) else (none))
theorem formelaw05_CodecMatchesReference.mono_l : ∀ k, (∀ y0 y1 y2 y3 y4, LeO (formelaw05_CodecMatchesReference.j0 k y0 y1 y2 y3 y4) (formelaw05_CodecMatchesReference.j0 (k + 1) y0 y1 y2 y3 y4)) ∧ (∀ y0 y1 y2 y3, LeO (formelaw05_CodecMatchesReference.j1 k y0 y1 y2 y3) (formelaw05_CodecMatchesReference.j1 (k + 1) y0 y1 y2 y3)) ∧ (∀ y0 y1, LeO (formelaw05_CodecMatchesReference.j2 k y0 y1) (formelaw05_CodecMatchesReference.j2 (k + 1) y0 y1))
 | 0 => ⟨fun _ _ _ _ _ r h => by simp [formelaw05_CodecMatchesReference.j0] at h, fun _ _ _ _ r h => by simp [formelaw05_CodecMatchesReference.j1] at h, fun _ _ r h => by simp [formelaw05_CodecMatchesReference.j2] at h⟩
 | k + 1 => by
  obtain ⟨ih0, ih1, ih2⟩ := formelaw05_CodecMatchesReference.mono_l k
  refine ⟨?_, ?_, ?_⟩
  ·
   intro y0 y1 y2 y3 y4
   unfold formelaw05_CodecMatchesReference.j0
   repeat' first
   | (with_reducible exact ih0 _ _ _ _ _)
   | (with_reducible exact ih1 _ _ _ _)
   | (with_reducible exact ih2 _ _)
   | (with_reducible exact codec_Frames.mono _ _)
   | (with_reducible exact codec_Put.mono _ _)
   | (with_reducible exact codec_Read.mono _ _)
   | (with_reducible exact formelaw05_head.mono _)
   | (with_reducible exact formeref05_Frame.mono _ _)
   | (with_reducible exact formeref05_Frames.mono _ _)
   | (with_reducible exact formeref05_Get.mono _ _)
   | (with_reducible exact formeref05_Put.mono _ _)
   | (with_reducible exact formeref05_Read.mono _ _)
   | (with_reducible exact formeref05_SameInts.mono _ _ _)
   | (with_reducible exact formeref05_SameLists.mono _ _ _)
   | (with_reducible exact formeref05_Text.mono _ _)
   | (with_reducible exact LeO.refl _)
   | (with_reducible exact LeO.none _)
   | (with_reducible refine LeO.ite ?_ ?_)
   | (with_reducible refine LeO.bind ?_ (fun _ => ?_))
   | exact ih0 _ _ _ _ _
   | exact ih1 _ _ _ _
   | exact ih2 _ _
   | exact codec_Frames.mono _ _
   | exact codec_Put.mono _ _
   | exact codec_Read.mono _ _
   | exact formelaw05_head.mono _
   | exact formeref05_Frame.mono _ _
   | exact formeref05_Frames.mono _ _
   | exact formeref05_Get.mono _ _
   | exact formeref05_Put.mono _ _
   | exact formeref05_Read.mono _ _
   | exact formeref05_SameInts.mono _ _ _
   | exact formeref05_SameLists.mono _ _ _
   | exact formeref05_Text.mono _ _
   | exact LeO.none _
   | refine LeO.ite ?_ ?_
   | refine LeO.bind ?_ (fun _ => ?_)
  ·
   intro y0 y1 y2 y3
   unfold formelaw05_CodecMatchesReference.j1
   repeat' first
   | (with_reducible exact ih0 _ _ _ _ _)
   | (with_reducible exact ih1 _ _ _ _)
   | (with_reducible exact ih2 _ _)
   | (with_reducible exact codec_Frames.mono _ _)
   | (with_reducible exact codec_Put.mono _ _)
   | (with_reducible exact codec_Read.mono _ _)
   | (with_reducible exact formelaw05_head.mono _)
   | (with_reducible exact formeref05_Frame.mono _ _)
   | (with_reducible exact formeref05_Frames.mono _ _)
   | (with_reducible exact formeref05_Get.mono _ _)
   | (with_reducible exact formeref05_Put.mono _ _)
   | (with_reducible exact formeref05_Read.mono _ _)
   | (with_reducible exact formeref05_SameInts.mono _ _ _)
   | (with_reducible exact formeref05_SameLists.mono _ _ _)
   | (with_reducible exact formeref05_Text.mono _ _)
   | (with_reducible exact LeO.refl _)
   | (with_reducible exact LeO.none _)
   | (with_reducible refine LeO.ite ?_ ?_)
   | (with_reducible refine LeO.bind ?_ (fun _ => ?_))
   | exact ih0 _ _ _ _ _
   | exact ih1 _ _ _ _
   | exact ih2 _ _
   | exact codec_Frames.mono _ _
   | exact codec_Put.mono _ _
   | exact codec_Read.mono _ _
   | exact formelaw05_head.mono _
   | exact formeref05_Frame.mono _ _
   | exact formeref05_Frames.mono _ _
   | exact formeref05_Get.mono _ _
   | exact formeref05_Put.mono _ _
   | exact formeref05_Read.mono _ _
   | exact formeref05_SameInts.mono _ _ _
   | exact formeref05_SameLists.mono _ _ _
   | exact formeref05_Text.mono _ _
   | exact LeO.none _
   | refine LeO.ite ?_ ?_
   | refine LeO.bind ?_ (fun _ => ?_)
  ·
   intro y0 y1
   unfold formelaw05_CodecMatchesReference.j2
   repeat' first
   | (with_reducible exact ih0 _ _ _ _ _)
   | (with_reducible exact ih1 _ _ _ _)
   | (with_reducible exact ih2 _ _)
   | (with_reducible exact codec_Frames.mono _ _)
   | (with_reducible exact codec_Put.mono _ _)
   | (with_reducible exact codec_Read.mono _ _)
   | (with_reducible exact formelaw05_head.mono _)
   | (with_reducible exact formeref05_Frame.mono _ _)
   | (with_reducible exact formeref05_Frames.mono _ _)
   | (with_reducible exact formeref05_Get.mono _ _)
   | (with_reducible exact formeref05_Put.mono _ _)
   | (with_reducible exact formeref05_Read.mono _ _)
   | (with_reducible exact formeref05_SameInts.mono _ _ _)
   | (with_reducible exact formeref05_SameLists.mono _ _ _)
   | (with_reducible exact formeref05_Text.mono _ _)
   | (with_reducible exact LeO.refl _)
   | (with_reducible exact LeO.none _)
   | (with_reducible refine LeO.ite ?_ ?_)
   | (with_reducible refine LeO.bind ?_ (fun _ => ?_))
   | exact ih0 _ _ _ _ _
   | exact ih1 _ _ _ _
   | exact ih2 _ _
   | exact codec_Frames.mono _ _
   | exact codec_Put.mono _ _
   | exact codec_Read.mono _ _
   | exact formelaw05_head.mono _
   | exact formeref05_Frame.mono _ _
   | exact formeref05_Frames.mono _ _
   | exact formeref05_Get.mono _ _
   | exact formeref05_Put.mono _ _
   | exact formeref05_Read.mono _ _
   | exact formeref05_SameInts.mono _ _ _
   | exact formeref05_SameLists.mono _ _ _
   | exact formeref05_Text.mono _ _
   | exact LeO.none _
   | refine LeO.ite ?_ ?_
   | refine LeO.bind ?_ (fun _ => ?_)
theorem formelaw05_CodecMatchesReference.mono : ∀ a0 a1 a2 k, LeO (formelaw05_CodecMatchesReference.f k a0 a1 a2) (formelaw05_CodecMatchesReference.f (k + 1) a0 a1 a2) := by
 intro a0 a1 a2 k
 obtain ⟨ih0, ih1, ih2⟩ := formelaw05_CodecMatchesReference.mono_l k
 unfold formelaw05_CodecMatchesReference.f
 repeat' first
   | (with_reducible exact ih0 _ _ _ _ _)
   | (with_reducible exact ih1 _ _ _ _)
   | (with_reducible exact ih2 _ _)
   | (with_reducible exact codec_Frames.mono _ _)
   | (with_reducible exact codec_Put.mono _ _)
   | (with_reducible exact codec_Read.mono _ _)
   | (with_reducible exact formelaw05_head.mono _)
   | (with_reducible exact formeref05_Frame.mono _ _)
   | (with_reducible exact formeref05_Frames.mono _ _)
   | (with_reducible exact formeref05_Get.mono _ _)
   | (with_reducible exact formeref05_Put.mono _ _)
   | (with_reducible exact formeref05_Read.mono _ _)
   | (with_reducible exact formeref05_SameInts.mono _ _ _)
   | (with_reducible exact formeref05_SameLists.mono _ _ _)
   | (with_reducible exact formeref05_Text.mono _ _)
   | (with_reducible exact LeO.refl _)
   | (with_reducible exact LeO.none _)
   | (with_reducible refine LeO.ite ?_ ?_)
   | (with_reducible refine LeO.bind ?_ (fun _ => ?_))
   | exact ih0 _ _ _ _ _
   | exact ih1 _ _ _ _
   | exact ih2 _ _
   | exact codec_Frames.mono _ _
   | exact codec_Put.mono _ _
   | exact codec_Read.mono _ _
   | exact formelaw05_head.mono _
   | exact formeref05_Frame.mono _ _
   | exact formeref05_Frames.mono _ _
   | exact formeref05_Get.mono _ _
   | exact formeref05_Put.mono _ _
   | exact formeref05_Read.mono _ _
   | exact formeref05_SameInts.mono _ _ _
   | exact formeref05_SameLists.mono _ _ _
   | exact formeref05_Text.mono _ _
   | exact LeO.none _
   | refine LeO.ite ?_ ?_
   | refine LeO.bind ?_ (fun _ => ?_)
set_option maxHeartbeats 8000000 in
set_option maxRecDepth 100000 in
theorem formelaw05_CodecMatchesReference.calls (k : Nat) (A0 : Option Addr) (c0 : Nat) (l0 : List Int) (A1 : Option Addr) (c1 : Nat) (l1 : List Int) (a2 : ByteArray) (r : Bool) (w : World) (hr0 : Kd.C (Kd.int .i64) w A0 l0.length l0) (hc0 : l0.length ≤ c0) (hr1 : Kd.C (Kd.int .u8) w A1 l1.length l1) (hc1 : l1.length ≤ c1) (h : formelaw05_CodecMatchesReference.f k l0 l1 a2 = some r) :
  Calls Try.prog 3 #[.slice A0 l0.length c0, .slice A1 l1.length c1, .string a2] w fun e w' => e = .returned (.bool r) ∧ Below w.heap.size w w' := by
 have HR0 := Aside0.mk hr0
 have HC0 := Aside0.mk hc0
 clear hr0 hc0
 have HR1 := Aside0.mk hr1
 have HC1 := Aside0.mk hc1
 clear hr1 hc1
 have HB := Aside0.mk (Below.refl w.heap.size w)
 have H : ((formelaw05_head.f k).bind fun t312 => (if t312 = true then (if (l0.length : Int) > 300 then (if (l0.length : Int) ≤ 4000 then (formelaw05_CodecMatchesReference.j0 k l0 l1 a2 true true) else (if (l1.length : Int) > 3000 then (if (l1.length : Int) ≤ 200000 then (formelaw05_CodecMatchesReference.j0 k l0 l1 a2 true true) else (if (a2.size : Int) > 300 then (formelaw05_CodecMatchesReference.j0 k l0 l1 a2 true (decide ((a2.size : Int) ≤ 2000))) else (formelaw05_CodecMatchesReference.j0 k l0 l1 a2 true false))) else (if (a2.size : Int) > 300 then (formelaw05_CodecMatchesReference.j0 k l0 l1 a2 true (decide ((a2.size : Int) ≤ 2000))) else (formelaw05_CodecMatchesReference.j0 k l0 l1 a2 true false)))) else (if (l1.length : Int) > 3000 then (if (l1.length : Int) ≤ 200000 then (formelaw05_CodecMatchesReference.j0 k l0 l1 a2 true true) else (if (a2.size : Int) > 300 then (formelaw05_CodecMatchesReference.j0 k l0 l1 a2 true (decide ((a2.size : Int) ≤ 2000))) else (formelaw05_CodecMatchesReference.j0 k l0 l1 a2 true false))) else (if (a2.size : Int) > 300 then (formelaw05_CodecMatchesReference.j0 k l0 l1 a2 true (decide ((a2.size : Int) ≤ 2000))) else (formelaw05_CodecMatchesReference.j0 k l0 l1 a2 true false)))) else (none))) = some r := h
 clear h
 replace H := Option.bind_eq_some_iff.mp H
 obtain ⟨t312, A40, H⟩ := H
 replace H : (if t312 = true then (if (l0.length : Int) > 300 then (if (l0.length : Int) ≤ 4000 then (formelaw05_CodecMatchesReference.j0 k l0 l1 a2 true true) else (if (l1.length : Int) > 3000 then (if (l1.length : Int) ≤ 200000 then (formelaw05_CodecMatchesReference.j0 k l0 l1 a2 true true) else (if (a2.size : Int) > 300 then (formelaw05_CodecMatchesReference.j0 k l0 l1 a2 true (decide ((a2.size : Int) ≤ 2000))) else (formelaw05_CodecMatchesReference.j0 k l0 l1 a2 true false))) else (if (a2.size : Int) > 300 then (formelaw05_CodecMatchesReference.j0 k l0 l1 a2 true (decide ((a2.size : Int) ≤ 2000))) else (formelaw05_CodecMatchesReference.j0 k l0 l1 a2 true false)))) else (if (l1.length : Int) > 3000 then (if (l1.length : Int) ≤ 200000 then (formelaw05_CodecMatchesReference.j0 k l0 l1 a2 true true) else (if (a2.size : Int) > 300 then (formelaw05_CodecMatchesReference.j0 k l0 l1 a2 true (decide ((a2.size : Int) ≤ 2000))) else (formelaw05_CodecMatchesReference.j0 k l0 l1 a2 true false))) else (if (a2.size : Int) > 300 then (formelaw05_CodecMatchesReference.j0 k l0 l1 a2 true (decide ((a2.size : Int) ≤ 2000))) else (formelaw05_CodecMatchesReference.j0 k l0 l1 a2 true false)))) else (none)) = some r := H
 have A4 := Aside0.mk A40
 clear A40
 by_cases c5 : t312 = true
 ·
  subst c5
  have H1 : (if (l0.length : Int) > 300 then (if (l0.length : Int) ≤ 4000 then (formelaw05_CodecMatchesReference.j0 k l0 l1 a2 true true) else (if (l1.length : Int) > 3000 then (if (l1.length : Int) ≤ 200000 then (formelaw05_CodecMatchesReference.j0 k l0 l1 a2 true true) else (if (a2.size : Int) > 300 then (formelaw05_CodecMatchesReference.j0 k l0 l1 a2 true (decide ((a2.size : Int) ≤ 2000))) else (formelaw05_CodecMatchesReference.j0 k l0 l1 a2 true false))) else (if (a2.size : Int) > 300 then (formelaw05_CodecMatchesReference.j0 k l0 l1 a2 true (decide ((a2.size : Int) ≤ 2000))) else (formelaw05_CodecMatchesReference.j0 k l0 l1 a2 true false)))) else (if (l1.length : Int) > 3000 then (if (l1.length : Int) ≤ 200000 then (formelaw05_CodecMatchesReference.j0 k l0 l1 a2 true true) else (if (a2.size : Int) > 300 then (formelaw05_CodecMatchesReference.j0 k l0 l1 a2 true (decide ((a2.size : Int) ≤ 2000))) else (formelaw05_CodecMatchesReference.j0 k l0 l1 a2 true false))) else (if (a2.size : Int) > 300 then (formelaw05_CodecMatchesReference.j0 k l0 l1 a2 true (decide ((a2.size : Int) ≤ 2000))) else (formelaw05_CodecMatchesReference.j0 k l0 l1 a2 true false)))) = some r := by rw [if_pos rfl] at H; exact H
  clear H
  have H := H1
  clear H1
  have HC6 := Aside0.mk H
  clear H
  go_enter Try.func3, Try.ntmps3
  go_upto_region 2 with (first | ((with_reducible refine gate_callee (f := 10) rfl ?_); refine goesL_ (some 20) rfl rfl Try.func10 (by kernel_rfl) rfl #[] rfl (by (try simp only [List.map_toArray, List.map_cons, List.map_nil]); first | done | rfl | (simp only [List.length_drop, List.length_take]; rfl)) ?_; (with_reducible refine (formelaw05_head.calls k  true _ A4.out).mono ?_); rintro e w7 ⟨rfl, hb⟩; refine ⟨_, rfl, ?_⟩; have n0_ := Aside0.mk (below_step (by repeat (first | (with_reducible first | exact HB.out | apply below_alloc | apply pw_below_drewN | apply below_drew1) | exact HB.out)) hb); clear HB; have HB := n0_; clear n0_; (try clear hb); (try clear hb2); (try clear hk); (try clear hi)))
  (try simp only [Act.put, List.setIfInBounds_toArray, List.set_cons_zero, List.set_cons_succ])
  go_cut [48] (fun v48 wc => ∃ (kq : Nat) (x48_5 : Bool), v48 = .bool x48_5 ∧ Aside0 (formelaw05_CodecMatchesReference.j0 kq l0 l1 a2 true x48_5 = some r) ∧ Aside0 (kq ≤ k) ∧ Aside0 (Below w.heap.size w wc))
  case first =>
   have H := HC6.out
   clear HC6
   by_cases c8 : (l0.length : Int) > 300
   ·
    rw [if_pos c8] at H
    have c8b0 : decide (300 < (l0.length : Int)) = true := decide_eq_true c8
    have c8b1 : decide (300 < l0.length) = true := decide_eq_true (by omega)
    clear c8
    (first | rw [c8b0] | (simp only [i64_w, i32_w]; rw [c8b0]) | skip)
    by_cases c9 : (l0.length : Int) ≤ 4000
    ·
     rw [if_pos c9] at H
     have c9b0 : decide ((l0.length : Int) ≤ 4000) = true := decide_eq_true c9
     have c9b1 : decide (l0.length ≤ 4000) = true := decide_eq_true (by omega)
     clear c9
     have H' := Aside0.mk H
     clear H
     go_wp2
     go_meet
     case rel => exact ⟨_, (true), (by first | rfl | (simp; done) | (simp [*]; done)), H', ⟨by first | omega | exact Nat.le_refl _⟩, ⟨by repeat (first | (with_reducible first | exact HB.out | apply below_alloc | apply pw_below_drewN | apply below_drew1) | exact HB.out)⟩⟩
    ·
     rw [if_neg c9] at H
     have c9b0 : decide ((l0.length : Int) ≤ 4000) = false := decide_eq_false c9
     have c9b1 : decide (l0.length ≤ 4000) = false := decide_eq_false (by omega)
     clear c9
     by_cases c10 : (l1.length : Int) > 3000
     ·
      rw [if_pos c10] at H
      have c10b0 : decide (3000 < (l1.length : Int)) = true := decide_eq_true c10
      have c10b1 : decide (3000 < l1.length) = true := decide_eq_true (by omega)
      clear c10
      by_cases c11 : (l1.length : Int) ≤ 200000
      ·
       rw [if_pos c11] at H
       have c11b0 : decide ((l1.length : Int) ≤ 200000) = true := decide_eq_true c11
       have c11b1 : decide (l1.length ≤ 200000) = true := decide_eq_true (by omega)
       clear c11
       have H' := Aside0.mk H
       clear H
       go_wp2
       go_meet
       case rel => exact ⟨_, (true), (by first | rfl | (simp; done) | (simp [*]; done)), H', ⟨by first | omega | exact Nat.le_refl _⟩, ⟨by repeat (first | (with_reducible first | exact HB.out | apply below_alloc | apply pw_below_drewN | apply below_drew1) | exact HB.out)⟩⟩
      ·
       rw [if_neg c11] at H
       have c11b0 : decide ((l1.length : Int) ≤ 200000) = false := decide_eq_false c11
       have c11b1 : decide (l1.length ≤ 200000) = false := decide_eq_false (by omega)
       clear c11
       by_cases c12 : (a2.size : Int) > 300
       ·
        rw [if_pos c12] at H
        have c12b0 : decide (300 < (a2.size : Int)) = true := decide_eq_true c12
        have c12b1 : decide (300 < a2.size) = true := decide_eq_true (by omega)
        clear c12
        have H' := Aside0.mk H
        clear H
        go_wp2
        go_meet
        case rel => exact ⟨_, (decide ((a2.size : Int) ≤ 2000)), (by first | rfl | (simp; done) | (simp [*]; done)), H', ⟨by first | omega | exact Nat.le_refl _⟩, ⟨by repeat (first | (with_reducible first | exact HB.out | apply below_alloc | apply pw_below_drewN | apply below_drew1) | exact HB.out)⟩⟩
       ·
        rw [if_neg c12] at H
        have c12b0 : decide (300 < (a2.size : Int)) = false := decide_eq_false c12
        have c12b1 : decide (300 < a2.size) = false := decide_eq_false (by omega)
        clear c12
        have H' := Aside0.mk H
        clear H
        go_wp2
        go_meet
        case rel => exact ⟨_, (false), (by first | rfl | (simp; done) | (simp [*]; done)), H', ⟨by first | omega | exact Nat.le_refl _⟩, ⟨by repeat (first | (with_reducible first | exact HB.out | apply below_alloc | apply pw_below_drewN | apply below_drew1) | exact HB.out)⟩⟩
     ·
      rw [if_neg c10] at H
      have c10b0 : decide (3000 < (l1.length : Int)) = false := decide_eq_false c10
      have c10b1 : decide (3000 < l1.length) = false := decide_eq_false (by omega)
      clear c10
      by_cases c13 : (a2.size : Int) > 300
      ·
       rw [if_pos c13] at H
       have c13b0 : decide (300 < (a2.size : Int)) = true := decide_eq_true c13
       have c13b1 : decide (300 < a2.size) = true := decide_eq_true (by omega)
       clear c13
       have H' := Aside0.mk H
       clear H
       go_wp2
       go_meet
       case rel => exact ⟨_, (decide ((a2.size : Int) ≤ 2000)), (by first | rfl | (simp; done) | (simp [*]; done)), H', ⟨by first | omega | exact Nat.le_refl _⟩, ⟨by repeat (first | (with_reducible first | exact HB.out | apply below_alloc | apply pw_below_drewN | apply below_drew1) | exact HB.out)⟩⟩
      ·
       rw [if_neg c13] at H
       have c13b0 : decide (300 < (a2.size : Int)) = false := decide_eq_false c13
       have c13b1 : decide (300 < a2.size) = false := decide_eq_false (by omega)
       clear c13
       have H' := Aside0.mk H
       clear H
       go_wp2
       go_meet
       case rel => exact ⟨_, (false), (by first | rfl | (simp; done) | (simp [*]; done)), H', ⟨by first | omega | exact Nat.le_refl _⟩, ⟨by repeat (first | (with_reducible first | exact HB.out | apply below_alloc | apply pw_below_drewN | apply below_drew1) | exact HB.out)⟩⟩
   ·
    rw [if_neg c8] at H
    have c8b0 : decide (300 < (l0.length : Int)) = false := decide_eq_false c8
    have c8b1 : decide (300 < l0.length) = false := decide_eq_false (by omega)
    clear c8
    (first | rw [c8b0] | (simp only [i64_w, i32_w]; rw [c8b0]) | skip)
    by_cases c14 : (l1.length : Int) > 3000
    ·
     rw [if_pos c14] at H
     have c14b0 : decide (3000 < (l1.length : Int)) = true := decide_eq_true c14
     have c14b1 : decide (3000 < l1.length) = true := decide_eq_true (by omega)
     clear c14
     by_cases c15 : (l1.length : Int) ≤ 200000
     ·
      rw [if_pos c15] at H
      have c15b0 : decide ((l1.length : Int) ≤ 200000) = true := decide_eq_true c15
      have c15b1 : decide (l1.length ≤ 200000) = true := decide_eq_true (by omega)
      clear c15
      have H' := Aside0.mk H
      clear H
      go_wp2
      go_meet
      case rel => exact ⟨_, (true), (by first | rfl | (simp; done) | (simp [*]; done)), H', ⟨by first | omega | exact Nat.le_refl _⟩, ⟨by repeat (first | (with_reducible first | exact HB.out | apply below_alloc | apply pw_below_drewN | apply below_drew1) | exact HB.out)⟩⟩
     ·
      rw [if_neg c15] at H
      have c15b0 : decide ((l1.length : Int) ≤ 200000) = false := decide_eq_false c15
      have c15b1 : decide (l1.length ≤ 200000) = false := decide_eq_false (by omega)
      clear c15
      by_cases c16 : (a2.size : Int) > 300
      ·
       rw [if_pos c16] at H
       have c16b0 : decide (300 < (a2.size : Int)) = true := decide_eq_true c16
       have c16b1 : decide (300 < a2.size) = true := decide_eq_true (by omega)
       clear c16
       have H' := Aside0.mk H
       clear H
       go_wp2
       go_meet
       case rel => exact ⟨_, (decide ((a2.size : Int) ≤ 2000)), (by first | rfl | (simp; done) | (simp [*]; done)), H', ⟨by first | omega | exact Nat.le_refl _⟩, ⟨by repeat (first | (with_reducible first | exact HB.out | apply below_alloc | apply pw_below_drewN | apply below_drew1) | exact HB.out)⟩⟩
      ·
       rw [if_neg c16] at H
       have c16b0 : decide (300 < (a2.size : Int)) = false := decide_eq_false c16
       have c16b1 : decide (300 < a2.size) = false := decide_eq_false (by omega)
       clear c16
       have H' := Aside0.mk H
       clear H
       go_wp2
       go_meet
       case rel => exact ⟨_, (false), (by first | rfl | (simp; done) | (simp [*]; done)), H', ⟨by first | omega | exact Nat.le_refl _⟩, ⟨by repeat (first | (with_reducible first | exact HB.out | apply below_alloc | apply pw_below_drewN | apply below_drew1) | exact HB.out)⟩⟩
    ·
     rw [if_neg c14] at H
     have c14b0 : decide (3000 < (l1.length : Int)) = false := decide_eq_false c14
     have c14b1 : decide (3000 < l1.length) = false := decide_eq_false (by omega)
     clear c14
     by_cases c17 : (a2.size : Int) > 300
     ·
      rw [if_pos c17] at H
      have c17b0 : decide (300 < (a2.size : Int)) = true := decide_eq_true c17
      have c17b1 : decide (300 < a2.size) = true := decide_eq_true (by omega)
      clear c17
      have H' := Aside0.mk H
      clear H
      go_wp2
      go_meet
      case rel => exact ⟨_, (decide ((a2.size : Int) ≤ 2000)), (by first | rfl | (simp; done) | (simp [*]; done)), H', ⟨by first | omega | exact Nat.le_refl _⟩, ⟨by repeat (first | (with_reducible first | exact HB.out | apply below_alloc | apply pw_below_drewN | apply below_drew1) | exact HB.out)⟩⟩
     ·
      rw [if_neg c17] at H
      have c17b0 : decide (300 < (a2.size : Int)) = false := decide_eq_false c17
      have c17b1 : decide (300 < a2.size) = false := decide_eq_false (by omega)
      clear c17
      have H' := Aside0.mk H
      clear H
      go_wp2
      go_meet
      case rel => exact ⟨_, (false), (by first | rfl | (simp; done) | (simp [*]; done)), H', ⟨by first | omega | exact Nat.le_refl _⟩, ⟨by repeat (first | (with_reducible first | exact HB.out | apply below_alloc | apply pw_below_drewN | apply below_drew1) | exact HB.out)⟩⟩
  case rest =>
   clear HC6
   try clear c1
   try clear p2
   try clear c3
   try clear c5
   try clear c8
   try clear c8b0
   try clear c8b1
   try clear c9
   try clear c9b0
   try clear c9b1
   try clear c10
   try clear c10b0
   try clear c10b1
   try clear c11
   try clear c11b0
   try clear c11b1
   try clear c12
   try clear c12b0
   try clear c12b1
   try clear c13
   try clear c13b0
   try clear c13b1
   try clear c14
   try clear c14b0
   try clear c14b1
   try clear c15
   try clear c15b0
   try clear c15b1
   try clear c16
   try clear c16b0
   try clear c16b1
   try clear c17
   try clear c17b0
   try clear c17b1
   obtain ⟨kq, x48_5, rfl, HA, HJ5, HB⟩ := hcut
   cases kq with
   | zero => exact absurd HA.out (by simp [formelaw05_CodecMatchesReference.j0])
   | succ kj5 =>
    have H := HA.out
    clear HA
    simp only [formelaw05_CodecMatchesReference.j0] at H
    by_cases c18 : x48_5 = true
    ·
     subst c18
     have H1 : (some true) = some r := by rw [if_pos rfl] at H; exact H
     clear H
     have H := H1
     clear H1
     obtain rfl := Option.some.inj H
     go_wp2
     go_ret
     exact ⟨by first | rfl | (simp [errW_none, errW_some] <;> rfl) | (simp [*, errW_none, errW_some] <;> rfl), by repeat (first | (with_reducible first | exact HB.out | apply below_alloc | apply pw_below_drewN | apply below_drew1) | exact HB.out)⟩
    ·
     replace c18 := Bool.eq_false_iff.mpr c18
     subst c18
     have H1 : ((codec_Put.f kj5 l0).bind fun bt313 => ((formeref05_Put.f kj5 l0).bind fun bt317 => (if true = true then ((formeref05_SameBytes.f bt313.1 bt317.1).bind fun t321 => (if t321 = true then ((codec_Frame.f l0).bind fun bt322 => ((formeref05_Frame.f kj5 l0).bind fun bt326 => (if bt313.2 = bt317.2 then ((formeref05_SameBytes.f bt322.1 bt326.1).bind fun t330 => (if t330 = true then (formelaw05_CodecMatchesReference.j1 kj5 l0 l1 a2 (bt322.2 == bt326.2)) else (none))) else (formelaw05_CodecMatchesReference.j1 kj5 l0 l1 a2 false)))) else (none))) else (none)))) = some r := by rw [if_neg (show ¬ (false = true) by decide)] at H; exact H
     clear H
     have H := H1
     clear H1
     replace H := Option.bind_eq_some_iff.mp H
     obtain ⟨⟨t313, t314⟩, A190, H⟩ := H
     replace H : ((formeref05_Put.f kj5 l0).bind fun bt317 => (if true = true then ((formeref05_SameBytes.f t313 bt317.1).bind fun t321 => (if t321 = true then ((codec_Frame.f l0).bind fun bt322 => ((formeref05_Frame.f kj5 l0).bind fun bt326 => (if t314 = bt317.2 then ((formeref05_SameBytes.f bt322.1 bt326.1).bind fun t330 => (if t330 = true then (formelaw05_CodecMatchesReference.j1 kj5 l0 l1 a2 (bt322.2 == bt326.2)) else (none))) else (formelaw05_CodecMatchesReference.j1 kj5 l0 l1 a2 false)))) else (none))) else (none))) = some r := H
     have A19 := Aside0.mk A190
     clear A190
     replace H := Option.bind_eq_some_iff.mp H
     obtain ⟨⟨t317, t318⟩, A200, H⟩ := H
     replace H : (if true = true then ((formeref05_SameBytes.f t313 t317).bind fun t321 => (if t321 = true then ((codec_Frame.f l0).bind fun bt322 => ((formeref05_Frame.f kj5 l0).bind fun bt326 => (if t314 = t318 then ((formeref05_SameBytes.f bt322.1 bt326.1).bind fun t330 => (if t330 = true then (formelaw05_CodecMatchesReference.j1 kj5 l0 l1 a2 (bt322.2 == bt326.2)) else (none))) else (formelaw05_CodecMatchesReference.j1 kj5 l0 l1 a2 false)))) else (none))) else (none)) = some r := H
     have A20 := Aside0.mk A200
     clear A200
     (first | rw [if_pos (rfl : true = true)] at H | rw [if_pos True.intro] at H)
     replace H := Option.bind_eq_some_iff.mp H
     obtain ⟨t321, A210, H⟩ := H
     replace H : (if t321 = true then ((codec_Frame.f l0).bind fun bt322 => ((formeref05_Frame.f kj5 l0).bind fun bt326 => (if t314 = t318 then ((formeref05_SameBytes.f bt322.1 bt326.1).bind fun t330 => (if t330 = true then (formelaw05_CodecMatchesReference.j1 kj5 l0 l1 a2 (bt322.2 == bt326.2)) else (none))) else (formelaw05_CodecMatchesReference.j1 kj5 l0 l1 a2 false)))) else (none)) = some r := H
     have A21 := Aside0.mk A210
     clear A210
     by_cases c22 : t321 = true
     ·
      subst c22
      have H1 : ((codec_Frame.f l0).bind fun bt322 => ((formeref05_Frame.f kj5 l0).bind fun bt326 => (if t314 = t318 then ((formeref05_SameBytes.f bt322.1 bt326.1).bind fun t330 => (if t330 = true then (formelaw05_CodecMatchesReference.j1 kj5 l0 l1 a2 (bt322.2 == bt326.2)) else (none))) else (formelaw05_CodecMatchesReference.j1 kj5 l0 l1 a2 false)))) = some r := by rw [if_pos rfl] at H; exact H
      clear H
      have H := H1
      clear H1
      replace H := Option.bind_eq_some_iff.mp H
      obtain ⟨⟨t322, t323⟩, A230, H⟩ := H
      replace H : ((formeref05_Frame.f kj5 l0).bind fun bt326 => (if t314 = t318 then ((formeref05_SameBytes.f t322 bt326.1).bind fun t330 => (if t330 = true then (formelaw05_CodecMatchesReference.j1 kj5 l0 l1 a2 (t323 == bt326.2)) else (none))) else (formelaw05_CodecMatchesReference.j1 kj5 l0 l1 a2 false))) = some r := H
      have A23 := Aside0.mk A230
      clear A230
      replace H := Option.bind_eq_some_iff.mp H
      obtain ⟨⟨t326, t327⟩, A240, H⟩ := H
      replace H : (if t314 = t318 then ((formeref05_SameBytes.f t322 t326).bind fun t330 => (if t330 = true then (formelaw05_CodecMatchesReference.j1 kj5 l0 l1 a2 (t323 == t327)) else (none))) else (formelaw05_CodecMatchesReference.j1 kj5 l0 l1 a2 false)) = some r := H
      have A24 := Aside0.mk A240
      clear A240
      have HC25 := Aside0.mk H
      clear H
      go_upto_region 9 with (first | ((with_reducible refine gate_callee (f := 11) rfl ?_); refine goesL_ (some 52) rfl rfl Try.func11 (by kernel_rfl) rfl #[.slice A0 l0.length c0] rfl (by (try simp only [List.map_toArray, List.map_cons, List.map_nil]); first | done | rfl | (simp only [List.length_drop, List.length_take]; rfl)) ?_; (with_reducible refine (codec_Put.calls kj5 _ _ l0 t313 t314 _ ?side1 ?side2 A19.out).mono ?_); (case side1 => repeat (first | exact (Kd.C_below HR0.out HB.out) | (with_reducible refine Kd.C_alloc ?_ _) | (with_reducible refine Kd.C_drewN ?_ _) | (with_reducible refine Kd.C_drew ?_))); (case side2 => exact HC0.out); rintro e w26 ⟨v315, rfl, ho0, hb⟩; refine ⟨_, rfl, ?_⟩; have n0_ := Aside0.mk (Kd.R_lower ho0 (below_size (by repeat (first | (with_reducible first | exact HB.out | apply below_alloc | apply pw_below_drewN | apply below_drew1) | exact HB.out)))); have n1_ := Aside0.mk (below_step (by repeat (first | (with_reducible first | exact HB.out | apply below_alloc | apply pw_below_drewN | apply below_drew1) | exact HB.out)) hb); clear HB; have HO316 := n0_; have HB := n1_; clear n0_ n1_; (try clear hb); (try clear hb2); (try clear hk); (try clear hi); (try clear ho0)) | ((with_reducible refine gate_callee (f := 12) rfl ?_); refine goesL_ (some 57) rfl rfl Try.func12 (by kernel_rfl) rfl #[.slice A0 l0.length c0] rfl (by (try simp only [List.map_toArray, List.map_cons, List.map_nil]); first | done | rfl | (simp only [List.length_drop, List.length_take]; rfl)) ?_; (with_reducible refine (formeref05_Put.calls kj5 _ _ l0 t317 t318 _ ?side1 ?side2 A20.out).mono ?_); (case side1 => repeat (first | exact (Kd.C_below HR0.out HB.out) | (with_reducible refine Kd.C_alloc ?_ _) | (with_reducible refine Kd.C_drewN ?_ _) | (with_reducible refine Kd.C_drew ?_))); (case side2 => exact HC0.out); rintro e w27 ⟨v319, rfl, ho0, hb⟩; refine ⟨_, rfl, ?_⟩; have n0_ := Aside0.mk (Kd.R_elder' (by (with_reducible repeat (first | apply Kd.R_alloc | apply Kd.R_drewN | apply Kd.R_drew)); exact HO316.out) (Kd.R_base ho0) hb); have n1_ := Aside0.mk (Kd.R_lower (Kd.R_new' ho0 (Kd.R_lt (by (with_reducible repeat (first | apply Kd.R_alloc | apply Kd.R_drewN | apply Kd.R_drew)); exact HO316.out))) (below_size (by repeat (first | (with_reducible first | exact HB.out | apply below_alloc | apply pw_below_drewN | apply below_drew1) | exact HB.out)))); have n2_ := Aside0.mk (below_step (by repeat (first | (with_reducible first | exact HB.out | apply below_alloc | apply pw_below_drewN | apply below_drew1) | exact HB.out)) hb); clear HO316; clear HB; have HO316 := n0_; have HO320 := n1_; have HB := n2_; clear n0_ n1_ n2_; (try clear hb); (try clear hb2); (try clear hk); (try clear hi); (try clear ho0); obtain ⟨Ao28, co28, eo28⟩ := Kd.R_slice HO316.out; subst eo28; obtain ⟨Ao29, co29, eo29⟩ := Kd.R_slice HO320.out; subst eo29) | (go_at_call 13; (with_reducible refine (formeref05_SameBytes.calls _ _ t313 _ _ t317 true _ ?side1 ?side2 ?side3 ?side4 A21.out).mono ?_); (case side1 => repeat (first | exact (Kd.R_reads' HO316.out).2.2 | (with_reducible refine Kd.C_alloc ?_ _) | (with_reducible refine Kd.C_drewN ?_ _) | (with_reducible refine Kd.C_drew ?_))); (case side2 => exact (Kd.R_reads' HO316.out).2.1); (case side3 => repeat (first | exact (Kd.R_reads' HO320.out).2.2 | (with_reducible refine Kd.C_alloc ?_ _) | (with_reducible refine Kd.C_drewN ?_ _) | (with_reducible refine Kd.C_drew ?_))); (case side4 => exact (Kd.R_reads' HO320.out).2.1); rintro e w' ⟨rfl, ⟨nd, rfl⟩⟩) | ((with_reducible refine gate_callee (f := 14) rfl ?_); refine goesL_ (some 73) rfl rfl Try.func14 (by kernel_rfl) rfl #[.slice A0 l0.length c0] rfl (by (try simp only [List.map_toArray, List.map_cons, List.map_nil]); first | done | rfl | (simp only [List.length_drop, List.length_take]; rfl)) ?_; (with_reducible refine (codec_Frame.calls _ _ l0 t322 t323 _ ?side1 ?side2 A23.out).mono ?_); (case side1 => repeat (first | exact (Kd.C_below HR0.out (by repeat (first | (with_reducible first | exact HB.out | apply below_alloc | apply pw_below_drewN | apply below_drew1) | exact HB.out))) | (with_reducible refine Kd.C_alloc ?_ _) | (with_reducible refine Kd.C_drewN ?_ _) | (with_reducible refine Kd.C_drew ?_))); (case side2 => exact HC0.out); rintro e w30 ⟨v324, rfl, ho0, hb⟩; refine ⟨_, rfl, ?_⟩; have n0_ := Aside0.mk (Kd.R_elder' (by (with_reducible repeat (first | apply Kd.R_alloc | apply Kd.R_drewN | apply Kd.R_drew)); exact HO316.out) (Kd.R_base ho0) hb); have n1_ := Aside0.mk (Kd.R_elder' (by (with_reducible repeat (first | apply Kd.R_alloc | apply Kd.R_drewN | apply Kd.R_drew)); exact HO320.out) (Kd.R_base ho0) hb); have n2_ := Aside0.mk (Kd.R_lower (Kd.R_new' (Kd.R_new' ho0 (Kd.R_lt (by (with_reducible repeat (first | apply Kd.R_alloc | apply Kd.R_drewN | apply Kd.R_drew)); exact HO316.out))) (Kd.R_lt (by (with_reducible repeat (first | apply Kd.R_alloc | apply Kd.R_drewN | apply Kd.R_drew)); exact HO320.out))) (below_size (by repeat (first | (with_reducible first | exact HB.out | apply below_alloc | apply pw_below_drewN | apply below_drew1) | exact HB.out)))); have n3_ := Aside0.mk (below_step (by repeat (first | (with_reducible first | exact HB.out | apply below_alloc | apply pw_below_drewN | apply below_drew1) | exact HB.out)) hb); clear HO316; clear HO320; clear HB; have HO316 := n0_; have HO320 := n1_; have HO325 := n2_; have HB := n3_; clear n0_ n1_ n2_ n3_; (try clear hb); (try clear hb2); (try clear hk); (try clear hi); (try clear ho0)) | ((with_reducible refine gate_callee (f := 15) rfl ?_); refine goesL_ (some 78) rfl rfl Try.func15 (by kernel_rfl) rfl #[.slice A0 l0.length c0] rfl (by (try simp only [List.map_toArray, List.map_cons, List.map_nil]); first | done | rfl | (simp only [List.length_drop, List.length_take]; rfl)) ?_; (with_reducible refine (formeref05_Frame.calls kj5 _ _ l0 t326 t327 _ ?side1 ?side2 A24.out).mono ?_); (case side1 => repeat (first | exact (Kd.C_below HR0.out HB.out) | (with_reducible refine Kd.C_alloc ?_ _) | (with_reducible refine Kd.C_drewN ?_ _) | (with_reducible refine Kd.C_drew ?_))); (case side2 => exact HC0.out); rintro e w31 ⟨v328, rfl, ho0, hb⟩; refine ⟨_, rfl, ?_⟩; have n0_ := Aside0.mk (Kd.R_elder' (by (with_reducible repeat (first | apply Kd.R_alloc | apply Kd.R_drewN | apply Kd.R_drew)); exact HO316.out) (Kd.R_base ho0) hb); have n1_ := Aside0.mk (Kd.R_elder' (by (with_reducible repeat (first | apply Kd.R_alloc | apply Kd.R_drewN | apply Kd.R_drew)); exact HO320.out) (Kd.R_base ho0) hb); have n2_ := Aside0.mk (Kd.R_elder' (by (with_reducible repeat (first | apply Kd.R_alloc | apply Kd.R_drewN | apply Kd.R_drew)); exact HO325.out) (Kd.R_base ho0) hb); have n3_ := Aside0.mk (Kd.R_lower (Kd.R_new' (Kd.R_new' (Kd.R_new' ho0 (Kd.R_lt (by (with_reducible repeat (first | apply Kd.R_alloc | apply Kd.R_drewN | apply Kd.R_drew)); exact HO316.out))) (Kd.R_lt (by (with_reducible repeat (first | apply Kd.R_alloc | apply Kd.R_drewN | apply Kd.R_drew)); exact HO320.out))) (Kd.R_lt (by (with_reducible repeat (first | apply Kd.R_alloc | apply Kd.R_drewN | apply Kd.R_drew)); exact HO325.out))) (below_size (by repeat (first | (with_reducible first | exact HB.out | apply below_alloc | apply pw_below_drewN | apply below_drew1) | exact HB.out)))); have n4_ := Aside0.mk (below_step (by repeat (first | (with_reducible first | exact HB.out | apply below_alloc | apply pw_below_drewN | apply below_drew1) | exact HB.out)) hb); clear HO316; clear HO320; clear HO325; clear HB; have HO316 := n0_; have HO320 := n1_; have HO325 := n2_; have HO329 := n3_; have HB := n4_; clear n0_ n1_ n2_ n3_ n4_; (try clear hb); (try clear hb2); (try clear hk); (try clear hi); (try clear ho0)))
      (try simp only [Act.put, List.setIfInBounds_toArray, List.set_cons_zero, List.set_cons_succ])
      go_cut [7] (fun v7 wc => ∃ (kq : Nat) (x7_24 : Bool), v7 = .bool x7_24 ∧ Aside0 (formelaw05_CodecMatchesReference.j1 kq l0 l1 a2 x7_24 = some r) ∧ Aside0 (kq ≤ kj5) ∧ Aside0 (Below w.heap.size w wc))
      case first =>
       have H := HC25.out
       clear HC25
       by_cases c32 : t314 = t318
       ·
        rw [if_pos c32] at H
        have c32b0 : (t314 == t318) = true := beq_iff_eq.mpr c32
        have c32b1 : (t314 != t318) = false := bne_eq_false_iff_eq.mpr c32
        clear c32
        (first | rw [c32b0] | (simp only [i64_w, i32_w]; rw [c32b0]) | skip)
        replace H := Option.bind_eq_some_iff.mp H
        obtain ⟨t330, A330, H⟩ := H
        replace H : (if t330 = true then (formelaw05_CodecMatchesReference.j1 kj5 l0 l1 a2 (t323 == t327)) else (none)) = some r := H
        have A33 := Aside0.mk A330
        clear A330
        by_cases c34 : t330 = true
        ·
         subst c34
         have H1 : (formelaw05_CodecMatchesReference.j1 kj5 l0 l1 a2 (t323 == t327)) = some r := by rw [if_pos rfl] at H; exact H
         clear H
         have H := H1
         clear H1
         have H' := Aside0.mk H
         clear H
         obtain ⟨Ao35, co35, eo35⟩ := Kd.R_slice HO325.out
         subst eo35
         obtain ⟨Ao36, co36, eo36⟩ := Kd.R_slice HO329.out
         subst eo36
         go_wp2_with (first | (go_at_call 13; (with_reducible refine (formeref05_SameBytes.calls _ _ t322 _ _ t326 true _ ?side1 ?side2 ?side3 ?side4 A33.out).mono ?_); (case side1 => repeat (first | exact (Kd.R_reads' HO325.out).2.2 | (with_reducible refine Kd.C_alloc ?_ _) | (with_reducible refine Kd.C_drewN ?_ _) | (with_reducible refine Kd.C_drew ?_))); (case side2 => exact (Kd.R_reads' HO325.out).2.1); (case side3 => repeat (first | exact (Kd.R_reads' HO329.out).2.2 | (with_reducible refine Kd.C_alloc ?_ _) | (with_reducible refine Kd.C_drewN ?_ _) | (with_reducible refine Kd.C_drew ?_))); (case side4 => exact (Kd.R_reads' HO329.out).2.1); rintro e w' ⟨rfl, ⟨nd, rfl⟩⟩))
         go_meet
         case rel => exact ⟨_, ((t323 == t327)), (by first | rfl | (simp; done) | (simp [*]; done)), H', ⟨by have := HJ5.out; first | omega | exact Nat.le_refl _⟩, ⟨by repeat (first | (with_reducible first | exact HB.out | apply below_alloc | apply pw_below_drewN | apply below_drew1) | exact HB.out)⟩⟩
        ·
         replace c34 := Bool.eq_false_iff.mpr c34
         subst c34
         have H1 : (none) = some r := by rw [if_neg (show ¬ (false = true) by decide)] at H; exact H
         clear H
         have H := H1
         clear H1
         exact absurd H (by simp)
       ·
        rw [if_neg c32] at H
        have c32b0 : (t314 == t318) = false := beq_eq_false_iff_ne.mpr c32
        have c32b1 : (t314 != t318) = true := bne_iff_ne.mpr c32
        (first | rw [c32b0] | (simp only [i64_w, i32_w]; rw [c32b0]) | skip)
        have H' := Aside0.mk H
        clear H
        go_wp2
        go_meet
        case rel => exact ⟨_, (false), (by first | rfl | (simp; done) | (simp [*]; done)), H', ⟨by have := HJ5.out; first | omega | exact Nat.le_refl _⟩, ⟨by repeat (first | (with_reducible first | exact HB.out | apply below_alloc | apply pw_below_drewN | apply below_drew1) | exact HB.out)⟩⟩
      case rest =>
       clear HC25
       try clear c1
       try clear c2
       try clear p2
       try clear c3
       try clear c5
       try clear c8
       try clear c8b0
       try clear c8b1
       try clear c9
       try clear c9b0
       try clear c9b1
       try clear c10
       try clear c10b0
       try clear c10b1
       try clear c11
       try clear c11b0
       try clear c11b1
       try clear c12
       try clear c12b0
       try clear c12b1
       try clear c13
       try clear c13b0
       try clear c13b1
       try clear c14
       try clear c14b0
       try clear c14b1
       try clear c15
       try clear c15b0
       try clear c15b1
       try clear c16
       try clear c16b0
       try clear c16b1
       try clear c17
       try clear c17b0
       try clear c17b1
       try clear c18
       try clear c22
       try clear c32
       try clear c32b0
       try clear c32b1
       try clear c34
       try clear p2
       obtain ⟨kq, x7_24, rfl, HA, HJ24, HB⟩ := hcut
       cases kq with
       | zero => exact absurd HA.out (by simp [formelaw05_CodecMatchesReference.j1])
       | succ kj24 =>
        have H := HA.out
        clear HA
        simp only [formelaw05_CodecMatchesReference.j1] at H
        replace H := Option.bind_eq_some_iff.mp H
        obtain ⟨⟨t331, t332⟩, A370, H⟩ := H
        replace H : ((formeref05_Text.f kj24 a2).bind fun bt335 => (if x7_24 = true then ((formeref05_SameInts.f kj24 t331 bt335.1).bind fun t339 => (if t339 = true then ((codec_Read.f kj24 l0).bind fun bt340 => ((formeref05_Read.f kj24 l0).bind fun bt343 => (if t332 = bt335.2 then (if bt340.1.toList = bt343.1.toList then (if bt340.2.1 = bt343.2.1 then (formelaw05_CodecMatchesReference.j2 kj24 l1 (bt340.2.2 == bt343.2.2)) else (formelaw05_CodecMatchesReference.j2 kj24 l1 false)) else (none)) else (formelaw05_CodecMatchesReference.j2 kj24 l1 false)))) else (none))) else (none))) = some r := H
        have A37 := Aside0.mk A370
        clear A370
        replace H := Option.bind_eq_some_iff.mp H
        obtain ⟨⟨t335, t336⟩, A380, H⟩ := H
        replace H : (if x7_24 = true then ((formeref05_SameInts.f kj24 t331 t335).bind fun t339 => (if t339 = true then ((codec_Read.f kj24 l0).bind fun bt340 => ((formeref05_Read.f kj24 l0).bind fun bt343 => (if t332 = t336 then (if bt340.1.toList = bt343.1.toList then (if bt340.2.1 = bt343.2.1 then (formelaw05_CodecMatchesReference.j2 kj24 l1 (bt340.2.2 == bt343.2.2)) else (formelaw05_CodecMatchesReference.j2 kj24 l1 false)) else (none)) else (formelaw05_CodecMatchesReference.j2 kj24 l1 false)))) else (none))) else (none)) = some r := H
        have A38 := Aside0.mk A380
        clear A380
        by_cases c39 : x7_24 = true
        ·
         subst c39
         have H1 : ((formeref05_SameInts.f kj24 t331 t335).bind fun t339 => (if t339 = true then ((codec_Read.f kj24 l0).bind fun bt340 => ((formeref05_Read.f kj24 l0).bind fun bt343 => (if t332 = t336 then (if bt340.1.toList = bt343.1.toList then (if bt340.2.1 = bt343.2.1 then (formelaw05_CodecMatchesReference.j2 kj24 l1 (bt340.2.2 == bt343.2.2)) else (formelaw05_CodecMatchesReference.j2 kj24 l1 false)) else (none)) else (formelaw05_CodecMatchesReference.j2 kj24 l1 false)))) else (none))) = some r := by rw [if_pos rfl] at H; exact H
         clear H
         have H := H1
         clear H1
         replace H := Option.bind_eq_some_iff.mp H
         obtain ⟨t339, A400, H⟩ := H
         replace H : (if t339 = true then ((codec_Read.f kj24 l0).bind fun bt340 => ((formeref05_Read.f kj24 l0).bind fun bt343 => (if t332 = t336 then (if bt340.1.toList = bt343.1.toList then (if bt340.2.1 = bt343.2.1 then (formelaw05_CodecMatchesReference.j2 kj24 l1 (bt340.2.2 == bt343.2.2)) else (formelaw05_CodecMatchesReference.j2 kj24 l1 false)) else (none)) else (formelaw05_CodecMatchesReference.j2 kj24 l1 false)))) else (none)) = some r := H
         have A40 := Aside0.mk A400
         clear A400
         by_cases c41 : t339 = true
         ·
          subst c41
          have H1 : ((codec_Read.f kj24 l0).bind fun bt340 => ((formeref05_Read.f kj24 l0).bind fun bt343 => (if t332 = t336 then (if bt340.1.toList = bt343.1.toList then (if bt340.2.1 = bt343.2.1 then (formelaw05_CodecMatchesReference.j2 kj24 l1 (bt340.2.2 == bt343.2.2)) else (formelaw05_CodecMatchesReference.j2 kj24 l1 false)) else (none)) else (formelaw05_CodecMatchesReference.j2 kj24 l1 false)))) = some r := by rw [if_pos rfl] at H; exact H
          clear H
          have H := H1
          clear H1
          replace H := Option.bind_eq_some_iff.mp H
          obtain ⟨⟨t340, t341, t342⟩, A420, H⟩ := H
          replace H : ((formeref05_Read.f kj24 l0).bind fun bt343 => (if t332 = t336 then (if t340.toList = bt343.1.toList then (if t341 = bt343.2.1 then (formelaw05_CodecMatchesReference.j2 kj24 l1 (t342 == bt343.2.2)) else (formelaw05_CodecMatchesReference.j2 kj24 l1 false)) else (none)) else (formelaw05_CodecMatchesReference.j2 kj24 l1 false))) = some r := H
          have A42 := Aside0.mk A420
          clear A420
          replace H := Option.bind_eq_some_iff.mp H
          obtain ⟨⟨t343, t344, t345⟩, A430, H⟩ := H
          replace H : (if t332 = t336 then (if t340.toList = t343.toList then (if t341 = t344 then (formelaw05_CodecMatchesReference.j2 kj24 l1 (t342 == t345)) else (formelaw05_CodecMatchesReference.j2 kj24 l1 false)) else (none)) else (formelaw05_CodecMatchesReference.j2 kj24 l1 false)) = some r := H
          have A43 := Aside0.mk A430
          clear A430
          have HC44 := Aside0.mk H
          clear H
          go_upto_region 15 with (first | ((with_reducible refine gate_callee (f := 16) rfl ?_); refine goesL_ (some 94) rfl rfl Try.func16 (by kernel_rfl) rfl #[.string a2] rfl (by (try simp only [List.map_toArray, List.map_cons, List.map_nil]); first | done | rfl | (simp only [List.length_drop, List.length_take]; rfl)) ?_; (with_reducible refine (codec_Text.calls a2 t331 t332 _ A37.out).mono ?_); rintro e w45 ⟨v333, rfl, ho0, hb⟩; refine ⟨_, rfl, ?_⟩; have n0_ := Aside0.mk (Kd.R_lower ho0 (below_size (by repeat (first | (with_reducible first | exact HB.out | apply below_alloc | apply pw_below_drewN | apply below_drew1) | exact HB.out)))); have n1_ := Aside0.mk (below_step (by repeat (first | (with_reducible first | exact HB.out | apply below_alloc | apply pw_below_drewN | apply below_drew1) | exact HB.out)) hb); clear HB; have HO334 := n0_; have HB := n1_; clear n0_ n1_; (try clear hb); (try clear hb2); (try clear hk); (try clear hi); (try clear ho0)) | ((with_reducible refine gate_callee (f := 17) rfl ?_); refine goesL_ (some 99) rfl rfl Try.func17 (by kernel_rfl) rfl #[.string a2] rfl (by (try simp only [List.map_toArray, List.map_cons, List.map_nil]); first | done | rfl | (simp only [List.length_drop, List.length_take]; rfl)) ?_; (with_reducible refine (formeref05_Text.calls kj24 a2 t335 t336 _ A38.out).mono ?_); rintro e w46 ⟨v337, rfl, ho0, hb⟩; refine ⟨_, rfl, ?_⟩; have n0_ := Aside0.mk (Kd.R_elder' (by (with_reducible repeat (first | apply Kd.R_alloc | apply Kd.R_drewN | apply Kd.R_drew)); exact HO334.out) (Kd.R_base ho0) hb); have n1_ := Aside0.mk (Kd.R_lower (Kd.R_new' ho0 (Kd.R_lt (by (with_reducible repeat (first | apply Kd.R_alloc | apply Kd.R_drewN | apply Kd.R_drew)); exact HO334.out))) (below_size (by repeat (first | (with_reducible first | exact HB.out | apply below_alloc | apply pw_below_drewN | apply below_drew1) | exact HB.out)))); have n2_ := Aside0.mk (below_step (by repeat (first | (with_reducible first | exact HB.out | apply below_alloc | apply pw_below_drewN | apply below_drew1) | exact HB.out)) hb); clear HO334; clear HB; have HO334 := n0_; have HO338 := n1_; have HB := n2_; clear n0_ n1_ n2_; (try clear hb); (try clear hb2); (try clear hk); (try clear hi); (try clear ho0); obtain ⟨Ao47, co47, eo47⟩ := Kd.R_slice HO334.out; subst eo47; obtain ⟨Ao48, co48, eo48⟩ := Kd.R_slice HO338.out; subst eo48) | (go_at_call 18; (with_reducible refine (formeref05_SameInts.calls kj24 _ _ t331 _ _ t335 true _ ?side1 ?side2 ?side3 ?side4 A40.out).mono ?_); (case side1 => repeat (first | exact (Kd.R_reads' HO334.out).2.2 | (with_reducible refine Kd.C_alloc ?_ _) | (with_reducible refine Kd.C_drewN ?_ _) | (with_reducible refine Kd.C_drew ?_))); (case side2 => exact (Kd.R_reads' HO334.out).2.1); (case side3 => repeat (first | exact (Kd.R_reads' HO338.out).2.2 | (with_reducible refine Kd.C_alloc ?_ _) | (with_reducible refine Kd.C_drewN ?_ _) | (with_reducible refine Kd.C_drew ?_))); (case side4 => exact (Kd.R_reads' HO338.out).2.1); rintro e w' ⟨rfl, ⟨nd, rfl⟩⟩) | ((with_reducible refine gate_callee (f := 19) rfl ?_); refine goesL_ (some 115) rfl rfl Try.func19 (by kernel_rfl) rfl #[.slice A0 l0.length c0] rfl (by (try simp only [List.map_toArray, List.map_cons, List.map_nil]); first | done | rfl | (simp only [List.length_drop, List.length_take]; rfl)) ?_; (with_reducible refine (codec_Read.calls kj24 _ _ l0 t340 t341 t342 _ ?side1 ?side2 A42.out).mono ?_); (case side1 => repeat (first | exact (Kd.C_below HR0.out (by repeat (first | (with_reducible first | exact HB.out | apply below_alloc | apply pw_below_drewN | apply below_drew1) | exact HB.out))) | (with_reducible refine Kd.C_alloc ?_ _) | (with_reducible refine Kd.C_drewN ?_ _) | (with_reducible refine Kd.C_drew ?_))); (case side2 => exact HC0.out); rintro e w49 ⟨rfl, hb⟩; refine ⟨_, rfl, ?_⟩; have n0_ := Aside0.mk (Kd.R_below (by (with_reducible repeat (first | apply Kd.R_alloc | apply Kd.R_drewN | apply Kd.R_drew)); exact HO334.out) hb); have n1_ := Aside0.mk (Kd.R_below (by (with_reducible repeat (first | apply Kd.R_alloc | apply Kd.R_drewN | apply Kd.R_drew)); exact HO338.out) hb); have n2_ := Aside0.mk (below_step (by repeat (first | (with_reducible first | exact HB.out | apply below_alloc | apply pw_below_drewN | apply below_drew1) | exact HB.out)) hb); clear HO334; clear HO338; clear HB; have HO334 := n0_; have HO338 := n1_; have HB := n2_; clear n0_ n1_ n2_; (try clear hb); (try clear hb2); (try clear hk); (try clear hi)) | ((with_reducible refine gate_callee (f := 20) rfl ?_); refine goesL_ (some 121) rfl rfl Try.func20 (by kernel_rfl) rfl #[.slice A0 l0.length c0] rfl (by (try simp only [List.map_toArray, List.map_cons, List.map_nil]); first | done | rfl | (simp only [List.length_drop, List.length_take]; rfl)) ?_; (with_reducible refine (formeref05_Read.calls kj24 _ _ l0 t343 t344 t345 _ ?side1 ?side2 A43.out).mono ?_); (case side1 => repeat (first | exact (Kd.C_below HR0.out HB.out) | (with_reducible refine Kd.C_alloc ?_ _) | (with_reducible refine Kd.C_drewN ?_ _) | (with_reducible refine Kd.C_drew ?_))); (case side2 => exact HC0.out); rintro e w50 ⟨rfl, hb⟩; refine ⟨_, rfl, ?_⟩; have n0_ := Aside0.mk (Kd.R_below (by (with_reducible repeat (first | apply Kd.R_alloc | apply Kd.R_drewN | apply Kd.R_drew)); exact HO334.out) hb); have n1_ := Aside0.mk (Kd.R_below (by (with_reducible repeat (first | apply Kd.R_alloc | apply Kd.R_drewN | apply Kd.R_drew)); exact HO338.out) hb); have n2_ := Aside0.mk (below_step (by repeat (first | (with_reducible first | exact HB.out | apply below_alloc | apply pw_below_drewN | apply below_drew1) | exact HB.out)) hb); clear HO334; clear HO338; clear HB; have HO334 := n0_; have HO338 := n1_; have HB := n2_; clear n0_ n1_ n2_; (try clear hb); (try clear hb2); (try clear hk); (try clear hi)))
          (try simp only [Act.put, List.setIfInBounds_toArray, List.set_cons_zero, List.set_cons_succ])
          go_cut [7] (fun v7 wc => ∃ (kq : Nat) (x7_43 : Bool), v7 = .bool x7_43 ∧ Aside0 (formelaw05_CodecMatchesReference.j2 kq l1 x7_43 = some r) ∧ Aside0 (kq ≤ kj24) ∧ Aside0 (Below w.heap.size w wc))
          case first =>
           have H := HC44.out
           clear HC44
           by_cases c51 : t332 = t336
           ·
            rw [if_pos c51] at H
            have c51b0 : (t332 == t336) = true := beq_iff_eq.mpr c51
            have c51b1 : (t332 != t336) = false := bne_eq_false_iff_eq.mpr c51
            clear c51
            (first | rw [c51b0] | (simp only [i64_w, i32_w]; rw [c51b0]) | skip)
            by_cases c52 : t340.toList = t343.toList
            ·
             rw [if_pos c52] at H
             have c52b0 : (t340.toList == t343.toList) = true := beq_iff_eq.mpr c52
             have c52b1 : (t340.toList != t343.toList) = false := bne_eq_false_iff_eq.mpr c52
             clear c52
             by_cases c53 : t341 = t344
             ·
              rw [if_pos c53] at H
              have c53b0 : (t341 == t344) = true := beq_iff_eq.mpr c53
              have c53b1 : (t341 != t344) = false := bne_eq_false_iff_eq.mpr c53
              clear c53
              have H' := Aside0.mk H
              clear H
              go_wp2
              go_meet
              case rel => exact ⟨_, ((t342 == t345)), (by first | rfl | (simp; done) | (simp [*]; done)), H', ⟨by have := HJ5.out; have := HJ24.out; first | omega | exact Nat.le_refl _⟩, ⟨by repeat (first | (with_reducible first | exact HB.out | apply below_alloc | apply pw_below_drewN | apply below_drew1) | exact HB.out)⟩⟩
             ·
              rw [if_neg c53] at H
              have c53b0 : (t341 == t344) = false := beq_eq_false_iff_ne.mpr c53
              have c53b1 : (t341 != t344) = true := bne_iff_ne.mpr c53
              have H' := Aside0.mk H
              clear H
              go_wp2
              go_meet
              case rel => exact ⟨_, (false), (by first | rfl | (simp; done) | (simp [*]; done)), H', ⟨by have := HJ5.out; have := HJ24.out; first | omega | exact Nat.le_refl _⟩, ⟨by repeat (first | (with_reducible first | exact HB.out | apply below_alloc | apply pw_below_drewN | apply below_drew1) | exact HB.out)⟩⟩
            ·
             rw [if_neg c52] at H
             exact absurd H (by simp)
           ·
            rw [if_neg c51] at H
            have c51b0 : (t332 == t336) = false := beq_eq_false_iff_ne.mpr c51
            have c51b1 : (t332 != t336) = true := bne_iff_ne.mpr c51
            (first | rw [c51b0] | (simp only [i64_w, i32_w]; rw [c51b0]) | skip)
            have H' := Aside0.mk H
            clear H
            go_wp2
            go_meet
            case rel => exact ⟨_, (false), (by first | rfl | (simp; done) | (simp [*]; done)), H', ⟨by have := HJ5.out; have := HJ24.out; first | omega | exact Nat.le_refl _⟩, ⟨by repeat (first | (with_reducible first | exact HB.out | apply below_alloc | apply pw_below_drewN | apply below_drew1) | exact HB.out)⟩⟩
          case rest =>
           clear HC44
           try clear c1
           try clear c2
           try clear p2
           try clear c3
           try clear c4
           try clear c5
           try clear c8
           try clear c8b0
           try clear c8b1
           try clear c9
           try clear c9b0
           try clear c9b1
           try clear c10
           try clear c10b0
           try clear c10b1
           try clear c11
           try clear c11b0
           try clear c11b1
           try clear c12
           try clear c12b0
           try clear c12b1
           try clear c13
           try clear c13b0
           try clear c13b1
           try clear c14
           try clear c14b0
           try clear c14b1
           try clear c15
           try clear c15b0
           try clear c15b1
           try clear c16
           try clear c16b0
           try clear c16b1
           try clear c17
           try clear c17b0
           try clear c17b1
           try clear c18
           try clear c19
           try clear c20
           try clear c22
           try clear c32
           try clear c32b0
           try clear c32b1
           try clear c34
           try clear c39
           try clear c41
           try clear c51
           try clear c51b0
           try clear c51b1
           try clear c52
           try clear c52b0
           try clear c52b1
           try clear c53
           try clear c53b0
           try clear c53b1
           try clear p2
           obtain ⟨kq, x7_43, rfl, HA, HJ43, HB⟩ := hcut
           cases kq with
           | zero => exact absurd HA.out (by simp [formelaw05_CodecMatchesReference.j2])
           | succ kj43 =>
            have H := HA.out
            clear HA
            simp only [formelaw05_CodecMatchesReference.j2] at H
            by_cases c54 : (l1.length : Int) ≤ 3000
            ·
             rw [if_pos c54] at H
             have c54b0 : decide ((l1.length : Int) ≤ 3000) = true := decide_eq_true c54
             have c54b1 : decide (l1.length ≤ 3000) = true := decide_eq_true (by omega)
             clear c54
             replace H := Option.bind_eq_some_iff.mp H
             obtain ⟨⟨t346, t347⟩, A550, H⟩ := H
             replace H : ((formeref05_Get.f kj43 l1).bind fun bt350 => (if x7_43 = true then ((formeref05_SameInts.f kj43 t346 bt350.1).bind fun t354 => (if t354 = true then ((codec_Frames.f kj43 l1).bind fun bt355 => ((formeref05_Frames.f kj43 l1).bind fun bt360 => (if t347 = bt350.2 then ((formeref05_SameLists.f kj43 bt355.1 bt360.1).bind fun t365 => (if t365 = true then (if bt355.2.1 = bt360.2.1 then (some (bt355.2.2 == bt360.2.2)) else (some false)) else (none))) else (some false)))) else (none))) else (none))) = some r := H
             have A55 := Aside0.mk A550
             clear A550
             replace H := Option.bind_eq_some_iff.mp H
             obtain ⟨⟨t350, t351⟩, A560, H⟩ := H
             replace H : (if x7_43 = true then ((formeref05_SameInts.f kj43 t346 t350).bind fun t354 => (if t354 = true then ((codec_Frames.f kj43 l1).bind fun bt355 => ((formeref05_Frames.f kj43 l1).bind fun bt360 => (if t347 = t351 then ((formeref05_SameLists.f kj43 bt355.1 bt360.1).bind fun t365 => (if t365 = true then (if bt355.2.1 = bt360.2.1 then (some (bt355.2.2 == bt360.2.2)) else (some false)) else (none))) else (some false)))) else (none))) else (none)) = some r := H
             have A56 := Aside0.mk A560
             clear A560
             by_cases c57 : x7_43 = true
             ·
              subst c57
              have H1 : ((formeref05_SameInts.f kj43 t346 t350).bind fun t354 => (if t354 = true then ((codec_Frames.f kj43 l1).bind fun bt355 => ((formeref05_Frames.f kj43 l1).bind fun bt360 => (if t347 = t351 then ((formeref05_SameLists.f kj43 bt355.1 bt360.1).bind fun t365 => (if t365 = true then (if bt355.2.1 = bt360.2.1 then (some (bt355.2.2 == bt360.2.2)) else (some false)) else (none))) else (some false)))) else (none))) = some r := by rw [if_pos rfl] at H; exact H
              clear H
              have H := H1
              clear H1
              replace H := Option.bind_eq_some_iff.mp H
              obtain ⟨t354, A580, H⟩ := H
              replace H : (if t354 = true then ((codec_Frames.f kj43 l1).bind fun bt355 => ((formeref05_Frames.f kj43 l1).bind fun bt360 => (if t347 = t351 then ((formeref05_SameLists.f kj43 bt355.1 bt360.1).bind fun t365 => (if t365 = true then (if bt355.2.1 = bt360.2.1 then (some (bt355.2.2 == bt360.2.2)) else (some false)) else (none))) else (some false)))) else (none)) = some r := H
              have A58 := Aside0.mk A580
              clear A580
              by_cases c59 : t354 = true
              ·
               subst c59
               have H1 : ((codec_Frames.f kj43 l1).bind fun bt355 => ((formeref05_Frames.f kj43 l1).bind fun bt360 => (if t347 = t351 then ((formeref05_SameLists.f kj43 bt355.1 bt360.1).bind fun t365 => (if t365 = true then (if bt355.2.1 = bt360.2.1 then (some (bt355.2.2 == bt360.2.2)) else (some false)) else (none))) else (some false)))) = some r := by rw [if_pos rfl] at H; exact H
               clear H
               have H := H1
               clear H1
               replace H := Option.bind_eq_some_iff.mp H
               obtain ⟨⟨t355, t356, t357⟩, A600, H⟩ := H
               replace H : ((formeref05_Frames.f kj43 l1).bind fun bt360 => (if t347 = t351 then ((formeref05_SameLists.f kj43 t355 bt360.1).bind fun t365 => (if t365 = true then (if t356 = bt360.2.1 then (some (t357 == bt360.2.2)) else (some false)) else (none))) else (some false))) = some r := H
               have A60 := Aside0.mk A600
               clear A600
               replace H := Option.bind_eq_some_iff.mp H
               obtain ⟨⟨t360, t361, t362⟩, A610, H⟩ := H
               replace H : (if t347 = t351 then ((formeref05_SameLists.f kj43 t355 t360).bind fun t365 => (if t365 = true then (if t356 = t361 then (some (t357 == t362)) else (some false)) else (none))) else (some false)) = some r := H
               have A61 := Aside0.mk A610
               clear A610
               by_cases c62 : t347 = t351
               ·
                rw [if_pos c62] at H
                have c62b0 : (t347 == t351) = true := beq_iff_eq.mpr c62
                have c62b1 : (t347 != t351) = false := bne_eq_false_iff_eq.mpr c62
                clear c62
                replace H := Option.bind_eq_some_iff.mp H
                obtain ⟨t365, A630, H⟩ := H
                replace H : (if t365 = true then (if t356 = t361 then (some (t357 == t362)) else (some false)) else (none)) = some r := H
                have A63 := Aside0.mk A630
                clear A630
                by_cases c64 : t365 = true
                ·
                 subst c64
                 have H1 : (if t356 = t361 then (some (t357 == t362)) else (some false)) = some r := by rw [if_pos rfl] at H; exact H
                 clear H
                 have H := H1
                 clear H1
                 by_cases c65 : t356 = t361
                 ·
                  rw [if_pos c65] at H
                  have c65b0 : (t356 == t361) = true := beq_iff_eq.mpr c65
                  have c65b1 : (t356 != t361) = false := bne_eq_false_iff_eq.mpr c65
                  clear c65
                  obtain rfl := Option.some.inj H
                  go_wp2_with (first | ((with_reducible refine gate_callee (f := 21) rfl ?_); refine goesL_ (some 146) rfl rfl Try.func21 (by kernel_rfl) rfl #[.slice A1 l1.length c1] rfl (by (try simp only [List.map_toArray, List.map_cons, List.map_nil]); first | done | rfl | (simp only [List.length_drop, List.length_take]; rfl)) ?_; (with_reducible refine (codec_Get.calls _ _ l1 t346 t347 _ ?side1 ?side2 A55.out).mono ?_); (case side1 => repeat (first | exact (Kd.C_below HR1.out HB.out) | (with_reducible refine Kd.C_alloc ?_ _) | (with_reducible refine Kd.C_drewN ?_ _) | (with_reducible refine Kd.C_drew ?_))); (case side2 => exact HC1.out); rintro e w66 ⟨v348, rfl, ho0, hb⟩; refine ⟨_, rfl, ?_⟩; have n0_ := Aside0.mk (Kd.R_lower ho0 (below_size (by repeat (first | (with_reducible first | exact HB.out | apply below_alloc | apply pw_below_drewN | apply below_drew1) | exact HB.out)))); have n1_ := Aside0.mk (below_step (by repeat (first | (with_reducible first | exact HB.out | apply below_alloc | apply pw_below_drewN | apply below_drew1) | exact HB.out)) hb); clear HB; have HO349 := n0_; have HB := n1_; clear n0_ n1_; (try clear hb); (try clear hb2); (try clear hk); (try clear hi); (try clear ho0)) | ((with_reducible refine gate_callee (f := 22) rfl ?_); refine goesL_ (some 151) rfl rfl Try.func22 (by kernel_rfl) rfl #[.slice A1 l1.length c1] rfl (by (try simp only [List.map_toArray, List.map_cons, List.map_nil]); first | done | rfl | (simp only [List.length_drop, List.length_take]; rfl)) ?_; (with_reducible refine (formeref05_Get.calls kj43 _ _ l1 t350 t351 _ ?side1 ?side2 A56.out).mono ?_); (case side1 => repeat (first | exact (Kd.C_below HR1.out HB.out) | (with_reducible refine Kd.C_alloc ?_ _) | (with_reducible refine Kd.C_drewN ?_ _) | (with_reducible refine Kd.C_drew ?_))); (case side2 => exact HC1.out); rintro e w67 ⟨v352, rfl, ho0, hb⟩; refine ⟨_, rfl, ?_⟩; have n0_ := Aside0.mk (Kd.R_elder' (by (with_reducible repeat (first | apply Kd.R_alloc | apply Kd.R_drewN | apply Kd.R_drew)); exact HO349.out) (Kd.R_base ho0) hb); have n1_ := Aside0.mk (Kd.R_lower (Kd.R_new' ho0 (Kd.R_lt (by (with_reducible repeat (first | apply Kd.R_alloc | apply Kd.R_drewN | apply Kd.R_drew)); exact HO349.out))) (below_size (by repeat (first | (with_reducible first | exact HB.out | apply below_alloc | apply pw_below_drewN | apply below_drew1) | exact HB.out)))); have n2_ := Aside0.mk (below_step (by repeat (first | (with_reducible first | exact HB.out | apply below_alloc | apply pw_below_drewN | apply below_drew1) | exact HB.out)) hb); clear HO349; clear HB; have HO349 := n0_; have HO353 := n1_; have HB := n2_; clear n0_ n1_ n2_; (try clear hb); (try clear hb2); (try clear hk); (try clear hi); (try clear ho0); obtain ⟨Ao68, co68, eo68⟩ := Kd.R_slice HO349.out; subst eo68; obtain ⟨Ao69, co69, eo69⟩ := Kd.R_slice HO353.out; subst eo69) | (go_at_call 18; (with_reducible refine (formeref05_SameInts.calls kj43 _ _ t346 _ _ t350 true _ ?side1 ?side2 ?side3 ?side4 A58.out).mono ?_); (case side1 => repeat (first | exact (Kd.R_reads' HO349.out).2.2 | (with_reducible refine Kd.C_alloc ?_ _) | (with_reducible refine Kd.C_drewN ?_ _) | (with_reducible refine Kd.C_drew ?_))); (case side2 => exact (Kd.R_reads' HO349.out).2.1); (case side3 => repeat (first | exact (Kd.R_reads' HO353.out).2.2 | (with_reducible refine Kd.C_alloc ?_ _) | (with_reducible refine Kd.C_drewN ?_ _) | (with_reducible refine Kd.C_drew ?_))); (case side4 => exact (Kd.R_reads' HO353.out).2.1); rintro e w' ⟨rfl, ⟨nd, rfl⟩⟩) | ((with_reducible refine gate_callee (f := 23) rfl ?_); refine goesL_ (some 167) rfl rfl Try.func23 (by kernel_rfl) rfl #[.slice A1 l1.length c1] rfl (by (try simp only [List.map_toArray, List.map_cons, List.map_nil]); first | done | rfl | (simp only [List.length_drop, List.length_take]; rfl)) ?_; (with_reducible refine (codec_Frames.calls kj43 _ _ l1 t355 t356 t357 _ ?side1 ?side2 A60.out).mono ?_); (case side1 => repeat (first | exact (Kd.C_below HR1.out (by repeat (first | (with_reducible first | exact HB.out | apply below_alloc | apply pw_below_drewN | apply below_drew1) | exact HB.out))) | (with_reducible refine Kd.C_alloc ?_ _) | (with_reducible refine Kd.C_drewN ?_ _) | (with_reducible refine Kd.C_drew ?_))); (case side2 => exact HC1.out); rintro e w70 ⟨v358, rfl, ho0, hb⟩; refine ⟨_, rfl, ?_⟩; have n0_ := Aside0.mk (Kd.R_below (by (with_reducible repeat (first | apply Kd.R_alloc | apply Kd.R_drewN | apply Kd.R_drew)); exact HO349.out) hb); have n1_ := Aside0.mk (Kd.R_below (by (with_reducible repeat (first | apply Kd.R_alloc | apply Kd.R_drewN | apply Kd.R_drew)); exact HO353.out) hb); have n2_ := Aside0.mk (Kd.S_lower (Kd.S_new' (Kd.S_new' ho0 (Kd.R_lt (by (with_reducible repeat (first | apply Kd.R_alloc | apply Kd.R_drewN | apply Kd.R_drew)); exact HO349.out))) (Kd.R_lt (by (with_reducible repeat (first | apply Kd.R_alloc | apply Kd.R_drewN | apply Kd.R_drew)); exact HO353.out))) (below_size (by repeat (first | (with_reducible first | exact HB.out | apply below_alloc | apply pw_below_drewN | apply below_drew1) | exact HB.out)))); have n3_ := Aside0.mk (below_step (by repeat (first | (with_reducible first | exact HB.out | apply below_alloc | apply pw_below_drewN | apply below_drew1) | exact HB.out)) hb); clear HO349; clear HO353; clear HB; have HO349 := n0_; have HO353 := n1_; have HO359 := n2_; have HB := n3_; clear n0_ n1_ n2_ n3_; (try clear hb); (try clear hb2); (try clear hk); (try clear hi); (try clear ho0)) | ((with_reducible refine gate_callee (f := 24) rfl ?_); refine goesL_ (some 173) rfl rfl Try.func24 (by kernel_rfl) rfl #[.slice A1 l1.length c1] rfl (by (try simp only [List.map_toArray, List.map_cons, List.map_nil]); first | done | rfl | (simp only [List.length_drop, List.length_take]; rfl)) ?_; (with_reducible refine (formeref05_Frames.calls kj43 _ _ l1 t360 t361 t362 _ ?side1 ?side2 A61.out).mono ?_); (case side1 => repeat (first | exact (Kd.C_below HR1.out HB.out) | (with_reducible refine Kd.C_alloc ?_ _) | (with_reducible refine Kd.C_drewN ?_ _) | (with_reducible refine Kd.C_drew ?_))); (case side2 => exact HC1.out); rintro e w71 ⟨v363, rfl, ho0, hb⟩; refine ⟨_, rfl, ?_⟩; have n0_ := Aside0.mk (Kd.R_below (by (with_reducible repeat (first | apply Kd.R_alloc | apply Kd.R_drewN | apply Kd.R_drew)); exact HO349.out) hb); have n1_ := Aside0.mk (Kd.R_below (by (with_reducible repeat (first | apply Kd.R_alloc | apply Kd.R_drewN | apply Kd.R_drew)); exact HO353.out) hb); have n2_ := Aside0.mk (Kd.S_elder' (by (with_reducible repeat (first | apply Kd.S_alloc | apply Kd.S_drewN | apply Kd.S_drew)); exact HO359.out) (Kd.S_base ho0) hb); have n3_ := Aside0.mk (Kd.S_lower (Kd.S_new' (Kd.S_new' (Kd.S_new' ho0 (Kd.R_lt (by (with_reducible repeat (first | apply Kd.R_alloc | apply Kd.R_drewN | apply Kd.R_drew)); exact HO349.out))) (Kd.R_lt (by (with_reducible repeat (first | apply Kd.R_alloc | apply Kd.R_drewN | apply Kd.R_drew)); exact HO353.out))) (Kd.S_lt (by (with_reducible repeat (first | apply Kd.S_alloc | apply Kd.S_drewN | apply Kd.S_drew)); exact HO359.out))) (below_size (by repeat (first | (with_reducible first | exact HB.out | apply below_alloc | apply pw_below_drewN | apply below_drew1) | exact HB.out)))); have n4_ := Aside0.mk (below_step (by repeat (first | (with_reducible first | exact HB.out | apply below_alloc | apply pw_below_drewN | apply below_drew1) | exact HB.out)) hb); clear HO349; clear HO353; clear HO359; clear HB; have HO349 := n0_; have HO353 := n1_; have HO359 := n2_; have HO364 := n3_; have HB := n4_; clear n0_ n1_ n2_ n3_ n4_; (try clear hb); (try clear hb2); (try clear hk); (try clear hi); (try clear ho0); obtain ⟨Ao72, co72, eo72⟩ := Kd.S_slice HO359.out; subst eo72; obtain ⟨Ao73, co73, eo73⟩ := Kd.S_slice HO364.out; subst eo73) | (go_at_call 25; (with_reducible refine (formeref05_SameLists.calls kj43 _ _ t355 _ _ t360 true _ ?side1 ?side2 ?side3 ?side4 A63.out).mono ?_); (case side1 => repeat (first | exact (Kd.S_reads' HO359.out).2.2 | (with_reducible refine Kd.C_alloc ?_ _) | (with_reducible refine Kd.C_drewN ?_ _) | (with_reducible refine Kd.C_drew ?_))); (case side2 => exact (Kd.S_reads' HO359.out).2.1); (case side3 => repeat (first | exact (Kd.S_reads' HO364.out).2.2 | (with_reducible refine Kd.C_alloc ?_ _) | (with_reducible refine Kd.C_drewN ?_ _) | (with_reducible refine Kd.C_drew ?_))); (case side4 => exact (Kd.S_reads' HO364.out).2.1); rintro e w' ⟨rfl, ⟨nd, rfl⟩⟩))
                  go_ret
                  exact ⟨by first | rfl | (simp [errW_none, errW_some] <;> rfl) | (simp [*, errW_none, errW_some] <;> rfl), by repeat (first | (with_reducible first | exact HB.out | apply below_alloc | apply pw_below_drewN | apply below_drew1) | exact HB.out)⟩
                 ·
                  rw [if_neg c65] at H
                  have c65b0 : (t356 == t361) = false := beq_eq_false_iff_ne.mpr c65
                  have c65b1 : (t356 != t361) = true := bne_iff_ne.mpr c65
                  obtain rfl := Option.some.inj H
                  go_wp2_with (first | ((with_reducible refine gate_callee (f := 21) rfl ?_); refine goesL_ (some 146) rfl rfl Try.func21 (by kernel_rfl) rfl #[.slice A1 l1.length c1] rfl (by (try simp only [List.map_toArray, List.map_cons, List.map_nil]); first | done | rfl | (simp only [List.length_drop, List.length_take]; rfl)) ?_; (with_reducible refine (codec_Get.calls _ _ l1 t346 t347 _ ?side1 ?side2 A55.out).mono ?_); (case side1 => repeat (first | exact (Kd.C_below HR1.out HB.out) | (with_reducible refine Kd.C_alloc ?_ _) | (with_reducible refine Kd.C_drewN ?_ _) | (with_reducible refine Kd.C_drew ?_))); (case side2 => exact HC1.out); rintro e w74 ⟨v348, rfl, ho0, hb⟩; refine ⟨_, rfl, ?_⟩; have n0_ := Aside0.mk (Kd.R_lower ho0 (below_size (by repeat (first | (with_reducible first | exact HB.out | apply below_alloc | apply pw_below_drewN | apply below_drew1) | exact HB.out)))); have n1_ := Aside0.mk (below_step (by repeat (first | (with_reducible first | exact HB.out | apply below_alloc | apply pw_below_drewN | apply below_drew1) | exact HB.out)) hb); clear HB; have HO349 := n0_; have HB := n1_; clear n0_ n1_; (try clear hb); (try clear hb2); (try clear hk); (try clear hi); (try clear ho0)) | ((with_reducible refine gate_callee (f := 22) rfl ?_); refine goesL_ (some 151) rfl rfl Try.func22 (by kernel_rfl) rfl #[.slice A1 l1.length c1] rfl (by (try simp only [List.map_toArray, List.map_cons, List.map_nil]); first | done | rfl | (simp only [List.length_drop, List.length_take]; rfl)) ?_; (with_reducible refine (formeref05_Get.calls kj43 _ _ l1 t350 t351 _ ?side1 ?side2 A56.out).mono ?_); (case side1 => repeat (first | exact (Kd.C_below HR1.out HB.out) | (with_reducible refine Kd.C_alloc ?_ _) | (with_reducible refine Kd.C_drewN ?_ _) | (with_reducible refine Kd.C_drew ?_))); (case side2 => exact HC1.out); rintro e w75 ⟨v352, rfl, ho0, hb⟩; refine ⟨_, rfl, ?_⟩; have n0_ := Aside0.mk (Kd.R_elder' (by (with_reducible repeat (first | apply Kd.R_alloc | apply Kd.R_drewN | apply Kd.R_drew)); exact HO349.out) (Kd.R_base ho0) hb); have n1_ := Aside0.mk (Kd.R_lower (Kd.R_new' ho0 (Kd.R_lt (by (with_reducible repeat (first | apply Kd.R_alloc | apply Kd.R_drewN | apply Kd.R_drew)); exact HO349.out))) (below_size (by repeat (first | (with_reducible first | exact HB.out | apply below_alloc | apply pw_below_drewN | apply below_drew1) | exact HB.out)))); have n2_ := Aside0.mk (below_step (by repeat (first | (with_reducible first | exact HB.out | apply below_alloc | apply pw_below_drewN | apply below_drew1) | exact HB.out)) hb); clear HO349; clear HB; have HO349 := n0_; have HO353 := n1_; have HB := n2_; clear n0_ n1_ n2_; (try clear hb); (try clear hb2); (try clear hk); (try clear hi); (try clear ho0); obtain ⟨Ao76, co76, eo76⟩ := Kd.R_slice HO349.out; subst eo76; obtain ⟨Ao77, co77, eo77⟩ := Kd.R_slice HO353.out; subst eo77) | (go_at_call 18; (with_reducible refine (formeref05_SameInts.calls kj43 _ _ t346 _ _ t350 true _ ?side1 ?side2 ?side3 ?side4 A58.out).mono ?_); (case side1 => repeat (first | exact (Kd.R_reads' HO349.out).2.2 | (with_reducible refine Kd.C_alloc ?_ _) | (with_reducible refine Kd.C_drewN ?_ _) | (with_reducible refine Kd.C_drew ?_))); (case side2 => exact (Kd.R_reads' HO349.out).2.1); (case side3 => repeat (first | exact (Kd.R_reads' HO353.out).2.2 | (with_reducible refine Kd.C_alloc ?_ _) | (with_reducible refine Kd.C_drewN ?_ _) | (with_reducible refine Kd.C_drew ?_))); (case side4 => exact (Kd.R_reads' HO353.out).2.1); rintro e w' ⟨rfl, ⟨nd, rfl⟩⟩) | ((with_reducible refine gate_callee (f := 23) rfl ?_); refine goesL_ (some 167) rfl rfl Try.func23 (by kernel_rfl) rfl #[.slice A1 l1.length c1] rfl (by (try simp only [List.map_toArray, List.map_cons, List.map_nil]); first | done | rfl | (simp only [List.length_drop, List.length_take]; rfl)) ?_; (with_reducible refine (codec_Frames.calls kj43 _ _ l1 t355 t356 t357 _ ?side1 ?side2 A60.out).mono ?_); (case side1 => repeat (first | exact (Kd.C_below HR1.out (by repeat (first | (with_reducible first | exact HB.out | apply below_alloc | apply pw_below_drewN | apply below_drew1) | exact HB.out))) | (with_reducible refine Kd.C_alloc ?_ _) | (with_reducible refine Kd.C_drewN ?_ _) | (with_reducible refine Kd.C_drew ?_))); (case side2 => exact HC1.out); rintro e w78 ⟨v358, rfl, ho0, hb⟩; refine ⟨_, rfl, ?_⟩; have n0_ := Aside0.mk (Kd.R_below (by (with_reducible repeat (first | apply Kd.R_alloc | apply Kd.R_drewN | apply Kd.R_drew)); exact HO349.out) hb); have n1_ := Aside0.mk (Kd.R_below (by (with_reducible repeat (first | apply Kd.R_alloc | apply Kd.R_drewN | apply Kd.R_drew)); exact HO353.out) hb); have n2_ := Aside0.mk (Kd.S_lower (Kd.S_new' (Kd.S_new' ho0 (Kd.R_lt (by (with_reducible repeat (first | apply Kd.R_alloc | apply Kd.R_drewN | apply Kd.R_drew)); exact HO349.out))) (Kd.R_lt (by (with_reducible repeat (first | apply Kd.R_alloc | apply Kd.R_drewN | apply Kd.R_drew)); exact HO353.out))) (below_size (by repeat (first | (with_reducible first | exact HB.out | apply below_alloc | apply pw_below_drewN | apply below_drew1) | exact HB.out)))); have n3_ := Aside0.mk (below_step (by repeat (first | (with_reducible first | exact HB.out | apply below_alloc | apply pw_below_drewN | apply below_drew1) | exact HB.out)) hb); clear HO349; clear HO353; clear HB; have HO349 := n0_; have HO353 := n1_; have HO359 := n2_; have HB := n3_; clear n0_ n1_ n2_ n3_; (try clear hb); (try clear hb2); (try clear hk); (try clear hi); (try clear ho0)) | ((with_reducible refine gate_callee (f := 24) rfl ?_); refine goesL_ (some 173) rfl rfl Try.func24 (by kernel_rfl) rfl #[.slice A1 l1.length c1] rfl (by (try simp only [List.map_toArray, List.map_cons, List.map_nil]); first | done | rfl | (simp only [List.length_drop, List.length_take]; rfl)) ?_; (with_reducible refine (formeref05_Frames.calls kj43 _ _ l1 t360 t361 t362 _ ?side1 ?side2 A61.out).mono ?_); (case side1 => repeat (first | exact (Kd.C_below HR1.out HB.out) | (with_reducible refine Kd.C_alloc ?_ _) | (with_reducible refine Kd.C_drewN ?_ _) | (with_reducible refine Kd.C_drew ?_))); (case side2 => exact HC1.out); rintro e w79 ⟨v363, rfl, ho0, hb⟩; refine ⟨_, rfl, ?_⟩; have n0_ := Aside0.mk (Kd.R_below (by (with_reducible repeat (first | apply Kd.R_alloc | apply Kd.R_drewN | apply Kd.R_drew)); exact HO349.out) hb); have n1_ := Aside0.mk (Kd.R_below (by (with_reducible repeat (first | apply Kd.R_alloc | apply Kd.R_drewN | apply Kd.R_drew)); exact HO353.out) hb); have n2_ := Aside0.mk (Kd.S_elder' (by (with_reducible repeat (first | apply Kd.S_alloc | apply Kd.S_drewN | apply Kd.S_drew)); exact HO359.out) (Kd.S_base ho0) hb); have n3_ := Aside0.mk (Kd.S_lower (Kd.S_new' (Kd.S_new' (Kd.S_new' ho0 (Kd.R_lt (by (with_reducible repeat (first | apply Kd.R_alloc | apply Kd.R_drewN | apply Kd.R_drew)); exact HO349.out))) (Kd.R_lt (by (with_reducible repeat (first | apply Kd.R_alloc | apply Kd.R_drewN | apply Kd.R_drew)); exact HO353.out))) (Kd.S_lt (by (with_reducible repeat (first | apply Kd.S_alloc | apply Kd.S_drewN | apply Kd.S_drew)); exact HO359.out))) (below_size (by repeat (first | (with_reducible first | exact HB.out | apply below_alloc | apply pw_below_drewN | apply below_drew1) | exact HB.out)))); have n4_ := Aside0.mk (below_step (by repeat (first | (with_reducible first | exact HB.out | apply below_alloc | apply pw_below_drewN | apply below_drew1) | exact HB.out)) hb); clear HO349; clear HO353; clear HO359; clear HB; have HO349 := n0_; have HO353 := n1_; have HO359 := n2_; have HO364 := n3_; have HB := n4_; clear n0_ n1_ n2_ n3_ n4_; (try clear hb); (try clear hb2); (try clear hk); (try clear hi); (try clear ho0); obtain ⟨Ao80, co80, eo80⟩ := Kd.S_slice HO359.out; subst eo80; obtain ⟨Ao81, co81, eo81⟩ := Kd.S_slice HO364.out; subst eo81) | (go_at_call 25; (with_reducible refine (formeref05_SameLists.calls kj43 _ _ t355 _ _ t360 true _ ?side1 ?side2 ?side3 ?side4 A63.out).mono ?_); (case side1 => repeat (first | exact (Kd.S_reads' HO359.out).2.2 | (with_reducible refine Kd.C_alloc ?_ _) | (with_reducible refine Kd.C_drewN ?_ _) | (with_reducible refine Kd.C_drew ?_))); (case side2 => exact (Kd.S_reads' HO359.out).2.1); (case side3 => repeat (first | exact (Kd.S_reads' HO364.out).2.2 | (with_reducible refine Kd.C_alloc ?_ _) | (with_reducible refine Kd.C_drewN ?_ _) | (with_reducible refine Kd.C_drew ?_))); (case side4 => exact (Kd.S_reads' HO364.out).2.1); rintro e w' ⟨rfl, ⟨nd, rfl⟩⟩))
                  go_ret
                  exact ⟨by first | rfl | (simp [errW_none, errW_some] <;> rfl) | (simp [*, errW_none, errW_some] <;> rfl), by repeat (first | (with_reducible first | exact HB.out | apply below_alloc | apply pw_below_drewN | apply below_drew1) | exact HB.out)⟩
                ·
                 replace c64 := Bool.eq_false_iff.mpr c64
                 subst c64
                 have H1 : (none) = some r := by rw [if_neg (show ¬ (false = true) by decide)] at H; exact H
                 clear H
                 have H := H1
                 clear H1
                 exact absurd H (by simp)
               ·
                rw [if_neg c62] at H
                have c62b0 : (t347 == t351) = false := beq_eq_false_iff_ne.mpr c62
                have c62b1 : (t347 != t351) = true := bne_iff_ne.mpr c62
                obtain rfl := Option.some.inj H
                go_wp2_with (first | ((with_reducible refine gate_callee (f := 21) rfl ?_); refine goesL_ (some 146) rfl rfl Try.func21 (by kernel_rfl) rfl #[.slice A1 l1.length c1] rfl (by (try simp only [List.map_toArray, List.map_cons, List.map_nil]); first | done | rfl | (simp only [List.length_drop, List.length_take]; rfl)) ?_; (with_reducible refine (codec_Get.calls _ _ l1 t346 t347 _ ?side1 ?side2 A55.out).mono ?_); (case side1 => repeat (first | exact (Kd.C_below HR1.out HB.out) | (with_reducible refine Kd.C_alloc ?_ _) | (with_reducible refine Kd.C_drewN ?_ _) | (with_reducible refine Kd.C_drew ?_))); (case side2 => exact HC1.out); rintro e w82 ⟨v348, rfl, ho0, hb⟩; refine ⟨_, rfl, ?_⟩; have n0_ := Aside0.mk (Kd.R_lower ho0 (below_size (by repeat (first | (with_reducible first | exact HB.out | apply below_alloc | apply pw_below_drewN | apply below_drew1) | exact HB.out)))); have n1_ := Aside0.mk (below_step (by repeat (first | (with_reducible first | exact HB.out | apply below_alloc | apply pw_below_drewN | apply below_drew1) | exact HB.out)) hb); clear HB; have HO349 := n0_; have HB := n1_; clear n0_ n1_; (try clear hb); (try clear hb2); (try clear hk); (try clear hi); (try clear ho0)) | ((with_reducible refine gate_callee (f := 22) rfl ?_); refine goesL_ (some 151) rfl rfl Try.func22 (by kernel_rfl) rfl #[.slice A1 l1.length c1] rfl (by (try simp only [List.map_toArray, List.map_cons, List.map_nil]); first | done | rfl | (simp only [List.length_drop, List.length_take]; rfl)) ?_; (with_reducible refine (formeref05_Get.calls kj43 _ _ l1 t350 t351 _ ?side1 ?side2 A56.out).mono ?_); (case side1 => repeat (first | exact (Kd.C_below HR1.out HB.out) | (with_reducible refine Kd.C_alloc ?_ _) | (with_reducible refine Kd.C_drewN ?_ _) | (with_reducible refine Kd.C_drew ?_))); (case side2 => exact HC1.out); rintro e w83 ⟨v352, rfl, ho0, hb⟩; refine ⟨_, rfl, ?_⟩; have n0_ := Aside0.mk (Kd.R_elder' (by (with_reducible repeat (first | apply Kd.R_alloc | apply Kd.R_drewN | apply Kd.R_drew)); exact HO349.out) (Kd.R_base ho0) hb); have n1_ := Aside0.mk (Kd.R_lower (Kd.R_new' ho0 (Kd.R_lt (by (with_reducible repeat (first | apply Kd.R_alloc | apply Kd.R_drewN | apply Kd.R_drew)); exact HO349.out))) (below_size (by repeat (first | (with_reducible first | exact HB.out | apply below_alloc | apply pw_below_drewN | apply below_drew1) | exact HB.out)))); have n2_ := Aside0.mk (below_step (by repeat (first | (with_reducible first | exact HB.out | apply below_alloc | apply pw_below_drewN | apply below_drew1) | exact HB.out)) hb); clear HO349; clear HB; have HO349 := n0_; have HO353 := n1_; have HB := n2_; clear n0_ n1_ n2_; (try clear hb); (try clear hb2); (try clear hk); (try clear hi); (try clear ho0); obtain ⟨Ao84, co84, eo84⟩ := Kd.R_slice HO349.out; subst eo84; obtain ⟨Ao85, co85, eo85⟩ := Kd.R_slice HO353.out; subst eo85) | (go_at_call 18; (with_reducible refine (formeref05_SameInts.calls kj43 _ _ t346 _ _ t350 true _ ?side1 ?side2 ?side3 ?side4 A58.out).mono ?_); (case side1 => repeat (first | exact (Kd.R_reads' HO349.out).2.2 | (with_reducible refine Kd.C_alloc ?_ _) | (with_reducible refine Kd.C_drewN ?_ _) | (with_reducible refine Kd.C_drew ?_))); (case side2 => exact (Kd.R_reads' HO349.out).2.1); (case side3 => repeat (first | exact (Kd.R_reads' HO353.out).2.2 | (with_reducible refine Kd.C_alloc ?_ _) | (with_reducible refine Kd.C_drewN ?_ _) | (with_reducible refine Kd.C_drew ?_))); (case side4 => exact (Kd.R_reads' HO353.out).2.1); rintro e w' ⟨rfl, ⟨nd, rfl⟩⟩) | ((with_reducible refine gate_callee (f := 23) rfl ?_); refine goesL_ (some 167) rfl rfl Try.func23 (by kernel_rfl) rfl #[.slice A1 l1.length c1] rfl (by (try simp only [List.map_toArray, List.map_cons, List.map_nil]); first | done | rfl | (simp only [List.length_drop, List.length_take]; rfl)) ?_; (with_reducible refine (codec_Frames.calls kj43 _ _ l1 t355 t356 t357 _ ?side1 ?side2 A60.out).mono ?_); (case side1 => repeat (first | exact (Kd.C_below HR1.out (by repeat (first | (with_reducible first | exact HB.out | apply below_alloc | apply pw_below_drewN | apply below_drew1) | exact HB.out))) | (with_reducible refine Kd.C_alloc ?_ _) | (with_reducible refine Kd.C_drewN ?_ _) | (with_reducible refine Kd.C_drew ?_))); (case side2 => exact HC1.out); rintro e w86 ⟨v358, rfl, ho0, hb⟩; refine ⟨_, rfl, ?_⟩; have n0_ := Aside0.mk (Kd.R_below (by (with_reducible repeat (first | apply Kd.R_alloc | apply Kd.R_drewN | apply Kd.R_drew)); exact HO349.out) hb); have n1_ := Aside0.mk (Kd.R_below (by (with_reducible repeat (first | apply Kd.R_alloc | apply Kd.R_drewN | apply Kd.R_drew)); exact HO353.out) hb); have n2_ := Aside0.mk (Kd.S_lower (Kd.S_new' (Kd.S_new' ho0 (Kd.R_lt (by (with_reducible repeat (first | apply Kd.R_alloc | apply Kd.R_drewN | apply Kd.R_drew)); exact HO349.out))) (Kd.R_lt (by (with_reducible repeat (first | apply Kd.R_alloc | apply Kd.R_drewN | apply Kd.R_drew)); exact HO353.out))) (below_size (by repeat (first | (with_reducible first | exact HB.out | apply below_alloc | apply pw_below_drewN | apply below_drew1) | exact HB.out)))); have n3_ := Aside0.mk (below_step (by repeat (first | (with_reducible first | exact HB.out | apply below_alloc | apply pw_below_drewN | apply below_drew1) | exact HB.out)) hb); clear HO349; clear HO353; clear HB; have HO349 := n0_; have HO353 := n1_; have HO359 := n2_; have HB := n3_; clear n0_ n1_ n2_ n3_; (try clear hb); (try clear hb2); (try clear hk); (try clear hi); (try clear ho0)) | ((with_reducible refine gate_callee (f := 24) rfl ?_); refine goesL_ (some 173) rfl rfl Try.func24 (by kernel_rfl) rfl #[.slice A1 l1.length c1] rfl (by (try simp only [List.map_toArray, List.map_cons, List.map_nil]); first | done | rfl | (simp only [List.length_drop, List.length_take]; rfl)) ?_; (with_reducible refine (formeref05_Frames.calls kj43 _ _ l1 t360 t361 t362 _ ?side1 ?side2 A61.out).mono ?_); (case side1 => repeat (first | exact (Kd.C_below HR1.out HB.out) | (with_reducible refine Kd.C_alloc ?_ _) | (with_reducible refine Kd.C_drewN ?_ _) | (with_reducible refine Kd.C_drew ?_))); (case side2 => exact HC1.out); rintro e w87 ⟨v363, rfl, ho0, hb⟩; refine ⟨_, rfl, ?_⟩; have n0_ := Aside0.mk (Kd.R_below (by (with_reducible repeat (first | apply Kd.R_alloc | apply Kd.R_drewN | apply Kd.R_drew)); exact HO349.out) hb); have n1_ := Aside0.mk (Kd.R_below (by (with_reducible repeat (first | apply Kd.R_alloc | apply Kd.R_drewN | apply Kd.R_drew)); exact HO353.out) hb); have n2_ := Aside0.mk (Kd.S_elder' (by (with_reducible repeat (first | apply Kd.S_alloc | apply Kd.S_drewN | apply Kd.S_drew)); exact HO359.out) (Kd.S_base ho0) hb); have n3_ := Aside0.mk (Kd.S_lower (Kd.S_new' (Kd.S_new' (Kd.S_new' ho0 (Kd.R_lt (by (with_reducible repeat (first | apply Kd.R_alloc | apply Kd.R_drewN | apply Kd.R_drew)); exact HO349.out))) (Kd.R_lt (by (with_reducible repeat (first | apply Kd.R_alloc | apply Kd.R_drewN | apply Kd.R_drew)); exact HO353.out))) (Kd.S_lt (by (with_reducible repeat (first | apply Kd.S_alloc | apply Kd.S_drewN | apply Kd.S_drew)); exact HO359.out))) (below_size (by repeat (first | (with_reducible first | exact HB.out | apply below_alloc | apply pw_below_drewN | apply below_drew1) | exact HB.out)))); have n4_ := Aside0.mk (below_step (by repeat (first | (with_reducible first | exact HB.out | apply below_alloc | apply pw_below_drewN | apply below_drew1) | exact HB.out)) hb); clear HO349; clear HO353; clear HO359; clear HB; have HO349 := n0_; have HO353 := n1_; have HO359 := n2_; have HO364 := n3_; have HB := n4_; clear n0_ n1_ n2_ n3_ n4_; (try clear hb); (try clear hb2); (try clear hk); (try clear hi); (try clear ho0)))
                go_ret
                exact ⟨by first | rfl | (simp [errW_none, errW_some] <;> rfl) | (simp [*, errW_none, errW_some] <;> rfl), by repeat (first | (with_reducible first | exact HB.out | apply below_alloc | apply pw_below_drewN | apply below_drew1) | exact HB.out)⟩
              ·
               replace c59 := Bool.eq_false_iff.mpr c59
               subst c59
               have H1 : (none) = some r := by rw [if_neg (show ¬ (false = true) by decide)] at H; exact H
               clear H
               have H := H1
               clear H1
               exact absurd H (by simp)
             ·
              replace c57 := Bool.eq_false_iff.mpr c57
              subst c57
              have H1 : (none) = some r := by rw [if_neg (show ¬ (false = true) by decide)] at H; exact H
              clear H
              have H := H1
              clear H1
              exact absurd H (by simp)
            ·
             rw [if_neg c54] at H
             have c54b0 : decide ((l1.length : Int) ≤ 3000) = false := decide_eq_false c54
             have c54b1 : decide (l1.length ≤ 3000) = false := decide_eq_false (by omega)
             clear c54
             replace H := Option.bind_eq_some_iff.mp H
             obtain ⟨⟨t366, t367, t368⟩, A880, H⟩ := H
             replace H : ((formeref05_Frames.f kj43 l1).bind fun bt371 => (if x7_43 = true then ((formeref05_SameLists.f kj43 t366 bt371.1).bind fun t376 => (if t376 = true then (if t367 = bt371.2.1 then (some (t368 == bt371.2.2)) else (some false)) else (none))) else (none))) = some r := H
             have A88 := Aside0.mk A880
             clear A880
             replace H := Option.bind_eq_some_iff.mp H
             obtain ⟨⟨t371, t372, t373⟩, A890, H⟩ := H
             replace H : (if x7_43 = true then ((formeref05_SameLists.f kj43 t366 t371).bind fun t376 => (if t376 = true then (if t367 = t372 then (some (t368 == t373)) else (some false)) else (none))) else (none)) = some r := H
             have A89 := Aside0.mk A890
             clear A890
             by_cases c90 : x7_43 = true
             ·
              subst c90
              have H1 : ((formeref05_SameLists.f kj43 t366 t371).bind fun t376 => (if t376 = true then (if t367 = t372 then (some (t368 == t373)) else (some false)) else (none))) = some r := by rw [if_pos rfl] at H; exact H
              clear H
              have H := H1
              clear H1
              replace H := Option.bind_eq_some_iff.mp H
              obtain ⟨t376, A910, H⟩ := H
              replace H : (if t376 = true then (if t367 = t372 then (some (t368 == t373)) else (some false)) else (none)) = some r := H
              have A91 := Aside0.mk A910
              clear A910
              by_cases c92 : t376 = true
              ·
               subst c92
               have H1 : (if t367 = t372 then (some (t368 == t373)) else (some false)) = some r := by rw [if_pos rfl] at H; exact H
               clear H
               have H := H1
               clear H1
               by_cases c93 : t367 = t372
               ·
                rw [if_pos c93] at H
                have c93b0 : (t367 == t372) = true := beq_iff_eq.mpr c93
                have c93b1 : (t367 != t372) = false := bne_eq_false_iff_eq.mpr c93
                clear c93
                obtain rfl := Option.some.inj H
                go_wp2_with (first | ((with_reducible refine gate_callee (f := 23) rfl ?_); refine goesL_ (some 167) rfl rfl Try.func23 (by kernel_rfl) rfl #[.slice A1 l1.length c1] rfl (by (try simp only [List.map_toArray, List.map_cons, List.map_nil]); first | done | rfl | (simp only [List.length_drop, List.length_take]; rfl)) ?_; (with_reducible refine (codec_Frames.calls kj43 _ _ l1 t366 t367 t368 _ ?side1 ?side2 A88.out).mono ?_); (case side1 => repeat (first | exact (Kd.C_below HR1.out HB.out) | (with_reducible refine Kd.C_alloc ?_ _) | (with_reducible refine Kd.C_drewN ?_ _) | (with_reducible refine Kd.C_drew ?_))); (case side2 => exact HC1.out); rintro e w94 ⟨v369, rfl, ho0, hb⟩; refine ⟨_, rfl, ?_⟩; have n0_ := Aside0.mk (Kd.S_lower ho0 (below_size (by repeat (first | (with_reducible first | exact HB.out | apply below_alloc | apply pw_below_drewN | apply below_drew1) | exact HB.out)))); have n1_ := Aside0.mk (below_step (by repeat (first | (with_reducible first | exact HB.out | apply below_alloc | apply pw_below_drewN | apply below_drew1) | exact HB.out)) hb); clear HB; have HO370 := n0_; have HB := n1_; clear n0_ n1_; (try clear hb); (try clear hb2); (try clear hk); (try clear hi); (try clear ho0)) | ((with_reducible refine gate_callee (f := 24) rfl ?_); refine goesL_ (some 173) rfl rfl Try.func24 (by kernel_rfl) rfl #[.slice A1 l1.length c1] rfl (by (try simp only [List.map_toArray, List.map_cons, List.map_nil]); first | done | rfl | (simp only [List.length_drop, List.length_take]; rfl)) ?_; (with_reducible refine (formeref05_Frames.calls kj43 _ _ l1 t371 t372 t373 _ ?side1 ?side2 A89.out).mono ?_); (case side1 => repeat (first | exact (Kd.C_below HR1.out HB.out) | (with_reducible refine Kd.C_alloc ?_ _) | (with_reducible refine Kd.C_drewN ?_ _) | (with_reducible refine Kd.C_drew ?_))); (case side2 => exact HC1.out); rintro e w95 ⟨v374, rfl, ho0, hb⟩; refine ⟨_, rfl, ?_⟩; have n0_ := Aside0.mk (Kd.S_elder' (by (with_reducible repeat (first | apply Kd.S_alloc | apply Kd.S_drewN | apply Kd.S_drew)); exact HO370.out) (Kd.S_base ho0) hb); have n1_ := Aside0.mk (Kd.S_lower (Kd.S_new' ho0 (Kd.S_lt (by (with_reducible repeat (first | apply Kd.S_alloc | apply Kd.S_drewN | apply Kd.S_drew)); exact HO370.out))) (below_size (by repeat (first | (with_reducible first | exact HB.out | apply below_alloc | apply pw_below_drewN | apply below_drew1) | exact HB.out)))); have n2_ := Aside0.mk (below_step (by repeat (first | (with_reducible first | exact HB.out | apply below_alloc | apply pw_below_drewN | apply below_drew1) | exact HB.out)) hb); clear HO370; clear HB; have HO370 := n0_; have HO375 := n1_; have HB := n2_; clear n0_ n1_ n2_; (try clear hb); (try clear hb2); (try clear hk); (try clear hi); (try clear ho0); obtain ⟨Ao96, co96, eo96⟩ := Kd.S_slice HO370.out; subst eo96; obtain ⟨Ao97, co97, eo97⟩ := Kd.S_slice HO375.out; subst eo97) | (go_at_call 25; (with_reducible refine (formeref05_SameLists.calls kj43 _ _ t366 _ _ t371 true _ ?side1 ?side2 ?side3 ?side4 A91.out).mono ?_); (case side1 => repeat (first | exact (Kd.S_reads' HO370.out).2.2 | (with_reducible refine Kd.C_alloc ?_ _) | (with_reducible refine Kd.C_drewN ?_ _) | (with_reducible refine Kd.C_drew ?_))); (case side2 => exact (Kd.S_reads' HO370.out).2.1); (case side3 => repeat (first | exact (Kd.S_reads' HO375.out).2.2 | (with_reducible refine Kd.C_alloc ?_ _) | (with_reducible refine Kd.C_drewN ?_ _) | (with_reducible refine Kd.C_drew ?_))); (case side4 => exact (Kd.S_reads' HO375.out).2.1); rintro e w' ⟨rfl, ⟨nd, rfl⟩⟩))
                go_ret
                exact ⟨by first | rfl | (simp [errW_none, errW_some] <;> rfl) | (simp [*, errW_none, errW_some] <;> rfl), by repeat (first | (with_reducible first | exact HB.out | apply below_alloc | apply pw_below_drewN | apply below_drew1) | exact HB.out)⟩
               ·
                rw [if_neg c93] at H
                have c93b0 : (t367 == t372) = false := beq_eq_false_iff_ne.mpr c93
                have c93b1 : (t367 != t372) = true := bne_iff_ne.mpr c93
                obtain rfl := Option.some.inj H
                go_wp2_with (first | ((with_reducible refine gate_callee (f := 23) rfl ?_); refine goesL_ (some 167) rfl rfl Try.func23 (by kernel_rfl) rfl #[.slice A1 l1.length c1] rfl (by (try simp only [List.map_toArray, List.map_cons, List.map_nil]); first | done | rfl | (simp only [List.length_drop, List.length_take]; rfl)) ?_; (with_reducible refine (codec_Frames.calls kj43 _ _ l1 t366 t367 t368 _ ?side1 ?side2 A88.out).mono ?_); (case side1 => repeat (first | exact (Kd.C_below HR1.out HB.out) | (with_reducible refine Kd.C_alloc ?_ _) | (with_reducible refine Kd.C_drewN ?_ _) | (with_reducible refine Kd.C_drew ?_))); (case side2 => exact HC1.out); rintro e w98 ⟨v369, rfl, ho0, hb⟩; refine ⟨_, rfl, ?_⟩; have n0_ := Aside0.mk (Kd.S_lower ho0 (below_size (by repeat (first | (with_reducible first | exact HB.out | apply below_alloc | apply pw_below_drewN | apply below_drew1) | exact HB.out)))); have n1_ := Aside0.mk (below_step (by repeat (first | (with_reducible first | exact HB.out | apply below_alloc | apply pw_below_drewN | apply below_drew1) | exact HB.out)) hb); clear HB; have HO370 := n0_; have HB := n1_; clear n0_ n1_; (try clear hb); (try clear hb2); (try clear hk); (try clear hi); (try clear ho0)) | ((with_reducible refine gate_callee (f := 24) rfl ?_); refine goesL_ (some 173) rfl rfl Try.func24 (by kernel_rfl) rfl #[.slice A1 l1.length c1] rfl (by (try simp only [List.map_toArray, List.map_cons, List.map_nil]); first | done | rfl | (simp only [List.length_drop, List.length_take]; rfl)) ?_; (with_reducible refine (formeref05_Frames.calls kj43 _ _ l1 t371 t372 t373 _ ?side1 ?side2 A89.out).mono ?_); (case side1 => repeat (first | exact (Kd.C_below HR1.out HB.out) | (with_reducible refine Kd.C_alloc ?_ _) | (with_reducible refine Kd.C_drewN ?_ _) | (with_reducible refine Kd.C_drew ?_))); (case side2 => exact HC1.out); rintro e w99 ⟨v374, rfl, ho0, hb⟩; refine ⟨_, rfl, ?_⟩; have n0_ := Aside0.mk (Kd.S_elder' (by (with_reducible repeat (first | apply Kd.S_alloc | apply Kd.S_drewN | apply Kd.S_drew)); exact HO370.out) (Kd.S_base ho0) hb); have n1_ := Aside0.mk (Kd.S_lower (Kd.S_new' ho0 (Kd.S_lt (by (with_reducible repeat (first | apply Kd.S_alloc | apply Kd.S_drewN | apply Kd.S_drew)); exact HO370.out))) (below_size (by repeat (first | (with_reducible first | exact HB.out | apply below_alloc | apply pw_below_drewN | apply below_drew1) | exact HB.out)))); have n2_ := Aside0.mk (below_step (by repeat (first | (with_reducible first | exact HB.out | apply below_alloc | apply pw_below_drewN | apply below_drew1) | exact HB.out)) hb); clear HO370; clear HB; have HO370 := n0_; have HO375 := n1_; have HB := n2_; clear n0_ n1_ n2_; (try clear hb); (try clear hb2); (try clear hk); (try clear hi); (try clear ho0); obtain ⟨Ao100, co100, eo100⟩ := Kd.S_slice HO370.out; subst eo100; obtain ⟨Ao101, co101, eo101⟩ := Kd.S_slice HO375.out; subst eo101) | (go_at_call 25; (with_reducible refine (formeref05_SameLists.calls kj43 _ _ t366 _ _ t371 true _ ?side1 ?side2 ?side3 ?side4 A91.out).mono ?_); (case side1 => repeat (first | exact (Kd.S_reads' HO370.out).2.2 | (with_reducible refine Kd.C_alloc ?_ _) | (with_reducible refine Kd.C_drewN ?_ _) | (with_reducible refine Kd.C_drew ?_))); (case side2 => exact (Kd.S_reads' HO370.out).2.1); (case side3 => repeat (first | exact (Kd.S_reads' HO375.out).2.2 | (with_reducible refine Kd.C_alloc ?_ _) | (with_reducible refine Kd.C_drewN ?_ _) | (with_reducible refine Kd.C_drew ?_))); (case side4 => exact (Kd.S_reads' HO375.out).2.1); rintro e w' ⟨rfl, ⟨nd, rfl⟩⟩))
                go_ret
                exact ⟨by first | rfl | (simp [errW_none, errW_some] <;> rfl) | (simp [*, errW_none, errW_some] <;> rfl), by repeat (first | (with_reducible first | exact HB.out | apply below_alloc | apply pw_below_drewN | apply below_drew1) | exact HB.out)⟩
              ·
               replace c92 := Bool.eq_false_iff.mpr c92
               subst c92
               have H1 : (none) = some r := by rw [if_neg (show ¬ (false = true) by decide)] at H; exact H
               clear H
               have H := H1
               clear H1
               exact absurd H (by simp)
             ·
              replace c90 := Bool.eq_false_iff.mpr c90
              subst c90
              have H1 : (none) = some r := by rw [if_neg (show ¬ (false = true) by decide)] at H; exact H
              clear H
              have H := H1
              clear H1
              exact absurd H (by simp)
         ·
          replace c41 := Bool.eq_false_iff.mpr c41
          subst c41
          have H1 : (none) = some r := by rw [if_neg (show ¬ (false = true) by decide)] at H; exact H
          clear H
          have H := H1
          clear H1
          exact absurd H (by simp)
        ·
         replace c39 := Bool.eq_false_iff.mpr c39
         subst c39
         have H1 : (none) = some r := by rw [if_neg (show ¬ (false = true) by decide)] at H; exact H
         clear H
         have H := H1
         clear H1
         exact absurd H (by simp)
     ·
      replace c22 := Bool.eq_false_iff.mpr c22
      subst c22
      have H1 : (none) = some r := by rw [if_neg (show ¬ (false = true) by decide)] at H; exact H
      clear H
      have H := H1
      clear H1
      exact absurd H (by simp)
 ·
  replace c5 := Bool.eq_false_iff.mpr c5
  subst c5
  have H1 : (none) = some r := by rw [if_neg (show ¬ (false = true) by decide)] at H; exact H
  clear H
  have H := H1
  clear H1
  exact absurd H (by simp)

/-- THE ONE PURE STATEMENT of formelaw05_CodecMatchesReference: yours. -/
def formelaw05_CodecMatchesReference.Pure : Prop := ∀ (l0 : List Int) (l1 : List Int) (a2 : ByteArray), l0.length ≤ maxLen → l0.length * 8 ≤ 140737488351232 → (∀ x ∈ l0, (Lit.int .i64 x).wf = true) → l1.length ≤ maxLen → l1.length * 1 ≤ 140737488351232 → (∀ x ∈ l1, (Lit.int .u8 x).wf = true) → a2.size ≤ 140737488351232 → ∃ k, formelaw05_CodecMatchesReference.f k l0 l1 a2 = some true
theorem formelaw05_CodecMatchesReference.walk (P : formelaw05_CodecMatchesReference.Pure) (a0 : Option Addr) (len0 cap0 : Nat) (z0 : List Int) (a1 : Option Addr) (len1 cap1 : Nat) (z1 : List Int) (a2 : ByteArray) (w : World) (w0 : (a0 = none ∧ len0 = 0 ∧ cap0 = 0 ∧ z0 = []) ∨ ∃ x, a0 = some x ∧ len0 ≤ cap0 ∧ cap0 ≤ maxLen ∧ z0.length = cap0 ∧ (∀ i, i < z0.length → w.cell? (x.add i) = some (.int .i64 (z0.getD i 0))) ∧ ∀ n ∈ z0, (Lit.int .i64 n).wf = true) (y0 : len0 * 8 ≤ 140737488351232) (w1 : (a1 = none ∧ len1 = 0 ∧ cap1 = 0 ∧ z1 = []) ∨ ∃ x, a1 = some x ∧ len1 ≤ cap1 ∧ cap1 ≤ maxLen ∧ z1.length = cap1 ∧ (∀ i, i < z1.length → w.cell? (x.add i) = some (.int .u8 (z1.getD i 0))) ∧ ∀ n ∈ z1, (Lit.int .u8 n).wf = true) (y1 : len1 * 1 ≤ 140737488351232) (w2 : a2.size ≤ 140737488351232) :
  Calls Try.prog 3 #[.slice a0 len0 cap0, .slice a1 len1 cap1, .string a2] w fun e w' => e = .returned (.bool true) ∧ Below w.heap.size w w' := by
 obtain ⟨l0, rfl, hr0, hm0, hw0, hc0⟩ := ReadsInt.ofRowC w0
 obtain ⟨l1, rfl, hr1, hm1, hw1, hc1⟩ := ReadsInt.ofRowC w1
 obtain ⟨k, h⟩ := P l0 l1 a2 hm0 y0 hw0 hm1 y1 hw1 w2
 refine (formelaw05_CodecMatchesReference.calls k _ _ l0 _ _ l1 a2 true w (Kd.C_of_reads (d := (0 : Int)) (h1 := fun _ => rfl) hr0) hc0 (Kd.C_of_reads (d := (0 : Int)) (h1 := fun _ => rfl) hr1) hc1 h).mono ?_
 rintro e w' ⟨rfl, hd⟩
 exact ⟨rfl, hd⟩

end Go.Proofs.Ytpggngomdemdgaa.P
