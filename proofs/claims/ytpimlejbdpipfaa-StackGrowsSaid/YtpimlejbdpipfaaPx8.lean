-- Laid by a program of this session (wip/fam.sh) over the kit's words: Lean checks it.
import Derived.Test.YtpimlejbdpipfaaPx0
import Derived.Test.YtpimlejbdpipfaaPx3
import Derived.Test.YtpimlejbdpipfaaPx4
namespace Go.Proofs.Ytpimlejbdpipfaa.P
open Go.RowKit Go.Proofs.YtpimlejbdpipfaaW.PrintWords Go.Proofs.YtpimlejbdpipfaaW.PrintLast Go.Proofs.YtpimlejbdpipfaaW.PrintMore
attribute [local go_sem] max2_int min2_int max_two min_two max_three min_three max_four min_four   -- for this text's walks alone
set_option linter.unusedVariables false
set_option linter.unusedSimpArgs false

/-! ### formelaw19_StackGrows: function 7 -/
mutual
def formelaw19_StackGrows.j0 : Nat → Int → List (S39) → Int → Int → Bool → Bool → Option (Bool)
  | 0, _, _, _, _, _, _ => none
  | k + 1, x0, x1, x2, x3, x9, x29 => if x29 = true then (some x9) else (if (x1.length : Int) = 0 then (none) else ((some (([] : List (S39)) : List (S39))).bind fun y292 => (if y292.length + x1.length < 5864062014805 then ((some (y292 ++ x1 : List (S39))).bind fun y295 => (if 0 ≤ (Int.tmod (wrap64 (x2)) (x1.length : Int)) then (if (Int.tmod (wrap64 (x2)) (x1.length : Int)) < (y295.length : Int) then ((some (y295.set ((Int.tmod (wrap64 (x2)) (x1.length : Int)) : Int).toNat (⟨(rd_T39 y295 (Int.tmod (wrap64 (x2)) (x1.length : Int))).f0, (rd_T39 y295 (Int.tmod (wrap64 (x2)) (x1.length : Int))).f1, wrap64 (((rd_T39 y295 (Int.tmod (wrap64 (x2)) (x1.length : Int))).f2) + (wrap64 (x3)))⟩ : S39) : List (S39))).bind fun y299 => ((formelaw19_right.f k x0 y299).bind fun t300 => (if t300 = true then ((formelaw19_placed.f k x0 x1).bind fun bt301 => ((formelaw19_placed.f k x0 y299).bind fun bt306 => (if bt301.2.2 = true then (formelaw19_StackGrows.j1 k x3 x9 (Int.tmod (wrap64 (x2)) (x1.length : Int)) bt301.1 bt301.2.1 bt306.1 bt306.2.1 (!bt306.2.2)) else (formelaw19_StackGrows.j1 k x3 x9 (Int.tmod (wrap64 (x2)) (x1.length : Int)) bt301.1 bt301.2.1 bt306.1 bt306.2.1 true)))) else (some x9)))) else (none)) else (none))) else (none))))
def formelaw19_StackGrows.j1 : Nat → Int → Bool → Int → List Int → Int → List Int → Int → Bool → Option (Bool)
  | 0, _, _, _, _, _, _, _, _ => none
  | k + 1, x3, x9, x10, x12, x13, x15, x16, x73 => if x73 = true then (some false) else (formelaw19_StackGrows.l0 k x3 x9 x10 x12 x13 x15 x16 (x12.length : Int) 0)
def formelaw19_StackGrows.l0 : Nat → Int → Bool → Int → List Int → Int → List Int → Int → Int → Int → Option (Bool)
  | 0, _, _, _, _, _, _, _, _, _ => none
  | k + 1, x3, x9, x10, x12, x13, x15, x16, x75, x76 => if x76 < x75 then (if 0 ≤ x76 then (if x76 < (x12.length : Int) then (if x76 > x10 then (if x9 = true then (if x76 < (x15.length : Int) then (formelaw19_StackGrows.l0 k x3 ((rd x15 x76) == (wrap64 ((rd x12 x76) + (wrap64 (x3))))) x10 x12 x13 x15 x16 x75 (wrap64 (x76 + 1))) else (none)) else (formelaw19_StackGrows.l0 k x3 false x10 x12 x13 x15 x16 x75 (wrap64 (x76 + 1)))) else (if x9 = true then (if x76 < (x15.length : Int) then (formelaw19_StackGrows.l0 k x3 ((rd x15 x76) == (rd x12 x76)) x10 x12 x13 x15 x16 x75 (wrap64 (x76 + 1))) else (none)) else (formelaw19_StackGrows.l0 k x3 false x10 x12 x13 x15 x16 x75 (wrap64 (x76 + 1))))) else (none)) else (none)) else (if x9 = true then (some (x16 == (wrap64 (x13 + (wrap64 (x3)))))) else (some false))
end
def formelaw19_StackGrows.f (k : Nat) (a0 : Int) (l1 : List (S39)) (a2 : Int) (a3 : Int) : Option (Bool) := (formelaw19_head.f k).bind fun t290 => (if t290 = true then (if (l1.length : Int) = 0 then (formelaw19_StackGrows.j0 k a0 l1 a2 a3 true true) else ((formelaw19_right.f k a0 l1).bind fun t291 => (formelaw19_StackGrows.j0 k a0 l1 a2 a3 true (!t291)))) else (none))
theorem formelaw19_StackGrows.mono_l : ∀ k, (∀ y0 y1 y2 y3 y4 y5, LeO (formelaw19_StackGrows.j0 k y0 y1 y2 y3 y4 y5) (formelaw19_StackGrows.j0 (k + 1) y0 y1 y2 y3 y4 y5)) ∧ (∀ y0 y1 y2 y3 y4 y5 y6 y7, LeO (formelaw19_StackGrows.j1 k y0 y1 y2 y3 y4 y5 y6 y7) (formelaw19_StackGrows.j1 (k + 1) y0 y1 y2 y3 y4 y5 y6 y7)) ∧ (∀ y0 y1 y2 y3 y4 y5 y6 y7 y8, LeO (formelaw19_StackGrows.l0 k y0 y1 y2 y3 y4 y5 y6 y7 y8) (formelaw19_StackGrows.l0 (k + 1) y0 y1 y2 y3 y4 y5 y6 y7 y8))
  | 0 => ⟨fun _ _ _ _ _ _ r h => by simp [formelaw19_StackGrows.j0] at h, fun _ _ _ _ _ _ _ _ r h => by simp [formelaw19_StackGrows.j1] at h, fun _ _ _ _ _ _ _ _ _ r h => by simp [formelaw19_StackGrows.l0] at h⟩
  | k + 1 => by
    obtain ⟨ih0, ih1, ih2⟩ := formelaw19_StackGrows.mono_l k
    refine ⟨?_, ?_, ?_⟩
    · intro y0 y1 y2 y3 y4 y5
      unfold formelaw19_StackGrows.j0
      repeat' first
      | (with_reducible exact ih0 _ _ _ _ _ _)
      | (with_reducible exact ih1 _ _ _ _ _ _ _ _)
      | (with_reducible exact ih2 _ _ _ _ _ _ _ _ _)
      | (with_reducible exact formelaw19_head.mono _)
      | (with_reducible exact formelaw19_placed.mono _ _ _)
      | (with_reducible exact formelaw19_right.mono _ _ _)
      | (with_reducible exact LeO.refl _)
      | (with_reducible exact LeO.none _)
      | (with_reducible refine LeO.ite ?_ ?_)
      | (with_reducible refine LeO.bind ?_ (fun _ => ?_))
      | exact ih0 _ _ _ _ _ _
      | exact ih1 _ _ _ _ _ _ _ _
      | exact ih2 _ _ _ _ _ _ _ _ _
      | exact formelaw19_head.mono _
      | exact formelaw19_placed.mono _ _ _
      | exact formelaw19_right.mono _ _ _
      | exact LeO.none _
      | refine LeO.ite ?_ ?_
      | refine LeO.bind ?_ (fun _ => ?_)
    · intro y0 y1 y2 y3 y4 y5 y6 y7
      unfold formelaw19_StackGrows.j1
      repeat' first
      | (with_reducible exact ih0 _ _ _ _ _ _)
      | (with_reducible exact ih1 _ _ _ _ _ _ _ _)
      | (with_reducible exact ih2 _ _ _ _ _ _ _ _ _)
      | (with_reducible exact formelaw19_head.mono _)
      | (with_reducible exact formelaw19_placed.mono _ _ _)
      | (with_reducible exact formelaw19_right.mono _ _ _)
      | (with_reducible exact LeO.refl _)
      | (with_reducible exact LeO.none _)
      | (with_reducible refine LeO.ite ?_ ?_)
      | (with_reducible refine LeO.bind ?_ (fun _ => ?_))
      | exact ih0 _ _ _ _ _ _
      | exact ih1 _ _ _ _ _ _ _ _
      | exact ih2 _ _ _ _ _ _ _ _ _
      | exact formelaw19_head.mono _
      | exact formelaw19_placed.mono _ _ _
      | exact formelaw19_right.mono _ _ _
      | exact LeO.none _
      | refine LeO.ite ?_ ?_
      | refine LeO.bind ?_ (fun _ => ?_)
    · intro y0 y1 y2 y3 y4 y5 y6 y7 y8
      unfold formelaw19_StackGrows.l0
      repeat' first
      | (with_reducible exact ih0 _ _ _ _ _ _)
      | (with_reducible exact ih1 _ _ _ _ _ _ _ _)
      | (with_reducible exact ih2 _ _ _ _ _ _ _ _ _)
      | (with_reducible exact formelaw19_head.mono _)
      | (with_reducible exact formelaw19_placed.mono _ _ _)
      | (with_reducible exact formelaw19_right.mono _ _ _)
      | (with_reducible exact LeO.refl _)
      | (with_reducible exact LeO.none _)
      | (with_reducible refine LeO.ite ?_ ?_)
      | (with_reducible refine LeO.bind ?_ (fun _ => ?_))
      | exact ih0 _ _ _ _ _ _
      | exact ih1 _ _ _ _ _ _ _ _
      | exact ih2 _ _ _ _ _ _ _ _ _
      | exact formelaw19_head.mono _
      | exact formelaw19_placed.mono _ _ _
      | exact formelaw19_right.mono _ _ _
      | exact LeO.none _
      | refine LeO.ite ?_ ?_
      | refine LeO.bind ?_ (fun _ => ?_)
theorem formelaw19_StackGrows.mono : ∀ a0 a1 a2 a3 k, LeO (formelaw19_StackGrows.f k a0 a1 a2 a3) (formelaw19_StackGrows.f (k + 1) a0 a1 a2 a3) := by
  intro a0 a1 a2 a3 k
  obtain ⟨ih0, ih1, ih2⟩ := formelaw19_StackGrows.mono_l k
  unfold formelaw19_StackGrows.f
  repeat' first
      | (with_reducible exact ih0 _ _ _ _ _ _)
      | (with_reducible exact ih1 _ _ _ _ _ _ _ _)
      | (with_reducible exact ih2 _ _ _ _ _ _ _ _ _)
      | (with_reducible exact formelaw19_head.mono _)
      | (with_reducible exact formelaw19_placed.mono _ _ _)
      | (with_reducible exact formelaw19_right.mono _ _ _)
      | (with_reducible exact LeO.refl _)
      | (with_reducible exact LeO.none _)
      | (with_reducible refine LeO.ite ?_ ?_)
      | (with_reducible refine LeO.bind ?_ (fun _ => ?_))
      | exact ih0 _ _ _ _ _ _
      | exact ih1 _ _ _ _ _ _ _ _
      | exact ih2 _ _ _ _ _ _ _ _ _
      | exact formelaw19_head.mono _
      | exact formelaw19_placed.mono _ _ _
      | exact formelaw19_right.mono _ _ _
      | exact LeO.none _
      | refine LeO.ite ?_ ?_
      | refine LeO.bind ?_ (fun _ => ?_)
set_option maxHeartbeats 8000000 in
set_option maxRecDepth 100000 in
theorem formelaw19_StackGrows.calls (k : Nat) (a0 : Int) (A1 : Option Addr) (c1 : Nat) (l1 : List (S39)) (a2 : Int) (a3 : Int) (r : Bool) (w : World) (hr1 : Kd.C k39 w A1 l1.length l1) (hc1 : l1.length ≤ c1) (h : formelaw19_StackGrows.f k a0 l1 a2 a3 = some r) :
    Calls Try.prog 7 #[.int .i64 a0, .slice A1 l1.length c1, .int .u8 a2, .int .u16 a3] w fun e w' => e = .returned (.bool r) ∧ Below w.heap.size w w' := by
  have HR1 := Aside0.mk hr1
  have HC1 := Aside0.mk hc1
  clear hr1 hc1
  have HB := Aside0.mk (Below.refl w.heap.size w)
  have H : ((formelaw19_head.f k).bind fun t290 => (if t290 = true then (if (l1.length : Int) = 0 then (formelaw19_StackGrows.j0 k a0 l1 a2 a3 true true) else ((formelaw19_right.f k a0 l1).bind fun t291 => (formelaw19_StackGrows.j0 k a0 l1 a2 a3 true (!t291)))) else (none))) = some r := h
  clear h
  replace H := Option.bind_eq_some_iff.mp H
  obtain ⟨t290, A50, H⟩ := H
  replace H : (if t290 = true then (if (l1.length : Int) = 0 then (formelaw19_StackGrows.j0 k a0 l1 a2 a3 true true) else ((formelaw19_right.f k a0 l1).bind fun t291 => (formelaw19_StackGrows.j0 k a0 l1 a2 a3 true (!t291)))) else (none)) = some r := H
  have A5 := Aside0.mk A50
  clear A50
  by_cases c6 : t290 = true
  · subst c6
    have H1 : (if (l1.length : Int) = 0 then (formelaw19_StackGrows.j0 k a0 l1 a2 a3 true true) else ((formelaw19_right.f k a0 l1).bind fun t291 => (formelaw19_StackGrows.j0 k a0 l1 a2 a3 true (!t291)))) = some r := by rw [if_pos rfl] at H; exact H
    clear H
    have H := H1
    clear H1
    have HC7 := Aside0.mk H
    clear H
    go_enter Try.func7, Try.ntmps7
    go_upto_region 2 with (first | ((with_reducible refine gate_callee (f := 9) rfl ?_); refine goesL_ (some 20) rfl rfl Try.func9 (by kernel_rfl) rfl #[] rfl (by (try simp only [List.map_toArray, List.map_cons, List.map_nil]); first | done | rfl | (simp only [List.length_drop, List.length_take]; rfl)) ?_; (with_reducible refine (formelaw19_head.calls k  true _ A5.out).mono ?_); rintro e w8 ⟨rfl, hb⟩; refine ⟨_, rfl, ?_⟩; have n0_ := Aside0.mk (below_step (by repeat (first | (with_reducible first | exact HB.out | apply below_alloc | apply pw_below_drewN | apply below_drew1) | exact HB.out)) hb); clear HB; have HB := n0_; clear n0_; (try clear hb); (try clear hb2); (try clear hk); (try clear hi)))
    (try simp only [Act.put, List.setIfInBounds_toArray, List.set_cons_zero, List.set_cons_succ])
    go_cut [29] (fun v29 wc => ∃ (kq : Nat) (x29_6 : Bool), v29 = .bool x29_6 ∧ Aside0 (formelaw19_StackGrows.j0 kq a0 l1 a2 a3 true x29_6 = some r) ∧ Aside0 (kq ≤ k) ∧ Aside0 (Below w.heap.size w wc))
    case first =>
      have H := HC7.out
      clear HC7
      by_cases c9 : (l1.length : Int) = 0
      · rw [if_pos c9] at H
        have c9b0 : ((l1.length : Int) == 0) = true := beq_iff_eq.mpr c9
        have c9b1 : ((l1.length : Int) != 0) = false := bne_eq_false_iff_eq.mpr c9
        clear c9
        (first | rw [c9b0] | (simp only [i64_w, i32_w]; rw [c9b0]) | skip)
        have H' := Aside0.mk H
        clear H
        go_wp2
        go_meet
        case rel => exact ⟨_, (true), (by first | rfl | (simp; done) | (simp [*]; done)), H', ⟨by first | omega | exact Nat.le_refl _⟩, ⟨by repeat (first | (with_reducible first | exact HB.out | apply below_alloc | apply pw_below_drewN | apply below_drew1) | exact HB.out)⟩⟩
      · rw [if_neg c9] at H
        have c9b0 : ((l1.length : Int) == 0) = false := beq_eq_false_iff_ne.mpr c9
        have c9b1 : ((l1.length : Int) != 0) = true := bne_iff_ne.mpr c9
        have c9b2 : ¬ (l1 = []) := fun h_ => c9 (by rw [h_]; rfl)
        (first | rw [c9b0] | (simp only [i64_w, i32_w]; rw [c9b0]) | skip)
        replace H := Option.bind_eq_some_iff.mp H
        obtain ⟨t291, A100, H⟩ := H
        replace H : (formelaw19_StackGrows.j0 k a0 l1 a2 a3 true (!t291)) = some r := H
        have A10 := Aside0.mk A100
        clear A100
        have H' := Aside0.mk H
        clear H
        go_wp2_with (first | (go_at_call 17; (with_reducible refine (formelaw19_right.calls k a0 _ _ l1 t291 _ ?side1 ?side2 A10.out).mono ?_); (case side1 => repeat (first | exact (Kd.C_below HR1.out HB.out) | (with_reducible refine Kd.C_alloc ?_ _) | (with_reducible refine Kd.C_drewN ?_ _) | (with_reducible refine Kd.C_drew ?_))); (case side2 => exact HC1.out); rintro e w11 ⟨rfl, hb⟩; have n0_ := Aside0.mk (below_step (by repeat (first | (with_reducible first | exact HB.out | apply below_alloc | apply pw_below_drewN | apply below_drew1) | exact HB.out)) hb); clear HB; have HB := n0_; clear n0_; (try clear hb); (try clear hb2); (try clear hk); (try clear hi)))
        go_meet
        case rel => exact ⟨_, (!t291), (by first | rfl | (simp; done) | (simp [*]; done)), H', ⟨by first | omega | exact Nat.le_refl _⟩, ⟨by repeat (first | (with_reducible first | exact HB.out | apply below_alloc | apply pw_below_drewN | apply below_drew1) | exact HB.out)⟩⟩
    case rest =>
      clear HC7
      try clear c1
      try clear p2
      try clear c6
      try clear c7
      try clear c9
      try clear c9b0
      try clear c9b1
      try clear c9b2
      obtain ⟨kq, x29_6, rfl, HA, HJ6, HB⟩ := hcut
      cases kq with
      | zero => exact absurd HA.out (by simp [formelaw19_StackGrows.j0])
      | succ kj6 =>
        have H := HA.out
        clear HA
        simp only [formelaw19_StackGrows.j0] at H
        by_cases c12 : x29_6 = true
        · subst c12
          have H1 : (some true) = some r := by rw [if_pos rfl] at H; exact H
          clear H
          have H := H1
          clear H1
          obtain rfl := Option.some.inj H
          go_wp2
          go_ret
          exact ⟨by first | rfl | (simp [errW_none, errW_some] <;> rfl) | (simp [*, errW_none, errW_some] <;> rfl), by repeat (first | (with_reducible first | exact HB.out | apply below_alloc | apply pw_below_drewN | apply below_drew1) | exact HB.out)⟩
        · replace c12 := Bool.eq_false_iff.mpr c12
          subst c12
          have H1 : (if (l1.length : Int) = 0 then (none) else ((some (([] : List (S39)) : List (S39))).bind fun y292 => (if y292.length + l1.length < 5864062014805 then ((some (y292 ++ l1 : List (S39))).bind fun y295 => (if 0 ≤ (Int.tmod (wrap64 (a2)) (l1.length : Int)) then (if (Int.tmod (wrap64 (a2)) (l1.length : Int)) < (y295.length : Int) then ((some (y295.set ((Int.tmod (wrap64 (a2)) (l1.length : Int)) : Int).toNat (⟨(rd_T39 y295 (Int.tmod (wrap64 (a2)) (l1.length : Int))).f0, (rd_T39 y295 (Int.tmod (wrap64 (a2)) (l1.length : Int))).f1, wrap64 (((rd_T39 y295 (Int.tmod (wrap64 (a2)) (l1.length : Int))).f2) + (wrap64 (a3)))⟩ : S39) : List (S39))).bind fun y299 => ((formelaw19_right.f kj6 a0 y299).bind fun t300 => (if t300 = true then ((formelaw19_placed.f kj6 a0 l1).bind fun bt301 => ((formelaw19_placed.f kj6 a0 y299).bind fun bt306 => (if bt301.2.2 = true then (formelaw19_StackGrows.j1 kj6 a3 true (Int.tmod (wrap64 (a2)) (l1.length : Int)) bt301.1 bt301.2.1 bt306.1 bt306.2.1 (!bt306.2.2)) else (formelaw19_StackGrows.j1 kj6 a3 true (Int.tmod (wrap64 (a2)) (l1.length : Int)) bt301.1 bt301.2.1 bt306.1 bt306.2.1 true)))) else (some true)))) else (none)) else (none))) else (none)))) = some r := by rw [if_neg (show ¬ (false = true) by decide)] at H; exact H
          clear H
          have H := H1
          clear H1
          by_cases c13 : (l1.length : Int) = 0
          · rw [if_pos c13] at H
            exact absurd H (by simp)
          · rw [if_neg c13] at H
            have c13b0 : ((l1.length : Int) == 0) = false := beq_eq_false_iff_ne.mpr c13
            have c13b1 : ((l1.length : Int) != 0) = true := bne_iff_ne.mpr c13
            have c13b2 : ¬ (l1 = []) := fun h_ => c13 (by rw [h_]; rfl)
            obtain ⟨y292, hy292⟩ : ∃ y_ : List (S39), y_ = (([] : List (S39))) := ⟨_, rfl⟩
            replace H : (if y292.length + l1.length < 5864062014805 then ((some (y292 ++ l1 : List (S39))).bind fun y295 => (if 0 ≤ (Int.tmod (wrap64 (a2)) (l1.length : Int)) then (if (Int.tmod (wrap64 (a2)) (l1.length : Int)) < (y295.length : Int) then ((some (y295.set ((Int.tmod (wrap64 (a2)) (l1.length : Int)) : Int).toNat (⟨(rd_T39 y295 (Int.tmod (wrap64 (a2)) (l1.length : Int))).f0, (rd_T39 y295 (Int.tmod (wrap64 (a2)) (l1.length : Int))).f1, wrap64 (((rd_T39 y295 (Int.tmod (wrap64 (a2)) (l1.length : Int))).f2) + (wrap64 (a3)))⟩ : S39) : List (S39))).bind fun y299 => ((formelaw19_right.f kj6 a0 y299).bind fun t300 => (if t300 = true then ((formelaw19_placed.f kj6 a0 l1).bind fun bt301 => ((formelaw19_placed.f kj6 a0 y299).bind fun bt306 => (if bt301.2.2 = true then (formelaw19_StackGrows.j1 kj6 a3 true (Int.tmod (wrap64 (a2)) (l1.length : Int)) bt301.1 bt301.2.1 bt306.1 bt306.2.1 (!bt306.2.2)) else (formelaw19_StackGrows.j1 kj6 a3 true (Int.tmod (wrap64 (a2)) (l1.length : Int)) bt301.1 bt301.2.1 bt306.1 bt306.2.1 true)))) else (some true)))) else (none)) else (none))) else (none)) = some r := by first | (rw [hy292]; with_reducible exact H) | (have H2_ := (Option.bind_some _ _).symm.trans H; rw [hy292]; with_reducible exact H2_) | (have H2_ := (Option.bind_some _ _).symm.trans H; with_reducible exact H2_) | with_reducible exact H | (rw [hy292]; exact H) | exact H
            have Ny292 := Aside0.mk hy292
            clear hy292
            by_cases c14 : y292.length + l1.length < 5864062014805
            · rw [if_pos c14] at H
              have LMc14 := Aside0.mk c14
              clear c14
              obtain ⟨y295, hy295⟩ : ∃ y_ : List (S39), y_ = (y292 ++ l1) := ⟨_, rfl⟩
              replace H : (if 0 ≤ (Int.tmod (wrap64 (a2)) (l1.length : Int)) then (if (Int.tmod (wrap64 (a2)) (l1.length : Int)) < (y295.length : Int) then ((some (y295.set ((Int.tmod (wrap64 (a2)) (l1.length : Int)) : Int).toNat (⟨(rd_T39 y295 (Int.tmod (wrap64 (a2)) (l1.length : Int))).f0, (rd_T39 y295 (Int.tmod (wrap64 (a2)) (l1.length : Int))).f1, wrap64 (((rd_T39 y295 (Int.tmod (wrap64 (a2)) (l1.length : Int))).f2) + (wrap64 (a3)))⟩ : S39) : List (S39))).bind fun y299 => ((formelaw19_right.f kj6 a0 y299).bind fun t300 => (if t300 = true then ((formelaw19_placed.f kj6 a0 l1).bind fun bt301 => ((formelaw19_placed.f kj6 a0 y299).bind fun bt306 => (if bt301.2.2 = true then (formelaw19_StackGrows.j1 kj6 a3 true (Int.tmod (wrap64 (a2)) (l1.length : Int)) bt301.1 bt301.2.1 bt306.1 bt306.2.1 (!bt306.2.2)) else (formelaw19_StackGrows.j1 kj6 a3 true (Int.tmod (wrap64 (a2)) (l1.length : Int)) bt301.1 bt301.2.1 bt306.1 bt306.2.1 true)))) else (some true)))) else (none)) else (none)) = some r := by first | (rw [hy295]; with_reducible exact H) | (have H2_ := (Option.bind_some _ _).symm.trans H; rw [hy295]; with_reducible exact H2_) | (have H2_ := (Option.bind_some _ _).symm.trans H; with_reducible exact H2_) | with_reducible exact H | (rw [hy295]; exact H) | exact H
              have Ny295 := Aside0.mk hy295
              clear hy295
              obtain ⟨ji15, hji15⟩ : ∃ j_ : Int, (Int.tmod (wrap64 (a2)) (l1.length : Int)) = j_ := ⟨_, rfl⟩
              replace H : (if 0 ≤ (ji15) then (if (ji15) < (y295.length : Int) then ((some (y295.set ((ji15) : Int).toNat (⟨(rd_T39 y295 (ji15)).f0, (rd_T39 y295 (ji15)).f1, wrap64 (((rd_T39 y295 (ji15)).f2) + (wrap64 (a3)))⟩ : S39) : List (S39))).bind fun y299 => ((formelaw19_right.f kj6 a0 y299).bind fun t300 => (if t300 = true then ((formelaw19_placed.f kj6 a0 l1).bind fun bt301 => ((formelaw19_placed.f kj6 a0 y299).bind fun bt306 => (if bt301.2.2 = true then (formelaw19_StackGrows.j1 kj6 a3 true ji15 bt301.1 bt301.2.1 bt306.1 bt306.2.1 (!bt306.2.2)) else (formelaw19_StackGrows.j1 kj6 a3 true ji15 bt301.1 bt301.2.1 bt306.1 bt306.2.1 true)))) else (some true)))) else (none)) else (none)) = some r := by first | (rw [hji15] at H; exact H) | (simp only [hji15] at H ⊢; exact H)
              by_cases c16 : 0 ≤ (ji15)
              · rw [if_pos c16] at H
                have c16b0 : decide (0 ≤ (ji15)) = true := decide_eq_true c16
                clear c16
                by_cases c17 : (ji15) < (y295.length : Int)
                · rw [if_pos c17] at H
                  have c17b0 : decide ((ji15) < (y295.length : Int)) = true := decide_eq_true c17
                  clear c17
                  obtain ⟨y299, hy299⟩ : ∃ y_ : List (S39), y_ = (y295.set ((ji15) : Int).toNat (⟨(rd_T39 y295 (ji15)).f0, (rd_T39 y295 (ji15)).f1, wrap64 (((rd_T39 y295 (ji15)).f2) + (wrap64 (a3)))⟩ : S39)) := ⟨_, rfl⟩
                  replace H : ((formelaw19_right.f kj6 a0 y299).bind fun t300 => (if t300 = true then ((formelaw19_placed.f kj6 a0 l1).bind fun bt301 => ((formelaw19_placed.f kj6 a0 y299).bind fun bt306 => (if bt301.2.2 = true then (formelaw19_StackGrows.j1 kj6 a3 true ji15 bt301.1 bt301.2.1 bt306.1 bt306.2.1 (!bt306.2.2)) else (formelaw19_StackGrows.j1 kj6 a3 true ji15 bt301.1 bt301.2.1 bt306.1 bt306.2.1 true)))) else (some true))) = some r := by first | (rw [hy299]; with_reducible exact H) | (have H2_ := (Option.bind_some _ _).symm.trans H; rw [hy299]; with_reducible exact H2_) | (have H2_ := (Option.bind_some _ _).symm.trans H; with_reducible exact H2_) | with_reducible exact H | (rw [hy299]; exact H) | exact H
                  have Ny299 := Aside0.mk hy299
                  clear hy299
                  replace H := Option.bind_eq_some_iff.mp H
                  obtain ⟨t300, A190, H⟩ := H
                  replace H : (if t300 = true then ((formelaw19_placed.f kj6 a0 l1).bind fun bt301 => ((formelaw19_placed.f kj6 a0 y299).bind fun bt306 => (if bt301.2.2 = true then (formelaw19_StackGrows.j1 kj6 a3 true ji15 bt301.1 bt301.2.1 bt306.1 bt306.2.1 (!bt306.2.2)) else (formelaw19_StackGrows.j1 kj6 a3 true ji15 bt301.1 bt301.2.1 bt306.1 bt306.2.1 true)))) else (some true)) = some r := H
                  have A19 := Aside0.mk A190
                  clear A190
                  by_cases c20 : t300 = true
                  · subst c20
                    have H1 : ((formelaw19_placed.f kj6 a0 l1).bind fun bt301 => ((formelaw19_placed.f kj6 a0 y299).bind fun bt306 => (if bt301.2.2 = true then (formelaw19_StackGrows.j1 kj6 a3 true ji15 bt301.1 bt301.2.1 bt306.1 bt306.2.1 (!bt306.2.2)) else (formelaw19_StackGrows.j1 kj6 a3 true ji15 bt301.1 bt301.2.1 bt306.1 bt306.2.1 true)))) = some r := by rw [if_pos rfl] at H; exact H
                    clear H
                    have H := H1
                    clear H1
                    replace H := Option.bind_eq_some_iff.mp H
                    obtain ⟨⟨t301, t302, t303⟩, A210, H⟩ := H
                    replace H : ((formelaw19_placed.f kj6 a0 y299).bind fun bt306 => (if t303 = true then (formelaw19_StackGrows.j1 kj6 a3 true ji15 t301 t302 bt306.1 bt306.2.1 (!bt306.2.2)) else (formelaw19_StackGrows.j1 kj6 a3 true ji15 t301 t302 bt306.1 bt306.2.1 true))) = some r := H
                    have A21 := Aside0.mk A210
                    clear A210
                    replace H := Option.bind_eq_some_iff.mp H
                    obtain ⟨⟨t306, t307, t308⟩, A220, H⟩ := H
                    replace H : (if t303 = true then (formelaw19_StackGrows.j1 kj6 a3 true ji15 t301 t302 t306 t307 (!t308)) else (formelaw19_StackGrows.j1 kj6 a3 true ji15 t301 t302 t306 t307 true)) = some r := H
                    have A22 := Aside0.mk A220
                    clear A220
                    have HC23 := Aside0.mk H
                    clear H
                    go_upto_region 11 with (first | ((with_reducible refine gate_dst (N := 36) rfl ?_); refine Kd.R_lit k39 _ 39 ?hg (N := 36) ?hd (xs := ([] : List (S39))) (inner := []) (ok := fun _ => True) (okp := fun _ => True) ?hr ?hp (fun _ hk => hk) trivial (Below.refl _ _) (Nat.le_refl _) (by simp) ?_; (case hd => rfl); (case hg => rfl); (case hr => first | (go_simp; done) | (go_simp; rfl)); (case hp => exact (Reps.none _ _)); intro v293 w24 ho25 hb hg_ hnew_; clear hg_ hnew_; (first | rw [← Ny292.out] at ho25 | (simp only [Int.reduceToNat] at ho25; rw [← Ny292.out] at ho25)); have n0_ := Aside0.mk (Kd.R_lower ho25 (below_size (by repeat (first | (with_reducible first | exact HB.out | apply below_alloc | apply pw_below_drewN | apply below_drew1) | exact HB.out)))); have n1_ := Aside0.mk (below_step (by repeat (first | (with_reducible first | exact HB.out | apply below_alloc | apply pw_below_drewN | apply below_drew1) | exact HB.out)) hb); clear HB; have HO294 := n0_; have HB := n1_; clear n0_ n1_; clear hb ho25) | ((with_reducible refine gate_builtin (b := .append) (xs := #[.tmp 36, .tmp 37]) rfl ?_); at_builtin; refine Kd.R_append_rows k39 (w0 := w) w.heap.size rfl (.tmp 36) (.tmp 37) 22 39 (.agg #[(.int .i64 0), (.int .i64 0), (.int .i64 0)]) 24 rfl Try.underlying22 info39 rfl (by decide) (by omega) v293 y292 l1 _ _ _ (fun _ => True) (fun _ => False) rfl rfl ?aO ?aR (fun _ _ h => h) (fun _ h => h.elim) ?aF ?aB ?aS ?aL ?_; (case aR => repeat (first | exact (Kd.C_below HR1.out HB.out) | (with_reducible refine Kd.C_alloc ?_ _) | (with_reducible refine Kd.C_drewN ?_ _) | (with_reducible refine Kd.C_drew ?_))); (case aB => exact (by repeat (first | (with_reducible first | exact HB.out | apply below_alloc | apply pw_below_drewN | apply below_drew1) | exact HB.out))); (case aF => exact (fun _ _ => trivial)); (case aO => exact (by (with_reducible repeat (first | apply Kd.R_alloc | apply Kd.R_drewN | apply Kd.R_drew)); exact HO294.out)); (case aS => exact (below_size (by repeat (first | (with_reducible first | exact HB.out | apply below_alloc | apply pw_below_drewN | apply below_drew1) | exact HB.out)))); (case aL => have := LMc14.out; omega); intro v296 w26 ho hb hg hat; rw [← Ny295.out] at ho; have n0_ := Aside0.mk (hb); have n1_ := Aside0.mk (ho); clear HB; clear HO294; have HB := n0_; have HO297 := n1_; clear n0_ n1_; clear ho hb hg hat; obtain ⟨Ao27, co27, eo27⟩ := Kd.R_slice HO297.out; subst eo27; have p298 : 0 ≤ ((ji15) : Int) := of_decide_eq_true (by first | (with_reducible assumption) | assumption); have q298 : (ji15) < (y295.length : Int) := of_decide_eq_true (by first | (with_reducible assumption) | assumption); obtain ⟨ad298, e298, hx298_0, hx298_1, hx298_2⟩ := at_T39 (Kd.R_reads' HO297.out).2.2 (ji15) p298 q298; cases e298; replace p298 := eq_true p298; replace q298 := eq_true q298; have p18 : 0 ≤ ((ji15) : Int) := of_decide_eq_true (by first | (with_reducible assumption) | assumption); have q18 : ((ji15) : Int) < ((y295.length : Int) : Int) := of_decide_eq_true (by first | (with_reducible assumption) | assumption); obtain ⟨go18, co18, eo18, gb18, gl18, cl18, HG18⟩ := Kd.R_form HO297.out (by omega); (first | cases eo18 | (injection eo18 with ea_ en_ ec_; (first | subst ea_ | (injection ea_ with ea_; subst ea_)); subst ec_; clear en_)); have GB18 := Aside0.mk gb18; have GG18 := Aside0.mk HG18; clear gb18 gl18 HG18; (first | simp only [add_plain] at hx298_0 | skip); (first | simp only [add_plain] at hx298_1 | skip); (first | simp only [add_plain] at hx298_2 | skip); obtain ⟨ce18, hcl18, hM18, hcc18, hfr18⟩ := Kd.R_elem HO297.out z39 ((ji15) : Int) p18 q18; obtain rfl := k39_openM hM18; have hx18_0 : w26.cell? ⟨go18, ((ji15) : Int).toNat * 3, none⟩ = some (.int .i64 ((rd_T39 y295 (ji15)).f0)) := hcc18 0 _ rfl; have hx18_1 : w26.cell? ⟨go18, ((ji15) : Int).toNat * 3 + 1, none⟩ = some (.int .i64 ((rd_T39 y295 (ji15)).f1)) := hcc18 1 _ rfl; have hx18_2 : w26.cell? ⟨go18, ((ji15) : Int).toNat * 3 + 2, none⟩ = some (.int .i64 ((rd_T39 y295 (ji15)).f2)) := hcc18 2 _ rfl; have hf18_0 : w26.frozen? ⟨go18, ((ji15) : Int).toNat * 3, none⟩ = false := hfr18 0; have hf18_1 : w26.frozen? ⟨go18, ((ji15) : Int).toNat * 3 + 1, none⟩ = false := hfr18 1; have hf18_2 : w26.frozen? ⟨go18, ((ji15) : Int).toNat * 3 + 2, none⟩ = false := hfr18 2; clear hcl18 hcc18 hfr18 hM18; replace p18 := eq_true p18; replace q18 := eq_true q18; have HX28 := Aside0.mk (show Kd.R k39 39 w26 w.heap.size (fun _ => True) (.slice (some ⟨go18, 0, none⟩) y295.length co27) y295 from (by (with_reducible repeat (first | apply Kd.R_alloc | apply Kd.R_drewN | apply Kd.R_drew)); exact HO297.out)); obtain ⟨ce28, hcl28, hM28, hcc28, hfr28⟩ := Kd.R_elem HX28.out z39 ((ji15) : Int) (of_decide_eq_true (by first | (with_reducible assumption) | assumption)) (by have h_ : ((ji15) : Int) < ((y295.length : Int) : Int) := of_decide_eq_true (by first | (with_reducible assumption) | assumption); first | exact h_ | (have e_ := (Kd.R_reads' HO297.out).1; omega) | simpa using h_); obtain rfl := k39_openM hM28; have HP28 := Kd.R_seg HX28.out ((ji15) : Int) (of_decide_eq_true (by first | (with_reducible assumption) | assumption)) (by have h_ : ((ji15) : Int) < ((y295.length : Int) : Int) := of_decide_eq_true (by first | (with_reducible assumption) | assumption); first | exact h_ | (have e_ := (Kd.R_reads' HO297.out).1; omega) | simpa using h_) (seg := [.int .i64 (wrap64 (((rd_T39 y295 (ji15)).f2) + (wrap64 (a3))))]) (j := 2) hcl28 hcc28 (show 3 ≤ 3 from by decide) (x' := (⟨(rd_T39 y295 (ji15)).f0, (rd_T39 y295 (ji15)).f1, wrap64 (((rd_T39 y295 (ji15)).f2) + (wrap64 (a3)))⟩ : S39)) (k39_mkM _ _ _ (⟨(rd_T39 y295 (ji15)).f0, (rd_T39 y295 (ji15)).f1, wrap64 (((rd_T39 y295 (ji15)).f2) + (wrap64 (a3)))⟩ : S39) ) (fun _ hk => hk); have hx28_2 := hcc28 2 _ rfl; (try simp only [show (k39).sz = 3 from rfl, Nat.mul_one, Nat.add_zero] at hx28_2); have hf28_2 := hfr28 2; (try simp only [show (k39).sz = 3 from rfl, Nat.mul_one, Nat.add_zero] at hf28_2); clear hcl28 hcc28 hfr28 hM28) | ((with_reducible refine gate_store (t := 3) (p := 48) rfl ?_); refine store_event (t := 3) (p := 48) (v := ?vo_w29) (w1 := (w26.setCell ⟨go18, ((ji15) : Int).toNat * 3 + 2, none⟩ (.int .i64 (wrap64 (((rd_T39 y295 (ji15)).f2) + (wrap64 (a3))))))) ?hg ?ho ?hn ?hr ?_; (case ho => rfl); (case hg => rfl); (case hn => rfl); (case hr => first | (go_simp; done) | (go_simp; rfl)); intro w29 hw; have hg : w26.grownBy w29 (some go18) := (by rw [hw]; exact HP28.2); have hp_ : Kd.R k39 39 w29 w.heap.size (fun _ => True) (.slice (some ⟨go18, 0, none⟩) y295.length co27) y299 := (by rw [hw, Ny299.out]; exact HP28.1); clear HP28; have n0_ := Aside0.mk (hp_); have n1_ := Aside0.mk ((by rw [hw]; exact below_set (HB.out) GB18.out : Below w.heap.size w w29)); clear HO297; clear HB; have HO297 := n0_; have HB := n1_; clear n0_ n1_; clear hg hw hp_) | ((with_reducible refine gate_callee (f := 17) rfl ?_); refine goesL_ (some 51) rfl rfl Try.func17 (by kernel_rfl) rfl #[.int .i64 a0, .slice (some ⟨go18, 0, none⟩) y299.length co27] rfl (by (try simp only [List.map_toArray, List.map_cons, List.map_nil]); first | done | (rw [show y299.length = y295.length from (Kd.R_reads' HO297.out).1.symm] <;> rfl) | rfl | (simp only [List.length_drop, List.length_take]; rfl)) ?_; (with_reducible refine (formelaw19_right.calls kj6 a0 _ _ y299 true _ ?side1 ?side2 A19.out).mono ?_); (case side1 => repeat (first | exact (Kd.R_reads' HO297.out).2.2 | (with_reducible refine Kd.C_alloc ?_ _) | (with_reducible refine Kd.C_drewN ?_ _) | (with_reducible refine Kd.C_drew ?_))); (case side2 => rw [show y299.length = y295.length from (Kd.R_reads' HO297.out).1.symm]; exact (Kd.R_reads' HO297.out).2.1); rintro e w30 ⟨rfl, hb⟩; refine ⟨_, rfl, ?_⟩; have n0_ := Aside0.mk (Kd.R_below (by (with_reducible repeat (first | apply Kd.R_alloc | apply Kd.R_drewN | apply Kd.R_drew)); exact HO297.out) hb); have n1_ := Aside0.mk (below_step (by repeat (first | (with_reducible first | exact HB.out | apply below_alloc | apply pw_below_drewN | apply below_drew1) | exact HB.out)) hb); clear HO297; clear HB; have HO297 := n0_; have HB := n1_; clear n0_ n1_; (try clear hb); (try clear hb2); (try clear hk); (try clear hi)) | ((with_reducible refine gate_callee (f := 18) rfl ?_); refine goesL_ (some 57) rfl rfl Try.func18 (by kernel_rfl) rfl #[.int .i64 a0, .slice A1 l1.length c1] rfl (by (try simp only [List.map_toArray, List.map_cons, List.map_nil]); first | done | rfl | (simp only [List.length_drop, List.length_take]; rfl)) ?_; (with_reducible refine (formelaw19_placed.calls kj6 a0 _ _ l1 t301 t302 t303 _ ?side1 ?side2 A21.out).mono ?_); (case side1 => repeat (first | exact (Kd.C_below HR1.out HB.out) | (with_reducible refine Kd.C_alloc ?_ _) | (with_reducible refine Kd.C_drewN ?_ _) | (with_reducible refine Kd.C_drew ?_))); (case side2 => exact HC1.out); rintro e w31 ⟨v304, rfl, ho0, hb⟩; refine ⟨_, rfl, ?_⟩; have n0_ := Aside0.mk (Kd.R_below (by (with_reducible repeat (first | apply Kd.R_alloc | apply Kd.R_drewN | apply Kd.R_drew)); exact HO297.out) hb); have n1_ := Aside0.mk (Kd.R_lower ho0 (below_size (by repeat (first | (with_reducible first | exact HB.out | apply below_alloc | apply pw_below_drewN | apply below_drew1) | exact HB.out)))); have n2_ := Aside0.mk (below_step (by repeat (first | (with_reducible first | exact HB.out | apply below_alloc | apply pw_below_drewN | apply below_drew1) | exact HB.out)) hb); clear HO297; clear HB; have HO297 := n0_; have HO305 := n1_; have HB := n2_; clear n0_ n1_ n2_; (try clear hb); (try clear hb2); (try clear hk); (try clear hi); (try clear ho0)) | ((with_reducible refine gate_callee (f := 18) rfl ?_); refine goesL_ (some 64) rfl rfl Try.func18 (by kernel_rfl) rfl #[.int .i64 a0, .slice (some ⟨go18, 0, none⟩) y299.length co27] rfl (by (try simp only [List.map_toArray, List.map_cons, List.map_nil]); first | done | (rw [show y299.length = y295.length from (Kd.R_reads' HO297.out).1.symm] <;> rfl) | rfl | (simp only [List.length_drop, List.length_take]; rfl)) ?_; (with_reducible refine (formelaw19_placed.calls kj6 a0 _ _ y299 t306 t307 t308 _ ?side1 ?side2 A22.out).mono ?_); (case side1 => repeat (first | exact (Kd.R_reads' HO297.out).2.2 | (with_reducible refine Kd.C_alloc ?_ _) | (with_reducible refine Kd.C_drewN ?_ _) | (with_reducible refine Kd.C_drew ?_))); (case side2 => rw [show y299.length = y295.length from (Kd.R_reads' HO297.out).1.symm]; exact (Kd.R_reads' HO297.out).2.1); rintro e w32 ⟨v309, rfl, ho0, hb⟩; refine ⟨_, rfl, ?_⟩; have n0_ := Aside0.mk (Kd.R_below (by (with_reducible repeat (first | apply Kd.R_alloc | apply Kd.R_drewN | apply Kd.R_drew)); exact HO297.out) hb); have n1_ := Aside0.mk (Kd.R_elder' (by (with_reducible repeat (first | apply Kd.R_alloc | apply Kd.R_drewN | apply Kd.R_drew)); exact HO305.out) (Kd.R_base ho0) hb); have n2_ := Aside0.mk (Kd.R_lower (Kd.R_new' ho0 (Kd.R_lt (by (with_reducible repeat (first | apply Kd.R_alloc | apply Kd.R_drewN | apply Kd.R_drew)); exact HO305.out))) (below_size (by repeat (first | (with_reducible first | exact HB.out | apply below_alloc | apply pw_below_drewN | apply below_drew1) | exact HB.out)))); have n3_ := Aside0.mk (below_step (by repeat (first | (with_reducible first | exact HB.out | apply below_alloc | apply pw_below_drewN | apply below_drew1) | exact HB.out)) hb); clear HO297; clear HO305; clear HB; have HO297 := n0_; have HO305 := n1_; have HO310 := n2_; have HB := n3_; clear n0_ n1_ n2_ n3_; (try clear hb); (try clear hb2); (try clear hk); (try clear hi); (try clear ho0)))
                    (try simp only [Act.put, List.setIfInBounds_toArray, List.set_cons_zero, List.set_cons_succ])
                    go_cut [73] (fun v73 wc => ∃ (kq : Nat) (x73_22 : Bool), v73 = .bool x73_22 ∧ Aside0 (formelaw19_StackGrows.j1 kq a3 true ji15 t301 t302 t306 t307 x73_22 = some r) ∧ Aside0 (kq ≤ kj6) ∧ Aside0 (Kd.R (Kd.int .i64) 3 wc w.heap.size (fun k_ => some k_ ≠ (v309 : Value).ownBlock) v304 t301) ∧ Aside0 (Kd.R (Kd.int .i64) 3 wc w.heap.size (fun k_ => some k_ ≠ (v304 : Value).ownBlock) v309 t306) ∧ Aside0 (Below w.heap.size w wc))
                    case first =>
                      have H := HC23.out
                      clear HC23
                      by_cases c33 : t303 = true
                      · subst c33
                        have H1 : (formelaw19_StackGrows.j1 kj6 a3 true ji15 t301 t302 t306 t307 (!t308)) = some r := by rw [if_pos rfl] at H; exact H
                        clear H
                        have H := H1
                        clear H1
                        have H' := Aside0.mk H
                        clear H
                        go_wp2
                        go_meet
                        case rel => exact ⟨_, (!t308), (by first | rfl | (simp; done) | (simp [*]; done)), H', ⟨by have := HJ6.out; first | omega | exact Nat.le_refl _⟩, ⟨by (with_reducible repeat (first | apply Kd.R_alloc | apply Kd.R_drewN | apply Kd.R_drew)); exact Kd.R_mono HO305.out (fun _ hk => hk.2)⟩, ⟨by (with_reducible repeat (first | apply Kd.R_alloc | apply Kd.R_drewN | apply Kd.R_drew)); exact Kd.R_mono HO310.out (fun _ hk => hk.2)⟩, ⟨by repeat (first | (with_reducible first | exact HB.out | apply below_alloc | apply pw_below_drewN | apply below_drew1) | exact HB.out)⟩⟩
                      · replace c33 := Bool.eq_false_iff.mpr c33
                        subst c33
                        have H1 : (formelaw19_StackGrows.j1 kj6 a3 true ji15 t301 t302 t306 t307 true) = some r := by rw [if_neg (show ¬ (false = true) by decide)] at H; exact H
                        clear H
                        have H := H1
                        clear H1
                        have H' := Aside0.mk H
                        clear H
                        go_wp2
                        go_meet
                        case rel => exact ⟨_, (true), (by first | rfl | (simp; done) | (simp [*]; done)), H', ⟨by have := HJ6.out; first | omega | exact Nat.le_refl _⟩, ⟨by (with_reducible repeat (first | apply Kd.R_alloc | apply Kd.R_drewN | apply Kd.R_drew)); exact Kd.R_mono HO305.out (fun _ hk => hk.2)⟩, ⟨by (with_reducible repeat (first | apply Kd.R_alloc | apply Kd.R_drewN | apply Kd.R_drew)); exact Kd.R_mono HO310.out (fun _ hk => hk.2)⟩, ⟨by repeat (first | (with_reducible first | exact HB.out | apply below_alloc | apply pw_below_drewN | apply below_drew1) | exact HB.out)⟩⟩
                    case rest =>
                      clear HC23
                      try clear c1
                      try clear p1
                      try clear q1
                      try clear hx1
                      try clear c2
                      try clear p2
                      try clear q2
                      try clear hx2
                      try clear c3
                      try clear c6
                      try clear p6
                      try clear c7
                      try clear c9
                      try clear c9b0
                      try clear c9b1
                      try clear c9b2
                      try clear c12
                      try clear c13
                      try clear c13b0
                      try clear c13b1
                      try clear c13b2
                      try clear c14
                      try clear c16
                      try clear c16b0
                      try clear c17
                      try clear c17b0
                      try clear c18
                      try clear p18
                      try clear q18
                      try clear hx18
                      try clear hf18
                      try clear c20
                      try clear c28
                      try clear hx28
                      try clear hf28
                      try clear p29
                      try clear q29
                      try clear hx29
                      try clear c33
                      try clear hx18_0
                      try clear hx18_1
                      try clear hx18_2
                      try clear hx28_2
                      try clear hx298_0
                      try clear hx298_1
                      try clear hx298_2
                      try clear p18
                      try clear p2
                      try clear p298
                      try clear q18
                      try clear q298
                      obtain ⟨kq, x73_22, rfl, HA, HJ22, HO_12, HO_15, HB⟩ := hcut
                      cases kq with
                      | zero => exact absurd HA.out (by simp [formelaw19_StackGrows.j1])
                      | succ kj22 =>
                        have H := HA.out
                        clear HA
                        simp only [formelaw19_StackGrows.j1] at H
                        by_cases c34 : x73_22 = true
                        · subst c34
                          have H1 : (some false) = some r := by rw [if_pos rfl] at H; exact H
                          clear H
                          have H := H1
                          clear H1
                          obtain rfl := Option.some.inj H
                          go_wp2
                          go_ret
                          exact ⟨by first | rfl | (simp [errW_none, errW_some] <;> rfl) | (simp only [← hji15]; first | rfl | (simp [errW_none, errW_some] <;> rfl)) | (simp [*, errW_none, errW_some] <;> rfl), by repeat (first | (with_reducible first | exact HB.out | apply below_alloc | apply pw_below_drewN | apply below_drew1) | exact HB.out)⟩
                        · replace c34 := Bool.eq_false_iff.mpr c34
                          subst c34
                          have H1 : (formelaw19_StackGrows.l0 kj22 a3 true ji15 t301 t302 t306 t307 (t301.length : Int) 0) = some r := by rw [if_neg (show ¬ (false = true) by decide)] at H; exact H
                          clear H
                          have H := H1
                          clear H1
                          have H' := Aside0.mk H
                          clear H
                          obtain ⟨Ao35, co35, eo35⟩ := Kd.R_slice HO_12.out
                          subst eo35
                          go_wp2
                          go_loopg [9, 76] kj22 (fun kq v9 v76 w' => ∃ (x9_3 : Bool) (x76_3 : Int), v9 = .bool x9_3 ∧ v76 = .int .i64 x76_3 ∧ Aside0 (formelaw19_StackGrows.l0 kq a3 x9_3 ji15 t301 t302 t306 t307 (t301.length : Int) x76_3 = some r) ∧ Aside0 (kq ≤ kj22) ∧ Aside0 (Kd.R (Kd.int .i64) 3 w' w.heap.size (fun k_ => some k_ ≠ (v309 : Value).ownBlock) (.slice Ao35 t301.length co35) t301) ∧ Aside0 (Kd.R (Kd.int .i64) 3 w' w.heap.size (fun k_ => some k_ ≠ ((.slice Ao35 t301.length co35) : Value).ownBlock) v309 t306) ∧ Aside0 (Below w.heap.size w w'))
                          case atStart => exact ⟨(true), (0), (by first | rfl | (simp; done) | (simp [*]; done)), (by first | rfl | (simp; done) | (simp [*]; done)), H', ⟨Nat.le_refl _⟩, ⟨by (with_reducible repeat (first | apply Kd.R_alloc | apply Kd.R_drewN | apply Kd.R_drew)); exact HO_12.out⟩, ⟨by (with_reducible repeat (first | apply Kd.R_alloc | apply Kd.R_drewN | apply Kd.R_drew)); exact HO_15.out⟩, ⟨by repeat (first | (with_reducible first | exact HB.out | apply below_alloc | apply pw_below_drewN | apply below_drew1) | exact HB.out)⟩⟩
                          case round =>
                            clear H'
                            try clear c1
                            try clear p1
                            try clear q1
                            try clear hx1
                            try clear c2
                            try clear p2
                            try clear q2
                            try clear hx2
                            try clear c3
                            try clear c6
                            try clear p6
                            try clear c7
                            try clear c9
                            try clear c9b0
                            try clear c9b1
                            try clear c9b2
                            try clear c12
                            try clear c13
                            try clear c13b0
                            try clear c13b1
                            try clear c13b2
                            try clear c14
                            try clear c16
                            try clear c16b0
                            try clear c17
                            try clear c17b0
                            try clear c18
                            try clear p18
                            try clear q18
                            try clear hx18
                            try clear hf18
                            try clear c20
                            try clear c28
                            try clear hx28
                            try clear hf28
                            try clear p29
                            try clear q29
                            try clear hx29
                            try clear c33
                            try clear c34
                            try clear hx18_0
                            try clear hx18_1
                            try clear hx18_2
                            try clear hx28_2
                            try clear hx298_0
                            try clear hx298_1
                            try clear hx298_2
                            try clear p1
                            try clear p18
                            try clear p2
                            try clear p29
                            try clear p298
                            try clear p6
                            try clear q1
                            try clear q18
                            try clear q2
                            try clear q29
                            try clear q298
                            obtain ⟨x9_3, x76_3, rfl, rfl, HA, HK3, HO_12, HO_15, HB⟩ := hrel
                            cases gk with
                            | zero => exact absurd HA.out (by simp [formelaw19_StackGrows.l0])
                            | succ k3 =>
                              have H := HA.out
                              clear HA
                              simp only [formelaw19_StackGrows.l0] at H
                              by_cases c36 : x76_3 < (t301.length : Int)
                              · rw [if_pos c36] at H
                                have c36b0 : decide (x76_3 < (t301.length : Int)) = true := decide_eq_true c36
                                clear c36
                                by_cases c37 : 0 ≤ x76_3
                                · rw [if_pos c37] at H
                                  have c37b0 : decide (0 ≤ x76_3) = true := decide_eq_true c37
                                  clear c37
                                  by_cases c38 : x76_3 < (t301.length : Int)
                                  · rw [if_pos c38] at H
                                    have c38b0 : decide (x76_3 < (t301.length : Int)) = true := decide_eq_true c38
                                    clear c38
                                    by_cases c39 : x76_3 > ji15
                                    · rw [if_pos c39] at H
                                      have c39b0 : decide (ji15 < x76_3) = true := decide_eq_true c39
                                      clear c39
                                      by_cases c40 : x9_3 = true
                                      · subst c40
                                        have H1 : (if x76_3 < (t306.length : Int) then (formelaw19_StackGrows.l0 k3 a3 ((rd t306 x76_3) == (wrap64 ((rd t301 x76_3) + (wrap64 (a3))))) ji15 t301 t302 t306 t307 (t301.length : Int) (wrap64 (x76_3 + 1))) else (none)) = some r := by rw [if_pos rfl] at H; exact H
                                        clear H
                                        have H := H1
                                        clear H1
                                        by_cases c41 : x76_3 < (t306.length : Int)
                                        · rw [if_pos c41] at H
                                          have c41b0 : decide (x76_3 < (t306.length : Int)) = true := decide_eq_true c41
                                          clear c41
                                          have H' := Aside0.mk H
                                          clear H
                                          have p311 : 0 ≤ (x76_3 : Int) := of_decide_eq_true (by first | (with_reducible assumption) | assumption)
                                          have q311 : x76_3 < (t301.length : Int) := of_decide_eq_true (by first | (with_reducible assumption) | assumption)
                                          obtain ⟨ad311, e311, hx311_0⟩ := Kd.at_int (Kd.R_reads' HO_12.out).2.2 x76_3 p311 q311
                                          cases e311
                                          replace p311 := eq_true p311
                                          replace q311 := eq_true q311
                                          obtain ⟨Ao42, co42, eo42⟩ := Kd.R_slice HO_15.out
                                          subst eo42
                                          have p312 : 0 ≤ (x76_3 : Int) := of_decide_eq_true (by first | (with_reducible assumption) | assumption)
                                          have q312 : x76_3 < (t306.length : Int) := of_decide_eq_true (by first | (with_reducible assumption) | assumption)
                                          obtain ⟨ad312, e312, hx312_0⟩ := Kd.at_int (Kd.R_reads' HO_15.out).2.2 x76_3 p312 q312
                                          cases e312
                                          replace p312 := eq_true p312
                                          replace q312 := eq_true q312
                                          go_wp2
                                          go_roundg k3
                                          case measure => have := HJ6.out; have := HJ22.out; have := HK3.out; omega
                                          case rel => exact ⟨(((rd t306 x76_3) == (wrap64 ((rd t301 x76_3) + (wrap64 (a3)))))), (wrap64 (x76_3 + 1)), (by first | rfl | (simp; done) | (simp [*]; done)), (by first | rfl | (simp; done) | (simp [*]; done)), H', ⟨by have := HJ6.out; have := HJ22.out; have := HK3.out; omega⟩, ⟨by (with_reducible repeat (first | apply Kd.R_alloc | apply Kd.R_drewN | apply Kd.R_drew)); exact HO_12.out⟩, ⟨by (with_reducible repeat (first | apply Kd.R_alloc | apply Kd.R_drewN | apply Kd.R_drew)); exact HO_15.out⟩, ⟨by repeat (first | (with_reducible first | exact HB.out | apply below_alloc | apply pw_below_drewN | apply below_drew1) | exact HB.out)⟩⟩
                                        · rw [if_neg c41] at H
                                          exact absurd H (by simp)
                                      · replace c40 := Bool.eq_false_iff.mpr c40
                                        subst c40
                                        have H1 : (formelaw19_StackGrows.l0 k3 a3 false ji15 t301 t302 t306 t307 (t301.length : Int) (wrap64 (x76_3 + 1))) = some r := by rw [if_neg (show ¬ (false = true) by decide)] at H; exact H
                                        clear H
                                        have H := H1
                                        clear H1
                                        have H' := Aside0.mk H
                                        clear H
                                        have p311 : 0 ≤ (x76_3 : Int) := of_decide_eq_true (by first | (with_reducible assumption) | assumption)
                                        have q311 : x76_3 < (t301.length : Int) := of_decide_eq_true (by first | (with_reducible assumption) | assumption)
                                        obtain ⟨ad311, e311, hx311_0⟩ := Kd.at_int (Kd.R_reads' HO_12.out).2.2 x76_3 p311 q311
                                        cases e311
                                        replace p311 := eq_true p311
                                        replace q311 := eq_true q311
                                        go_wp2
                                        go_roundg k3
                                        case measure => have := HJ6.out; have := HJ22.out; have := HK3.out; omega
                                        case rel => exact ⟨(false), (wrap64 (x76_3 + 1)), (by first | rfl | (simp; done) | (simp [*]; done)), (by first | rfl | (simp; done) | (simp [*]; done)), H', ⟨by have := HJ6.out; have := HJ22.out; have := HK3.out; omega⟩, ⟨by (with_reducible repeat (first | apply Kd.R_alloc | apply Kd.R_drewN | apply Kd.R_drew)); exact HO_12.out⟩, ⟨by (with_reducible repeat (first | apply Kd.R_alloc | apply Kd.R_drewN | apply Kd.R_drew)); exact HO_15.out⟩, ⟨by repeat (first | (with_reducible first | exact HB.out | apply below_alloc | apply pw_below_drewN | apply below_drew1) | exact HB.out)⟩⟩
                                    · rw [if_neg c39] at H
                                      have c39b0 : decide (ji15 < x76_3) = false := decide_eq_false c39
                                      clear c39
                                      by_cases c43 : x9_3 = true
                                      · subst c43
                                        have H1 : (if x76_3 < (t306.length : Int) then (formelaw19_StackGrows.l0 k3 a3 ((rd t306 x76_3) == (rd t301 x76_3)) ji15 t301 t302 t306 t307 (t301.length : Int) (wrap64 (x76_3 + 1))) else (none)) = some r := by rw [if_pos rfl] at H; exact H
                                        clear H
                                        have H := H1
                                        clear H1
                                        by_cases c44 : x76_3 < (t306.length : Int)
                                        · rw [if_pos c44] at H
                                          have c44b0 : decide (x76_3 < (t306.length : Int)) = true := decide_eq_true c44
                                          clear c44
                                          have H' := Aside0.mk H
                                          clear H
                                          have p311 : 0 ≤ (x76_3 : Int) := of_decide_eq_true (by first | (with_reducible assumption) | assumption)
                                          have q311 : x76_3 < (t301.length : Int) := of_decide_eq_true (by first | (with_reducible assumption) | assumption)
                                          obtain ⟨ad311, e311, hx311_0⟩ := Kd.at_int (Kd.R_reads' HO_12.out).2.2 x76_3 p311 q311
                                          cases e311
                                          replace p311 := eq_true p311
                                          replace q311 := eq_true q311
                                          obtain ⟨Ao45, co45, eo45⟩ := Kd.R_slice HO_15.out
                                          subst eo45
                                          have p313 : 0 ≤ (x76_3 : Int) := of_decide_eq_true (by first | (with_reducible assumption) | assumption)
                                          have q313 : x76_3 < (t306.length : Int) := of_decide_eq_true (by first | (with_reducible assumption) | assumption)
                                          obtain ⟨ad313, e313, hx313_0⟩ := Kd.at_int (Kd.R_reads' HO_15.out).2.2 x76_3 p313 q313
                                          cases e313
                                          replace p313 := eq_true p313
                                          replace q313 := eq_true q313
                                          go_wp2
                                          go_roundg k3
                                          case measure => have := HJ6.out; have := HJ22.out; have := HK3.out; omega
                                          case rel => exact ⟨(((rd t306 x76_3) == (rd t301 x76_3))), (wrap64 (x76_3 + 1)), (by first | rfl | (simp; done) | (simp [*]; done)), (by first | rfl | (simp; done) | (simp [*]; done)), H', ⟨by have := HJ6.out; have := HJ22.out; have := HK3.out; omega⟩, ⟨by (with_reducible repeat (first | apply Kd.R_alloc | apply Kd.R_drewN | apply Kd.R_drew)); exact HO_12.out⟩, ⟨by (with_reducible repeat (first | apply Kd.R_alloc | apply Kd.R_drewN | apply Kd.R_drew)); exact HO_15.out⟩, ⟨by repeat (first | (with_reducible first | exact HB.out | apply below_alloc | apply pw_below_drewN | apply below_drew1) | exact HB.out)⟩⟩
                                        · rw [if_neg c44] at H
                                          exact absurd H (by simp)
                                      · replace c43 := Bool.eq_false_iff.mpr c43
                                        subst c43
                                        have H1 : (formelaw19_StackGrows.l0 k3 a3 false ji15 t301 t302 t306 t307 (t301.length : Int) (wrap64 (x76_3 + 1))) = some r := by rw [if_neg (show ¬ (false = true) by decide)] at H; exact H
                                        clear H
                                        have H := H1
                                        clear H1
                                        have H' := Aside0.mk H
                                        clear H
                                        have p311 : 0 ≤ (x76_3 : Int) := of_decide_eq_true (by first | (with_reducible assumption) | assumption)
                                        have q311 : x76_3 < (t301.length : Int) := of_decide_eq_true (by first | (with_reducible assumption) | assumption)
                                        obtain ⟨ad311, e311, hx311_0⟩ := Kd.at_int (Kd.R_reads' HO_12.out).2.2 x76_3 p311 q311
                                        cases e311
                                        replace p311 := eq_true p311
                                        replace q311 := eq_true q311
                                        go_wp2
                                        go_roundg k3
                                        case measure => have := HJ6.out; have := HJ22.out; have := HK3.out; omega
                                        case rel => exact ⟨(false), (wrap64 (x76_3 + 1)), (by first | rfl | (simp; done) | (simp [*]; done)), (by first | rfl | (simp; done) | (simp [*]; done)), H', ⟨by have := HJ6.out; have := HJ22.out; have := HK3.out; omega⟩, ⟨by (with_reducible repeat (first | apply Kd.R_alloc | apply Kd.R_drewN | apply Kd.R_drew)); exact HO_12.out⟩, ⟨by (with_reducible repeat (first | apply Kd.R_alloc | apply Kd.R_drewN | apply Kd.R_drew)); exact HO_15.out⟩, ⟨by repeat (first | (with_reducible first | exact HB.out | apply below_alloc | apply pw_below_drewN | apply below_drew1) | exact HB.out)⟩⟩
                                  · rw [if_neg c38] at H
                                    exact absurd H (by simp)
                                · rw [if_neg c37] at H
                                  exact absurd H (by simp)
                              · rw [if_neg c36] at H
                                have c36b0 : decide (x76_3 < (t301.length : Int)) = false := decide_eq_false c36
                                clear c36
                                by_cases c46 : x9_3 = true
                                · subst c46
                                  have H1 : (some (t307 == (wrap64 (t302 + (wrap64 (a3)))))) = some r := by rw [if_pos rfl] at H; exact H
                                  clear H
                                  have H := H1
                                  clear H1
                                  obtain rfl := Option.some.inj H
                                  go_wp2
                                  go_ret
                                  exact ⟨by first | rfl | (simp [errW_none, errW_some] <;> rfl) | (simp only [← hji15]; first | rfl | (simp [errW_none, errW_some] <;> rfl)) | (simp [*, errW_none, errW_some] <;> rfl), by repeat (first | (with_reducible first | exact HB.out | apply below_alloc | apply pw_below_drewN | apply below_drew1) | exact HB.out)⟩
                                · replace c46 := Bool.eq_false_iff.mpr c46
                                  subst c46
                                  have H1 : (some false) = some r := by rw [if_neg (show ¬ (false = true) by decide)] at H; exact H
                                  clear H
                                  have H := H1
                                  clear H1
                                  obtain rfl := Option.some.inj H
                                  go_wp2
                                  go_ret
                                  exact ⟨by first | rfl | (simp [errW_none, errW_some] <;> rfl) | (simp only [← hji15]; first | rfl | (simp [errW_none, errW_some] <;> rfl)) | (simp [*, errW_none, errW_some] <;> rfl), by repeat (first | (with_reducible first | exact HB.out | apply below_alloc | apply pw_below_drewN | apply below_drew1) | exact HB.out)⟩
                  · replace c20 := Bool.eq_false_iff.mpr c20
                    subst c20
                    have H1 : (some true) = some r := by rw [if_neg (show ¬ (false = true) by decide)] at H; exact H
                    clear H
                    have H := H1
                    clear H1
                    obtain rfl := Option.some.inj H
                    go_wp2_with (first | ((with_reducible refine gate_dst (N := 36) rfl ?_); refine Kd.R_lit k39 _ 39 ?hg (N := 36) ?hd (xs := ([] : List (S39))) (inner := []) (ok := fun _ => True) (okp := fun _ => True) ?hr ?hp (fun _ hk => hk) trivial (Below.refl _ _) (Nat.le_refl _) (by simp) ?_; (case hd => rfl); (case hg => rfl); (case hr => first | (go_simp; done) | (go_simp; rfl)); (case hp => exact (Reps.none _ _)); intro v293 w47 ho48 hb hg_ hnew_; clear hg_ hnew_; (first | rw [← Ny292.out] at ho48 | (simp only [Int.reduceToNat] at ho48; rw [← Ny292.out] at ho48)); have n0_ := Aside0.mk (Kd.R_lower ho48 (below_size (by repeat (first | (with_reducible first | exact HB.out | apply below_alloc | apply pw_below_drewN | apply below_drew1) | exact HB.out)))); have n1_ := Aside0.mk (below_step (by repeat (first | (with_reducible first | exact HB.out | apply below_alloc | apply pw_below_drewN | apply below_drew1) | exact HB.out)) hb); clear HB; have HO294 := n0_; have HB := n1_; clear n0_ n1_; clear hb ho48) | ((with_reducible refine gate_builtin (b := .append) (xs := #[.tmp 36, .tmp 37]) rfl ?_); at_builtin; refine Kd.R_append_rows k39 (w0 := w) w.heap.size rfl (.tmp 36) (.tmp 37) 22 39 (.agg #[(.int .i64 0), (.int .i64 0), (.int .i64 0)]) 24 rfl Try.underlying22 info39 rfl (by decide) (by omega) v293 y292 l1 _ _ _ (fun _ => True) (fun _ => False) rfl rfl ?aO ?aR (fun _ _ h => h) (fun _ h => h.elim) ?aF ?aB ?aS ?aL ?_; (case aR => repeat (first | exact (Kd.C_below HR1.out HB.out) | (with_reducible refine Kd.C_alloc ?_ _) | (with_reducible refine Kd.C_drewN ?_ _) | (with_reducible refine Kd.C_drew ?_))); (case aB => exact (by repeat (first | (with_reducible first | exact HB.out | apply below_alloc | apply pw_below_drewN | apply below_drew1) | exact HB.out))); (case aF => exact (fun _ _ => trivial)); (case aO => exact (by (with_reducible repeat (first | apply Kd.R_alloc | apply Kd.R_drewN | apply Kd.R_drew)); exact HO294.out)); (case aS => exact (below_size (by repeat (first | (with_reducible first | exact HB.out | apply below_alloc | apply pw_below_drewN | apply below_drew1) | exact HB.out)))); (case aL => have := LMc14.out; omega); intro v296 w49 ho hb hg hat; rw [← Ny295.out] at ho; have n0_ := Aside0.mk (hb); have n1_ := Aside0.mk (ho); clear HB; clear HO294; have HB := n0_; have HO297 := n1_; clear n0_ n1_; clear ho hb hg hat; obtain ⟨Ao50, co50, eo50⟩ := Kd.R_slice HO297.out; subst eo50; have p298 : 0 ≤ ((ji15) : Int) := of_decide_eq_true (by first | (with_reducible assumption) | assumption); have q298 : (ji15) < (y295.length : Int) := of_decide_eq_true (by first | (with_reducible assumption) | assumption); obtain ⟨ad298, e298, hx298_0, hx298_1, hx298_2⟩ := at_T39 (Kd.R_reads' HO297.out).2.2 (ji15) p298 q298; cases e298; replace p298 := eq_true p298; replace q298 := eq_true q298; have p18 : 0 ≤ ((ji15) : Int) := of_decide_eq_true (by first | (with_reducible assumption) | assumption); have q18 : ((ji15) : Int) < ((y295.length : Int) : Int) := of_decide_eq_true (by first | (with_reducible assumption) | assumption); obtain ⟨go18, co18, eo18, gb18, gl18, cl18, HG18⟩ := Kd.R_form HO297.out (by omega); (first | cases eo18 | (injection eo18 with ea_ en_ ec_; (first | subst ea_ | (injection ea_ with ea_; subst ea_)); subst ec_; clear en_)); have GB18 := Aside0.mk gb18; have GG18 := Aside0.mk HG18; clear gb18 gl18 HG18; (first | simp only [add_plain] at hx298_0 | skip); (first | simp only [add_plain] at hx298_1 | skip); (first | simp only [add_plain] at hx298_2 | skip); obtain ⟨ce18, hcl18, hM18, hcc18, hfr18⟩ := Kd.R_elem HO297.out z39 ((ji15) : Int) p18 q18; obtain rfl := k39_openM hM18; have hx18_0 : w49.cell? ⟨go18, ((ji15) : Int).toNat * 3, none⟩ = some (.int .i64 ((rd_T39 y295 (ji15)).f0)) := hcc18 0 _ rfl; have hx18_1 : w49.cell? ⟨go18, ((ji15) : Int).toNat * 3 + 1, none⟩ = some (.int .i64 ((rd_T39 y295 (ji15)).f1)) := hcc18 1 _ rfl; have hx18_2 : w49.cell? ⟨go18, ((ji15) : Int).toNat * 3 + 2, none⟩ = some (.int .i64 ((rd_T39 y295 (ji15)).f2)) := hcc18 2 _ rfl; have hf18_0 : w49.frozen? ⟨go18, ((ji15) : Int).toNat * 3, none⟩ = false := hfr18 0; have hf18_1 : w49.frozen? ⟨go18, ((ji15) : Int).toNat * 3 + 1, none⟩ = false := hfr18 1; have hf18_2 : w49.frozen? ⟨go18, ((ji15) : Int).toNat * 3 + 2, none⟩ = false := hfr18 2; clear hcl18 hcc18 hfr18 hM18; replace p18 := eq_true p18; replace q18 := eq_true q18; have HX51 := Aside0.mk (show Kd.R k39 39 w49 w.heap.size (fun _ => True) (.slice (some ⟨go18, 0, none⟩) y295.length co50) y295 from (by (with_reducible repeat (first | apply Kd.R_alloc | apply Kd.R_drewN | apply Kd.R_drew)); exact HO297.out)); obtain ⟨ce51, hcl51, hM51, hcc51, hfr51⟩ := Kd.R_elem HX51.out z39 ((ji15) : Int) (of_decide_eq_true (by first | (with_reducible assumption) | assumption)) (by have h_ : ((ji15) : Int) < ((y295.length : Int) : Int) := of_decide_eq_true (by first | (with_reducible assumption) | assumption); first | exact h_ | (have e_ := (Kd.R_reads' HO297.out).1; omega) | simpa using h_); obtain rfl := k39_openM hM51; have HP51 := Kd.R_seg HX51.out ((ji15) : Int) (of_decide_eq_true (by first | (with_reducible assumption) | assumption)) (by have h_ : ((ji15) : Int) < ((y295.length : Int) : Int) := of_decide_eq_true (by first | (with_reducible assumption) | assumption); first | exact h_ | (have e_ := (Kd.R_reads' HO297.out).1; omega) | simpa using h_) (seg := [.int .i64 (wrap64 (((rd_T39 y295 (ji15)).f2) + (wrap64 (a3))))]) (j := 2) hcl51 hcc51 (show 3 ≤ 3 from by decide) (x' := (⟨(rd_T39 y295 (ji15)).f0, (rd_T39 y295 (ji15)).f1, wrap64 (((rd_T39 y295 (ji15)).f2) + (wrap64 (a3)))⟩ : S39)) (k39_mkM _ _ _ (⟨(rd_T39 y295 (ji15)).f0, (rd_T39 y295 (ji15)).f1, wrap64 (((rd_T39 y295 (ji15)).f2) + (wrap64 (a3)))⟩ : S39) ) (fun _ hk => hk); have hx51_2 := hcc51 2 _ rfl; (try simp only [show (k39).sz = 3 from rfl, Nat.mul_one, Nat.add_zero] at hx51_2); have hf51_2 := hfr51 2; (try simp only [show (k39).sz = 3 from rfl, Nat.mul_one, Nat.add_zero] at hf51_2); clear hcl51 hcc51 hfr51 hM51) | ((with_reducible refine gate_store (t := 3) (p := 48) rfl ?_); refine store_event (t := 3) (p := 48) (v := ?vo_w52) (w1 := (w49.setCell ⟨go18, ((ji15) : Int).toNat * 3 + 2, none⟩ (.int .i64 (wrap64 (((rd_T39 y295 (ji15)).f2) + (wrap64 (a3))))))) ?hg ?ho ?hn ?hr ?_; (case ho => rfl); (case hg => rfl); (case hn => rfl); (case hr => first | (go_simp; done) | (go_simp; rfl)); intro w52 hw; have hg : w49.grownBy w52 (some go18) := (by rw [hw]; exact HP51.2); have hp_ : Kd.R k39 39 w52 w.heap.size (fun _ => True) (.slice (some ⟨go18, 0, none⟩) y295.length co50) y299 := (by rw [hw, Ny299.out]; exact HP51.1); clear HP51; have n0_ := Aside0.mk (hp_); have n1_ := Aside0.mk ((by rw [hw]; exact below_set (HB.out) GB18.out : Below w.heap.size w w52)); clear HO297; clear HB; have HO297 := n0_; have HB := n1_; clear n0_ n1_; clear hg hw hp_) | ((with_reducible refine gate_callee (f := 17) rfl ?_); refine goesL_ (some 51) rfl rfl Try.func17 (by kernel_rfl) rfl #[.int .i64 a0, .slice (some ⟨go18, 0, none⟩) y299.length co50] rfl (by (try simp only [List.map_toArray, List.map_cons, List.map_nil]); first | done | (rw [show y299.length = y295.length from (Kd.R_reads' HO297.out).1.symm] <;> rfl) | rfl | (simp only [List.length_drop, List.length_take]; rfl)) ?_; (with_reducible refine (formelaw19_right.calls kj6 a0 _ _ y299 false _ ?side1 ?side2 A19.out).mono ?_); (case side1 => repeat (first | exact (Kd.R_reads' HO297.out).2.2 | (with_reducible refine Kd.C_alloc ?_ _) | (with_reducible refine Kd.C_drewN ?_ _) | (with_reducible refine Kd.C_drew ?_))); (case side2 => rw [show y299.length = y295.length from (Kd.R_reads' HO297.out).1.symm]; exact (Kd.R_reads' HO297.out).2.1); rintro e w53 ⟨rfl, hb⟩; refine ⟨_, rfl, ?_⟩; have n0_ := Aside0.mk (Kd.R_below (by (with_reducible repeat (first | apply Kd.R_alloc | apply Kd.R_drewN | apply Kd.R_drew)); exact HO297.out) hb); have n1_ := Aside0.mk (below_step (by repeat (first | (with_reducible first | exact HB.out | apply below_alloc | apply pw_below_drewN | apply below_drew1) | exact HB.out)) hb); clear HO297; clear HB; have HO297 := n0_; have HB := n1_; clear n0_ n1_; (try clear hb); (try clear hb2); (try clear hk); (try clear hi)))
                    go_ret
                    exact ⟨by first | rfl | (simp [errW_none, errW_some] <;> rfl) | (simp only [← hji15]; first | rfl | (simp [errW_none, errW_some] <;> rfl)) | (simp [*, errW_none, errW_some] <;> rfl), by repeat (first | (with_reducible first | exact HB.out | apply below_alloc | apply pw_below_drewN | apply below_drew1) | exact HB.out)⟩
                · rw [if_neg c17] at H
                  exact absurd H (by simp)
              · rw [if_neg c16] at H
                exact absurd H (by simp)
            · rw [if_neg c14] at H
              exact absurd H (by simp)
  · replace c6 := Bool.eq_false_iff.mpr c6
    subst c6
    have H1 : (none) = some r := by rw [if_neg (show ¬ (false = true) by decide)] at H; exact H
    clear H
    have H := H1
    clear H1
    exact absurd H (by simp)

/-- THE ONE PURE STATEMENT of formelaw19_StackGrows: yours. -/
def formelaw19_StackGrows.Pure : Prop := ∀ (a0 : Int) (l1 : List (S39)) (a2 : Int) (a3 : Int), (Lit.int .i64 a0).wf = true → l1.length ≤ maxLen → l1.length * 24 ≤ 140737488351232 → (∀ x ∈ l1, (Lit.int .i64 x.f0).wf = true ∧ (Lit.int .i64 x.f1).wf = true ∧ (Lit.int .i64 x.f2).wf = true) → (Lit.int .u8 a2).wf = true → (Lit.int .u16 a3).wf = true → ∃ k, formelaw19_StackGrows.f k a0 l1 a2 a3 = some true
theorem formelaw19_StackGrows.walk (P : formelaw19_StackGrows.Pure) (a0 : Int) (a1 : Option Addr) (len1 cap1 : Nat) (z1 : List (S39)) (a2 : Int) (a3 : Int) (w : World) (w0 : (Lit.int .i64 a0).wf = true) (w1 : Kd.C k39 w a1 len1 z1 ∧ len1 ≤ cap1 ∧ len1 ≤ maxLen ∧ ∀ x ∈ z1, (Lit.int .i64 x.f0).wf = true ∧ (Lit.int .i64 x.f1).wf = true ∧ (Lit.int .i64 x.f2).wf = true) (y1 : len1 * 24 ≤ 140737488351232) (w2 : (Lit.int .u8 a2).wf = true) (w3 : (Lit.int .u16 a3).wf = true) :
    Calls Try.prog 7 #[.int .i64 a0, .slice a1 len1 cap1, .int .u8 a2, .int .u16 a3] w fun e w' => e = .returned (.bool true) ∧ Below w.heap.size w w' := by
  obtain ⟨hr1, hc1, hm1, hw1⟩ := w1
  obtain rfl : len1 = z1.length := hr1.1.symm
  obtain ⟨l1, hl1⟩ : ∃ l_, l_ = z1 := ⟨_, rfl⟩
  subst hl1
  obtain ⟨k, h⟩ := P a0 l1 a2 a3 w0 hm1 y1 hw1 w2 w3
  refine (formelaw19_StackGrows.calls k a0 _ _ l1 a2 a3 true w hr1 hc1 h).mono ?_
  rintro e w' ⟨rfl, hd⟩
  exact ⟨rfl, hd⟩

end Go.Proofs.Ytpimlejbdpipfaa.P
