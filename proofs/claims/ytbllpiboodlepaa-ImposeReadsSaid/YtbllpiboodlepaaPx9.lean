-- Laid by a program of this session (wip/fam.sh) over the kit's words: Lean checks it.
import Derived.Test.YtbllpiboodlepaaPx0
import Derived.Test.YtbllpiboodlepaaPx3
import Derived.Test.YtbllpiboodlepaaPx6
import Derived.Test.YtbllpiboodlepaaPx7
namespace Go.Proofs.Ytbllpiboodlepaa.P
open Go.RowKit Go.Proofs.YtbllpiboodlepaaW.PrintWords Go.Proofs.YtbllpiboodlepaaW.PrintLast Go.Proofs.YtbllpiboodlepaaW.PrintMore
attribute [local go_sem] max2_int min2_int max_two min_two max_three min_three max_four min_four   -- for this text's walks alone
set_option linter.unusedVariables false
set_option linter.unusedSimpArgs false

/-! ### formelaw42_ImposeReads: function 5 -/
mutual
def formelaw42_ImposeReads.j0 : Nat → Int → Bool → List (S29) → Bool → Bool → Option (Bool)
  | 0, _, _, _, _, _ => none
  | k + 1, x0, x3, x4, x6, x23 => if x23 = true then (if x3 = true then (some x6) else (some false)) else ((impose_Order.f k x4).bind fun bt319 => (if bt319.2 = 0 then (formelaw42_ImposeReads.j1 k x0 x3 bt319.1 ((bt319.1.length : Int) != (wrap64 (2 * (x4.length : Int))))) else (formelaw42_ImposeReads.j1 k x0 x3 bt319.1 true)))
def formelaw42_ImposeReads.j1 : Nat → Int → Bool → List Int → Bool → Option (Bool)
  | 0, _, _, _, _ => none
  | k + 1, x0, x3, x7, x42 => if x42 = true then (some false) else (formelaw42_ImposeReads.l0 k x0 x3 x7 (x7.length : Int) 0)
def formelaw42_ImposeReads.l0 : Nat → Int → Bool → List Int → Int → Int → Option (Bool)
  | 0, _, _, _, _, _ => none
  | k + 1, x0, x3, x43, x44, x45 => if x45 < x44 then (if 0 ≤ x45 then (if x45 < (x43.length : Int) then (if x3 = true then (if (rd x43 x45) = (wrap64 (x45 + 1)) then (formelaw42_ImposeReads.l0 k x0 true x43 x44 (wrap64 (x45 + 1))) else (if x45 ≥ x0 then (formelaw42_ImposeReads.l0 k x0 ((rd x43 x45) == 0) x43 x44 (wrap64 (x45 + 1))) else (formelaw42_ImposeReads.l0 k x0 false x43 x44 (wrap64 (x45 + 1))))) else (formelaw42_ImposeReads.l0 k x0 false x43 x44 (wrap64 (x45 + 1)))) else (none)) else (none)) else (some x3)
end
def formelaw42_ImposeReads.f (k : Nat) (a0 : Int) : Option (Bool) := (formelaw42_head.f k).bind fun t313 => (if t313 = true then ((formelaw42_faces.f a0).bind fun bt314 => (if bt314.2.1 = true then (formelaw42_ImposeReads.j0 k a0 true bt314.1 bt314.2.2 (!bt314.2.2)) else (formelaw42_ImposeReads.j0 k a0 true bt314.1 bt314.2.2 true))) else (none))
theorem formelaw42_ImposeReads.mono_l : ∀ k, (∀ y0 y1 y2 y3 y4, LeO (formelaw42_ImposeReads.j0 k y0 y1 y2 y3 y4) (formelaw42_ImposeReads.j0 (k + 1) y0 y1 y2 y3 y4)) ∧ (∀ y0 y1 y2 y3, LeO (formelaw42_ImposeReads.j1 k y0 y1 y2 y3) (formelaw42_ImposeReads.j1 (k + 1) y0 y1 y2 y3)) ∧ (∀ y0 y1 y2 y3 y4, LeO (formelaw42_ImposeReads.l0 k y0 y1 y2 y3 y4) (formelaw42_ImposeReads.l0 (k + 1) y0 y1 y2 y3 y4))
  | 0 => ⟨fun _ _ _ _ _ r h => by simp [formelaw42_ImposeReads.j0] at h, fun _ _ _ _ r h => by simp [formelaw42_ImposeReads.j1] at h, fun _ _ _ _ _ r h => by simp [formelaw42_ImposeReads.l0] at h⟩
  | k + 1 => by
    obtain ⟨ih0, ih1, ih2⟩ := formelaw42_ImposeReads.mono_l k
    refine ⟨?_, ?_, ?_⟩
    · intro y0 y1 y2 y3 y4
      unfold formelaw42_ImposeReads.j0
      repeat' first
      | (with_reducible exact ih0 _ _ _ _ _)
      | (with_reducible exact ih1 _ _ _ _)
      | (with_reducible exact ih2 _ _ _ _ _)
      | (with_reducible exact formelaw42_head.mono _)
      | (with_reducible exact impose_Order.mono _ _)
      | (with_reducible exact LeO.refl _)
      | (with_reducible exact LeO.none _)
      | (with_reducible refine LeO.ite ?_ ?_)
      | (with_reducible refine LeO.bind ?_ (fun _ => ?_))
      | exact ih0 _ _ _ _ _
      | exact ih1 _ _ _ _
      | exact ih2 _ _ _ _ _
      | exact formelaw42_head.mono _
      | exact impose_Order.mono _ _
      | exact LeO.none _
      | refine LeO.ite ?_ ?_
      | refine LeO.bind ?_ (fun _ => ?_)
    · intro y0 y1 y2 y3
      unfold formelaw42_ImposeReads.j1
      repeat' first
      | (with_reducible exact ih0 _ _ _ _ _)
      | (with_reducible exact ih1 _ _ _ _)
      | (with_reducible exact ih2 _ _ _ _ _)
      | (with_reducible exact formelaw42_head.mono _)
      | (with_reducible exact impose_Order.mono _ _)
      | (with_reducible exact LeO.refl _)
      | (with_reducible exact LeO.none _)
      | (with_reducible refine LeO.ite ?_ ?_)
      | (with_reducible refine LeO.bind ?_ (fun _ => ?_))
      | exact ih0 _ _ _ _ _
      | exact ih1 _ _ _ _
      | exact ih2 _ _ _ _ _
      | exact formelaw42_head.mono _
      | exact impose_Order.mono _ _
      | exact LeO.none _
      | refine LeO.ite ?_ ?_
      | refine LeO.bind ?_ (fun _ => ?_)
    · intro y0 y1 y2 y3 y4
      unfold formelaw42_ImposeReads.l0
      repeat' first
      | (with_reducible exact ih0 _ _ _ _ _)
      | (with_reducible exact ih1 _ _ _ _)
      | (with_reducible exact ih2 _ _ _ _ _)
      | (with_reducible exact formelaw42_head.mono _)
      | (with_reducible exact impose_Order.mono _ _)
      | (with_reducible exact LeO.refl _)
      | (with_reducible exact LeO.none _)
      | (with_reducible refine LeO.ite ?_ ?_)
      | (with_reducible refine LeO.bind ?_ (fun _ => ?_))
      | exact ih0 _ _ _ _ _
      | exact ih1 _ _ _ _
      | exact ih2 _ _ _ _ _
      | exact formelaw42_head.mono _
      | exact impose_Order.mono _ _
      | exact LeO.none _
      | refine LeO.ite ?_ ?_
      | refine LeO.bind ?_ (fun _ => ?_)
theorem formelaw42_ImposeReads.mono : ∀ a0 k, LeO (formelaw42_ImposeReads.f k a0) (formelaw42_ImposeReads.f (k + 1) a0) := by
  intro a0 k
  obtain ⟨ih0, ih1, ih2⟩ := formelaw42_ImposeReads.mono_l k
  unfold formelaw42_ImposeReads.f
  repeat' first
      | (with_reducible exact ih0 _ _ _ _ _)
      | (with_reducible exact ih1 _ _ _ _)
      | (with_reducible exact ih2 _ _ _ _ _)
      | (with_reducible exact formelaw42_head.mono _)
      | (with_reducible exact impose_Order.mono _ _)
      | (with_reducible exact LeO.refl _)
      | (with_reducible exact LeO.none _)
      | (with_reducible refine LeO.ite ?_ ?_)
      | (with_reducible refine LeO.bind ?_ (fun _ => ?_))
      | exact ih0 _ _ _ _ _
      | exact ih1 _ _ _ _
      | exact ih2 _ _ _ _ _
      | exact formelaw42_head.mono _
      | exact impose_Order.mono _ _
      | exact LeO.none _
      | refine LeO.ite ?_ ?_
      | refine LeO.bind ?_ (fun _ => ?_)
set_option maxHeartbeats 8000000 in
set_option maxRecDepth 100000 in
theorem formelaw42_ImposeReads.calls (k : Nat) (a0 : Int) (r : Bool) (w : World) (h : formelaw42_ImposeReads.f k a0 = some r) :
    Calls Try.prog 5 #[.int .i64 a0] w fun e w' => e = .returned (.bool r) ∧ Below w.heap.size w w' := by
  have HB := Aside0.mk (Below.refl w.heap.size w)
  have H : ((formelaw42_head.f k).bind fun t313 => (if t313 = true then ((formelaw42_faces.f a0).bind fun bt314 => (if bt314.2.1 = true then (formelaw42_ImposeReads.j0 k a0 true bt314.1 bt314.2.2 (!bt314.2.2)) else (formelaw42_ImposeReads.j0 k a0 true bt314.1 bt314.2.2 true))) else (none))) = some r := h
  clear h
  replace H := Option.bind_eq_some_iff.mp H
  obtain ⟨t313, A20, H⟩ := H
  replace H : (if t313 = true then ((formelaw42_faces.f a0).bind fun bt314 => (if bt314.2.1 = true then (formelaw42_ImposeReads.j0 k a0 true bt314.1 bt314.2.2 (!bt314.2.2)) else (formelaw42_ImposeReads.j0 k a0 true bt314.1 bt314.2.2 true))) else (none)) = some r := H
  have A2 := Aside0.mk A20
  clear A20
  by_cases c3 : t313 = true
  · subst c3
    have H1 : ((formelaw42_faces.f a0).bind fun bt314 => (if bt314.2.1 = true then (formelaw42_ImposeReads.j0 k a0 true bt314.1 bt314.2.2 (!bt314.2.2)) else (formelaw42_ImposeReads.j0 k a0 true bt314.1 bt314.2.2 true))) = some r := by rw [if_pos rfl] at H; exact H
    clear H
    have H := H1
    clear H1
    replace H := Option.bind_eq_some_iff.mp H
    obtain ⟨⟨t314, t315, t316⟩, A40, H⟩ := H
    replace H : (if t315 = true then (formelaw42_ImposeReads.j0 k a0 true t314 t316 (!t316)) else (formelaw42_ImposeReads.j0 k a0 true t314 t316 true)) = some r := H
    have A4 := Aside0.mk A40
    clear A40
    have HC5 := Aside0.mk H
    clear H
    go_enter Try.func5, Try.ntmps5
    go_upto_region 3 with (first | ((with_reducible refine gate_callee (f := 10) rfl ?_); refine goesL_ (some 11) rfl rfl Try.func10 (by kernel_rfl) rfl #[] rfl (by (try simp only [List.map_toArray, List.map_cons, List.map_nil]); first | done | rfl | (simp only [List.length_drop, List.length_take]; rfl)) ?_; (with_reducible refine (formelaw42_head.calls k  true _ A2.out).mono ?_); rintro e w6 ⟨rfl, hb⟩; refine ⟨_, rfl, ?_⟩; have n0_ := Aside0.mk (below_step (by repeat (first | (with_reducible first | exact HB.out | apply below_alloc | apply pw_below_drewN | apply below_drew1) | exact HB.out)) hb); clear HB; have HB := n0_; clear n0_; (try clear hb); (try clear hb2); (try clear hk); (try clear hi)) | ((with_reducible refine gate_callee (f := 19) rfl ?_); refine goesL_ (some 14) rfl rfl Try.func19 (by kernel_rfl) rfl #[.int .i64 a0] rfl (by (try simp only [List.map_toArray, List.map_cons, List.map_nil]); first | done | rfl | (simp only [List.length_drop, List.length_take]; rfl)) ?_; (with_reducible refine (formelaw42_faces.calls a0 t314 t315 t316 _ A4.out).mono ?_); rintro e w7 ⟨v317, rfl, ho0, hb⟩; refine ⟨_, rfl, ?_⟩; have n0_ := Aside0.mk (Kd.R_lower ho0 (below_size (by repeat (first | (with_reducible first | exact HB.out | apply below_alloc | apply pw_below_drewN | apply below_drew1) | exact HB.out)))); have n1_ := Aside0.mk (below_step (by repeat (first | (with_reducible first | exact HB.out | apply below_alloc | apply pw_below_drewN | apply below_drew1) | exact HB.out)) hb); clear HB; have HO318 := n0_; have HB := n1_; clear n0_ n1_; (try clear hb); (try clear hb2); (try clear hk); (try clear hi); (try clear ho0)))
    (try simp only [Act.put, List.setIfInBounds_toArray, List.set_cons_zero, List.set_cons_succ])
    go_cut [23] (fun v23 wc => ∃ (kq : Nat) (x23_4 : Bool), v23 = .bool x23_4 ∧ Aside0 (formelaw42_ImposeReads.j0 kq a0 true t314 t316 x23_4 = some r) ∧ Aside0 (kq ≤ k) ∧ Aside0 (Kd.R k29 29 wc w.heap.size (fun _ => True) v317 t314) ∧ Aside0 (Below w.heap.size w wc))
    case first =>
      have H := HC5.out
      clear HC5
      by_cases c8 : t315 = true
      · subst c8
        have H1 : (formelaw42_ImposeReads.j0 k a0 true t314 t316 (!t316)) = some r := by rw [if_pos rfl] at H; exact H
        clear H
        have H := H1
        clear H1
        have H' := Aside0.mk H
        clear H
        go_wp2
        go_meet
        case rel => exact ⟨_, (!t316), (by first | rfl | (simp; done) | (simp [*]; done)), H', ⟨by first | omega | exact Nat.le_refl _⟩, ⟨by (with_reducible repeat (first | apply Kd.R_alloc | apply Kd.R_drewN | apply Kd.R_drew)); exact HO318.out⟩, ⟨by repeat (first | (with_reducible first | exact HB.out | apply below_alloc | apply pw_below_drewN | apply below_drew1) | exact HB.out)⟩⟩
      · replace c8 := Bool.eq_false_iff.mpr c8
        subst c8
        have H1 : (formelaw42_ImposeReads.j0 k a0 true t314 t316 true) = some r := by rw [if_neg (show ¬ (false = true) by decide)] at H; exact H
        clear H
        have H := H1
        clear H1
        have H' := Aside0.mk H
        clear H
        go_wp2
        go_meet
        case rel => exact ⟨_, (true), (by first | rfl | (simp; done) | (simp [*]; done)), H', ⟨by first | omega | exact Nat.le_refl _⟩, ⟨by (with_reducible repeat (first | apply Kd.R_alloc | apply Kd.R_drewN | apply Kd.R_drew)); exact HO318.out⟩, ⟨by repeat (first | (with_reducible first | exact HB.out | apply below_alloc | apply pw_below_drewN | apply below_drew1) | exact HB.out)⟩⟩
    case rest =>
      clear HC5
      try clear c1
      try clear p2
      try clear c3
      try clear c5
      try clear c8
      obtain ⟨kq, x23_4, rfl, HA, HJ4, HO_4, HB⟩ := hcut
      cases kq with
      | zero => exact absurd HA.out (by simp [formelaw42_ImposeReads.j0])
      | succ kj4 =>
        have H := HA.out
        clear HA
        simp only [formelaw42_ImposeReads.j0] at H
        by_cases c9 : x23_4 = true
        · subst c9
          have H1 : (if true = true then (some t316) else (some false)) = some r := by rw [if_pos rfl] at H; exact H
          clear H
          have H := H1
          clear H1
          rw [if_pos (rfl : true = true)] at H
          obtain rfl := Option.some.inj H
          go_wp2
          go_ret
          exact ⟨by first | rfl | (simp [errW_none, errW_some] <;> rfl) | (simp [*, errW_none, errW_some] <;> rfl), by repeat (first | (with_reducible first | exact HB.out | apply below_alloc | apply pw_below_drewN | apply below_drew1) | exact HB.out)⟩
        · replace c9 := Bool.eq_false_iff.mpr c9
          subst c9
          have H1 : ((impose_Order.f kj4 t314).bind fun bt319 => (if bt319.2 = 0 then (formelaw42_ImposeReads.j1 kj4 a0 true bt319.1 ((bt319.1.length : Int) != (wrap64 (2 * (t314.length : Int))))) else (formelaw42_ImposeReads.j1 kj4 a0 true bt319.1 true))) = some r := by rw [if_neg (show ¬ (false = true) by decide)] at H; exact H
          clear H
          have H := H1
          clear H1
          replace H := Option.bind_eq_some_iff.mp H
          obtain ⟨⟨t319, t320⟩, A100, H⟩ := H
          replace H : (if t320 = 0 then (formelaw42_ImposeReads.j1 kj4 a0 true t319 ((t319.length : Int) != (wrap64 (2 * (t314.length : Int))))) else (formelaw42_ImposeReads.j1 kj4 a0 true t319 true)) = some r := H
          have A10 := Aside0.mk A100
          clear A100
          have HC11 := Aside0.mk H
          clear H
          obtain ⟨Ao12, co12, eo12⟩ := Kd.R_slice HO_4.out
          subst eo12
          go_upto_region 6 with (first | ((with_reducible refine gate_callee (f := 16) rfl ?_); refine goesL_ (some 30) rfl rfl Try.func16 (by kernel_rfl) rfl #[.slice Ao12 t314.length co12] rfl (by (try simp only [List.map_toArray, List.map_cons, List.map_nil]); first | done | rfl | (simp only [List.length_drop, List.length_take]; rfl)) ?_; (with_reducible refine (impose_Order.calls kj4 _ _ t314 t319 t320 _ ?side1 ?side2 A10.out).mono ?_); (case side1 => repeat (first | exact (Kd.R_reads' HO_4.out).2.2 | (with_reducible refine Kd.C_alloc ?_ _) | (with_reducible refine Kd.C_drewN ?_ _) | (with_reducible refine Kd.C_drew ?_))); (case side2 => exact (Kd.R_reads' HO_4.out).2.1); rintro e w13 ⟨v321, rfl, ho0, hb⟩; refine ⟨_, rfl, ?_⟩; have n0_ := Aside0.mk (Kd.R_below (by (with_reducible repeat (first | apply Kd.R_alloc | apply Kd.R_drewN | apply Kd.R_drew)); exact HO_4.out) hb); have n1_ := Aside0.mk (Kd.R_lower ho0 (below_size (by repeat (first | (with_reducible first | exact HB.out | apply below_alloc | apply pw_below_drewN | apply below_drew1) | exact HB.out)))); have n2_ := Aside0.mk (below_step (by repeat (first | (with_reducible first | exact HB.out | apply below_alloc | apply pw_below_drewN | apply below_drew1) | exact HB.out)) hb); clear HO_4; clear HB; have HO_4 := n0_; have HO322 := n1_; have HB := n2_; clear n0_ n1_ n2_; (try clear hb); (try clear hb2); (try clear hk); (try clear hi); (try clear ho0)))
          (try simp only [Act.put, List.setIfInBounds_toArray, List.set_cons_zero, List.set_cons_succ])
          go_cut [42] (fun v42 wc => ∃ (kq : Nat) (x42_10 : Bool), v42 = .bool x42_10 ∧ Aside0 (formelaw42_ImposeReads.j1 kq a0 true t319 x42_10 = some r) ∧ Aside0 (kq ≤ kj4) ∧ Aside0 (Kd.R (Kd.int .i64) 3 wc w.heap.size (fun _ => True) v321 t319) ∧ Aside0 (Below w.heap.size w wc))
          case first =>
            have H := HC11.out
            clear HC11
            by_cases c14 : t320 = 0
            · rw [if_pos c14] at H
              have c14b0 : (t320 == 0) = true := beq_iff_eq.mpr c14
              have c14b1 : (t320 != 0) = false := bne_eq_false_iff_eq.mpr c14
              clear c14
              (first | rw [c14b0] | (simp only [i64_w, i32_w]; rw [c14b0]) | skip)
              have H' := Aside0.mk H
              clear H
              obtain ⟨Ao15, co15, eo15⟩ := Kd.R_slice HO322.out
              subst eo15
              go_wp2
              go_meet
              case rel => exact ⟨_, (((t319.length : Int) != (wrap64 (2 * (t314.length : Int))))), (by first | rfl | (simp; done) | (simp [*]; done)), H', ⟨by have := HJ4.out; first | omega | exact Nat.le_refl _⟩, ⟨by (with_reducible repeat (first | apply Kd.R_alloc | apply Kd.R_drewN | apply Kd.R_drew)); exact HO322.out⟩, ⟨by repeat (first | (with_reducible first | exact HB.out | apply below_alloc | apply pw_below_drewN | apply below_drew1) | exact HB.out)⟩⟩
            · rw [if_neg c14] at H
              have c14b0 : (t320 == 0) = false := beq_eq_false_iff_ne.mpr c14
              have c14b1 : (t320 != 0) = true := bne_iff_ne.mpr c14
              (first | rw [c14b0] | (simp only [i64_w, i32_w]; rw [c14b0]) | skip)
              have H' := Aside0.mk H
              clear H
              go_wp2
              go_meet
              case rel => exact ⟨_, (true), (by first | rfl | (simp; done) | (simp [*]; done)), H', ⟨by have := HJ4.out; first | omega | exact Nat.le_refl _⟩, ⟨by (with_reducible repeat (first | apply Kd.R_alloc | apply Kd.R_drewN | apply Kd.R_drew)); exact HO322.out⟩, ⟨by repeat (first | (with_reducible first | exact HB.out | apply below_alloc | apply pw_below_drewN | apply below_drew1) | exact HB.out)⟩⟩
          case rest =>
            clear HC11
            try clear c1
            try clear p2
            try clear c3
            try clear c5
            try clear p6
            try clear c8
            try clear c9
            try clear c10
            try clear c14
            try clear c14b0
            try clear c14b1
            try clear p2
            obtain ⟨kq, x42_10, rfl, HA, HJ10, HO_7, HB⟩ := hcut
            cases kq with
            | zero => exact absurd HA.out (by simp [formelaw42_ImposeReads.j1])
            | succ kj10 =>
              have H := HA.out
              clear HA
              simp only [formelaw42_ImposeReads.j1] at H
              by_cases c16 : x42_10 = true
              · subst c16
                have H1 : (some false) = some r := by rw [if_pos rfl] at H; exact H
                clear H
                have H := H1
                clear H1
                obtain rfl := Option.some.inj H
                go_wp2
                go_ret
                exact ⟨by first | rfl | (simp [errW_none, errW_some] <;> rfl) | (simp [*, errW_none, errW_some] <;> rfl), by repeat (first | (with_reducible first | exact HB.out | apply below_alloc | apply pw_below_drewN | apply below_drew1) | exact HB.out)⟩
              · replace c16 := Bool.eq_false_iff.mpr c16
                subst c16
                have H1 : (formelaw42_ImposeReads.l0 kj10 a0 true t319 (t319.length : Int) 0) = some r := by rw [if_neg (show ¬ (false = true) by decide)] at H; exact H
                clear H
                have H := H1
                clear H1
                have H' := Aside0.mk H
                clear H
                obtain ⟨Ao17, co17, eo17⟩ := Kd.R_slice HO_7.out
                subst eo17
                go_wp2
                go_loopg [3, 45] kj10 (fun kq v3 v45 w' => ∃ (x3_3 : Bool) (x45_3 : Int), v3 = .bool x3_3 ∧ v45 = .int .i64 x45_3 ∧ Aside0 (formelaw42_ImposeReads.l0 kq a0 x3_3 t319 (t319.length : Int) x45_3 = some r) ∧ Aside0 (kq ≤ kj10) ∧ Aside0 (Kd.R (Kd.int .i64) 3 w' w.heap.size (fun _ => True) (.slice Ao17 t319.length co17) t319) ∧ Aside0 (Below w.heap.size w w'))
                case atStart => exact ⟨(true), (0), (by first | rfl | (simp; done) | (simp [*]; done)), (by first | rfl | (simp; done) | (simp [*]; done)), H', ⟨Nat.le_refl _⟩, ⟨by (with_reducible repeat (first | apply Kd.R_alloc | apply Kd.R_drewN | apply Kd.R_drew)); exact HO_7.out⟩, ⟨by repeat (first | (with_reducible first | exact HB.out | apply below_alloc | apply pw_below_drewN | apply below_drew1) | exact HB.out)⟩⟩
                case round =>
                  clear H'
                  try clear c1
                  try clear p2
                  try clear c3
                  try clear c5
                  try clear p6
                  try clear c8
                  try clear c9
                  try clear c10
                  try clear c14
                  try clear c14b0
                  try clear c14b1
                  try clear c16
                  try clear p2
                  try clear p6
                  obtain ⟨x3_3, x45_3, rfl, rfl, HA, HK3, HO_43, HB⟩ := hrel
                  cases gk with
                  | zero => exact absurd HA.out (by simp [formelaw42_ImposeReads.l0])
                  | succ k3 =>
                    have H := HA.out
                    clear HA
                    simp only [formelaw42_ImposeReads.l0] at H
                    by_cases c18 : x45_3 < (t319.length : Int)
                    · rw [if_pos c18] at H
                      have c18b0 : decide (x45_3 < (t319.length : Int)) = true := decide_eq_true c18
                      clear c18
                      by_cases c19 : 0 ≤ x45_3
                      · rw [if_pos c19] at H
                        have c19b0 : decide (0 ≤ x45_3) = true := decide_eq_true c19
                        clear c19
                        by_cases c20 : x45_3 < (t319.length : Int)
                        · rw [if_pos c20] at H
                          have c20b0 : decide (x45_3 < (t319.length : Int)) = true := decide_eq_true c20
                          clear c20
                          by_cases c21 : x3_3 = true
                          · subst c21
                            have H1 : (if (rd t319 x45_3) = (wrap64 (x45_3 + 1)) then (formelaw42_ImposeReads.l0 k3 a0 true t319 (t319.length : Int) (wrap64 (x45_3 + 1))) else (if x45_3 ≥ a0 then (formelaw42_ImposeReads.l0 k3 a0 ((rd t319 x45_3) == 0) t319 (t319.length : Int) (wrap64 (x45_3 + 1))) else (formelaw42_ImposeReads.l0 k3 a0 false t319 (t319.length : Int) (wrap64 (x45_3 + 1))))) = some r := by rw [if_pos rfl] at H; exact H
                            clear H
                            have H := H1
                            clear H1
                            by_cases c22 : (rd t319 x45_3) = (wrap64 (x45_3 + 1))
                            · rw [if_pos c22] at H
                              have c22b0 : ((rd t319 x45_3) == (wrap64 (x45_3 + 1))) = true := beq_iff_eq.mpr c22
                              have c22b1 : ((rd t319 x45_3) != (wrap64 (x45_3 + 1))) = false := bne_eq_false_iff_eq.mpr c22
                              clear c22
                              have H' := Aside0.mk H
                              clear H
                              have p323 : 0 ≤ (x45_3 : Int) := of_decide_eq_true (by first | (with_reducible assumption) | assumption)
                              have q323 : x45_3 < (t319.length : Int) := of_decide_eq_true (by first | (with_reducible assumption) | assumption)
                              obtain ⟨ad323, e323, hx323_0⟩ := Kd.at_int (Kd.R_reads' HO_43.out).2.2 x45_3 p323 q323
                              cases e323
                              replace p323 := eq_true p323
                              replace q323 := eq_true q323
                              go_wp2
                              go_roundg k3
                              case measure => have := HJ4.out; have := HJ10.out; have := HK3.out; omega
                              case rel => exact ⟨(true), (wrap64 (x45_3 + 1)), (by first | rfl | (simp; done) | (simp [*]; done)), (by first | rfl | (simp; done) | (simp [*]; done)), H', ⟨by have := HJ4.out; have := HJ10.out; have := HK3.out; omega⟩, ⟨by (with_reducible repeat (first | apply Kd.R_alloc | apply Kd.R_drewN | apply Kd.R_drew)); exact HO_43.out⟩, ⟨by repeat (first | (with_reducible first | exact HB.out | apply below_alloc | apply pw_below_drewN | apply below_drew1) | exact HB.out)⟩⟩
                            · rw [if_neg c22] at H
                              have c22b0 : ((rd t319 x45_3) == (wrap64 (x45_3 + 1))) = false := beq_eq_false_iff_ne.mpr c22
                              have c22b1 : ((rd t319 x45_3) != (wrap64 (x45_3 + 1))) = true := bne_iff_ne.mpr c22
                              by_cases c23 : x45_3 ≥ a0
                              · rw [if_pos c23] at H
                                have c23b0 : decide (a0 ≤ x45_3) = true := decide_eq_true c23
                                clear c23
                                have H' := Aside0.mk H
                                clear H
                                have p323 : 0 ≤ (x45_3 : Int) := of_decide_eq_true (by first | (with_reducible assumption) | assumption)
                                have q323 : x45_3 < (t319.length : Int) := of_decide_eq_true (by first | (with_reducible assumption) | assumption)
                                obtain ⟨ad323, e323, hx323_0⟩ := Kd.at_int (Kd.R_reads' HO_43.out).2.2 x45_3 p323 q323
                                cases e323
                                replace p323 := eq_true p323
                                replace q323 := eq_true q323
                                go_wp2
                                go_roundg k3
                                case measure => have := HJ4.out; have := HJ10.out; have := HK3.out; omega
                                case rel => exact ⟨(((rd t319 x45_3) == 0)), (wrap64 (x45_3 + 1)), (by first | rfl | (simp; done) | (simp [*]; done)), (by first | rfl | (simp; done) | (simp [*]; done)), H', ⟨by have := HJ4.out; have := HJ10.out; have := HK3.out; omega⟩, ⟨by (with_reducible repeat (first | apply Kd.R_alloc | apply Kd.R_drewN | apply Kd.R_drew)); exact HO_43.out⟩, ⟨by repeat (first | (with_reducible first | exact HB.out | apply below_alloc | apply pw_below_drewN | apply below_drew1) | exact HB.out)⟩⟩
                              · rw [if_neg c23] at H
                                have c23b0 : decide (a0 ≤ x45_3) = false := decide_eq_false c23
                                clear c23
                                have H' := Aside0.mk H
                                clear H
                                have p323 : 0 ≤ (x45_3 : Int) := of_decide_eq_true (by first | (with_reducible assumption) | assumption)
                                have q323 : x45_3 < (t319.length : Int) := of_decide_eq_true (by first | (with_reducible assumption) | assumption)
                                obtain ⟨ad323, e323, hx323_0⟩ := Kd.at_int (Kd.R_reads' HO_43.out).2.2 x45_3 p323 q323
                                cases e323
                                replace p323 := eq_true p323
                                replace q323 := eq_true q323
                                go_wp2
                                go_roundg k3
                                case measure => have := HJ4.out; have := HJ10.out; have := HK3.out; omega
                                case rel => exact ⟨(false), (wrap64 (x45_3 + 1)), (by first | rfl | (simp; done) | (simp [*]; done)), (by first | rfl | (simp; done) | (simp [*]; done)), H', ⟨by have := HJ4.out; have := HJ10.out; have := HK3.out; omega⟩, ⟨by (with_reducible repeat (first | apply Kd.R_alloc | apply Kd.R_drewN | apply Kd.R_drew)); exact HO_43.out⟩, ⟨by repeat (first | (with_reducible first | exact HB.out | apply below_alloc | apply pw_below_drewN | apply below_drew1) | exact HB.out)⟩⟩
                          · replace c21 := Bool.eq_false_iff.mpr c21
                            subst c21
                            have H1 : (formelaw42_ImposeReads.l0 k3 a0 false t319 (t319.length : Int) (wrap64 (x45_3 + 1))) = some r := by rw [if_neg (show ¬ (false = true) by decide)] at H; exact H
                            clear H
                            have H := H1
                            clear H1
                            have H' := Aside0.mk H
                            clear H
                            have p323 : 0 ≤ (x45_3 : Int) := of_decide_eq_true (by first | (with_reducible assumption) | assumption)
                            have q323 : x45_3 < (t319.length : Int) := of_decide_eq_true (by first | (with_reducible assumption) | assumption)
                            obtain ⟨ad323, e323, hx323_0⟩ := Kd.at_int (Kd.R_reads' HO_43.out).2.2 x45_3 p323 q323
                            cases e323
                            replace p323 := eq_true p323
                            replace q323 := eq_true q323
                            go_wp2
                            go_roundg k3
                            case measure => have := HJ4.out; have := HJ10.out; have := HK3.out; omega
                            case rel => exact ⟨(false), (wrap64 (x45_3 + 1)), (by first | rfl | (simp; done) | (simp [*]; done)), (by first | rfl | (simp; done) | (simp [*]; done)), H', ⟨by have := HJ4.out; have := HJ10.out; have := HK3.out; omega⟩, ⟨by (with_reducible repeat (first | apply Kd.R_alloc | apply Kd.R_drewN | apply Kd.R_drew)); exact HO_43.out⟩, ⟨by repeat (first | (with_reducible first | exact HB.out | apply below_alloc | apply pw_below_drewN | apply below_drew1) | exact HB.out)⟩⟩
                        · rw [if_neg c20] at H
                          exact absurd H (by simp)
                      · rw [if_neg c19] at H
                        exact absurd H (by simp)
                    · rw [if_neg c18] at H
                      have c18b0 : decide (x45_3 < (t319.length : Int)) = false := decide_eq_false c18
                      clear c18
                      obtain rfl := Option.some.inj H
                      go_wp2
                      go_ret
                      exact ⟨by first | rfl | (simp [errW_none, errW_some] <;> rfl) | (simp [*, errW_none, errW_some] <;> rfl), by repeat (first | (with_reducible first | exact HB.out | apply below_alloc | apply pw_below_drewN | apply below_drew1) | exact HB.out)⟩
  · replace c3 := Bool.eq_false_iff.mpr c3
    subst c3
    have H1 : (none) = some r := by rw [if_neg (show ¬ (false = true) by decide)] at H; exact H
    clear H
    have H := H1
    clear H1
    exact absurd H (by simp)

/-- THE ONE PURE STATEMENT of formelaw42_ImposeReads: yours. -/
def formelaw42_ImposeReads.Pure : Prop := ∀ (a0 : Int), (Lit.int .i64 a0).wf = true → ∃ k, formelaw42_ImposeReads.f k a0 = some true
theorem formelaw42_ImposeReads.walk (P : formelaw42_ImposeReads.Pure) (a0 : Int) (w : World) (w0 : (Lit.int .i64 a0).wf = true) :
    Calls Try.prog 5 #[.int .i64 a0] w fun e w' => e = .returned (.bool true) ∧ Below w.heap.size w w' := by
  obtain ⟨k, h⟩ := P a0 w0
  refine (formelaw42_ImposeReads.calls k a0 true w h).mono ?_
  rintro e w' ⟨rfl, hd⟩
  exact ⟨rfl, hd⟩

end Go.Proofs.Ytbllpiboodlepaa.P
