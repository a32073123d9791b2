-- Laid by a program of this session (wip/fam.sh) over the kit's words: Lean checks it.
import Derived.Test.YtclfimdafmoafaaPx0
import Derived.Test.YtclfimdafmoafaaPx2
import Derived.Test.YtclfimdafmoafaaPx4
import Derived.Test.YtclfimdafmoafaaPx10
import Derived.Test.YtclfimdafmoafaaHNeeds
namespace Go.Proofs.Ytclfimdafmoafaa.P
open Go.RowKit Go.Proofs.YtclfimdafmoafaaW.PrintWords Go.Proofs.YtclfimdafmoafaaW.PrintLast Go.Proofs.YtclfimdafmoafaaW.PrintMore
attribute [local go_sem] max2_int min2_int max_two min_two max_three min_three max_four min_four   -- for this text's walks alone
set_option linter.unusedVariables false
set_option linter.unusedSimpArgs false

/-! ### formelaw26_TableNeeds: function 4 -/
mutual
def formelaw26_TableNeeds.l0 : Nat → List (List (S29)) → Bool → List (S29) → Int → List (List (S29)) → Int → Option (Bool)
 | 0, _, _, _, _, _, _ => none
 | k + 1, x0, x3, x4, x5, x6, x7 => if x7 ≥ 0 then (if 0 ≤ x7 then (if x7 < (x0.length : Int) then (if x6.length < 5864062014805 then (formelaw26_TableNeeds.l0 k x0 x3 x4 x5 (x6 ++ [rd_L2 x0 x7]) (wrap64 (x7 - 1))) else (none)) else (none)) else (none)) else ((table_Needs.f x6).bind fun bt199 => (if x5 = 0 then (formelaw26_TableNeeds.l1 k x0 x3 x4 bt199.1 bt199.2 0) else (if x3 = true then (if x5 = 1 then (if bt199.2 = 1 then (some ((x4.length : Int) == 0)) else (none)) else (none)) else (none))))
def formelaw26_TableNeeds.l1 : Nat → List (List (S29)) → Bool → List (S29) → List (S29) → Int → Int → Option (Bool)
 | 0, _, _, _, _, _, _ => none
 | k + 1, x0, x3, x4, x8, x9, x10 => if x10 < (x4.length : Int) then (formelaw26_TableNeeds.l2 k x0 x3 x4 x8 x9 x10 false false 0) else (formelaw26_TableNeeds.l3 k x0 x3 x4 x8 x9 0)
def formelaw26_TableNeeds.l2 : Nat → List (List (S29)) → Bool → List (S29) → List (S29) → Int → Int → Bool → Bool → Int → Option (Bool)
 | 0, _, _, _, _, _, _, _, _, _ => none
 | k + 1, x0, x3, x4, x8, x9, x10, x11, x12, x13 => if x13 < (x0.length : Int) then (if 0 ≤ x13 then (if x10 ≥ ((rd_L2 x0 x13).length : Int) then (formelaw26_TableNeeds.l2 k x0 x3 x4 x8 x9 x10 x11 x12 (wrap64 (x13 + 1))) else (if 0 ≤ x10 then (if x10 < ((rd_L2 x0 x13).length : Int) then (if x10 < (x4.length : Int) then (if ((rd_T29 (rd_L2 x0 x13) x10).f0) > ((rd_T29 x4 x10).f0) then (none) else (if ((rd_T29 (rd_L2 x0 x13) x10).f1) > ((rd_T29 x4 x10).f1) then (none) else (if x11 = true then (if x12 = true then (formelaw26_TableNeeds.l2 k x0 x3 x4 x8 x9 x10 true true (wrap64 (x13 + 1))) else (formelaw26_TableNeeds.l2 k x0 x3 x4 x8 x9 x10 true (((rd_T29 (rd_L2 x0 x13) x10).f1) == ((rd_T29 x4 x10).f1)) (wrap64 (x13 + 1)))) else (if x12 = true then (formelaw26_TableNeeds.l2 k x0 x3 x4 x8 x9 x10 (((rd_T29 (rd_L2 x0 x13) x10).f0) == ((rd_T29 x4 x10).f0)) true (wrap64 (x13 + 1))) else (formelaw26_TableNeeds.l2 k x0 x3 x4 x8 x9 x10 (((rd_T29 (rd_L2 x0 x13) x10).f0) == ((rd_T29 x4 x10).f0)) (((rd_T29 (rd_L2 x0 x13) x10).f1) == ((rd_T29 x4 x10).f1)) (wrap64 (x13 + 1))))))) else (none)) else (none)) else (none))) else (none)) else (if x11 = true then (if x12 = true then (formelaw26_TableNeeds.l1 k x0 x3 x4 x8 x9 (wrap64 (x10 + 1))) else (none)) else (none))
def formelaw26_TableNeeds.l3 : Nat → List (List (S29)) → Bool → List (S29) → List (S29) → Int → Int → Option (Bool)
 | 0, _, _, _, _, _, _ => none
 | k + 1, x0, x3, x4, x8, x9, x15 => if x15 < (x0.length : Int) then (if 0 ≤ x15 then (if ((rd_L2 x0 x15).length : Int) > (x4.length : Int) then (none) else (formelaw26_TableNeeds.l3 k x0 x3 x4 x8 x9 (wrap64 (x15 + 1)))) else (none)) else (if x3 = true then (if x9 = 0 then ((formeref26_SameNeeds.f k x4 x8).bind fun t213 => (some t213)) else (none)) else (none))
end
def formelaw26_TableNeeds.f (k : Nat) (l0 : List (List (S29))) : Option (Bool) := (formelaw26_head.f k).bind fun t189 => (if t189 = true then ((api_Range_10.f k l0).bind fun t190 => (if t190 = true then ((table_Needs.f l0).bind fun bt191 => (formelaw26_TableNeeds.l0 k l0 true bt191.1 bt191.2 ([] : List (List (S29))) (wrap64 ((l0.length : Int) - 1)))) else (some true))) else (none))
theorem formelaw26_TableNeeds.mono_l : ∀ k, (∀ y0 y1 y2 y3 y4 y5, LeO (formelaw26_TableNeeds.l0 k y0 y1 y2 y3 y4 y5) (formelaw26_TableNeeds.l0 (k + 1) y0 y1 y2 y3 y4 y5)) ∧ (∀ y0 y1 y2 y3 y4 y5, LeO (formelaw26_TableNeeds.l1 k y0 y1 y2 y3 y4 y5) (formelaw26_TableNeeds.l1 (k + 1) y0 y1 y2 y3 y4 y5)) ∧ (∀ y0 y1 y2 y3 y4 y5 y6 y7 y8, LeO (formelaw26_TableNeeds.l2 k y0 y1 y2 y3 y4 y5 y6 y7 y8) (formelaw26_TableNeeds.l2 (k + 1) y0 y1 y2 y3 y4 y5 y6 y7 y8)) ∧ (∀ y0 y1 y2 y3 y4 y5, LeO (formelaw26_TableNeeds.l3 k y0 y1 y2 y3 y4 y5) (formelaw26_TableNeeds.l3 (k + 1) y0 y1 y2 y3 y4 y5))
 | 0 => ⟨fun _ _ _ _ _ _ r h => by simp [formelaw26_TableNeeds.l0] at h, fun _ _ _ _ _ _ r h => by simp [formelaw26_TableNeeds.l1] at h, fun _ _ _ _ _ _ _ _ _ r h => by simp [formelaw26_TableNeeds.l2] at h, fun _ _ _ _ _ _ r h => by simp [formelaw26_TableNeeds.l3] at h⟩
 | k + 1 => by
  obtain ⟨ih0, ih1, ih2, ih3⟩ := formelaw26_TableNeeds.mono_l k
  refine ⟨?_, ?_, ?_, ?_⟩
  ·
   intro y0 y1 y2 y3 y4 y5
   unfold formelaw26_TableNeeds.l0
   repeat' first
   | (with_reducible exact ih0 _ _ _ _ _ _)
   | (with_reducible exact ih1 _ _ _ _ _ _)
   | (with_reducible exact ih2 _ _ _ _ _ _ _ _ _)
   | (with_reducible exact ih3 _ _ _ _ _ _)
   | (with_reducible exact api_Range_10.mono _ _)
   | (with_reducible exact formelaw26_head.mono _)
   | (with_reducible exact formeref26_SameNeeds.mono _ _ _)
   | (with_reducible exact LeO.refl _)
   | (with_reducible exact LeO.none _)
   | (with_reducible refine LeO.ite ?_ ?_)
   | (with_reducible refine LeO.bind ?_ (fun _ => ?_))
   | exact ih0 _ _ _ _ _ _
   | exact ih1 _ _ _ _ _ _
   | exact ih2 _ _ _ _ _ _ _ _ _
   | exact ih3 _ _ _ _ _ _
   | exact api_Range_10.mono _ _
   | exact formelaw26_head.mono _
   | exact formeref26_SameNeeds.mono _ _ _
   | exact LeO.none _
   | refine LeO.ite ?_ ?_
   | refine LeO.bind ?_ (fun _ => ?_)
  ·
   intro y0 y1 y2 y3 y4 y5
   unfold formelaw26_TableNeeds.l1
   repeat' first
   | (with_reducible exact ih0 _ _ _ _ _ _)
   | (with_reducible exact ih1 _ _ _ _ _ _)
   | (with_reducible exact ih2 _ _ _ _ _ _ _ _ _)
   | (with_reducible exact ih3 _ _ _ _ _ _)
   | (with_reducible exact api_Range_10.mono _ _)
   | (with_reducible exact formelaw26_head.mono _)
   | (with_reducible exact formeref26_SameNeeds.mono _ _ _)
   | (with_reducible exact LeO.refl _)
   | (with_reducible exact LeO.none _)
   | (with_reducible refine LeO.ite ?_ ?_)
   | (with_reducible refine LeO.bind ?_ (fun _ => ?_))
   | exact ih0 _ _ _ _ _ _
   | exact ih1 _ _ _ _ _ _
   | exact ih2 _ _ _ _ _ _ _ _ _
   | exact ih3 _ _ _ _ _ _
   | exact api_Range_10.mono _ _
   | exact formelaw26_head.mono _
   | exact formeref26_SameNeeds.mono _ _ _
   | exact LeO.none _
   | refine LeO.ite ?_ ?_
   | refine LeO.bind ?_ (fun _ => ?_)
  ·
   intro y0 y1 y2 y3 y4 y5 y6 y7 y8
   unfold formelaw26_TableNeeds.l2
   repeat' first
   | (with_reducible exact ih0 _ _ _ _ _ _)
   | (with_reducible exact ih1 _ _ _ _ _ _)
   | (with_reducible exact ih2 _ _ _ _ _ _ _ _ _)
   | (with_reducible exact ih3 _ _ _ _ _ _)
   | (with_reducible exact api_Range_10.mono _ _)
   | (with_reducible exact formelaw26_head.mono _)
   | (with_reducible exact formeref26_SameNeeds.mono _ _ _)
   | (with_reducible exact LeO.refl _)
   | (with_reducible exact LeO.none _)
   | (with_reducible refine LeO.ite ?_ ?_)
   | (with_reducible refine LeO.bind ?_ (fun _ => ?_))
   | exact ih0 _ _ _ _ _ _
   | exact ih1 _ _ _ _ _ _
   | exact ih2 _ _ _ _ _ _ _ _ _
   | exact ih3 _ _ _ _ _ _
   | exact api_Range_10.mono _ _
   | exact formelaw26_head.mono _
   | exact formeref26_SameNeeds.mono _ _ _
   | exact LeO.none _
   | refine LeO.ite ?_ ?_
   | refine LeO.bind ?_ (fun _ => ?_)
  ·
   intro y0 y1 y2 y3 y4 y5
   unfold formelaw26_TableNeeds.l3
   repeat' first
   | (with_reducible exact ih0 _ _ _ _ _ _)
   | (with_reducible exact ih1 _ _ _ _ _ _)
   | (with_reducible exact ih2 _ _ _ _ _ _ _ _ _)
   | (with_reducible exact ih3 _ _ _ _ _ _)
   | (with_reducible exact api_Range_10.mono _ _)
   | (with_reducible exact formelaw26_head.mono _)
   | (with_reducible exact formeref26_SameNeeds.mono _ _ _)
   | (with_reducible exact LeO.refl _)
   | (with_reducible exact LeO.none _)
   | (with_reducible refine LeO.ite ?_ ?_)
   | (with_reducible refine LeO.bind ?_ (fun _ => ?_))
   | exact ih0 _ _ _ _ _ _
   | exact ih1 _ _ _ _ _ _
   | exact ih2 _ _ _ _ _ _ _ _ _
   | exact ih3 _ _ _ _ _ _
   | exact api_Range_10.mono _ _
   | exact formelaw26_head.mono _
   | exact formeref26_SameNeeds.mono _ _ _
   | exact LeO.none _
   | refine LeO.ite ?_ ?_
   | refine LeO.bind ?_ (fun _ => ?_)
theorem formelaw26_TableNeeds.mono : ∀ a0 k, LeO (formelaw26_TableNeeds.f k a0) (formelaw26_TableNeeds.f (k + 1) a0) := by
 intro a0 k
 obtain ⟨ih0, ih1, ih2, ih3⟩ := formelaw26_TableNeeds.mono_l k
 unfold formelaw26_TableNeeds.f
 repeat' first
   | (with_reducible exact ih0 _ _ _ _ _ _)
   | (with_reducible exact ih1 _ _ _ _ _ _)
   | (with_reducible exact ih2 _ _ _ _ _ _ _ _ _)
   | (with_reducible exact ih3 _ _ _ _ _ _)
   | (with_reducible exact api_Range_10.mono _ _)
   | (with_reducible exact formelaw26_head.mono _)
   | (with_reducible exact formeref26_SameNeeds.mono _ _ _)
   | (with_reducible exact LeO.refl _)
   | (with_reducible exact LeO.none _)
   | (with_reducible refine LeO.ite ?_ ?_)
   | (with_reducible refine LeO.bind ?_ (fun _ => ?_))
   | exact ih0 _ _ _ _ _ _
   | exact ih1 _ _ _ _ _ _
   | exact ih2 _ _ _ _ _ _ _ _ _
   | exact ih3 _ _ _ _ _ _
   | exact api_Range_10.mono _ _
   | exact formelaw26_head.mono _
   | exact formeref26_SameNeeds.mono _ _ _
   | exact LeO.none _
   | refine LeO.ite ?_ ?_
   | refine LeO.bind ?_ (fun _ => ?_)
set_option maxHeartbeats 8000000 in
set_option maxRecDepth 100000 in
theorem formelaw26_TableNeeds.calls (k : Nat) (P0_ : Nat → Prop) (A0 : Option Addr) (c0 : Nat) (l0 : List (List (S29))) (r : Bool) (w : World) (hs0 : Kd.V (Kd.slice 29 k29) 23 w w.heap.size (fun k_ => P0_ k_) (.slice A0 l0.length c0) l0) (h : formelaw26_TableNeeds.f k l0 = some r) :
  Calls Try.prog 4 #[.slice A0 l0.length c0] w fun e w' => e = .returned (.bool r) ∧ Below w.heap.size w w' := by
 have hu29 := Try.underlying29
 have HO0 := Aside0.mk (show Kd.V (Kd.slice 29 k29) 23 w w.heap.size (fun k_ => (P0_ k_ ∨ w.heap.size ≤ k_)) (.slice A0 l0.length c0) l0 from Kd.V_mono hs0 (fun k_ hk => .inl hk))
 have HB := Aside0.mk (Below.refl w.heap.size w)
 have H : ((formelaw26_head.f k).bind fun t189 => (if t189 = true then ((api_Range_10.f k l0).bind fun t190 => (if t190 = true then ((table_Needs.f l0).bind fun bt191 => (formelaw26_TableNeeds.l0 k l0 true bt191.1 bt191.2 ([] : List (List (S29))) (wrap64 ((l0.length : Int) - 1)))) else (some true))) else (none))) = some r := h
 clear h
 replace H := Option.bind_eq_some_iff.mp H
 obtain ⟨t189, A20, H⟩ := H
 replace H : (if t189 = true then ((api_Range_10.f k l0).bind fun t190 => (if t190 = true then ((table_Needs.f l0).bind fun bt191 => (formelaw26_TableNeeds.l0 k l0 true bt191.1 bt191.2 ([] : List (List (S29))) (wrap64 ((l0.length : Int) - 1)))) else (some true))) else (none)) = some r := H
 have A2 := Aside0.mk A20
 clear A20
 by_cases c3 : t189 = true
 ·
  subst c3
  have H1 : ((api_Range_10.f k l0).bind fun t190 => (if t190 = true then ((table_Needs.f l0).bind fun bt191 => (formelaw26_TableNeeds.l0 k l0 true bt191.1 bt191.2 ([] : List (List (S29))) (wrap64 ((l0.length : Int) - 1)))) else (some true))) = some r := by rw [if_pos rfl] at H; exact H
  clear H
  have H := H1
  clear H1
  replace H := Option.bind_eq_some_iff.mp H
  obtain ⟨t190, A40, H⟩ := H
  replace H : (if t190 = true then ((table_Needs.f l0).bind fun bt191 => (formelaw26_TableNeeds.l0 k l0 true bt191.1 bt191.2 ([] : List (List (S29))) (wrap64 ((l0.length : Int) - 1)))) else (some true)) = some r := H
  have A4 := Aside0.mk A40
  clear A40
  by_cases c5 : t190 = true
  ·
   subst c5
   have H1 : ((table_Needs.f l0).bind fun bt191 => (formelaw26_TableNeeds.l0 k l0 true bt191.1 bt191.2 ([] : List (List (S29))) (wrap64 ((l0.length : Int) - 1)))) = some r := by rw [if_pos rfl] at H; exact H
   clear H
   have H := H1
   clear H1
   replace H := Option.bind_eq_some_iff.mp H
   obtain ⟨⟨t191, t192⟩, A60, H⟩ := H
   replace H : (formelaw26_TableNeeds.l0 k l0 true t191 t192 ([] : List (List (S29))) (wrap64 ((l0.length : Int) - 1))) = some r := H
   have A6 := Aside0.mk A60
   clear A60
   have H' := Aside0.mk H
   clear H
   go_enter Try.func4, Try.ntmps4
   go_wp2_with (first | (go_at_call 9; (with_reducible refine (formelaw26_head.calls k  true _ A2.out).mono ?_); rintro e w7 ⟨rfl, hb⟩; have n0_ := Aside0.mk (Kd.V_below (by (with_reducible repeat (first | apply Kd.V_alloc | apply Kd.V_drewN | apply Kd.V_drew)); exact HO0.out) hb); have n1_ := Aside0.mk (below_step (by repeat (first | (with_reducible first | exact HB.out | apply below_alloc | apply pw_below_drewN | apply below_drew1) | exact HB.out)) hb); clear HO0; clear HB; have HO0 := n0_; have HB := n1_; clear n0_ n1_; (try clear hb); (try clear hb2); (try clear hk); (try clear hi)) | (go_at_call 10; (with_reducible refine (api_Range_10.calls k _ _ l0 true _ ?side1 ?side2 A4.out).mono ?_); (case side1 => repeat (first | exact (Kd.V_reads' HO0.out).2.2 | (with_reducible refine Kd.C_alloc ?_ _) | (with_reducible refine Kd.C_drewN ?_ _) | (with_reducible refine Kd.C_drew ?_))); (case side2 => exact (Kd.V_reads' HO0.out).2.1); rintro e w' ⟨rfl, ⟨nd, rfl⟩⟩; (try first | exact ⟨rfl, _, World.drewN_drewN _ _ _⟩ | exact ⟨rfl, _, Eq.trans (World.drewN_drewN _ _ _) (congrArg (World.drewN _) (Nat.add_assoc _ _ _))⟩)) | (go_at_call 12; (with_reducible refine (table_Needs.calls _ _ l0 t191 t192 _ ?side1 ?side2 A6.out).mono ?_); (case side1 => repeat (first | exact (Kd.V_reads' HO0.out).2.2 | (with_reducible refine Kd.C_alloc ?_ _) | (with_reducible refine Kd.C_drewN ?_ _) | (with_reducible refine Kd.C_drew ?_))); (case side2 => exact (Kd.V_reads' HO0.out).2.1); rintro e w8 ⟨v193, rfl, ho0, hb⟩; have n0_ := Aside0.mk (Kd.V_elder' (by (with_reducible repeat (first | apply Kd.V_alloc | apply Kd.V_drewN | apply Kd.V_drew)); exact HO0.out) (Kd.R_base ho0) hb); have n1_ := Aside0.mk (Kd.R_lower (Kd.R_newM (M := fun k_ => (w.heap.size ≤ k_)) ho0 (below_size (by repeat (first | (with_reducible first | exact HB.out | apply below_alloc | apply pw_below_drewN | apply below_drew1) | exact HB.out))) (fun k_ h_ => h_)) (below_size (by repeat (first | (with_reducible first | exact HB.out | apply below_alloc | apply pw_below_drewN | apply below_drew1) | exact HB.out)))); have n2_ := Aside0.mk (below_step (by repeat (first | (with_reducible first | exact HB.out | apply below_alloc | apply pw_below_drewN | apply below_drew1) | exact HB.out)) hb); clear HO0; clear HB; have HO0 := n0_; have HO194 := n1_; have HB := n2_; clear n0_ n1_ n2_; (try clear hb); (try clear hb2); (try clear hk); (try clear hi); (try clear ho0)))
   repeat (go_quiet (first | (go_at_call 10; (with_reducible refine (api_Range_10.calls k _ _ l0 true _ ?side1 ?side2 A4.out).mono ?_); (case side1 => repeat (first | exact (Kd.V_reads' HO0.out).2.2 | (with_reducible refine Kd.C_alloc ?_ _) | (with_reducible refine Kd.C_drewN ?_ _) | (with_reducible refine Kd.C_drew ?_))); (case side2 => exact (Kd.V_reads' HO0.out).2.1); rintro e w' ⟨rfl, ⟨nd, rfl⟩⟩; (try first | exact ⟨rfl, _, World.drewN_drewN _ _ _⟩ | exact ⟨rfl, _, Eq.trans (World.drewN_drewN _ _ _) (congrArg (World.drewN _) (Nat.add_assoc _ _ _))⟩))); try go_wp2_with (first | (go_at_call 9; (with_reducible refine (formelaw26_head.calls k  true _ A2.out).mono ?_); rintro e w7 ⟨rfl, hb⟩; have n0_ := Aside0.mk (Kd.V_below (by (with_reducible repeat (first | apply Kd.V_alloc | apply Kd.V_drewN | apply Kd.V_drew)); exact HO0.out) hb); have n1_ := Aside0.mk (below_step (by repeat (first | (with_reducible first | exact HB.out | apply below_alloc | apply pw_below_drewN | apply below_drew1) | exact HB.out)) hb); clear HO0; clear HB; have HO0 := n0_; have HB := n1_; clear n0_ n1_; (try clear hb); (try clear hb2); (try clear hk); (try clear hi)) | (go_at_call 10; (with_reducible refine (api_Range_10.calls k _ _ l0 true _ ?side1 ?side2 A4.out).mono ?_); (case side1 => repeat (first | exact (Kd.V_reads' HO0.out).2.2 | (with_reducible refine Kd.C_alloc ?_ _) | (with_reducible refine Kd.C_drewN ?_ _) | (with_reducible refine Kd.C_drew ?_))); (case side2 => exact (Kd.V_reads' HO0.out).2.1); rintro e w' ⟨rfl, ⟨nd, rfl⟩⟩; (try first | exact ⟨rfl, _, World.drewN_drewN _ _ _⟩ | exact ⟨rfl, _, Eq.trans (World.drewN_drewN _ _ _) (congrArg (World.drewN _) (Nat.add_assoc _ _ _))⟩)) | (go_at_call 12; (with_reducible refine (table_Needs.calls _ _ l0 t191 t192 _ ?side1 ?side2 A6.out).mono ?_); (case side1 => repeat (first | exact (Kd.V_reads' HO0.out).2.2 | (with_reducible refine Kd.C_alloc ?_ _) | (with_reducible refine Kd.C_drewN ?_ _) | (with_reducible refine Kd.C_drew ?_))); (case side2 => exact (Kd.V_reads' HO0.out).2.1); rintro e w8 ⟨v193, rfl, ho0, hb⟩; have n0_ := Aside0.mk (Kd.V_elder' (by (with_reducible repeat (first | apply Kd.V_alloc | apply Kd.V_drewN | apply Kd.V_drew)); exact HO0.out) (Kd.R_base ho0) hb); have n1_ := Aside0.mk (Kd.R_lower (Kd.R_newM (M := fun k_ => (w.heap.size ≤ k_)) ho0 (below_size (by repeat (first | (with_reducible first | exact HB.out | apply below_alloc | apply pw_below_drewN | apply below_drew1) | exact HB.out))) (fun k_ h_ => h_)) (below_size (by repeat (first | (with_reducible first | exact HB.out | apply below_alloc | apply pw_below_drewN | apply below_drew1) | exact HB.out)))); have n2_ := Aside0.mk (below_step (by repeat (first | (with_reducible first | exact HB.out | apply below_alloc | apply pw_below_drewN | apply below_drew1) | exact HB.out)) hb); clear HO0; clear HB; have HO0 := n0_; have HO194 := n1_; have HB := n2_; clear n0_ n1_ n2_; (try clear hb); (try clear hb2); (try clear hk); (try clear hi); (try clear ho0))))
   go_loopg [6, 7] k (fun kq v6 v7 w' => ∃ (x6_1 : List (List (S29))) (x7_1 : Int), v7 = .int .i64 x7_1 ∧ Aside0 (formelaw26_TableNeeds.l0 kq l0 true t191 t192 x6_1 x7_1 = some r) ∧ Aside0 (kq ≤ k) ∧ Aside0 (Kd.V (Kd.slice 29 k29) 23 w' w.heap.size (fun k_ => (P0_ k_ ∨ w.heap.size ≤ k_) ∧ some k_ ≠ (v193 : Value).ownBlock ∧ some k_ ≠ (v6 : Value).ownBlock) (.slice A0 l0.length c0) l0) ∧ Aside0 (Kd.R k29 29 w' w.heap.size (fun k_ => (w.heap.size ≤ k_)) v193 t191) ∧ Aside0 (Kd.N (Kd.slice 29 k29) 23 w' w.heap.size (fun k_ => (P0_ k_ ∨ w.heap.size ≤ k_) ∧ some k_ ≠ (v193 : Value).ownBlock) v6 x6_1) ∧ Aside0 (Below w.heap.size w w'))
   case atStart => exact ⟨(([] : List (List (S29)))), (wrap64 ((l0.length : Int) - 1)), (by first | rfl | (simp; done) | (simp [*]; done)), H', ⟨Nat.le_refl _⟩, ⟨by (with_reducible repeat (first | apply Kd.V_alloc | apply Kd.V_drewN | apply Kd.V_drew)); exact Kd.V_mono HO0.out (fun _ hk => ⟨hk.1, ⟨hk.2, (by simp [Value.ownBlock])⟩⟩)⟩, ⟨by (with_reducible repeat (first | apply Kd.R_alloc | apply Kd.R_drewN | apply Kd.R_drew)); exact Kd.R_mono HO194.out (fun _ hk => hk.1)⟩, ⟨by first | exact Kd.S_nil _ _ _ _ _ | exact Kd.N_nil _ _ _ _ _ | exact Kd.V_nil _ _ _ _ _ | exact Kd.Q_nil _ _ _ _ _ | exact Kd.R_nil _ _ _ _ _⟩, ⟨by repeat (first | (with_reducible first | exact HB.out | apply below_alloc | apply pw_below_drewN | apply below_drew1) | exact HB.out)⟩⟩
   case round =>
    clear H'
    try clear p2
    try clear c3
    try clear c4
    try clear c5
    try clear p6
    obtain ⟨x6_1, x7_1, rfl, HA, HK1, HO_0, HO_4, HO_6, HB⟩ := hrel
    cases gk with
    | zero => exact absurd HA.out (by simp [formelaw26_TableNeeds.l0])
    | succ k1 =>
     have H := HA.out
     clear HA
     simp only [formelaw26_TableNeeds.l0] at H
     by_cases c9 : x7_1 ≥ 0
     ·
      rw [if_pos c9] at H
      have c9b0 : decide (0 ≤ x7_1) = true := decide_eq_true c9
      clear c9
      by_cases c10 : 0 ≤ x7_1
      ·
       rw [if_pos c10] at H
       have c10b0 : decide (0 ≤ x7_1) = true := decide_eq_true c10
       clear c10
       by_cases c11 : x7_1 < (l0.length : Int)
       ·
        rw [if_pos c11] at H
        have c11b0 : decide (x7_1 < (l0.length : Int)) = true := decide_eq_true c11
        clear c11
        by_cases c12 : x6_1.length < 5864062014805
        ·
         rw [if_pos c12] at H
         have LMc12 := Aside0.mk c12
         clear c12
         obtain ⟨y196, hy196⟩ : ∃ y_ : List (List (S29)), y_ = (x6_1 ++ [rd_L2 l0 x7_1]) := ⟨_, rfl⟩
         replace H : (formelaw26_TableNeeds.l0 k1 l0 true t191 t192 y196 (wrap64 (x7_1 - 1))) = some r := by first | (rw [hy196]; with_reducible exact H) | (have H2_ := (Option.bind_some _ _).symm.trans H; rw [hy196]; with_reducible exact H2_) | (have H2_ := (Option.bind_some _ _).symm.trans H; with_reducible exact H2_) | with_reducible exact H | (rw [hy196]; exact H) | exact H
         have Ny196 := Aside0.mk hy196
         clear hy196
         have H' := Aside0.mk H
         clear H
         have p195 : 0 ≤ (x7_1 : Int) := of_decide_eq_true (by first | (with_reducible assumption) | assumption)
         have q195 : x7_1 < (l0.length : Int) := of_decide_eq_true (by first | (with_reducible assumption) | assumption)
         obtain ⟨ad195, A195_0, c195_0, e195, hx195_0, hl195_0, hi195_0⟩ := at_L2 (Kd.V_reads' HO_0.out).2.2 x7_1 p195 q195
         cases e195
         obtain ⟨ce195, hce195, hMe195, hcc195⟩ := Kd.V_get HO_0.out [] x7_1 p195 (by first | exact q195 | exact of_decide_eq_true (by first | (with_reducible assumption) | assumption) | (have e_ := (Kd.V_reads' HO_0.out).1; omega))
         obtain ⟨ua195_0, uc195_0, rfl, ul195_0, ge195_0⟩ := Kd.FK_slice_open hMe195
         have hv195_0 := hcc195 0 _ rfl
         rw [Nat.add_zero, show ((Kd.slice 29 k29)).sz = 1 from rfl, Nat.mul_one] at hv195_0
         replace hv195_0 := Option.some.inj (hv195_0.symm.trans hx195_0)
         injection hv195_0 with hva_ hvn_ hvc_
         rw [hva_] at ge195_0
         rw [hvc_] at ul195_0
         have HL195_0 := Aside0.mk (show Kd.V k29 29 _ w.heap.size _ _ (rd_L2 l0 x7_1) from Kd.V_mk ul195_0 ge195_0)
         clear hva_ hvn_ hvc_ ge195_0 ul195_0
         clear hcc195 hce195
         have HR195_0 := Aside0.mk hi195_0
         have HC195_0 := Aside0.mk hl195_0
         clear hi195_0 hl195_0
         replace p195 := eq_true p195
         replace q195 := eq_true q195
         go_wp2_with (first | ((with_reducible refine gate_builtin (b := .append) (xs := #[.tmp 33, .tmp 38]) rfl ?_); (try (refine gate_guard (by rfl) ?_; dsimp only)); at_builtin; refine Kd.N_append (Kd.slice 29 k29) (w0 := w) w.heap.size rfl (.tmp 33) (.tmp 38) 22 23 (.slice none 0 0) 24 rfl Try.underlying22 info23 rfl (by decide) (by omega) u6 x6_1 (rd_L2 l0 x7_1) [.slice A195_0 (rd_L2 l0 x7_1).length c195_0] (fun k_ => (P0_ k_ ∨ w.heap.size ≤ k_) ∧ some k_ ≠ (v193 : Value).ownBlock) (fun k_ => ((fun k_ => (P0_ k_ ∨ w.heap.size ≤ k_) ∧ some k_ ≠ (v193 : Value).ownBlock)) k_ ∧ some k_ ≠ (u6 : Value).ownBlock) rfl rfl ?aP (fun _ hk => hk) ?aF ?aO ?aB ?aS ?aL ?_; (case aP => exact (Kd.FK_slice_mk (Kd.V_reads' (Kd.V_mono (ok' := (fun k_ => ((fun k_ => (P0_ k_ ∨ w.heap.size ≤ k_) ∧ some k_ ≠ (v193 : Value).ownBlock)) k_ ∧ some k_ ≠ (u6 : Value).ownBlock)) (HL195_0.out) (fun k_ hk => ⟨⟨hk.1, hk.2.1⟩, hk.2.2⟩))).2.1 (Kd.V_F (Kd.V_mono (ok' := (fun k_ => ((fun k_ => (P0_ k_ ∨ w.heap.size ≤ k_) ∧ some k_ ≠ (v193 : Value).ownBlock)) k_ ∧ some k_ ≠ (u6 : Value).ownBlock)) (HL195_0.out) (fun k_ hk => ⟨⟨hk.1, hk.2.1⟩, hk.2.2⟩))))); (case aB => exact (by repeat (first | (with_reducible first | exact HB.out | apply below_alloc | apply pw_below_drewN | apply below_drew1) | exact HB.out))); (case aF => exact (fun k_ hk => ⟨(.inr (Nat.le_trans (below_size (by repeat (first | (with_reducible first | exact HB.out | apply below_alloc | apply pw_below_drewN | apply below_drew1) | exact HB.out))) hk)), Kd.fresh' (Kd.R_lt (by (with_reducible repeat (first | apply Kd.R_alloc | apply Kd.R_drewN | apply Kd.R_drew)); exact HO_4.out)) k_ hk⟩)); (case aO => exact (by (with_reducible repeat (first | apply Kd.N_alloc | apply Kd.N_drewN | apply Kd.N_drew)); exact HO_6.out)); (case aS => exact (below_size (by repeat (first | (with_reducible first | exact HB.out | apply below_alloc | apply pw_below_drewN | apply below_drew1) | exact HB.out)))); (case aL => have := LMc12.out; omega); intro v197 w13 ho hb hg hat; rw [← Ny196.out] at ho; have n0_ := Aside0.mk (Kd.V_afterv (ok := (fun k_ => (P0_ k_ ∨ w.heap.size ≤ k_) ∧ some k_ ≠ (v193 : Value).ownBlock)) (by (with_reducible repeat (first | apply Kd.V_alloc | apply Kd.V_drewN | apply Kd.V_drew)); exact Kd.V_mono HO_0.out (fun _ hk => ⟨⟨hk.1, hk.2.1⟩, hk.2.2⟩)) hg hat); have n1_ := Aside0.mk (Kd.R_over' (by (with_reducible repeat (first | apply Kd.R_alloc | apply Kd.R_drewN | apply Kd.R_drew)); exact HO_4.out) (Kd.N_typed (by (with_reducible repeat (first | apply Kd.N_alloc | apply Kd.N_drewN | apply Kd.N_drew)); exact HO_6.out)) (by decide) hg); have n2_ := Aside0.mk (Kd.V_afterv (ok := (fun k_ => (P0_ k_ ∨ w.heap.size ≤ k_) ∧ some k_ ≠ (v193 : Value).ownBlock)) (by (with_reducible repeat (first | apply Kd.V_alloc | apply Kd.V_drewN | apply Kd.V_drew)); exact Kd.V_mono HL195_0.out (fun _ hk => ⟨⟨hk.1, hk.2.1⟩, hk.2.2⟩)) hg hat); have n3_ := Aside0.mk (hb); have n4_ := Aside0.mk (ho); clear HO_0; clear HO_4; clear HL195_0; clear HB; clear HO_6; have HO_0 := n0_; have HO_4 := n1_; have HL195_0 := n2_; have HB := n3_; have HO198 := n4_; clear n0_ n1_ n2_ n3_ n4_; clear ho hb hg hat))
         repeat (go_quiet (fail); try go_wp2_with (first | ((with_reducible refine gate_builtin (b := .append) (xs := #[.tmp 33, .tmp 38]) rfl ?_); (try (refine gate_guard (by rfl) ?_; dsimp only)); at_builtin; refine Kd.N_append (Kd.slice 29 k29) (w0 := w) w.heap.size rfl (.tmp 33) (.tmp 38) 22 23 (.slice none 0 0) 24 rfl Try.underlying22 info23 rfl (by decide) (by omega) u6 x6_1 (rd_L2 l0 x7_1) [.slice A195_0 (rd_L2 l0 x7_1).length c195_0] (fun k_ => (P0_ k_ ∨ w.heap.size ≤ k_) ∧ some k_ ≠ (v193 : Value).ownBlock) (fun k_ => ((fun k_ => (P0_ k_ ∨ w.heap.size ≤ k_) ∧ some k_ ≠ (v193 : Value).ownBlock)) k_ ∧ some k_ ≠ (u6 : Value).ownBlock) rfl rfl ?aP (fun _ hk => hk) ?aF ?aO ?aB ?aS ?aL ?_; (case aP => exact (Kd.FK_slice_mk (Kd.V_reads' (Kd.V_mono (ok' := (fun k_ => ((fun k_ => (P0_ k_ ∨ w.heap.size ≤ k_) ∧ some k_ ≠ (v193 : Value).ownBlock)) k_ ∧ some k_ ≠ (u6 : Value).ownBlock)) (HL195_0.out) (fun k_ hk => ⟨⟨hk.1, hk.2.1⟩, hk.2.2⟩))).2.1 (Kd.V_F (Kd.V_mono (ok' := (fun k_ => ((fun k_ => (P0_ k_ ∨ w.heap.size ≤ k_) ∧ some k_ ≠ (v193 : Value).ownBlock)) k_ ∧ some k_ ≠ (u6 : Value).ownBlock)) (HL195_0.out) (fun k_ hk => ⟨⟨hk.1, hk.2.1⟩, hk.2.2⟩))))); (case aB => exact (by repeat (first | (with_reducible first | exact HB.out | apply below_alloc | apply pw_below_drewN | apply below_drew1) | exact HB.out))); (case aF => exact (fun k_ hk => ⟨(.inr (Nat.le_trans (below_size (by repeat (first | (with_reducible first | exact HB.out | apply below_alloc | apply pw_below_drewN | apply below_drew1) | exact HB.out))) hk)), Kd.fresh' (Kd.R_lt (by (with_reducible repeat (first | apply Kd.R_alloc | apply Kd.R_drewN | apply Kd.R_drew)); exact HO_4.out)) k_ hk⟩)); (case aO => exact (by (with_reducible repeat (first | apply Kd.N_alloc | apply Kd.N_drewN | apply Kd.N_drew)); exact HO_6.out)); (case aS => exact (below_size (by repeat (first | (with_reducible first | exact HB.out | apply below_alloc | apply pw_below_drewN | apply below_drew1) | exact HB.out)))); (case aL => have := LMc12.out; omega); intro v197 w13 ho hb hg hat; rw [← Ny196.out] at ho; have n0_ := Aside0.mk (Kd.V_afterv (ok := (fun k_ => (P0_ k_ ∨ w.heap.size ≤ k_) ∧ some k_ ≠ (v193 : Value).ownBlock)) (by (with_reducible repeat (first | apply Kd.V_alloc | apply Kd.V_drewN | apply Kd.V_drew)); exact Kd.V_mono HO_0.out (fun _ hk => ⟨⟨hk.1, hk.2.1⟩, hk.2.2⟩)) hg hat); have n1_ := Aside0.mk (Kd.R_over' (by (with_reducible repeat (first | apply Kd.R_alloc | apply Kd.R_drewN | apply Kd.R_drew)); exact HO_4.out) (Kd.N_typed (by (with_reducible repeat (first | apply Kd.N_alloc | apply Kd.N_drewN | apply Kd.N_drew)); exact HO_6.out)) (by decide) hg); have n2_ := Aside0.mk (Kd.V_afterv (ok := (fun k_ => (P0_ k_ ∨ w.heap.size ≤ k_) ∧ some k_ ≠ (v193 : Value).ownBlock)) (by (with_reducible repeat (first | apply Kd.V_alloc | apply Kd.V_drewN | apply Kd.V_drew)); exact Kd.V_mono HL195_0.out (fun _ hk => ⟨⟨hk.1, hk.2.1⟩, hk.2.2⟩)) hg hat); have n3_ := Aside0.mk (hb); have n4_ := Aside0.mk (ho); clear HO_0; clear HO_4; clear HL195_0; clear HB; clear HO_6; have HO_0 := n0_; have HO_4 := n1_; have HL195_0 := n2_; have HB := n3_; have HO198 := n4_; clear n0_ n1_ n2_ n3_ n4_; clear ho hb hg hat)))
         go_roundg k1
         case measure => have := HK1.out; omega
         case rel => exact ⟨(y196), (wrap64 (x7_1 - 1)), (by first | rfl | (simp; done) | (simp [*]; done)), H', ⟨by have := HK1.out; omega⟩, ⟨by (with_reducible repeat (first | apply Kd.V_alloc | apply Kd.V_drewN | apply Kd.V_drew)); exact Kd.V_mono HO_0.out (fun _ hk => ⟨hk.1.1, ⟨hk.1.2, hk.2⟩⟩)⟩, ⟨by (with_reducible repeat (first | apply Kd.R_alloc | apply Kd.R_drewN | apply Kd.R_drew)); exact HO_4.out⟩, ⟨by (with_reducible repeat (first | apply Kd.N_alloc | apply Kd.N_drewN | apply Kd.N_drew)); exact HO198.out⟩, ⟨by repeat (first | (with_reducible first | exact HB.out | apply below_alloc | apply pw_below_drewN | apply below_drew1) | exact HB.out)⟩⟩
        ·
         rw [if_neg c12] at H
         exact absurd H (by simp)
       ·
        rw [if_neg c11] at H
        exact absurd H (by simp)
      ·
       rw [if_neg c10] at H
       exact absurd H (by simp)
     ·
      rw [if_neg c9] at H
      have c9b0 : decide (0 ≤ x7_1) = false := decide_eq_false c9
      clear c9
      replace H := Option.bind_eq_some_iff.mp H
      obtain ⟨⟨t199, t200⟩, A140, H⟩ := H
      replace H : (if t192 = 0 then (formelaw26_TableNeeds.l1 k1 l0 true t191 t199 t200 0) else (if true = true then (if t192 = 1 then (if t200 = 1 then (some ((t191.length : Int) == 0)) else (none)) else (none)) else (none))) = some r := H
      have A14 := Aside0.mk A140
      clear A140
      by_cases c15 : t192 = 0
      ·
       rw [if_pos c15] at H
       have c15b0 : (t192 == 0) = true := beq_iff_eq.mpr c15
       have c15b1 : (t192 != 0) = false := bne_eq_false_iff_eq.mpr c15
       clear c15
       have H' := Aside0.mk H
       clear H
       obtain ⟨Ao16, co16, eo16⟩ := Kd.N_slice HO_6.out
       subst eo16
       go_wp2_with (first | (go_at_call 12; (with_reducible refine (table_Needs.calls _ _ x6_1 t199 t200 _ ?side1 ?side2 A14.out).mono ?_); (case side1 => repeat (first | exact (Kd.N_reads' HO_6.out).2.2 | (with_reducible refine Kd.C_alloc ?_ _) | (with_reducible refine Kd.C_drewN ?_ _) | (with_reducible refine Kd.C_drew ?_))); (case side2 => exact (Kd.N_reads' HO_6.out).2.1); rintro e w17 ⟨v201, rfl, ho0, hb⟩; have n0_ := Aside0.mk (Kd.V_elder' (by (with_reducible repeat (first | apply Kd.V_alloc | apply Kd.V_drewN | apply Kd.V_drew)); exact HO_0.out) (Kd.R_base ho0) hb); have n1_ := Aside0.mk (Kd.R_elder' (by (with_reducible repeat (first | apply Kd.R_alloc | apply Kd.R_drewN | apply Kd.R_drew)); exact HO_4.out) (Kd.R_base ho0) hb); have n2_ := Aside0.mk (Kd.N_elder' (by (with_reducible repeat (first | apply Kd.N_alloc | apply Kd.N_drewN | apply Kd.N_drew)); exact HO_6.out) (Kd.R_base ho0) hb); have n3_ := Aside0.mk (Kd.R_lower (Kd.R_new' (Kd.R_newM (M := fun k_ => (w.heap.size ≤ k_)) ho0 (below_size (by repeat (first | (with_reducible first | exact HB.out | apply below_alloc | apply pw_below_drewN | apply below_drew1) | exact HB.out))) (fun k_ h_ => h_)) (Kd.R_lt (by (with_reducible repeat (first | apply Kd.R_alloc | apply Kd.R_drewN | apply Kd.R_drew)); exact HO_4.out))) (below_size (by repeat (first | (with_reducible first | exact HB.out | apply below_alloc | apply pw_below_drewN | apply below_drew1) | exact HB.out)))); have n4_ := Aside0.mk (below_step (by repeat (first | (with_reducible first | exact HB.out | apply below_alloc | apply pw_below_drewN | apply below_drew1) | exact HB.out)) hb); clear HO_0; clear HO_4; clear HO_6; clear HB; have HO_0 := n0_; have HO_4 := n1_; have HO_6 := n2_; have HO202 := n3_; have HB := n4_; clear n0_ n1_ n2_ n3_ n4_; (try clear hb); (try clear hb2); (try clear hk); (try clear hi); (try clear ho0)))
       repeat (go_quiet (fail); try go_wp2_with (first | (go_at_call 12; (with_reducible refine (table_Needs.calls _ _ x6_1 t199 t200 _ ?side1 ?side2 A14.out).mono ?_); (case side1 => repeat (first | exact (Kd.N_reads' HO_6.out).2.2 | (with_reducible refine Kd.C_alloc ?_ _) | (with_reducible refine Kd.C_drewN ?_ _) | (with_reducible refine Kd.C_drew ?_))); (case side2 => exact (Kd.N_reads' HO_6.out).2.1); rintro e w17 ⟨v201, rfl, ho0, hb⟩; have n0_ := Aside0.mk (Kd.V_elder' (by (with_reducible repeat (first | apply Kd.V_alloc | apply Kd.V_drewN | apply Kd.V_drew)); exact HO_0.out) (Kd.R_base ho0) hb); have n1_ := Aside0.mk (Kd.R_elder' (by (with_reducible repeat (first | apply Kd.R_alloc | apply Kd.R_drewN | apply Kd.R_drew)); exact HO_4.out) (Kd.R_base ho0) hb); have n2_ := Aside0.mk (Kd.N_elder' (by (with_reducible repeat (first | apply Kd.N_alloc | apply Kd.N_drewN | apply Kd.N_drew)); exact HO_6.out) (Kd.R_base ho0) hb); have n3_ := Aside0.mk (Kd.R_lower (Kd.R_new' (Kd.R_newM (M := fun k_ => (w.heap.size ≤ k_)) ho0 (below_size (by repeat (first | (with_reducible first | exact HB.out | apply below_alloc | apply pw_below_drewN | apply below_drew1) | exact HB.out))) (fun k_ h_ => h_)) (Kd.R_lt (by (with_reducible repeat (first | apply Kd.R_alloc | apply Kd.R_drewN | apply Kd.R_drew)); exact HO_4.out))) (below_size (by repeat (first | (with_reducible first | exact HB.out | apply below_alloc | apply pw_below_drewN | apply below_drew1) | exact HB.out)))); have n4_ := Aside0.mk (below_step (by repeat (first | (with_reducible first | exact HB.out | apply below_alloc | apply pw_below_drewN | apply below_drew1) | exact HB.out)) hb); clear HO_0; clear HO_4; clear HO_6; clear HB; have HO_0 := n0_; have HO_4 := n1_; have HO_6 := n2_; have HO202 := n3_; have HB := n4_; clear n0_ n1_ n2_ n3_ n4_; (try clear hb); (try clear hb2); (try clear hk); (try clear hi); (try clear ho0))))
       go_loopg [10] k1 (fun kq v10 w' => ∃ (x10_2 : Int), v10 = .int .i64 x10_2 ∧ Aside0 (formelaw26_TableNeeds.l1 kq l0 true t191 t199 t200 x10_2 = some r) ∧ Aside0 (kq ≤ k1) ∧ Aside0 (Kd.V (Kd.slice 29 k29) 23 w' w.heap.size (fun k_ => (P0_ k_ ∨ w.heap.size ≤ k_) ∧ some k_ ≠ (v193 : Value).ownBlock ∧ some k_ ≠ (v201 : Value).ownBlock) (.slice A0 l0.length c0) l0) ∧ Aside0 (Kd.R k29 29 w' w.heap.size (fun k_ => (w.heap.size ≤ k_) ∧ some k_ ≠ (v201 : Value).ownBlock) v193 t191) ∧ Aside0 (Kd.R k29 29 w' w.heap.size (fun k_ => (w.heap.size ≤ k_) ∧ some k_ ≠ (v193 : Value).ownBlock) v201 t199) ∧ Aside0 (Below w.heap.size w w'))
       case atStart => exact ⟨(0), (by first | rfl | (simp; done) | (simp [*]; done)), H', ⟨Nat.le_refl _⟩, ⟨by (with_reducible repeat (first | apply Kd.V_alloc | apply Kd.V_drewN | apply Kd.V_drew)); exact Kd.V_mono HO_0.out (fun _ hk => ⟨hk.1.1, ⟨hk.1.2.1, hk.2⟩⟩)⟩, ⟨by (with_reducible repeat (first | apply Kd.R_alloc | apply Kd.R_drewN | apply Kd.R_drew)); exact HO_4.out⟩, ⟨by (with_reducible repeat (first | apply Kd.R_alloc | apply Kd.R_drewN | apply Kd.R_drew)); exact Kd.R_mono HO202.out (fun _ hk => ⟨hk.1.1, hk.2⟩)⟩, ⟨by repeat (first | (with_reducible first | exact HB.out | apply below_alloc | apply pw_below_drewN | apply below_drew1) | exact HB.out)⟩⟩
       case round =>
        clear H'
        try clear c1
        try clear p1
        try clear q1
        try clear hx1
        try clear p2
        try clear c3
        try clear c4
        try clear c5
        try clear p6
        try clear c9
        try clear c9b0
        try clear c10
        try clear c10b0
        try clear c11
        try clear c11b0
        try clear c12
        try clear c15
        try clear c15b0
        try clear c15b1
        try clear hx195_0
        try clear p195
        try clear p2
        try clear p6
        try clear q195
        obtain ⟨x10_2, rfl, HA, HK2, HO_0, HO_4, HO_8, HB⟩ := hrel
        cases gk with
        | zero => exact absurd HA.out (by simp [formelaw26_TableNeeds.l1])
        | succ k2 =>
         have H := HA.out
         clear HA
         simp only [formelaw26_TableNeeds.l1] at H
         by_cases c18 : x10_2 < (t191.length : Int)
         ·
          rw [if_pos c18] at H
          have c18b0 : decide (x10_2 < (t191.length : Int)) = true := decide_eq_true c18
          clear c18
          have H' := Aside0.mk H
          clear H
          obtain ⟨Ao19, co19, eo19⟩ := Kd.R_slice HO_4.out
          subst eo19
          go_wp2
          repeat (go_quiet (fail); try go_wp2)
          go_loopg [11, 12, 13] k2 (fun kq v11 v12 v13 w' => ∃ (x11_3 : Bool) (x12_3 : Bool) (x13_3 : Int), v11 = .bool x11_3 ∧ v12 = .bool x12_3 ∧ v13 = .int .i64 x13_3 ∧ Aside0 (formelaw26_TableNeeds.l2 kq l0 true t191 t199 t200 x10_2 x11_3 x12_3 x13_3 = some r) ∧ Aside0 (kq ≤ k2) ∧ Aside0 (Kd.V (Kd.slice 29 k29) 23 w' w.heap.size (fun k_ => (P0_ k_ ∨ w.heap.size ≤ k_) ∧ some k_ ≠ ((.slice Ao19 t191.length co19) : Value).ownBlock ∧ some k_ ≠ (v201 : Value).ownBlock) (.slice A0 l0.length c0) l0) ∧ Aside0 (Kd.R k29 29 w' w.heap.size (fun k_ => (w.heap.size ≤ k_) ∧ some k_ ≠ (v201 : Value).ownBlock) (.slice Ao19 t191.length co19) t191) ∧ Aside0 (Kd.R k29 29 w' w.heap.size (fun k_ => (w.heap.size ≤ k_) ∧ some k_ ≠ ((.slice Ao19 t191.length co19) : Value).ownBlock) v201 t199) ∧ Aside0 (Below w.heap.size w w'))
          case atStart => exact ⟨(false), (false), (0), (by first | rfl | (simp; done) | (simp [*]; done)), (by first | rfl | (simp; done) | (simp [*]; done)), (by first | rfl | (simp; done) | (simp [*]; done)), H', ⟨Nat.le_refl _⟩, ⟨by (with_reducible repeat (first | apply Kd.V_alloc | apply Kd.V_drewN | apply Kd.V_drew)); exact HO_0.out⟩, ⟨by (with_reducible repeat (first | apply Kd.R_alloc | apply Kd.R_drewN | apply Kd.R_drew)); exact HO_4.out⟩, ⟨by (with_reducible repeat (first | apply Kd.R_alloc | apply Kd.R_drewN | apply Kd.R_drew)); exact HO_8.out⟩, ⟨by repeat (first | (with_reducible first | exact HB.out | apply below_alloc | apply pw_below_drewN | apply below_drew1) | exact HB.out)⟩⟩
          case round =>
           clear H'
           try clear c1
           try clear p1
           try clear q1
           try clear hx1
           try clear p2
           try clear c3
           try clear c4
           try clear c5
           try clear p6
           try clear c9
           try clear c9b0
           try clear c10
           try clear c10b0
           try clear c11
           try clear c11b0
           try clear c12
           try clear c15
           try clear c15b0
           try clear c15b1
           try clear c18
           try clear c18b0
           try clear c19
           try clear p19
           try clear q19
           try clear hx19
           try clear hx195_0
           try clear p1
           try clear p195
           try clear p2
           try clear p6
           try clear q1
           try clear q195
           obtain ⟨x11_3, x12_3, x13_3, rfl, rfl, rfl, HA, HK3, HO_0, HO_4, HO_8, HB⟩ := hrel
           cases gk with
           | zero => exact absurd HA.out (by simp [formelaw26_TableNeeds.l2])
           | succ k3 =>
            have H := HA.out
            clear HA
            simp only [formelaw26_TableNeeds.l2] at H
            by_cases c20 : x13_3 < (l0.length : Int)
            ·
             rw [if_pos c20] at H
             have c20b0 : decide (x13_3 < (l0.length : Int)) = true := decide_eq_true c20
             clear c20
             by_cases c21 : 0 ≤ x13_3
             ·
              rw [if_pos c21] at H
              have c21b0 : decide (0 ≤ x13_3) = true := decide_eq_true c21
              clear c21
              by_cases c22 : x10_2 ≥ ((rd_L2 l0 x13_3).length : Int)
              ·
               rw [if_pos c22] at H
               have c22b0 : decide (((rd_L2 l0 x13_3).length : Int) ≤ x10_2) = true := decide_eq_true c22
               clear c22
               have H' := Aside0.mk H
               clear H
               have p203 : 0 ≤ (x13_3 : Int) := of_decide_eq_true (by first | (with_reducible assumption) | assumption)
               have q203 : x13_3 < (l0.length : Int) := of_decide_eq_true (by first | (with_reducible assumption) | assumption)
               obtain ⟨ad203, A203_0, c203_0, e203, hx203_0, hl203_0, hi203_0⟩ := at_L2 (Kd.V_reads' HO_0.out).2.2 x13_3 p203 q203
               cases e203
               obtain ⟨ce203, hce203, hMe203, hcc203⟩ := Kd.V_get HO_0.out [] x13_3 p203 (by first | exact q203 | exact of_decide_eq_true (by first | (with_reducible assumption) | assumption) | (have e_ := (Kd.V_reads' HO_0.out).1; omega))
               obtain ⟨ua203_0, uc203_0, rfl, ul203_0, ge203_0⟩ := Kd.FK_slice_open hMe203
               have hv203_0 := hcc203 0 _ rfl
               rw [Nat.add_zero, show ((Kd.slice 29 k29)).sz = 1 from rfl, Nat.mul_one] at hv203_0
               replace hv203_0 := Option.some.inj (hv203_0.symm.trans hx203_0)
               injection hv203_0 with hva_ hvn_ hvc_
               rw [hva_] at ge203_0
               rw [hvc_] at ul203_0
               have HL203_0 := Aside0.mk (show Kd.V k29 29 _ w.heap.size _ _ (rd_L2 l0 x13_3) from Kd.V_mk ul203_0 ge203_0)
               clear hva_ hvn_ hvc_ ge203_0 ul203_0
               clear hcc203 hce203
               have HR203_0 := Aside0.mk hi203_0
               have HC203_0 := Aside0.mk hl203_0
               clear hi203_0 hl203_0
               replace p203 := eq_true p203
               replace q203 := eq_true q203
               go_wp2
               repeat (go_quiet (fail); try go_wp2)
               go_roundg k3
               case measure => have := HK1.out; have := HK2.out; have := HK3.out; omega
               case rel => exact ⟨(x11_3), (x12_3), (wrap64 (x13_3 + 1)), (by first | rfl | (simp; done) | (simp [*]; done)), (by first | rfl | (simp; done) | (simp [*]; done)), (by first | rfl | (simp; done) | (simp [*]; done)), H', ⟨by have := HK1.out; have := HK2.out; have := HK3.out; omega⟩, ⟨by (with_reducible repeat (first | apply Kd.V_alloc | apply Kd.V_drewN | apply Kd.V_drew)); exact HO_0.out⟩, ⟨by (with_reducible repeat (first | apply Kd.R_alloc | apply Kd.R_drewN | apply Kd.R_drew)); exact HO_4.out⟩, ⟨by (with_reducible repeat (first | apply Kd.R_alloc | apply Kd.R_drewN | apply Kd.R_drew)); exact HO_8.out⟩, ⟨by repeat (first | (with_reducible first | exact HB.out | apply below_alloc | apply pw_below_drewN | apply below_drew1) | exact HB.out)⟩⟩
              ·
               rw [if_neg c22] at H
               have c22b0 : decide (((rd_L2 l0 x13_3).length : Int) ≤ x10_2) = false := decide_eq_false c22
               clear c22
               by_cases c23 : 0 ≤ x10_2
               ·
                rw [if_pos c23] at H
                have c23b0 : decide (0 ≤ x10_2) = true := decide_eq_true c23
                clear c23
                by_cases c24 : x10_2 < ((rd_L2 l0 x13_3).length : Int)
                ·
                 rw [if_pos c24] at H
                 have c24b0 : decide (x10_2 < ((rd_L2 l0 x13_3).length : Int)) = true := decide_eq_true c24
                 clear c24
                 by_cases c25 : x10_2 < (t191.length : Int)
                 ·
                  rw [if_pos c25] at H
                  have c25b0 : decide (x10_2 < (t191.length : Int)) = true := decide_eq_true c25
                  clear c25
                  by_cases c26 : ((rd_T29 (rd_L2 l0 x13_3) x10_2).f0) > ((rd_T29 t191 x10_2).f0)
                  ·
                   rw [if_pos c26] at H
                   exact absurd H (by simp)
                  ·
                   rw [if_neg c26] at H
                   have c26b0 : decide (((rd_T29 t191 x10_2).f0) < ((rd_T29 (rd_L2 l0 x13_3) x10_2).f0)) = false := decide_eq_false c26
                   clear c26
                   by_cases c27 : ((rd_T29 (rd_L2 l0 x13_3) x10_2).f1) > ((rd_T29 t191 x10_2).f1)
                   ·
                    rw [if_pos c27] at H
                    exact absurd H (by simp)
                   ·
                    rw [if_neg c27] at H
                    have c27b0 : decide (((rd_T29 t191 x10_2).f1) < ((rd_T29 (rd_L2 l0 x13_3) x10_2).f1)) = false := decide_eq_false c27
                    clear c27
                    by_cases c28 : x11_3 = true
                    ·
                     subst c28
                     have H1 : (if x12_3 = true then (formelaw26_TableNeeds.l2 k3 l0 true t191 t199 t200 x10_2 true true (wrap64 (x13_3 + 1))) else (formelaw26_TableNeeds.l2 k3 l0 true t191 t199 t200 x10_2 true (((rd_T29 (rd_L2 l0 x13_3) x10_2).f1) == ((rd_T29 t191 x10_2).f1)) (wrap64 (x13_3 + 1)))) = some r := by rw [if_pos rfl] at H; exact H
                     clear H
                     have H := H1
                     clear H1
                     by_cases c29 : x12_3 = true
                     ·
                      subst c29
                      have H1 : (formelaw26_TableNeeds.l2 k3 l0 true t191 t199 t200 x10_2 true true (wrap64 (x13_3 + 1))) = some r := by rw [if_pos rfl] at H; exact H
                      clear H
                      have H := H1
                      clear H1
                      have H' := Aside0.mk H
                      clear H
                      have p203 : 0 ≤ (x13_3 : Int) := of_decide_eq_true (by first | (with_reducible assumption) | assumption)
                      have q203 : x13_3 < (l0.length : Int) := of_decide_eq_true (by first | (with_reducible assumption) | assumption)
                      obtain ⟨ad203, A203_0, c203_0, e203, hx203_0, hl203_0, hi203_0⟩ := at_L2 (Kd.V_reads' HO_0.out).2.2 x13_3 p203 q203
                      cases e203
                      obtain ⟨ce203, hce203, hMe203, hcc203⟩ := Kd.V_get HO_0.out [] x13_3 p203 (by first | exact q203 | exact of_decide_eq_true (by first | (with_reducible assumption) | assumption) | (have e_ := (Kd.V_reads' HO_0.out).1; omega))
                      obtain ⟨ua203_0, uc203_0, rfl, ul203_0, ge203_0⟩ := Kd.FK_slice_open hMe203
                      have hv203_0 := hcc203 0 _ rfl
                      rw [Nat.add_zero, show ((Kd.slice 29 k29)).sz = 1 from rfl, Nat.mul_one] at hv203_0
                      replace hv203_0 := Option.some.inj (hv203_0.symm.trans hx203_0)
                      injection hv203_0 with hva_ hvn_ hvc_
                      rw [hva_] at ge203_0
                      rw [hvc_] at ul203_0
                      have HL203_0 := Aside0.mk (show Kd.V k29 29 _ w.heap.size _ _ (rd_L2 l0 x13_3) from Kd.V_mk ul203_0 ge203_0)
                      clear hva_ hvn_ hvc_ ge203_0 ul203_0
                      clear hcc203 hce203
                      have HR203_0 := Aside0.mk hi203_0
                      have HC203_0 := Aside0.mk hl203_0
                      clear hi203_0 hl203_0
                      replace p203 := eq_true p203
                      replace q203 := eq_true q203
                      have p204 : 0 ≤ (x13_3 : Int) := of_decide_eq_true (by first | (with_reducible assumption) | assumption)
                      have q204 : x13_3 < (l0.length : Int) := of_decide_eq_true (by first | (with_reducible assumption) | assumption)
                      obtain ⟨ad204, A204_0, c204_0, e204, hx204_0, hl204_0, hi204_0⟩ := at_L2 (Kd.V_reads' HO_0.out).2.2 x13_3 p204 q204
                      obtain rfl : ad203 = ad204 := (by injection e204)
                      obtain ⟨ce204, hce204, hMe204, hcc204⟩ := Kd.V_get HO_0.out [] x13_3 p204 (by first | exact q204 | exact of_decide_eq_true (by first | (with_reducible assumption) | assumption) | (have e_ := (Kd.V_reads' HO_0.out).1; omega))
                      obtain ⟨ua204_0, uc204_0, rfl, ul204_0, ge204_0⟩ := Kd.FK_slice_open hMe204
                      have hv204_0 := hcc204 0 _ rfl
                      rw [Nat.add_zero, show ((Kd.slice 29 k29)).sz = 1 from rfl, Nat.mul_one] at hv204_0
                      replace hv204_0 := Option.some.inj (hv204_0.symm.trans hx204_0)
                      injection hv204_0 with hva_ hvn_ hvc_
                      rw [hva_] at ge204_0
                      rw [hvc_] at ul204_0
                      have HL204_0 := Aside0.mk (show Kd.V k29 29 _ w.heap.size _ _ (rd_L2 l0 x13_3) from Kd.V_mk ul204_0 ge204_0)
                      clear hva_ hvn_ hvc_ ge204_0 ul204_0
                      clear hcc204 hce204
                      have HR204_0 := Aside0.mk hi204_0
                      have HC204_0 := Aside0.mk hl204_0
                      clear hi204_0 hl204_0
                      replace p204 := eq_true p204
                      replace q204 := eq_true q204
                      have ea_ := Option.some.inj (hx203_0.symm.trans hx204_0)
                      injection ea_ with ea_ en_ ec_
                      subst ea_
                      subst ec_
                      clear en_
                      have p205 : 0 ≤ (x10_2 : Int) := of_decide_eq_true (by first | (with_reducible assumption) | assumption)
                      have q205 : x10_2 < ((rd_L2 l0 x13_3).length : Int) := of_decide_eq_true (by first | (with_reducible assumption) | assumption)
                      obtain ⟨ad205, e205, hx205_0, hx205_1⟩ := at_T29 (by repeat (first | (with_reducible exact HR204_0.out) | (with_reducible refine Kd.C_alloc ?_ _) | (with_reducible refine Kd.C_drewN ?_ _) | (with_reducible refine Kd.C_drew ?_) | exact HR204_0.out)) x10_2 p205 q205
                      cases e205
                      replace p205 := eq_true p205
                      replace q205 := eq_true q205
                      go_wp2_with (first | ((with_reducible refine gate_dst (N := 14) rfl ?_); (try (refine gate_guard (by rfl) ?_; dsimp only)); refine box_event ?hg (N := 14) ?hd (cs := #[.int .i64 0, .int .i64 0]) (t := 29) ?hr ?_; (case hd => rfl); (case hg => rfl); (case hr => first | (go_simp; done) | (go_simp; rfl)); intro gb206 hg w30 hbox hb; have n0_ := Aside0.mk (Kd.V_below (Kd.V_elderB (by (with_reducible repeat (first | apply Kd.V_alloc | apply Kd.V_drewN | apply Kd.V_drew)); exact HO_0.out) gb206 (Nat.le_of_eq hg.symm)) hb); have n1_ := Aside0.mk (Kd.R_below (Kd.R_elderB (by (with_reducible repeat (first | apply Kd.R_alloc | apply Kd.R_drewN | apply Kd.R_drew)); exact HO_4.out) gb206 (Nat.le_of_eq hg.symm)) hb); have n2_ := Aside0.mk (Kd.R_below (Kd.R_elderB (by (with_reducible repeat (first | apply Kd.R_alloc | apply Kd.R_drewN | apply Kd.R_drew)); exact HO_8.out) gb206 (Nat.le_of_eq hg.symm)) hb); have n3_ := Aside0.mk (Kd.V_below (Kd.V_elderB (by (with_reducible repeat (first | apply Kd.V_alloc | apply Kd.V_drewN | apply Kd.V_drew)); exact HL203_0.out) gb206 (Nat.le_of_eq hg.symm)) hb); have n4_ := Aside0.mk (Kd.V_below (Kd.V_elderB (by (with_reducible repeat (first | apply Kd.V_alloc | apply Kd.V_drewN | apply Kd.V_drew)); exact HL204_0.out) gb206 (Nat.le_of_eq hg.symm)) hb); have n5_ := Aside0.mk (Kd.C_below (by repeat (first | (with_reducible exact HR203_0.out) | (with_reducible refine Kd.C_alloc ?_ _) | (with_reducible refine Kd.C_drewN ?_ _) | (with_reducible refine Kd.C_drew ?_) | exact HR203_0.out)) hb); have n6_ := Aside0.mk (Kd.C_below (by repeat (first | (with_reducible exact HR204_0.out) | (with_reducible refine Kd.C_alloc ?_ _) | (with_reducible refine Kd.C_drewN ?_ _) | (with_reducible refine Kd.C_drew ?_) | exact HR204_0.out)) hb); have n7_ := Aside0.mk (below_step (by repeat (first | (with_reducible first | exact HB.out | apply below_alloc | apply pw_below_drewN | apply below_drew1) | exact HB.out)) hb); have n8_ := Aside0.mk (hbox); have n9_ := Aside0.mk ((by rw [hg]; exact (below_size (by repeat (first | (with_reducible first | exact HB.out | apply below_alloc | apply pw_below_drewN | apply below_drew1) | exact HB.out))) : w.heap.size ≤ gb206)); have n10_ := Aside0.mk ((by rw [hg]; exact (below_size (by repeat (first | (with_reducible first | exact HB.out | apply below_alloc | apply pw_below_drewN | apply below_drew1) | exact HB.out))) : w.heap.size ≤ gb206)); clear HO_0; clear HO_4; clear HO_8; clear HL203_0; clear HL204_0; clear HR203_0; clear HR204_0; clear HB; have HO_0 := n0_; have HO_4 := n1_; have HO_8 := n2_; have HL203_0 := n3_; have HL204_0 := n4_; have HR203_0 := n5_; have HR204_0 := n6_; have HB := n7_; have BK206 := n8_; have GW206 := n9_; have GE206 := n10_; clear n0_ n1_ n2_ n3_ n4_ n5_ n6_ n7_ n8_ n9_ n10_; clear hb hbox hg; have hcz31_0 : w30.cell? ⟨gb206, 0, none⟩ = some (.int .i64 0) := (blk_cell BK206.out 0).trans rfl; have hcz31_1 : w30.cell? ⟨gb206, 1, none⟩ = some (.int .i64 0) := (blk_cell BK206.out 1).trans rfl; have hfz31_0 := blk_frozen BK206.out 0; have hfz31_1 := blk_frozen BK206.out 1; have p207 : 0 ≤ (x10_2 : Int) := of_decide_eq_true (by first | (with_reducible assumption) | assumption); have q207 : x10_2 < (t191.length : Int) := of_decide_eq_true (by first | (with_reducible assumption) | assumption); obtain ⟨ad207, e207, hx207_0, hx207_1⟩ := at_T29 (Kd.R_reads' HO_4.out).2.2 x10_2 p207 q207; cases e207; have hn207_0 : ad207.block ≠ gb206 := Kd.own_blk (by first | exact Kd.R_ne HO_4.out BK206.out (by decide) | exact (fun e_ => by have h_ := HO_4.out.1 _ e_.symm; simp at h_)); have hn207_1 : ad207.block ≠ gb206 := Kd.own_blk (by first | exact Kd.R_ne HO_4.out BK206.out (by decide) | exact (fun e_ => by have h_ := HO_4.out.1 _ e_.symm; simp at h_)); replace hx207_0 := (cell_far (p := ⟨gb206, 0, none⟩) (by first | (rw [add_block]; exact hn207_0) | (show (Addr.add _ _).block ≠ _; rw [add_block]; exact hn207_0) | exact hn207_0) (.int .i64 ((rd_T29 (rd_L2 l0 x13_3) x10_2).f0))).trans hx207_0; replace hx207_1 := (cell_far (p := ⟨gb206, 0, none⟩) (by first | (rw [add_block]; exact hn207_0) | (show (Addr.add _ _).block ≠ _; rw [add_block]; exact hn207_0) | exact hn207_0) (.int .i64 ((rd_T29 (rd_L2 l0 x13_3) x10_2).f0))).trans hx207_1; replace hx207_0 := (cell_far (p := ⟨gb206, 1, none⟩) (by first | (rw [add_block]; exact hn207_1) | (show (Addr.add _ _).block ≠ _; rw [add_block]; exact hn207_1) | exact hn207_1) (.int .i64 ((rd_T29 (rd_L2 l0 x13_3) x10_2).f1))).trans hx207_0; replace hx207_1 := (cell_far (p := ⟨gb206, 1, none⟩) (by first | (rw [add_block]; exact hn207_1) | (show (Addr.add _ _).block ≠ _; rw [add_block]; exact hn207_1) | exact hn207_1) (.int .i64 ((rd_T29 (rd_L2 l0 x13_3) x10_2).f1))).trans hx207_1; (try have hy207_0 := fun (n_ : Nat) => (show ((((w30.drewN n_).setCell ⟨gb206, 0, none⟩ (.int .i64 ((rd_T29 (rd_L2 l0 x13_3) x10_2).f0))).setCell ⟨gb206, 1, none⟩ (.int .i64 ((rd_T29 (rd_L2 l0 x13_3) x10_2).f1)))).cell? _ = some _ from hx207_0)); (try have hy207_1 := fun (n_ : Nat) => (show ((((w30.drewN n_).setCell ⟨gb206, 0, none⟩ (.int .i64 ((rd_T29 (rd_L2 l0 x13_3) x10_2).f0))).setCell ⟨gb206, 1, none⟩ (.int .i64 ((rd_T29 (rd_L2 l0 x13_3) x10_2).f1)))).cell? _ = some _ from hx207_1)); clear hn207_0; clear hn207_1; replace p207 := eq_true p207; replace q207 := eq_true q207; have p208 : 0 ≤ (x10_2 : Int) := of_decide_eq_true (by first | (with_reducible assumption) | assumption); have q208 : x10_2 < (t191.length : Int) := of_decide_eq_true (by first | (with_reducible assumption) | assumption); obtain ⟨ad208, e208, hx208_0, hx208_1⟩ := at_T29 (Kd.R_reads' HO_4.out).2.2 x10_2 p208 q208; obtain rfl : ad207 = ad208 := (by injection e208); have hn208_0 : ad207.block ≠ gb206 := Kd.own_blk (by first | exact Kd.R_ne HO_4.out BK206.out (by decide) | exact (fun e_ => by have h_ := HO_4.out.1 _ e_.symm; simp at h_)); have hn208_1 : ad207.block ≠ gb206 := Kd.own_blk (by first | exact Kd.R_ne HO_4.out BK206.out (by decide) | exact (fun e_ => by have h_ := HO_4.out.1 _ e_.symm; simp at h_)); replace hx208_0 := (cell_far (p := ⟨gb206, 0, none⟩) (by first | (rw [add_block]; exact hn208_0) | (show (Addr.add _ _).block ≠ _; rw [add_block]; exact hn208_0) | exact hn208_0) (.int .i64 ((rd_T29 (rd_L2 l0 x13_3) x10_2).f0))).trans hx208_0; replace hx208_1 := (cell_far (p := ⟨gb206, 0, none⟩) (by first | (rw [add_block]; exact hn208_0) | (show (Addr.add _ _).block ≠ _; rw [add_block]; exact hn208_0) | exact hn208_0) (.int .i64 ((rd_T29 (rd_L2 l0 x13_3) x10_2).f0))).trans hx208_1; replace hx208_0 := (cell_far (p := ⟨gb206, 1, none⟩) (by first | (rw [add_block]; exact hn208_1) | (show (Addr.add _ _).block ≠ _; rw [add_block]; exact hn208_1) | exact hn208_1) (.int .i64 ((rd_T29 (rd_L2 l0 x13_3) x10_2).f1))).trans hx208_0; replace hx208_1 := (cell_far (p := ⟨gb206, 1, none⟩) (by first | (rw [add_block]; exact hn208_1) | (show (Addr.add _ _).block ≠ _; rw [add_block]; exact hn208_1) | exact hn208_1) (.int .i64 ((rd_T29 (rd_L2 l0 x13_3) x10_2).f1))).trans hx208_1; (try have hy208_0 := fun (n_ : Nat) => (show ((((w30.drewN n_).setCell ⟨gb206, 0, none⟩ (.int .i64 ((rd_T29 (rd_L2 l0 x13_3) x10_2).f0))).setCell ⟨gb206, 1, none⟩ (.int .i64 ((rd_T29 (rd_L2 l0 x13_3) x10_2).f1)))).cell? _ = some _ from hx208_0)); (try have hy208_1 := fun (n_ : Nat) => (show ((((w30.drewN n_).setCell ⟨gb206, 0, none⟩ (.int .i64 ((rd_T29 (rd_L2 l0 x13_3) x10_2).f0))).setCell ⟨gb206, 1, none⟩ (.int .i64 ((rd_T29 (rd_L2 l0 x13_3) x10_2).f1)))).cell? _ = some _ from hx208_1)); clear hn208_0; clear hn208_1; replace p208 := eq_true p208; replace q208 := eq_true q208))
                      repeat (go_quiet (fail); try go_wp2_with (first | ((with_reducible refine gate_dst (N := 14) rfl ?_); (try (refine gate_guard (by rfl) ?_; dsimp only)); refine box_event ?hg (N := 14) ?hd (cs := #[.int .i64 0, .int .i64 0]) (t := 29) ?hr ?_; (case hd => rfl); (case hg => rfl); (case hr => first | (go_simp; done) | (go_simp; rfl)); intro gb206 hg w30 hbox hb; have n0_ := Aside0.mk (Kd.V_below (Kd.V_elderB (by (with_reducible repeat (first | apply Kd.V_alloc | apply Kd.V_drewN | apply Kd.V_drew)); exact HO_0.out) gb206 (Nat.le_of_eq hg.symm)) hb); have n1_ := Aside0.mk (Kd.R_below (Kd.R_elderB (by (with_reducible repeat (first | apply Kd.R_alloc | apply Kd.R_drewN | apply Kd.R_drew)); exact HO_4.out) gb206 (Nat.le_of_eq hg.symm)) hb); have n2_ := Aside0.mk (Kd.R_below (Kd.R_elderB (by (with_reducible repeat (first | apply Kd.R_alloc | apply Kd.R_drewN | apply Kd.R_drew)); exact HO_8.out) gb206 (Nat.le_of_eq hg.symm)) hb); have n3_ := Aside0.mk (Kd.V_below (Kd.V_elderB (by (with_reducible repeat (first | apply Kd.V_alloc | apply Kd.V_drewN | apply Kd.V_drew)); exact HL203_0.out) gb206 (Nat.le_of_eq hg.symm)) hb); have n4_ := Aside0.mk (Kd.V_below (Kd.V_elderB (by (with_reducible repeat (first | apply Kd.V_alloc | apply Kd.V_drewN | apply Kd.V_drew)); exact HL204_0.out) gb206 (Nat.le_of_eq hg.symm)) hb); have n5_ := Aside0.mk (Kd.C_below (by repeat (first | (with_reducible exact HR203_0.out) | (with_reducible refine Kd.C_alloc ?_ _) | (with_reducible refine Kd.C_drewN ?_ _) | (with_reducible refine Kd.C_drew ?_) | exact HR203_0.out)) hb); have n6_ := Aside0.mk (Kd.C_below (by repeat (first | (with_reducible exact HR204_0.out) | (with_reducible refine Kd.C_alloc ?_ _) | (with_reducible refine Kd.C_drewN ?_ _) | (with_reducible refine Kd.C_drew ?_) | exact HR204_0.out)) hb); have n7_ := Aside0.mk (below_step (by repeat (first | (with_reducible first | exact HB.out | apply below_alloc | apply pw_below_drewN | apply below_drew1) | exact HB.out)) hb); have n8_ := Aside0.mk (hbox); have n9_ := Aside0.mk ((by rw [hg]; exact (below_size (by repeat (first | (with_reducible first | exact HB.out | apply below_alloc | apply pw_below_drewN | apply below_drew1) | exact HB.out))) : w.heap.size ≤ gb206)); have n10_ := Aside0.mk ((by rw [hg]; exact (below_size (by repeat (first | (with_reducible first | exact HB.out | apply below_alloc | apply pw_below_drewN | apply below_drew1) | exact HB.out))) : w.heap.size ≤ gb206)); clear HO_0; clear HO_4; clear HO_8; clear HL203_0; clear HL204_0; clear HR203_0; clear HR204_0; clear HB; have HO_0 := n0_; have HO_4 := n1_; have HO_8 := n2_; have HL203_0 := n3_; have HL204_0 := n4_; have HR203_0 := n5_; have HR204_0 := n6_; have HB := n7_; have BK206 := n8_; have GW206 := n9_; have GE206 := n10_; clear n0_ n1_ n2_ n3_ n4_ n5_ n6_ n7_ n8_ n9_ n10_; clear hb hbox hg; have hcz31_0 : w30.cell? ⟨gb206, 0, none⟩ = some (.int .i64 0) := (blk_cell BK206.out 0).trans rfl; have hcz31_1 : w30.cell? ⟨gb206, 1, none⟩ = some (.int .i64 0) := (blk_cell BK206.out 1).trans rfl; have hfz31_0 := blk_frozen BK206.out 0; have hfz31_1 := blk_frozen BK206.out 1; have p207 : 0 ≤ (x10_2 : Int) := of_decide_eq_true (by first | (with_reducible assumption) | assumption); have q207 : x10_2 < (t191.length : Int) := of_decide_eq_true (by first | (with_reducible assumption) | assumption); obtain ⟨ad207, e207, hx207_0, hx207_1⟩ := at_T29 (Kd.R_reads' HO_4.out).2.2 x10_2 p207 q207; cases e207; have hn207_0 : ad207.block ≠ gb206 := Kd.own_blk (by first | exact Kd.R_ne HO_4.out BK206.out (by decide) | exact (fun e_ => by have h_ := HO_4.out.1 _ e_.symm; simp at h_)); have hn207_1 : ad207.block ≠ gb206 := Kd.own_blk (by first | exact Kd.R_ne HO_4.out BK206.out (by decide) | exact (fun e_ => by have h_ := HO_4.out.1 _ e_.symm; simp at h_)); replace hx207_0 := (cell_far (p := ⟨gb206, 0, none⟩) (by first | (rw [add_block]; exact hn207_0) | (show (Addr.add _ _).block ≠ _; rw [add_block]; exact hn207_0) | exact hn207_0) (.int .i64 ((rd_T29 (rd_L2 l0 x13_3) x10_2).f0))).trans hx207_0; replace hx207_1 := (cell_far (p := ⟨gb206, 0, none⟩) (by first | (rw [add_block]; exact hn207_0) | (show (Addr.add _ _).block ≠ _; rw [add_block]; exact hn207_0) | exact hn207_0) (.int .i64 ((rd_T29 (rd_L2 l0 x13_3) x10_2).f0))).trans hx207_1; replace hx207_0 := (cell_far (p := ⟨gb206, 1, none⟩) (by first | (rw [add_block]; exact hn207_1) | (show (Addr.add _ _).block ≠ _; rw [add_block]; exact hn207_1) | exact hn207_1) (.int .i64 ((rd_T29 (rd_L2 l0 x13_3) x10_2).f1))).trans hx207_0; replace hx207_1 := (cell_far (p := ⟨gb206, 1, none⟩) (by first | (rw [add_block]; exact hn207_1) | (show (Addr.add _ _).block ≠ _; rw [add_block]; exact hn207_1) | exact hn207_1) (.int .i64 ((rd_T29 (rd_L2 l0 x13_3) x10_2).f1))).trans hx207_1; (try have hy207_0 := fun (n_ : Nat) => (show ((((w30.drewN n_).setCell ⟨gb206, 0, none⟩ (.int .i64 ((rd_T29 (rd_L2 l0 x13_3) x10_2).f0))).setCell ⟨gb206, 1, none⟩ (.int .i64 ((rd_T29 (rd_L2 l0 x13_3) x10_2).f1)))).cell? _ = some _ from hx207_0)); (try have hy207_1 := fun (n_ : Nat) => (show ((((w30.drewN n_).setCell ⟨gb206, 0, none⟩ (.int .i64 ((rd_T29 (rd_L2 l0 x13_3) x10_2).f0))).setCell ⟨gb206, 1, none⟩ (.int .i64 ((rd_T29 (rd_L2 l0 x13_3) x10_2).f1)))).cell? _ = some _ from hx207_1)); clear hn207_0; clear hn207_1; replace p207 := eq_true p207; replace q207 := eq_true q207; have p208 : 0 ≤ (x10_2 : Int) := of_decide_eq_true (by first | (with_reducible assumption) | assumption); have q208 : x10_2 < (t191.length : Int) := of_decide_eq_true (by first | (with_reducible assumption) | assumption); obtain ⟨ad208, e208, hx208_0, hx208_1⟩ := at_T29 (Kd.R_reads' HO_4.out).2.2 x10_2 p208 q208; obtain rfl : ad207 = ad208 := (by injection e208); have hn208_0 : ad207.block ≠ gb206 := Kd.own_blk (by first | exact Kd.R_ne HO_4.out BK206.out (by decide) | exact (fun e_ => by have h_ := HO_4.out.1 _ e_.symm; simp at h_)); have hn208_1 : ad207.block ≠ gb206 := Kd.own_blk (by first | exact Kd.R_ne HO_4.out BK206.out (by decide) | exact (fun e_ => by have h_ := HO_4.out.1 _ e_.symm; simp at h_)); replace hx208_0 := (cell_far (p := ⟨gb206, 0, none⟩) (by first | (rw [add_block]; exact hn208_0) | (show (Addr.add _ _).block ≠ _; rw [add_block]; exact hn208_0) | exact hn208_0) (.int .i64 ((rd_T29 (rd_L2 l0 x13_3) x10_2).f0))).trans hx208_0; replace hx208_1 := (cell_far (p := ⟨gb206, 0, none⟩) (by first | (rw [add_block]; exact hn208_0) | (show (Addr.add _ _).block ≠ _; rw [add_block]; exact hn208_0) | exact hn208_0) (.int .i64 ((rd_T29 (rd_L2 l0 x13_3) x10_2).f0))).trans hx208_1; replace hx208_0 := (cell_far (p := ⟨gb206, 1, none⟩) (by first | (rw [add_block]; exact hn208_1) | (show (Addr.add _ _).block ≠ _; rw [add_block]; exact hn208_1) | exact hn208_1) (.int .i64 ((rd_T29 (rd_L2 l0 x13_3) x10_2).f1))).trans hx208_0; replace hx208_1 := (cell_far (p := ⟨gb206, 1, none⟩) (by first | (rw [add_block]; exact hn208_1) | (show (Addr.add _ _).block ≠ _; rw [add_block]; exact hn208_1) | exact hn208_1) (.int .i64 ((rd_T29 (rd_L2 l0 x13_3) x10_2).f1))).trans hx208_1; (try have hy208_0 := fun (n_ : Nat) => (show ((((w30.drewN n_).setCell ⟨gb206, 0, none⟩ (.int .i64 ((rd_T29 (rd_L2 l0 x13_3) x10_2).f0))).setCell ⟨gb206, 1, none⟩ (.int .i64 ((rd_T29 (rd_L2 l0 x13_3) x10_2).f1)))).cell? _ = some _ from hx208_0)); (try have hy208_1 := fun (n_ : Nat) => (show ((((w30.drewN n_).setCell ⟨gb206, 0, none⟩ (.int .i64 ((rd_T29 (rd_L2 l0 x13_3) x10_2).f0))).setCell ⟨gb206, 1, none⟩ (.int .i64 ((rd_T29 (rd_L2 l0 x13_3) x10_2).f1)))).cell? _ = some _ from hx208_1)); clear hn208_0; clear hn208_1; replace p208 := eq_true p208; replace q208 := eq_true q208)))
                      go_roundg k3
                      case measure => have := HK1.out; have := HK2.out; have := HK3.out; omega
                      case rel => exact ⟨(true), (true), (wrap64 (x13_3 + 1)), (by first | rfl | (simp; done) | (simp [*]; done)), (by first | rfl | (simp; done) | (simp [*]; done)), (by first | rfl | (simp; done) | (simp [*]; done)), H', ⟨by have := HK1.out; have := HK2.out; have := HK3.out; omega⟩, ⟨by (with_reducible repeat (first | apply Kd.V_alloc | apply Kd.V_drewN | apply Kd.V_drew)); exact Kd.V_mono (Kd.V_far (p := ⟨gb206, 1, none⟩) (Kd.V_far (p := ⟨gb206, 0, none⟩) (Kd.V_mono HO_0.out (fun k_ hk => (⟨hk, hk.2⟩ : _ ∧ k_ ≠ gb206))) (fun _ hk => hk.2) (.int .i64 ((rd_T29 (rd_L2 l0 x13_3) x10_2).f0))) (fun _ hk => hk.2) (.int .i64 ((rd_T29 (rd_L2 l0 x13_3) x10_2).f1))) (fun _ hk => ⟨hk.1.1.1, ⟨hk.1.1.2.1, hk.1.1.2.2⟩⟩)⟩, ⟨by (with_reducible repeat (first | apply Kd.R_alloc | apply Kd.R_drewN | apply Kd.R_drew)); exact Kd.R_mono (Kd.R_far (p := ⟨gb206, 1, none⟩) (Kd.R_far (p := ⟨gb206, 0, none⟩) (Kd.R_mono HO_4.out (fun k_ hk => (⟨hk, hk.2⟩ : _ ∧ k_ ≠ gb206))) (fun _ hk => hk.2) (.int .i64 ((rd_T29 (rd_L2 l0 x13_3) x10_2).f0))) (fun _ hk => hk.2) (.int .i64 ((rd_T29 (rd_L2 l0 x13_3) x10_2).f1))) (fun _ hk => ⟨hk.1.1.1, hk.1.1.2⟩)⟩, ⟨by (with_reducible repeat (first | apply Kd.R_alloc | apply Kd.R_drewN | apply Kd.R_drew)); exact Kd.R_mono (Kd.R_far (p := ⟨gb206, 1, none⟩) (Kd.R_far (p := ⟨gb206, 0, none⟩) (Kd.R_mono HO_8.out (fun k_ hk => (⟨hk, hk.2⟩ : _ ∧ k_ ≠ gb206))) (fun _ hk => hk.2) (.int .i64 ((rd_T29 (rd_L2 l0 x13_3) x10_2).f0))) (fun _ hk => hk.2) (.int .i64 ((rd_T29 (rd_L2 l0 x13_3) x10_2).f1))) (fun _ hk => ⟨hk.1.1.1, hk.1.1.2⟩)⟩, ⟨by repeat (first | (with_reducible first | exact HB.out | apply below_alloc | apply pw_below_drewN | apply below_drew1 | refine below_set ?_ GE206.out) | exact HB.out)⟩⟩
                     ·
                      replace c29 := Bool.eq_false_iff.mpr c29
                      subst c29
                      have H1 : (formelaw26_TableNeeds.l2 k3 l0 true t191 t199 t200 x10_2 true (((rd_T29 (rd_L2 l0 x13_3) x10_2).f1) == ((rd_T29 t191 x10_2).f1)) (wrap64 (x13_3 + 1))) = some r := by rw [if_neg (show ¬ (false = true) by decide)] at H; exact H
                      clear H
                      have H := H1
                      clear H1
                      have H' := Aside0.mk H
                      clear H
                      have p203 : 0 ≤ (x13_3 : Int) := of_decide_eq_true (by first | (with_reducible assumption) | assumption)
                      have q203 : x13_3 < (l0.length : Int) := of_decide_eq_true (by first | (with_reducible assumption) | assumption)
                      obtain ⟨ad203, A203_0, c203_0, e203, hx203_0, hl203_0, hi203_0⟩ := at_L2 (Kd.V_reads' HO_0.out).2.2 x13_3 p203 q203
                      cases e203
                      obtain ⟨ce203, hce203, hMe203, hcc203⟩ := Kd.V_get HO_0.out [] x13_3 p203 (by first | exact q203 | exact of_decide_eq_true (by first | (with_reducible assumption) | assumption) | (have e_ := (Kd.V_reads' HO_0.out).1; omega))
                      obtain ⟨ua203_0, uc203_0, rfl, ul203_0, ge203_0⟩ := Kd.FK_slice_open hMe203
                      have hv203_0 := hcc203 0 _ rfl
                      rw [Nat.add_zero, show ((Kd.slice 29 k29)).sz = 1 from rfl, Nat.mul_one] at hv203_0
                      replace hv203_0 := Option.some.inj (hv203_0.symm.trans hx203_0)
                      injection hv203_0 with hva_ hvn_ hvc_
                      rw [hva_] at ge203_0
                      rw [hvc_] at ul203_0
                      have HL203_0 := Aside0.mk (show Kd.V k29 29 _ w.heap.size _ _ (rd_L2 l0 x13_3) from Kd.V_mk ul203_0 ge203_0)
                      clear hva_ hvn_ hvc_ ge203_0 ul203_0
                      clear hcc203 hce203
                      have HR203_0 := Aside0.mk hi203_0
                      have HC203_0 := Aside0.mk hl203_0
                      clear hi203_0 hl203_0
                      replace p203 := eq_true p203
                      replace q203 := eq_true q203
                      have p204 : 0 ≤ (x13_3 : Int) := of_decide_eq_true (by first | (with_reducible assumption) | assumption)
                      have q204 : x13_3 < (l0.length : Int) := of_decide_eq_true (by first | (with_reducible assumption) | assumption)
                      obtain ⟨ad204, A204_0, c204_0, e204, hx204_0, hl204_0, hi204_0⟩ := at_L2 (Kd.V_reads' HO_0.out).2.2 x13_3 p204 q204
                      obtain rfl : ad203 = ad204 := (by injection e204)
                      obtain ⟨ce204, hce204, hMe204, hcc204⟩ := Kd.V_get HO_0.out [] x13_3 p204 (by first | exact q204 | exact of_decide_eq_true (by first | (with_reducible assumption) | assumption) | (have e_ := (Kd.V_reads' HO_0.out).1; omega))
                      obtain ⟨ua204_0, uc204_0, rfl, ul204_0, ge204_0⟩ := Kd.FK_slice_open hMe204
                      have hv204_0 := hcc204 0 _ rfl
                      rw [Nat.add_zero, show ((Kd.slice 29 k29)).sz = 1 from rfl, Nat.mul_one] at hv204_0
                      replace hv204_0 := Option.some.inj (hv204_0.symm.trans hx204_0)
                      injection hv204_0 with hva_ hvn_ hvc_
                      rw [hva_] at ge204_0
                      rw [hvc_] at ul204_0
                      have HL204_0 := Aside0.mk (show Kd.V k29 29 _ w.heap.size _ _ (rd_L2 l0 x13_3) from Kd.V_mk ul204_0 ge204_0)
                      clear hva_ hvn_ hvc_ ge204_0 ul204_0
                      clear hcc204 hce204
                      have HR204_0 := Aside0.mk hi204_0
                      have HC204_0 := Aside0.mk hl204_0
                      clear hi204_0 hl204_0
                      replace p204 := eq_true p204
                      replace q204 := eq_true q204
                      have ea_ := Option.some.inj (hx203_0.symm.trans hx204_0)
                      injection ea_ with ea_ en_ ec_
                      subst ea_
                      subst ec_
                      clear en_
                      have p205 : 0 ≤ (x10_2 : Int) := of_decide_eq_true (by first | (with_reducible assumption) | assumption)
                      have q205 : x10_2 < ((rd_L2 l0 x13_3).length : Int) := of_decide_eq_true (by first | (with_reducible assumption) | assumption)
                      obtain ⟨ad205, e205, hx205_0, hx205_1⟩ := at_T29 (by repeat (first | (with_reducible exact HR204_0.out) | (with_reducible refine Kd.C_alloc ?_ _) | (with_reducible refine Kd.C_drewN ?_ _) | (with_reducible refine Kd.C_drew ?_) | exact HR204_0.out)) x10_2 p205 q205
                      cases e205
                      replace p205 := eq_true p205
                      replace q205 := eq_true q205
                      go_wp2_with (first | ((with_reducible refine gate_dst (N := 14) rfl ?_); (try (refine gate_guard (by rfl) ?_; dsimp only)); refine box_event ?hg (N := 14) ?hd (cs := #[.int .i64 0, .int .i64 0]) (t := 29) ?hr ?_; (case hd => rfl); (case hg => rfl); (case hr => first | (go_simp; done) | (go_simp; rfl)); intro gb206 hg w32 hbox hb; have n0_ := Aside0.mk (Kd.V_below (Kd.V_elderB (by (with_reducible repeat (first | apply Kd.V_alloc | apply Kd.V_drewN | apply Kd.V_drew)); exact HO_0.out) gb206 (Nat.le_of_eq hg.symm)) hb); have n1_ := Aside0.mk (Kd.R_below (Kd.R_elderB (by (with_reducible repeat (first | apply Kd.R_alloc | apply Kd.R_drewN | apply Kd.R_drew)); exact HO_4.out) gb206 (Nat.le_of_eq hg.symm)) hb); have n2_ := Aside0.mk (Kd.R_below (Kd.R_elderB (by (with_reducible repeat (first | apply Kd.R_alloc | apply Kd.R_drewN | apply Kd.R_drew)); exact HO_8.out) gb206 (Nat.le_of_eq hg.symm)) hb); have n3_ := Aside0.mk (Kd.V_below (Kd.V_elderB (by (with_reducible repeat (first | apply Kd.V_alloc | apply Kd.V_drewN | apply Kd.V_drew)); exact HL203_0.out) gb206 (Nat.le_of_eq hg.symm)) hb); have n4_ := Aside0.mk (Kd.V_below (Kd.V_elderB (by (with_reducible repeat (first | apply Kd.V_alloc | apply Kd.V_drewN | apply Kd.V_drew)); exact HL204_0.out) gb206 (Nat.le_of_eq hg.symm)) hb); have n5_ := Aside0.mk (Kd.C_below (by repeat (first | (with_reducible exact HR203_0.out) | (with_reducible refine Kd.C_alloc ?_ _) | (with_reducible refine Kd.C_drewN ?_ _) | (with_reducible refine Kd.C_drew ?_) | exact HR203_0.out)) hb); have n6_ := Aside0.mk (Kd.C_below (by repeat (first | (with_reducible exact HR204_0.out) | (with_reducible refine Kd.C_alloc ?_ _) | (with_reducible refine Kd.C_drewN ?_ _) | (with_reducible refine Kd.C_drew ?_) | exact HR204_0.out)) hb); have n7_ := Aside0.mk (below_step (by repeat (first | (with_reducible first | exact HB.out | apply below_alloc | apply pw_below_drewN | apply below_drew1) | exact HB.out)) hb); have n8_ := Aside0.mk (hbox); have n9_ := Aside0.mk ((by rw [hg]; exact (below_size (by repeat (first | (with_reducible first | exact HB.out | apply below_alloc | apply pw_below_drewN | apply below_drew1) | exact HB.out))) : w.heap.size ≤ gb206)); have n10_ := Aside0.mk ((by rw [hg]; exact (below_size (by repeat (first | (with_reducible first | exact HB.out | apply below_alloc | apply pw_below_drewN | apply below_drew1) | exact HB.out))) : w.heap.size ≤ gb206)); clear HO_0; clear HO_4; clear HO_8; clear HL203_0; clear HL204_0; clear HR203_0; clear HR204_0; clear HB; have HO_0 := n0_; have HO_4 := n1_; have HO_8 := n2_; have HL203_0 := n3_; have HL204_0 := n4_; have HR203_0 := n5_; have HR204_0 := n6_; have HB := n7_; have BK206 := n8_; have GW206 := n9_; have GE206 := n10_; clear n0_ n1_ n2_ n3_ n4_ n5_ n6_ n7_ n8_ n9_ n10_; clear hb hbox hg; have hcz33_0 : w32.cell? ⟨gb206, 0, none⟩ = some (.int .i64 0) := (blk_cell BK206.out 0).trans rfl; have hcz33_1 : w32.cell? ⟨gb206, 1, none⟩ = some (.int .i64 0) := (blk_cell BK206.out 1).trans rfl; have hfz33_0 := blk_frozen BK206.out 0; have hfz33_1 := blk_frozen BK206.out 1; have p207 : 0 ≤ (x10_2 : Int) := of_decide_eq_true (by first | (with_reducible assumption) | assumption); have q207 : x10_2 < (t191.length : Int) := of_decide_eq_true (by first | (with_reducible assumption) | assumption); obtain ⟨ad207, e207, hx207_0, hx207_1⟩ := at_T29 (Kd.R_reads' HO_4.out).2.2 x10_2 p207 q207; cases e207; have hn207_0 : ad207.block ≠ gb206 := Kd.own_blk (by first | exact Kd.R_ne HO_4.out BK206.out (by decide) | exact (fun e_ => by have h_ := HO_4.out.1 _ e_.symm; simp at h_)); have hn207_1 : ad207.block ≠ gb206 := Kd.own_blk (by first | exact Kd.R_ne HO_4.out BK206.out (by decide) | exact (fun e_ => by have h_ := HO_4.out.1 _ e_.symm; simp at h_)); replace hx207_0 := (cell_far (p := ⟨gb206, 0, none⟩) (by first | (rw [add_block]; exact hn207_0) | (show (Addr.add _ _).block ≠ _; rw [add_block]; exact hn207_0) | exact hn207_0) (.int .i64 ((rd_T29 (rd_L2 l0 x13_3) x10_2).f0))).trans hx207_0; replace hx207_1 := (cell_far (p := ⟨gb206, 0, none⟩) (by first | (rw [add_block]; exact hn207_0) | (show (Addr.add _ _).block ≠ _; rw [add_block]; exact hn207_0) | exact hn207_0) (.int .i64 ((rd_T29 (rd_L2 l0 x13_3) x10_2).f0))).trans hx207_1; replace hx207_0 := (cell_far (p := ⟨gb206, 1, none⟩) (by first | (rw [add_block]; exact hn207_1) | (show (Addr.add _ _).block ≠ _; rw [add_block]; exact hn207_1) | exact hn207_1) (.int .i64 ((rd_T29 (rd_L2 l0 x13_3) x10_2).f1))).trans hx207_0; replace hx207_1 := (cell_far (p := ⟨gb206, 1, none⟩) (by first | (rw [add_block]; exact hn207_1) | (show (Addr.add _ _).block ≠ _; rw [add_block]; exact hn207_1) | exact hn207_1) (.int .i64 ((rd_T29 (rd_L2 l0 x13_3) x10_2).f1))).trans hx207_1; (try have hy207_0 := fun (n_ : Nat) => (show ((((w32.drewN n_).setCell ⟨gb206, 0, none⟩ (.int .i64 ((rd_T29 (rd_L2 l0 x13_3) x10_2).f0))).setCell ⟨gb206, 1, none⟩ (.int .i64 ((rd_T29 (rd_L2 l0 x13_3) x10_2).f1)))).cell? _ = some _ from hx207_0)); (try have hy207_1 := fun (n_ : Nat) => (show ((((w32.drewN n_).setCell ⟨gb206, 0, none⟩ (.int .i64 ((rd_T29 (rd_L2 l0 x13_3) x10_2).f0))).setCell ⟨gb206, 1, none⟩ (.int .i64 ((rd_T29 (rd_L2 l0 x13_3) x10_2).f1)))).cell? _ = some _ from hx207_1)); clear hn207_0; clear hn207_1; replace p207 := eq_true p207; replace q207 := eq_true q207; have p208 : 0 ≤ (x10_2 : Int) := of_decide_eq_true (by first | (with_reducible assumption) | assumption); have q208 : x10_2 < (t191.length : Int) := of_decide_eq_true (by first | (with_reducible assumption) | assumption); obtain ⟨ad208, e208, hx208_0, hx208_1⟩ := at_T29 (Kd.R_reads' HO_4.out).2.2 x10_2 p208 q208; obtain rfl : ad207 = ad208 := (by injection e208); have hn208_0 : ad207.block ≠ gb206 := Kd.own_blk (by first | exact Kd.R_ne HO_4.out BK206.out (by decide) | exact (fun e_ => by have h_ := HO_4.out.1 _ e_.symm; simp at h_)); have hn208_1 : ad207.block ≠ gb206 := Kd.own_blk (by first | exact Kd.R_ne HO_4.out BK206.out (by decide) | exact (fun e_ => by have h_ := HO_4.out.1 _ e_.symm; simp at h_)); replace hx208_0 := (cell_far (p := ⟨gb206, 0, none⟩) (by first | (rw [add_block]; exact hn208_0) | (show (Addr.add _ _).block ≠ _; rw [add_block]; exact hn208_0) | exact hn208_0) (.int .i64 ((rd_T29 (rd_L2 l0 x13_3) x10_2).f0))).trans hx208_0; replace hx208_1 := (cell_far (p := ⟨gb206, 0, none⟩) (by first | (rw [add_block]; exact hn208_0) | (show (Addr.add _ _).block ≠ _; rw [add_block]; exact hn208_0) | exact hn208_0) (.int .i64 ((rd_T29 (rd_L2 l0 x13_3) x10_2).f0))).trans hx208_1; replace hx208_0 := (cell_far (p := ⟨gb206, 1, none⟩) (by first | (rw [add_block]; exact hn208_1) | (show (Addr.add _ _).block ≠ _; rw [add_block]; exact hn208_1) | exact hn208_1) (.int .i64 ((rd_T29 (rd_L2 l0 x13_3) x10_2).f1))).trans hx208_0; replace hx208_1 := (cell_far (p := ⟨gb206, 1, none⟩) (by first | (rw [add_block]; exact hn208_1) | (show (Addr.add _ _).block ≠ _; rw [add_block]; exact hn208_1) | exact hn208_1) (.int .i64 ((rd_T29 (rd_L2 l0 x13_3) x10_2).f1))).trans hx208_1; (try have hy208_0 := fun (n_ : Nat) => (show ((((w32.drewN n_).setCell ⟨gb206, 0, none⟩ (.int .i64 ((rd_T29 (rd_L2 l0 x13_3) x10_2).f0))).setCell ⟨gb206, 1, none⟩ (.int .i64 ((rd_T29 (rd_L2 l0 x13_3) x10_2).f1)))).cell? _ = some _ from hx208_0)); (try have hy208_1 := fun (n_ : Nat) => (show ((((w32.drewN n_).setCell ⟨gb206, 0, none⟩ (.int .i64 ((rd_T29 (rd_L2 l0 x13_3) x10_2).f0))).setCell ⟨gb206, 1, none⟩ (.int .i64 ((rd_T29 (rd_L2 l0 x13_3) x10_2).f1)))).cell? _ = some _ from hx208_1)); clear hn208_0; clear hn208_1; replace p208 := eq_true p208; replace q208 := eq_true q208; have p209 : 0 ≤ (x10_2 : Int) := of_decide_eq_true (by first | (with_reducible assumption) | assumption); have q209 : x10_2 < (t191.length : Int) := of_decide_eq_true (by first | (with_reducible assumption) | assumption); obtain ⟨ad209, e209, hx209_0, hx209_1⟩ := at_T29 (Kd.R_reads' HO_4.out).2.2 x10_2 p209 q209; obtain rfl : ad207 = ad209 := (by injection e209); have hn209_0 : ad207.block ≠ gb206 := Kd.own_blk (by first | exact Kd.R_ne HO_4.out BK206.out (by decide) | exact (fun e_ => by have h_ := HO_4.out.1 _ e_.symm; simp at h_)); have hn209_1 : ad207.block ≠ gb206 := Kd.own_blk (by first | exact Kd.R_ne HO_4.out BK206.out (by decide) | exact (fun e_ => by have h_ := HO_4.out.1 _ e_.symm; simp at h_)); replace hx209_0 := (cell_far (p := ⟨gb206, 0, none⟩) (by first | (rw [add_block]; exact hn209_0) | (show (Addr.add _ _).block ≠ _; rw [add_block]; exact hn209_0) | exact hn209_0) (.int .i64 ((rd_T29 (rd_L2 l0 x13_3) x10_2).f0))).trans hx209_0; replace hx209_1 := (cell_far (p := ⟨gb206, 0, none⟩) (by first | (rw [add_block]; exact hn209_0) | (show (Addr.add _ _).block ≠ _; rw [add_block]; exact hn209_0) | exact hn209_0) (.int .i64 ((rd_T29 (rd_L2 l0 x13_3) x10_2).f0))).trans hx209_1; replace hx209_0 := (cell_far (p := ⟨gb206, 1, none⟩) (by first | (rw [add_block]; exact hn209_1) | (show (Addr.add _ _).block ≠ _; rw [add_block]; exact hn209_1) | exact hn209_1) (.int .i64 ((rd_T29 (rd_L2 l0 x13_3) x10_2).f1))).trans hx209_0; replace hx209_1 := (cell_far (p := ⟨gb206, 1, none⟩) (by first | (rw [add_block]; exact hn209_1) | (show (Addr.add _ _).block ≠ _; rw [add_block]; exact hn209_1) | exact hn209_1) (.int .i64 ((rd_T29 (rd_L2 l0 x13_3) x10_2).f1))).trans hx209_1; (try have hy209_0 := fun (n_ : Nat) => (show ((((w32.drewN n_).setCell ⟨gb206, 0, none⟩ (.int .i64 ((rd_T29 (rd_L2 l0 x13_3) x10_2).f0))).setCell ⟨gb206, 1, none⟩ (.int .i64 ((rd_T29 (rd_L2 l0 x13_3) x10_2).f1)))).cell? _ = some _ from hx209_0)); (try have hy209_1 := fun (n_ : Nat) => (show ((((w32.drewN n_).setCell ⟨gb206, 0, none⟩ (.int .i64 ((rd_T29 (rd_L2 l0 x13_3) x10_2).f0))).setCell ⟨gb206, 1, none⟩ (.int .i64 ((rd_T29 (rd_L2 l0 x13_3) x10_2).f1)))).cell? _ = some _ from hx209_1)); clear hn209_0; clear hn209_1; replace p209 := eq_true p209; replace q209 := eq_true q209))
                      repeat (go_quiet (fail); try go_wp2_with (first | ((with_reducible refine gate_dst (N := 14) rfl ?_); (try (refine gate_guard (by rfl) ?_; dsimp only)); refine box_event ?hg (N := 14) ?hd (cs := #[.int .i64 0, .int .i64 0]) (t := 29) ?hr ?_; (case hd => rfl); (case hg => rfl); (case hr => first | (go_simp; done) | (go_simp; rfl)); intro gb206 hg w32 hbox hb; have n0_ := Aside0.mk (Kd.V_below (Kd.V_elderB (by (with_reducible repeat (first | apply Kd.V_alloc | apply Kd.V_drewN | apply Kd.V_drew)); exact HO_0.out) gb206 (Nat.le_of_eq hg.symm)) hb); have n1_ := Aside0.mk (Kd.R_below (Kd.R_elderB (by (with_reducible repeat (first | apply Kd.R_alloc | apply Kd.R_drewN | apply Kd.R_drew)); exact HO_4.out) gb206 (Nat.le_of_eq hg.symm)) hb); have n2_ := Aside0.mk (Kd.R_below (Kd.R_elderB (by (with_reducible repeat (first | apply Kd.R_alloc | apply Kd.R_drewN | apply Kd.R_drew)); exact HO_8.out) gb206 (Nat.le_of_eq hg.symm)) hb); have n3_ := Aside0.mk (Kd.V_below (Kd.V_elderB (by (with_reducible repeat (first | apply Kd.V_alloc | apply Kd.V_drewN | apply Kd.V_drew)); exact HL203_0.out) gb206 (Nat.le_of_eq hg.symm)) hb); have n4_ := Aside0.mk (Kd.V_below (Kd.V_elderB (by (with_reducible repeat (first | apply Kd.V_alloc | apply Kd.V_drewN | apply Kd.V_drew)); exact HL204_0.out) gb206 (Nat.le_of_eq hg.symm)) hb); have n5_ := Aside0.mk (Kd.C_below (by repeat (first | (with_reducible exact HR203_0.out) | (with_reducible refine Kd.C_alloc ?_ _) | (with_reducible refine Kd.C_drewN ?_ _) | (with_reducible refine Kd.C_drew ?_) | exact HR203_0.out)) hb); have n6_ := Aside0.mk (Kd.C_below (by repeat (first | (with_reducible exact HR204_0.out) | (with_reducible refine Kd.C_alloc ?_ _) | (with_reducible refine Kd.C_drewN ?_ _) | (with_reducible refine Kd.C_drew ?_) | exact HR204_0.out)) hb); have n7_ := Aside0.mk (below_step (by repeat (first | (with_reducible first | exact HB.out | apply below_alloc | apply pw_below_drewN | apply below_drew1) | exact HB.out)) hb); have n8_ := Aside0.mk (hbox); have n9_ := Aside0.mk ((by rw [hg]; exact (below_size (by repeat (first | (with_reducible first | exact HB.out | apply below_alloc | apply pw_below_drewN | apply below_drew1) | exact HB.out))) : w.heap.size ≤ gb206)); have n10_ := Aside0.mk ((by rw [hg]; exact (below_size (by repeat (first | (with_reducible first | exact HB.out | apply below_alloc | apply pw_below_drewN | apply below_drew1) | exact HB.out))) : w.heap.size ≤ gb206)); clear HO_0; clear HO_4; clear HO_8; clear HL203_0; clear HL204_0; clear HR203_0; clear HR204_0; clear HB; have HO_0 := n0_; have HO_4 := n1_; have HO_8 := n2_; have HL203_0 := n3_; have HL204_0 := n4_; have HR203_0 := n5_; have HR204_0 := n6_; have HB := n7_; have BK206 := n8_; have GW206 := n9_; have GE206 := n10_; clear n0_ n1_ n2_ n3_ n4_ n5_ n6_ n7_ n8_ n9_ n10_; clear hb hbox hg; have hcz33_0 : w32.cell? ⟨gb206, 0, none⟩ = some (.int .i64 0) := (blk_cell BK206.out 0).trans rfl; have hcz33_1 : w32.cell? ⟨gb206, 1, none⟩ = some (.int .i64 0) := (blk_cell BK206.out 1).trans rfl; have hfz33_0 := blk_frozen BK206.out 0; have hfz33_1 := blk_frozen BK206.out 1; have p207 : 0 ≤ (x10_2 : Int) := of_decide_eq_true (by first | (with_reducible assumption) | assumption); have q207 : x10_2 < (t191.length : Int) := of_decide_eq_true (by first | (with_reducible assumption) | assumption); obtain ⟨ad207, e207, hx207_0, hx207_1⟩ := at_T29 (Kd.R_reads' HO_4.out).2.2 x10_2 p207 q207; cases e207; have hn207_0 : ad207.block ≠ gb206 := Kd.own_blk (by first | exact Kd.R_ne HO_4.out BK206.out (by decide) | exact (fun e_ => by have h_ := HO_4.out.1 _ e_.symm; simp at h_)); have hn207_1 : ad207.block ≠ gb206 := Kd.own_blk (by first | exact Kd.R_ne HO_4.out BK206.out (by decide) | exact (fun e_ => by have h_ := HO_4.out.1 _ e_.symm; simp at h_)); replace hx207_0 := (cell_far (p := ⟨gb206, 0, none⟩) (by first | (rw [add_block]; exact hn207_0) | (show (Addr.add _ _).block ≠ _; rw [add_block]; exact hn207_0) | exact hn207_0) (.int .i64 ((rd_T29 (rd_L2 l0 x13_3) x10_2).f0))).trans hx207_0; replace hx207_1 := (cell_far (p := ⟨gb206, 0, none⟩) (by first | (rw [add_block]; exact hn207_0) | (show (Addr.add _ _).block ≠ _; rw [add_block]; exact hn207_0) | exact hn207_0) (.int .i64 ((rd_T29 (rd_L2 l0 x13_3) x10_2).f0))).trans hx207_1; replace hx207_0 := (cell_far (p := ⟨gb206, 1, none⟩) (by first | (rw [add_block]; exact hn207_1) | (show (Addr.add _ _).block ≠ _; rw [add_block]; exact hn207_1) | exact hn207_1) (.int .i64 ((rd_T29 (rd_L2 l0 x13_3) x10_2).f1))).trans hx207_0; replace hx207_1 := (cell_far (p := ⟨gb206, 1, none⟩) (by first | (rw [add_block]; exact hn207_1) | (show (Addr.add _ _).block ≠ _; rw [add_block]; exact hn207_1) | exact hn207_1) (.int .i64 ((rd_T29 (rd_L2 l0 x13_3) x10_2).f1))).trans hx207_1; (try have hy207_0 := fun (n_ : Nat) => (show ((((w32.drewN n_).setCell ⟨gb206, 0, none⟩ (.int .i64 ((rd_T29 (rd_L2 l0 x13_3) x10_2).f0))).setCell ⟨gb206, 1, none⟩ (.int .i64 ((rd_T29 (rd_L2 l0 x13_3) x10_2).f1)))).cell? _ = some _ from hx207_0)); (try have hy207_1 := fun (n_ : Nat) => (show ((((w32.drewN n_).setCell ⟨gb206, 0, none⟩ (.int .i64 ((rd_T29 (rd_L2 l0 x13_3) x10_2).f0))).setCell ⟨gb206, 1, none⟩ (.int .i64 ((rd_T29 (rd_L2 l0 x13_3) x10_2).f1)))).cell? _ = some _ from hx207_1)); clear hn207_0; clear hn207_1; replace p207 := eq_true p207; replace q207 := eq_true q207; have p208 : 0 ≤ (x10_2 : Int) := of_decide_eq_true (by first | (with_reducible assumption) | assumption); have q208 : x10_2 < (t191.length : Int) := of_decide_eq_true (by first | (with_reducible assumption) | assumption); obtain ⟨ad208, e208, hx208_0, hx208_1⟩ := at_T29 (Kd.R_reads' HO_4.out).2.2 x10_2 p208 q208; obtain rfl : ad207 = ad208 := (by injection e208); have hn208_0 : ad207.block ≠ gb206 := Kd.own_blk (by first | exact Kd.R_ne HO_4.out BK206.out (by decide) | exact (fun e_ => by have h_ := HO_4.out.1 _ e_.symm; simp at h_)); have hn208_1 : ad207.block ≠ gb206 := Kd.own_blk (by first | exact Kd.R_ne HO_4.out BK206.out (by decide) | exact (fun e_ => by have h_ := HO_4.out.1 _ e_.symm; simp at h_)); replace hx208_0 := (cell_far (p := ⟨gb206, 0, none⟩) (by first | (rw [add_block]; exact hn208_0) | (show (Addr.add _ _).block ≠ _; rw [add_block]; exact hn208_0) | exact hn208_0) (.int .i64 ((rd_T29 (rd_L2 l0 x13_3) x10_2).f0))).trans hx208_0; replace hx208_1 := (cell_far (p := ⟨gb206, 0, none⟩) (by first | (rw [add_block]; exact hn208_0) | (show (Addr.add _ _).block ≠ _; rw [add_block]; exact hn208_0) | exact hn208_0) (.int .i64 ((rd_T29 (rd_L2 l0 x13_3) x10_2).f0))).trans hx208_1; replace hx208_0 := (cell_far (p := ⟨gb206, 1, none⟩) (by first | (rw [add_block]; exact hn208_1) | (show (Addr.add _ _).block ≠ _; rw [add_block]; exact hn208_1) | exact hn208_1) (.int .i64 ((rd_T29 (rd_L2 l0 x13_3) x10_2).f1))).trans hx208_0; replace hx208_1 := (cell_far (p := ⟨gb206, 1, none⟩) (by first | (rw [add_block]; exact hn208_1) | (show (Addr.add _ _).block ≠ _; rw [add_block]; exact hn208_1) | exact hn208_1) (.int .i64 ((rd_T29 (rd_L2 l0 x13_3) x10_2).f1))).trans hx208_1; (try have hy208_0 := fun (n_ : Nat) => (show ((((w32.drewN n_).setCell ⟨gb206, 0, none⟩ (.int .i64 ((rd_T29 (rd_L2 l0 x13_3) x10_2).f0))).setCell ⟨gb206, 1, none⟩ (.int .i64 ((rd_T29 (rd_L2 l0 x13_3) x10_2).f1)))).cell? _ = some _ from hx208_0)); (try have hy208_1 := fun (n_ : Nat) => (show ((((w32.drewN n_).setCell ⟨gb206, 0, none⟩ (.int .i64 ((rd_T29 (rd_L2 l0 x13_3) x10_2).f0))).setCell ⟨gb206, 1, none⟩ (.int .i64 ((rd_T29 (rd_L2 l0 x13_3) x10_2).f1)))).cell? _ = some _ from hx208_1)); clear hn208_0; clear hn208_1; replace p208 := eq_true p208; replace q208 := eq_true q208; have p209 : 0 ≤ (x10_2 : Int) := of_decide_eq_true (by first | (with_reducible assumption) | assumption); have q209 : x10_2 < (t191.length : Int) := of_decide_eq_true (by first | (with_reducible assumption) | assumption); obtain ⟨ad209, e209, hx209_0, hx209_1⟩ := at_T29 (Kd.R_reads' HO_4.out).2.2 x10_2 p209 q209; obtain rfl : ad207 = ad209 := (by injection e209); have hn209_0 : ad207.block ≠ gb206 := Kd.own_blk (by first | exact Kd.R_ne HO_4.out BK206.out (by decide) | exact (fun e_ => by have h_ := HO_4.out.1 _ e_.symm; simp at h_)); have hn209_1 : ad207.block ≠ gb206 := Kd.own_blk (by first | exact Kd.R_ne HO_4.out BK206.out (by decide) | exact (fun e_ => by have h_ := HO_4.out.1 _ e_.symm; simp at h_)); replace hx209_0 := (cell_far (p := ⟨gb206, 0, none⟩) (by first | (rw [add_block]; exact hn209_0) | (show (Addr.add _ _).block ≠ _; rw [add_block]; exact hn209_0) | exact hn209_0) (.int .i64 ((rd_T29 (rd_L2 l0 x13_3) x10_2).f0))).trans hx209_0; replace hx209_1 := (cell_far (p := ⟨gb206, 0, none⟩) (by first | (rw [add_block]; exact hn209_0) | (show (Addr.add _ _).block ≠ _; rw [add_block]; exact hn209_0) | exact hn209_0) (.int .i64 ((rd_T29 (rd_L2 l0 x13_3) x10_2).f0))).trans hx209_1; replace hx209_0 := (cell_far (p := ⟨gb206, 1, none⟩) (by first | (rw [add_block]; exact hn209_1) | (show (Addr.add _ _).block ≠ _; rw [add_block]; exact hn209_1) | exact hn209_1) (.int .i64 ((rd_T29 (rd_L2 l0 x13_3) x10_2).f1))).trans hx209_0; replace hx209_1 := (cell_far (p := ⟨gb206, 1, none⟩) (by first | (rw [add_block]; exact hn209_1) | (show (Addr.add _ _).block ≠ _; rw [add_block]; exact hn209_1) | exact hn209_1) (.int .i64 ((rd_T29 (rd_L2 l0 x13_3) x10_2).f1))).trans hx209_1; (try have hy209_0 := fun (n_ : Nat) => (show ((((w32.drewN n_).setCell ⟨gb206, 0, none⟩ (.int .i64 ((rd_T29 (rd_L2 l0 x13_3) x10_2).f0))).setCell ⟨gb206, 1, none⟩ (.int .i64 ((rd_T29 (rd_L2 l0 x13_3) x10_2).f1)))).cell? _ = some _ from hx209_0)); (try have hy209_1 := fun (n_ : Nat) => (show ((((w32.drewN n_).setCell ⟨gb206, 0, none⟩ (.int .i64 ((rd_T29 (rd_L2 l0 x13_3) x10_2).f0))).setCell ⟨gb206, 1, none⟩ (.int .i64 ((rd_T29 (rd_L2 l0 x13_3) x10_2).f1)))).cell? _ = some _ from hx209_1)); clear hn209_0; clear hn209_1; replace p209 := eq_true p209; replace q209 := eq_true q209)))
                      go_roundg k3
                      case measure => have := HK1.out; have := HK2.out; have := HK3.out; omega
                      case rel => exact ⟨(true), ((((rd_T29 (rd_L2 l0 x13_3) x10_2).f1) == ((rd_T29 t191 x10_2).f1))), (wrap64 (x13_3 + 1)), (by first | rfl | (simp; done) | (simp [*]; done)), (by first | rfl | (simp; done) | (simp [*]; done)), (by first | rfl | (simp; done) | (simp [*]; done)), H', ⟨by have := HK1.out; have := HK2.out; have := HK3.out; omega⟩, ⟨by (with_reducible repeat (first | apply Kd.V_alloc | apply Kd.V_drewN | apply Kd.V_drew)); exact Kd.V_mono (Kd.V_far (p := ⟨gb206, 1, none⟩) (Kd.V_far (p := ⟨gb206, 0, none⟩) (Kd.V_mono HO_0.out (fun k_ hk => (⟨hk, hk.2⟩ : _ ∧ k_ ≠ gb206))) (fun _ hk => hk.2) (.int .i64 ((rd_T29 (rd_L2 l0 x13_3) x10_2).f0))) (fun _ hk => hk.2) (.int .i64 ((rd_T29 (rd_L2 l0 x13_3) x10_2).f1))) (fun _ hk => ⟨hk.1.1.1, ⟨hk.1.1.2.1, hk.1.1.2.2⟩⟩)⟩, ⟨by (with_reducible repeat (first | apply Kd.R_alloc | apply Kd.R_drewN | apply Kd.R_drew)); exact Kd.R_mono (Kd.R_far (p := ⟨gb206, 1, none⟩) (Kd.R_far (p := ⟨gb206, 0, none⟩) (Kd.R_mono HO_4.out (fun k_ hk => (⟨hk, hk.2⟩ : _ ∧ k_ ≠ gb206))) (fun _ hk => hk.2) (.int .i64 ((rd_T29 (rd_L2 l0 x13_3) x10_2).f0))) (fun _ hk => hk.2) (.int .i64 ((rd_T29 (rd_L2 l0 x13_3) x10_2).f1))) (fun _ hk => ⟨hk.1.1.1, hk.1.1.2⟩)⟩, ⟨by (with_reducible repeat (first | apply Kd.R_alloc | apply Kd.R_drewN | apply Kd.R_drew)); exact Kd.R_mono (Kd.R_far (p := ⟨gb206, 1, none⟩) (Kd.R_far (p := ⟨gb206, 0, none⟩) (Kd.R_mono HO_8.out (fun k_ hk => (⟨hk, hk.2⟩ : _ ∧ k_ ≠ gb206))) (fun _ hk => hk.2) (.int .i64 ((rd_T29 (rd_L2 l0 x13_3) x10_2).f0))) (fun _ hk => hk.2) (.int .i64 ((rd_T29 (rd_L2 l0 x13_3) x10_2).f1))) (fun _ hk => ⟨hk.1.1.1, hk.1.1.2⟩)⟩, ⟨by repeat (first | (with_reducible first | exact HB.out | apply below_alloc | apply pw_below_drewN | apply below_drew1 | refine below_set ?_ GE206.out) | exact HB.out)⟩⟩
                    ·
                     replace c28 := Bool.eq_false_iff.mpr c28
                     subst c28
                     have H1 : (if x12_3 = true then (formelaw26_TableNeeds.l2 k3 l0 true t191 t199 t200 x10_2 (((rd_T29 (rd_L2 l0 x13_3) x10_2).f0) == ((rd_T29 t191 x10_2).f0)) true (wrap64 (x13_3 + 1))) else (formelaw26_TableNeeds.l2 k3 l0 true t191 t199 t200 x10_2 (((rd_T29 (rd_L2 l0 x13_3) x10_2).f0) == ((rd_T29 t191 x10_2).f0)) (((rd_T29 (rd_L2 l0 x13_3) x10_2).f1) == ((rd_T29 t191 x10_2).f1)) (wrap64 (x13_3 + 1)))) = some r := by rw [if_neg (show ¬ (false = true) by decide)] at H; exact H
                     clear H
                     have H := H1
                     clear H1
                     by_cases c34 : x12_3 = true
                     ·
                      subst c34
                      have H1 : (formelaw26_TableNeeds.l2 k3 l0 true t191 t199 t200 x10_2 (((rd_T29 (rd_L2 l0 x13_3) x10_2).f0) == ((rd_T29 t191 x10_2).f0)) true (wrap64 (x13_3 + 1))) = some r := by rw [if_pos rfl] at H; exact H
                      clear H
                      have H := H1
                      clear H1
                      have H' := Aside0.mk H
                      clear H
                      have p203 : 0 ≤ (x13_3 : Int) := of_decide_eq_true (by first | (with_reducible assumption) | assumption)
                      have q203 : x13_3 < (l0.length : Int) := of_decide_eq_true (by first | (with_reducible assumption) | assumption)
                      obtain ⟨ad203, A203_0, c203_0, e203, hx203_0, hl203_0, hi203_0⟩ := at_L2 (Kd.V_reads' HO_0.out).2.2 x13_3 p203 q203
                      cases e203
                      obtain ⟨ce203, hce203, hMe203, hcc203⟩ := Kd.V_get HO_0.out [] x13_3 p203 (by first | exact q203 | exact of_decide_eq_true (by first | (with_reducible assumption) | assumption) | (have e_ := (Kd.V_reads' HO_0.out).1; omega))
                      obtain ⟨ua203_0, uc203_0, rfl, ul203_0, ge203_0⟩ := Kd.FK_slice_open hMe203
                      have hv203_0 := hcc203 0 _ rfl
                      rw [Nat.add_zero, show ((Kd.slice 29 k29)).sz = 1 from rfl, Nat.mul_one] at hv203_0
                      replace hv203_0 := Option.some.inj (hv203_0.symm.trans hx203_0)
                      injection hv203_0 with hva_ hvn_ hvc_
                      rw [hva_] at ge203_0
                      rw [hvc_] at ul203_0
                      have HL203_0 := Aside0.mk (show Kd.V k29 29 _ w.heap.size _ _ (rd_L2 l0 x13_3) from Kd.V_mk ul203_0 ge203_0)
                      clear hva_ hvn_ hvc_ ge203_0 ul203_0
                      clear hcc203 hce203
                      have HR203_0 := Aside0.mk hi203_0
                      have HC203_0 := Aside0.mk hl203_0
                      clear hi203_0 hl203_0
                      replace p203 := eq_true p203
                      replace q203 := eq_true q203
                      have p204 : 0 ≤ (x13_3 : Int) := of_decide_eq_true (by first | (with_reducible assumption) | assumption)
                      have q204 : x13_3 < (l0.length : Int) := of_decide_eq_true (by first | (with_reducible assumption) | assumption)
                      obtain ⟨ad204, A204_0, c204_0, e204, hx204_0, hl204_0, hi204_0⟩ := at_L2 (Kd.V_reads' HO_0.out).2.2 x13_3 p204 q204
                      obtain rfl : ad203 = ad204 := (by injection e204)
                      obtain ⟨ce204, hce204, hMe204, hcc204⟩ := Kd.V_get HO_0.out [] x13_3 p204 (by first | exact q204 | exact of_decide_eq_true (by first | (with_reducible assumption) | assumption) | (have e_ := (Kd.V_reads' HO_0.out).1; omega))
                      obtain ⟨ua204_0, uc204_0, rfl, ul204_0, ge204_0⟩ := Kd.FK_slice_open hMe204
                      have hv204_0 := hcc204 0 _ rfl
                      rw [Nat.add_zero, show ((Kd.slice 29 k29)).sz = 1 from rfl, Nat.mul_one] at hv204_0
                      replace hv204_0 := Option.some.inj (hv204_0.symm.trans hx204_0)
                      injection hv204_0 with hva_ hvn_ hvc_
                      rw [hva_] at ge204_0
                      rw [hvc_] at ul204_0
                      have HL204_0 := Aside0.mk (show Kd.V k29 29 _ w.heap.size _ _ (rd_L2 l0 x13_3) from Kd.V_mk ul204_0 ge204_0)
                      clear hva_ hvn_ hvc_ ge204_0 ul204_0
                      clear hcc204 hce204
                      have HR204_0 := Aside0.mk hi204_0
                      have HC204_0 := Aside0.mk hl204_0
                      clear hi204_0 hl204_0
                      replace p204 := eq_true p204
                      replace q204 := eq_true q204
                      have ea_ := Option.some.inj (hx203_0.symm.trans hx204_0)
                      injection ea_ with ea_ en_ ec_
                      subst ea_
                      subst ec_
                      clear en_
                      have p205 : 0 ≤ (x10_2 : Int) := of_decide_eq_true (by first | (with_reducible assumption) | assumption)
                      have q205 : x10_2 < ((rd_L2 l0 x13_3).length : Int) := of_decide_eq_true (by first | (with_reducible assumption) | assumption)
                      obtain ⟨ad205, e205, hx205_0, hx205_1⟩ := at_T29 (by repeat (first | (with_reducible exact HR204_0.out) | (with_reducible refine Kd.C_alloc ?_ _) | (with_reducible refine Kd.C_drewN ?_ _) | (with_reducible refine Kd.C_drew ?_) | exact HR204_0.out)) x10_2 p205 q205
                      cases e205
                      replace p205 := eq_true p205
                      replace q205 := eq_true q205
                      go_wp2_with (first | ((with_reducible refine gate_dst (N := 14) rfl ?_); (try (refine gate_guard (by rfl) ?_; dsimp only)); refine box_event ?hg (N := 14) ?hd (cs := #[.int .i64 0, .int .i64 0]) (t := 29) ?hr ?_; (case hd => rfl); (case hg => rfl); (case hr => first | (go_simp; done) | (go_simp; rfl)); intro gb206 hg w35 hbox hb; have n0_ := Aside0.mk (Kd.V_below (Kd.V_elderB (by (with_reducible repeat (first | apply Kd.V_alloc | apply Kd.V_drewN | apply Kd.V_drew)); exact HO_0.out) gb206 (Nat.le_of_eq hg.symm)) hb); have n1_ := Aside0.mk (Kd.R_below (Kd.R_elderB (by (with_reducible repeat (first | apply Kd.R_alloc | apply Kd.R_drewN | apply Kd.R_drew)); exact HO_4.out) gb206 (Nat.le_of_eq hg.symm)) hb); have n2_ := Aside0.mk (Kd.R_below (Kd.R_elderB (by (with_reducible repeat (first | apply Kd.R_alloc | apply Kd.R_drewN | apply Kd.R_drew)); exact HO_8.out) gb206 (Nat.le_of_eq hg.symm)) hb); have n3_ := Aside0.mk (Kd.V_below (Kd.V_elderB (by (with_reducible repeat (first | apply Kd.V_alloc | apply Kd.V_drewN | apply Kd.V_drew)); exact HL203_0.out) gb206 (Nat.le_of_eq hg.symm)) hb); have n4_ := Aside0.mk (Kd.V_below (Kd.V_elderB (by (with_reducible repeat (first | apply Kd.V_alloc | apply Kd.V_drewN | apply Kd.V_drew)); exact HL204_0.out) gb206 (Nat.le_of_eq hg.symm)) hb); have n5_ := Aside0.mk (Kd.C_below (by repeat (first | (with_reducible exact HR203_0.out) | (with_reducible refine Kd.C_alloc ?_ _) | (with_reducible refine Kd.C_drewN ?_ _) | (with_reducible refine Kd.C_drew ?_) | exact HR203_0.out)) hb); have n6_ := Aside0.mk (Kd.C_below (by repeat (first | (with_reducible exact HR204_0.out) | (with_reducible refine Kd.C_alloc ?_ _) | (with_reducible refine Kd.C_drewN ?_ _) | (with_reducible refine Kd.C_drew ?_) | exact HR204_0.out)) hb); have n7_ := Aside0.mk (below_step (by repeat (first | (with_reducible first | exact HB.out | apply below_alloc | apply pw_below_drewN | apply below_drew1) | exact HB.out)) hb); have n8_ := Aside0.mk (hbox); have n9_ := Aside0.mk ((by rw [hg]; exact (below_size (by repeat (first | (with_reducible first | exact HB.out | apply below_alloc | apply pw_below_drewN | apply below_drew1) | exact HB.out))) : w.heap.size ≤ gb206)); have n10_ := Aside0.mk ((by rw [hg]; exact (below_size (by repeat (first | (with_reducible first | exact HB.out | apply below_alloc | apply pw_below_drewN | apply below_drew1) | exact HB.out))) : w.heap.size ≤ gb206)); clear HO_0; clear HO_4; clear HO_8; clear HL203_0; clear HL204_0; clear HR203_0; clear HR204_0; clear HB; have HO_0 := n0_; have HO_4 := n1_; have HO_8 := n2_; have HL203_0 := n3_; have HL204_0 := n4_; have HR203_0 := n5_; have HR204_0 := n6_; have HB := n7_; have BK206 := n8_; have GW206 := n9_; have GE206 := n10_; clear n0_ n1_ n2_ n3_ n4_ n5_ n6_ n7_ n8_ n9_ n10_; clear hb hbox hg; have hcz36_0 : w35.cell? ⟨gb206, 0, none⟩ = some (.int .i64 0) := (blk_cell BK206.out 0).trans rfl; have hcz36_1 : w35.cell? ⟨gb206, 1, none⟩ = some (.int .i64 0) := (blk_cell BK206.out 1).trans rfl; have hfz36_0 := blk_frozen BK206.out 0; have hfz36_1 := blk_frozen BK206.out 1; have p207 : 0 ≤ (x10_2 : Int) := of_decide_eq_true (by first | (with_reducible assumption) | assumption); have q207 : x10_2 < (t191.length : Int) := of_decide_eq_true (by first | (with_reducible assumption) | assumption); obtain ⟨ad207, e207, hx207_0, hx207_1⟩ := at_T29 (Kd.R_reads' HO_4.out).2.2 x10_2 p207 q207; cases e207; have hn207_0 : ad207.block ≠ gb206 := Kd.own_blk (by first | exact Kd.R_ne HO_4.out BK206.out (by decide) | exact (fun e_ => by have h_ := HO_4.out.1 _ e_.symm; simp at h_)); have hn207_1 : ad207.block ≠ gb206 := Kd.own_blk (by first | exact Kd.R_ne HO_4.out BK206.out (by decide) | exact (fun e_ => by have h_ := HO_4.out.1 _ e_.symm; simp at h_)); replace hx207_0 := (cell_far (p := ⟨gb206, 0, none⟩) (by first | (rw [add_block]; exact hn207_0) | (show (Addr.add _ _).block ≠ _; rw [add_block]; exact hn207_0) | exact hn207_0) (.int .i64 ((rd_T29 (rd_L2 l0 x13_3) x10_2).f0))).trans hx207_0; replace hx207_1 := (cell_far (p := ⟨gb206, 0, none⟩) (by first | (rw [add_block]; exact hn207_0) | (show (Addr.add _ _).block ≠ _; rw [add_block]; exact hn207_0) | exact hn207_0) (.int .i64 ((rd_T29 (rd_L2 l0 x13_3) x10_2).f0))).trans hx207_1; replace hx207_0 := (cell_far (p := ⟨gb206, 1, none⟩) (by first | (rw [add_block]; exact hn207_1) | (show (Addr.add _ _).block ≠ _; rw [add_block]; exact hn207_1) | exact hn207_1) (.int .i64 ((rd_T29 (rd_L2 l0 x13_3) x10_2).f1))).trans hx207_0; replace hx207_1 := (cell_far (p := ⟨gb206, 1, none⟩) (by first | (rw [add_block]; exact hn207_1) | (show (Addr.add _ _).block ≠ _; rw [add_block]; exact hn207_1) | exact hn207_1) (.int .i64 ((rd_T29 (rd_L2 l0 x13_3) x10_2).f1))).trans hx207_1; (try have hy207_0 := fun (n_ : Nat) => (show ((((w35.drewN n_).setCell ⟨gb206, 0, none⟩ (.int .i64 ((rd_T29 (rd_L2 l0 x13_3) x10_2).f0))).setCell ⟨gb206, 1, none⟩ (.int .i64 ((rd_T29 (rd_L2 l0 x13_3) x10_2).f1)))).cell? _ = some _ from hx207_0)); (try have hy207_1 := fun (n_ : Nat) => (show ((((w35.drewN n_).setCell ⟨gb206, 0, none⟩ (.int .i64 ((rd_T29 (rd_L2 l0 x13_3) x10_2).f0))).setCell ⟨gb206, 1, none⟩ (.int .i64 ((rd_T29 (rd_L2 l0 x13_3) x10_2).f1)))).cell? _ = some _ from hx207_1)); clear hn207_0; clear hn207_1; replace p207 := eq_true p207; replace q207 := eq_true q207; have p208 : 0 ≤ (x10_2 : Int) := of_decide_eq_true (by first | (with_reducible assumption) | assumption); have q208 : x10_2 < (t191.length : Int) := of_decide_eq_true (by first | (with_reducible assumption) | assumption); obtain ⟨ad208, e208, hx208_0, hx208_1⟩ := at_T29 (Kd.R_reads' HO_4.out).2.2 x10_2 p208 q208; obtain rfl : ad207 = ad208 := (by injection e208); have hn208_0 : ad207.block ≠ gb206 := Kd.own_blk (by first | exact Kd.R_ne HO_4.out BK206.out (by decide) | exact (fun e_ => by have h_ := HO_4.out.1 _ e_.symm; simp at h_)); have hn208_1 : ad207.block ≠ gb206 := Kd.own_blk (by first | exact Kd.R_ne HO_4.out BK206.out (by decide) | exact (fun e_ => by have h_ := HO_4.out.1 _ e_.symm; simp at h_)); replace hx208_0 := (cell_far (p := ⟨gb206, 0, none⟩) (by first | (rw [add_block]; exact hn208_0) | (show (Addr.add _ _).block ≠ _; rw [add_block]; exact hn208_0) | exact hn208_0) (.int .i64 ((rd_T29 (rd_L2 l0 x13_3) x10_2).f0))).trans hx208_0; replace hx208_1 := (cell_far (p := ⟨gb206, 0, none⟩) (by first | (rw [add_block]; exact hn208_0) | (show (Addr.add _ _).block ≠ _; rw [add_block]; exact hn208_0) | exact hn208_0) (.int .i64 ((rd_T29 (rd_L2 l0 x13_3) x10_2).f0))).trans hx208_1; replace hx208_0 := (cell_far (p := ⟨gb206, 1, none⟩) (by first | (rw [add_block]; exact hn208_1) | (show (Addr.add _ _).block ≠ _; rw [add_block]; exact hn208_1) | exact hn208_1) (.int .i64 ((rd_T29 (rd_L2 l0 x13_3) x10_2).f1))).trans hx208_0; replace hx208_1 := (cell_far (p := ⟨gb206, 1, none⟩) (by first | (rw [add_block]; exact hn208_1) | (show (Addr.add _ _).block ≠ _; rw [add_block]; exact hn208_1) | exact hn208_1) (.int .i64 ((rd_T29 (rd_L2 l0 x13_3) x10_2).f1))).trans hx208_1; (try have hy208_0 := fun (n_ : Nat) => (show ((((w35.drewN n_).setCell ⟨gb206, 0, none⟩ (.int .i64 ((rd_T29 (rd_L2 l0 x13_3) x10_2).f0))).setCell ⟨gb206, 1, none⟩ (.int .i64 ((rd_T29 (rd_L2 l0 x13_3) x10_2).f1)))).cell? _ = some _ from hx208_0)); (try have hy208_1 := fun (n_ : Nat) => (show ((((w35.drewN n_).setCell ⟨gb206, 0, none⟩ (.int .i64 ((rd_T29 (rd_L2 l0 x13_3) x10_2).f0))).setCell ⟨gb206, 1, none⟩ (.int .i64 ((rd_T29 (rd_L2 l0 x13_3) x10_2).f1)))).cell? _ = some _ from hx208_1)); clear hn208_0; clear hn208_1; replace p208 := eq_true p208; replace q208 := eq_true q208; have p210 : 0 ≤ (x10_2 : Int) := of_decide_eq_true (by first | (with_reducible assumption) | assumption); have q210 : x10_2 < (t191.length : Int) := of_decide_eq_true (by first | (with_reducible assumption) | assumption); obtain ⟨ad210, e210, hx210_0, hx210_1⟩ := at_T29 (Kd.R_reads' HO_4.out).2.2 x10_2 p210 q210; obtain rfl : ad207 = ad210 := (by injection e210); have hn210_0 : ad207.block ≠ gb206 := Kd.own_blk (by first | exact Kd.R_ne HO_4.out BK206.out (by decide) | exact (fun e_ => by have h_ := HO_4.out.1 _ e_.symm; simp at h_)); have hn210_1 : ad207.block ≠ gb206 := Kd.own_blk (by first | exact Kd.R_ne HO_4.out BK206.out (by decide) | exact (fun e_ => by have h_ := HO_4.out.1 _ e_.symm; simp at h_)); replace hx210_0 := (cell_far (p := ⟨gb206, 0, none⟩) (by first | (rw [add_block]; exact hn210_0) | (show (Addr.add _ _).block ≠ _; rw [add_block]; exact hn210_0) | exact hn210_0) (.int .i64 ((rd_T29 (rd_L2 l0 x13_3) x10_2).f0))).trans hx210_0; replace hx210_1 := (cell_far (p := ⟨gb206, 0, none⟩) (by first | (rw [add_block]; exact hn210_0) | (show (Addr.add _ _).block ≠ _; rw [add_block]; exact hn210_0) | exact hn210_0) (.int .i64 ((rd_T29 (rd_L2 l0 x13_3) x10_2).f0))).trans hx210_1; replace hx210_0 := (cell_far (p := ⟨gb206, 1, none⟩) (by first | (rw [add_block]; exact hn210_1) | (show (Addr.add _ _).block ≠ _; rw [add_block]; exact hn210_1) | exact hn210_1) (.int .i64 ((rd_T29 (rd_L2 l0 x13_3) x10_2).f1))).trans hx210_0; replace hx210_1 := (cell_far (p := ⟨gb206, 1, none⟩) (by first | (rw [add_block]; exact hn210_1) | (show (Addr.add _ _).block ≠ _; rw [add_block]; exact hn210_1) | exact hn210_1) (.int .i64 ((rd_T29 (rd_L2 l0 x13_3) x10_2).f1))).trans hx210_1; (try have hy210_0 := fun (n_ : Nat) => (show ((((w35.drewN n_).setCell ⟨gb206, 0, none⟩ (.int .i64 ((rd_T29 (rd_L2 l0 x13_3) x10_2).f0))).setCell ⟨gb206, 1, none⟩ (.int .i64 ((rd_T29 (rd_L2 l0 x13_3) x10_2).f1)))).cell? _ = some _ from hx210_0)); (try have hy210_1 := fun (n_ : Nat) => (show ((((w35.drewN n_).setCell ⟨gb206, 0, none⟩ (.int .i64 ((rd_T29 (rd_L2 l0 x13_3) x10_2).f0))).setCell ⟨gb206, 1, none⟩ (.int .i64 ((rd_T29 (rd_L2 l0 x13_3) x10_2).f1)))).cell? _ = some _ from hx210_1)); clear hn210_0; clear hn210_1; replace p210 := eq_true p210; replace q210 := eq_true q210))
                      repeat (go_quiet (fail); try go_wp2_with (first | ((with_reducible refine gate_dst (N := 14) rfl ?_); (try (refine gate_guard (by rfl) ?_; dsimp only)); refine box_event ?hg (N := 14) ?hd (cs := #[.int .i64 0, .int .i64 0]) (t := 29) ?hr ?_; (case hd => rfl); (case hg => rfl); (case hr => first | (go_simp; done) | (go_simp; rfl)); intro gb206 hg w35 hbox hb; have n0_ := Aside0.mk (Kd.V_below (Kd.V_elderB (by (with_reducible repeat (first | apply Kd.V_alloc | apply Kd.V_drewN | apply Kd.V_drew)); exact HO_0.out) gb206 (Nat.le_of_eq hg.symm)) hb); have n1_ := Aside0.mk (Kd.R_below (Kd.R_elderB (by (with_reducible repeat (first | apply Kd.R_alloc | apply Kd.R_drewN | apply Kd.R_drew)); exact HO_4.out) gb206 (Nat.le_of_eq hg.symm)) hb); have n2_ := Aside0.mk (Kd.R_below (Kd.R_elderB (by (with_reducible repeat (first | apply Kd.R_alloc | apply Kd.R_drewN | apply Kd.R_drew)); exact HO_8.out) gb206 (Nat.le_of_eq hg.symm)) hb); have n3_ := Aside0.mk (Kd.V_below (Kd.V_elderB (by (with_reducible repeat (first | apply Kd.V_alloc | apply Kd.V_drewN | apply Kd.V_drew)); exact HL203_0.out) gb206 (Nat.le_of_eq hg.symm)) hb); have n4_ := Aside0.mk (Kd.V_below (Kd.V_elderB (by (with_reducible repeat (first | apply Kd.V_alloc | apply Kd.V_drewN | apply Kd.V_drew)); exact HL204_0.out) gb206 (Nat.le_of_eq hg.symm)) hb); have n5_ := Aside0.mk (Kd.C_below (by repeat (first | (with_reducible exact HR203_0.out) | (with_reducible refine Kd.C_alloc ?_ _) | (with_reducible refine Kd.C_drewN ?_ _) | (with_reducible refine Kd.C_drew ?_) | exact HR203_0.out)) hb); have n6_ := Aside0.mk (Kd.C_below (by repeat (first | (with_reducible exact HR204_0.out) | (with_reducible refine Kd.C_alloc ?_ _) | (with_reducible refine Kd.C_drewN ?_ _) | (with_reducible refine Kd.C_drew ?_) | exact HR204_0.out)) hb); have n7_ := Aside0.mk (below_step (by repeat (first | (with_reducible first | exact HB.out | apply below_alloc | apply pw_below_drewN | apply below_drew1) | exact HB.out)) hb); have n8_ := Aside0.mk (hbox); have n9_ := Aside0.mk ((by rw [hg]; exact (below_size (by repeat (first | (with_reducible first | exact HB.out | apply below_alloc | apply pw_below_drewN | apply below_drew1) | exact HB.out))) : w.heap.size ≤ gb206)); have n10_ := Aside0.mk ((by rw [hg]; exact (below_size (by repeat (first | (with_reducible first | exact HB.out | apply below_alloc | apply pw_below_drewN | apply below_drew1) | exact HB.out))) : w.heap.size ≤ gb206)); clear HO_0; clear HO_4; clear HO_8; clear HL203_0; clear HL204_0; clear HR203_0; clear HR204_0; clear HB; have HO_0 := n0_; have HO_4 := n1_; have HO_8 := n2_; have HL203_0 := n3_; have HL204_0 := n4_; have HR203_0 := n5_; have HR204_0 := n6_; have HB := n7_; have BK206 := n8_; have GW206 := n9_; have GE206 := n10_; clear n0_ n1_ n2_ n3_ n4_ n5_ n6_ n7_ n8_ n9_ n10_; clear hb hbox hg; have hcz36_0 : w35.cell? ⟨gb206, 0, none⟩ = some (.int .i64 0) := (blk_cell BK206.out 0).trans rfl; have hcz36_1 : w35.cell? ⟨gb206, 1, none⟩ = some (.int .i64 0) := (blk_cell BK206.out 1).trans rfl; have hfz36_0 := blk_frozen BK206.out 0; have hfz36_1 := blk_frozen BK206.out 1; have p207 : 0 ≤ (x10_2 : Int) := of_decide_eq_true (by first | (with_reducible assumption) | assumption); have q207 : x10_2 < (t191.length : Int) := of_decide_eq_true (by first | (with_reducible assumption) | assumption); obtain ⟨ad207, e207, hx207_0, hx207_1⟩ := at_T29 (Kd.R_reads' HO_4.out).2.2 x10_2 p207 q207; cases e207; have hn207_0 : ad207.block ≠ gb206 := Kd.own_blk (by first | exact Kd.R_ne HO_4.out BK206.out (by decide) | exact (fun e_ => by have h_ := HO_4.out.1 _ e_.symm; simp at h_)); have hn207_1 : ad207.block ≠ gb206 := Kd.own_blk (by first | exact Kd.R_ne HO_4.out BK206.out (by decide) | exact (fun e_ => by have h_ := HO_4.out.1 _ e_.symm; simp at h_)); replace hx207_0 := (cell_far (p := ⟨gb206, 0, none⟩) (by first | (rw [add_block]; exact hn207_0) | (show (Addr.add _ _).block ≠ _; rw [add_block]; exact hn207_0) | exact hn207_0) (.int .i64 ((rd_T29 (rd_L2 l0 x13_3) x10_2).f0))).trans hx207_0; replace hx207_1 := (cell_far (p := ⟨gb206, 0, none⟩) (by first | (rw [add_block]; exact hn207_0) | (show (Addr.add _ _).block ≠ _; rw [add_block]; exact hn207_0) | exact hn207_0) (.int .i64 ((rd_T29 (rd_L2 l0 x13_3) x10_2).f0))).trans hx207_1; replace hx207_0 := (cell_far (p := ⟨gb206, 1, none⟩) (by first | (rw [add_block]; exact hn207_1) | (show (Addr.add _ _).block ≠ _; rw [add_block]; exact hn207_1) | exact hn207_1) (.int .i64 ((rd_T29 (rd_L2 l0 x13_3) x10_2).f1))).trans hx207_0; replace hx207_1 := (cell_far (p := ⟨gb206, 1, none⟩) (by first | (rw [add_block]; exact hn207_1) | (show (Addr.add _ _).block ≠ _; rw [add_block]; exact hn207_1) | exact hn207_1) (.int .i64 ((rd_T29 (rd_L2 l0 x13_3) x10_2).f1))).trans hx207_1; (try have hy207_0 := fun (n_ : Nat) => (show ((((w35.drewN n_).setCell ⟨gb206, 0, none⟩ (.int .i64 ((rd_T29 (rd_L2 l0 x13_3) x10_2).f0))).setCell ⟨gb206, 1, none⟩ (.int .i64 ((rd_T29 (rd_L2 l0 x13_3) x10_2).f1)))).cell? _ = some _ from hx207_0)); (try have hy207_1 := fun (n_ : Nat) => (show ((((w35.drewN n_).setCell ⟨gb206, 0, none⟩ (.int .i64 ((rd_T29 (rd_L2 l0 x13_3) x10_2).f0))).setCell ⟨gb206, 1, none⟩ (.int .i64 ((rd_T29 (rd_L2 l0 x13_3) x10_2).f1)))).cell? _ = some _ from hx207_1)); clear hn207_0; clear hn207_1; replace p207 := eq_true p207; replace q207 := eq_true q207; have p208 : 0 ≤ (x10_2 : Int) := of_decide_eq_true (by first | (with_reducible assumption) | assumption); have q208 : x10_2 < (t191.length : Int) := of_decide_eq_true (by first | (with_reducible assumption) | assumption); obtain ⟨ad208, e208, hx208_0, hx208_1⟩ := at_T29 (Kd.R_reads' HO_4.out).2.2 x10_2 p208 q208; obtain rfl : ad207 = ad208 := (by injection e208); have hn208_0 : ad207.block ≠ gb206 := Kd.own_blk (by first | exact Kd.R_ne HO_4.out BK206.out (by decide) | exact (fun e_ => by have h_ := HO_4.out.1 _ e_.symm; simp at h_)); have hn208_1 : ad207.block ≠ gb206 := Kd.own_blk (by first | exact Kd.R_ne HO_4.out BK206.out (by decide) | exact (fun e_ => by have h_ := HO_4.out.1 _ e_.symm; simp at h_)); replace hx208_0 := (cell_far (p := ⟨gb206, 0, none⟩) (by first | (rw [add_block]; exact hn208_0) | (show (Addr.add _ _).block ≠ _; rw [add_block]; exact hn208_0) | exact hn208_0) (.int .i64 ((rd_T29 (rd_L2 l0 x13_3) x10_2).f0))).trans hx208_0; replace hx208_1 := (cell_far (p := ⟨gb206, 0, none⟩) (by first | (rw [add_block]; exact hn208_0) | (show (Addr.add _ _).block ≠ _; rw [add_block]; exact hn208_0) | exact hn208_0) (.int .i64 ((rd_T29 (rd_L2 l0 x13_3) x10_2).f0))).trans hx208_1; replace hx208_0 := (cell_far (p := ⟨gb206, 1, none⟩) (by first | (rw [add_block]; exact hn208_1) | (show (Addr.add _ _).block ≠ _; rw [add_block]; exact hn208_1) | exact hn208_1) (.int .i64 ((rd_T29 (rd_L2 l0 x13_3) x10_2).f1))).trans hx208_0; replace hx208_1 := (cell_far (p := ⟨gb206, 1, none⟩) (by first | (rw [add_block]; exact hn208_1) | (show (Addr.add _ _).block ≠ _; rw [add_block]; exact hn208_1) | exact hn208_1) (.int .i64 ((rd_T29 (rd_L2 l0 x13_3) x10_2).f1))).trans hx208_1; (try have hy208_0 := fun (n_ : Nat) => (show ((((w35.drewN n_).setCell ⟨gb206, 0, none⟩ (.int .i64 ((rd_T29 (rd_L2 l0 x13_3) x10_2).f0))).setCell ⟨gb206, 1, none⟩ (.int .i64 ((rd_T29 (rd_L2 l0 x13_3) x10_2).f1)))).cell? _ = some _ from hx208_0)); (try have hy208_1 := fun (n_ : Nat) => (show ((((w35.drewN n_).setCell ⟨gb206, 0, none⟩ (.int .i64 ((rd_T29 (rd_L2 l0 x13_3) x10_2).f0))).setCell ⟨gb206, 1, none⟩ (.int .i64 ((rd_T29 (rd_L2 l0 x13_3) x10_2).f1)))).cell? _ = some _ from hx208_1)); clear hn208_0; clear hn208_1; replace p208 := eq_true p208; replace q208 := eq_true q208; have p210 : 0 ≤ (x10_2 : Int) := of_decide_eq_true (by first | (with_reducible assumption) | assumption); have q210 : x10_2 < (t191.length : Int) := of_decide_eq_true (by first | (with_reducible assumption) | assumption); obtain ⟨ad210, e210, hx210_0, hx210_1⟩ := at_T29 (Kd.R_reads' HO_4.out).2.2 x10_2 p210 q210; obtain rfl : ad207 = ad210 := (by injection e210); have hn210_0 : ad207.block ≠ gb206 := Kd.own_blk (by first | exact Kd.R_ne HO_4.out BK206.out (by decide) | exact (fun e_ => by have h_ := HO_4.out.1 _ e_.symm; simp at h_)); have hn210_1 : ad207.block ≠ gb206 := Kd.own_blk (by first | exact Kd.R_ne HO_4.out BK206.out (by decide) | exact (fun e_ => by have h_ := HO_4.out.1 _ e_.symm; simp at h_)); replace hx210_0 := (cell_far (p := ⟨gb206, 0, none⟩) (by first | (rw [add_block]; exact hn210_0) | (show (Addr.add _ _).block ≠ _; rw [add_block]; exact hn210_0) | exact hn210_0) (.int .i64 ((rd_T29 (rd_L2 l0 x13_3) x10_2).f0))).trans hx210_0; replace hx210_1 := (cell_far (p := ⟨gb206, 0, none⟩) (by first | (rw [add_block]; exact hn210_0) | (show (Addr.add _ _).block ≠ _; rw [add_block]; exact hn210_0) | exact hn210_0) (.int .i64 ((rd_T29 (rd_L2 l0 x13_3) x10_2).f0))).trans hx210_1; replace hx210_0 := (cell_far (p := ⟨gb206, 1, none⟩) (by first | (rw [add_block]; exact hn210_1) | (show (Addr.add _ _).block ≠ _; rw [add_block]; exact hn210_1) | exact hn210_1) (.int .i64 ((rd_T29 (rd_L2 l0 x13_3) x10_2).f1))).trans hx210_0; replace hx210_1 := (cell_far (p := ⟨gb206, 1, none⟩) (by first | (rw [add_block]; exact hn210_1) | (show (Addr.add _ _).block ≠ _; rw [add_block]; exact hn210_1) | exact hn210_1) (.int .i64 ((rd_T29 (rd_L2 l0 x13_3) x10_2).f1))).trans hx210_1; (try have hy210_0 := fun (n_ : Nat) => (show ((((w35.drewN n_).setCell ⟨gb206, 0, none⟩ (.int .i64 ((rd_T29 (rd_L2 l0 x13_3) x10_2).f0))).setCell ⟨gb206, 1, none⟩ (.int .i64 ((rd_T29 (rd_L2 l0 x13_3) x10_2).f1)))).cell? _ = some _ from hx210_0)); (try have hy210_1 := fun (n_ : Nat) => (show ((((w35.drewN n_).setCell ⟨gb206, 0, none⟩ (.int .i64 ((rd_T29 (rd_L2 l0 x13_3) x10_2).f0))).setCell ⟨gb206, 1, none⟩ (.int .i64 ((rd_T29 (rd_L2 l0 x13_3) x10_2).f1)))).cell? _ = some _ from hx210_1)); clear hn210_0; clear hn210_1; replace p210 := eq_true p210; replace q210 := eq_true q210)))
                      go_roundg k3
                      case measure => have := HK1.out; have := HK2.out; have := HK3.out; omega
                      case rel => exact ⟨((((rd_T29 (rd_L2 l0 x13_3) x10_2).f0) == ((rd_T29 t191 x10_2).f0))), (true), (wrap64 (x13_3 + 1)), (by first | rfl | (simp; done) | (simp [*]; done)), (by first | rfl | (simp; done) | (simp [*]; done)), (by first | rfl | (simp; done) | (simp [*]; done)), H', ⟨by have := HK1.out; have := HK2.out; have := HK3.out; omega⟩, ⟨by (with_reducible repeat (first | apply Kd.V_alloc | apply Kd.V_drewN | apply Kd.V_drew)); exact Kd.V_mono (Kd.V_far (p := ⟨gb206, 1, none⟩) (Kd.V_far (p := ⟨gb206, 0, none⟩) (Kd.V_mono HO_0.out (fun k_ hk => (⟨hk, hk.2⟩ : _ ∧ k_ ≠ gb206))) (fun _ hk => hk.2) (.int .i64 ((rd_T29 (rd_L2 l0 x13_3) x10_2).f0))) (fun _ hk => hk.2) (.int .i64 ((rd_T29 (rd_L2 l0 x13_3) x10_2).f1))) (fun _ hk => ⟨hk.1.1.1, ⟨hk.1.1.2.1, hk.1.1.2.2⟩⟩)⟩, ⟨by (with_reducible repeat (first | apply Kd.R_alloc | apply Kd.R_drewN | apply Kd.R_drew)); exact Kd.R_mono (Kd.R_far (p := ⟨gb206, 1, none⟩) (Kd.R_far (p := ⟨gb206, 0, none⟩) (Kd.R_mono HO_4.out (fun k_ hk => (⟨hk, hk.2⟩ : _ ∧ k_ ≠ gb206))) (fun _ hk => hk.2) (.int .i64 ((rd_T29 (rd_L2 l0 x13_3) x10_2).f0))) (fun _ hk => hk.2) (.int .i64 ((rd_T29 (rd_L2 l0 x13_3) x10_2).f1))) (fun _ hk => ⟨hk.1.1.1, hk.1.1.2⟩)⟩, ⟨by (with_reducible repeat (first | apply Kd.R_alloc | apply Kd.R_drewN | apply Kd.R_drew)); exact Kd.R_mono (Kd.R_far (p := ⟨gb206, 1, none⟩) (Kd.R_far (p := ⟨gb206, 0, none⟩) (Kd.R_mono HO_8.out (fun k_ hk => (⟨hk, hk.2⟩ : _ ∧ k_ ≠ gb206))) (fun _ hk => hk.2) (.int .i64 ((rd_T29 (rd_L2 l0 x13_3) x10_2).f0))) (fun _ hk => hk.2) (.int .i64 ((rd_T29 (rd_L2 l0 x13_3) x10_2).f1))) (fun _ hk => ⟨hk.1.1.1, hk.1.1.2⟩)⟩, ⟨by repeat (first | (with_reducible first | exact HB.out | apply below_alloc | apply pw_below_drewN | apply below_drew1 | refine below_set ?_ GE206.out) | exact HB.out)⟩⟩
                     ·
                      replace c34 := Bool.eq_false_iff.mpr c34
                      subst c34
                      have H1 : (formelaw26_TableNeeds.l2 k3 l0 true t191 t199 t200 x10_2 (((rd_T29 (rd_L2 l0 x13_3) x10_2).f0) == ((rd_T29 t191 x10_2).f0)) (((rd_T29 (rd_L2 l0 x13_3) x10_2).f1) == ((rd_T29 t191 x10_2).f1)) (wrap64 (x13_3 + 1))) = some r := by rw [if_neg (show ¬ (false = true) by decide)] at H; exact H
                      clear H
                      have H := H1
                      clear H1
                      have H' := Aside0.mk H
                      clear H
                      have p203 : 0 ≤ (x13_3 : Int) := of_decide_eq_true (by first | (with_reducible assumption) | assumption)
                      have q203 : x13_3 < (l0.length : Int) := of_decide_eq_true (by first | (with_reducible assumption) | assumption)
                      obtain ⟨ad203, A203_0, c203_0, e203, hx203_0, hl203_0, hi203_0⟩ := at_L2 (Kd.V_reads' HO_0.out).2.2 x13_3 p203 q203
                      cases e203
                      obtain ⟨ce203, hce203, hMe203, hcc203⟩ := Kd.V_get HO_0.out [] x13_3 p203 (by first | exact q203 | exact of_decide_eq_true (by first | (with_reducible assumption) | assumption) | (have e_ := (Kd.V_reads' HO_0.out).1; omega))
                      obtain ⟨ua203_0, uc203_0, rfl, ul203_0, ge203_0⟩ := Kd.FK_slice_open hMe203
                      have hv203_0 := hcc203 0 _ rfl
                      rw [Nat.add_zero, show ((Kd.slice 29 k29)).sz = 1 from rfl, Nat.mul_one] at hv203_0
                      replace hv203_0 := Option.some.inj (hv203_0.symm.trans hx203_0)
                      injection hv203_0 with hva_ hvn_ hvc_
                      rw [hva_] at ge203_0
                      rw [hvc_] at ul203_0
                      have HL203_0 := Aside0.mk (show Kd.V k29 29 _ w.heap.size _ _ (rd_L2 l0 x13_3) from Kd.V_mk ul203_0 ge203_0)
                      clear hva_ hvn_ hvc_ ge203_0 ul203_0
                      clear hcc203 hce203
                      have HR203_0 := Aside0.mk hi203_0
                      have HC203_0 := Aside0.mk hl203_0
                      clear hi203_0 hl203_0
                      replace p203 := eq_true p203
                      replace q203 := eq_true q203
                      have p204 : 0 ≤ (x13_3 : Int) := of_decide_eq_true (by first | (with_reducible assumption) | assumption)
                      have q204 : x13_3 < (l0.length : Int) := of_decide_eq_true (by first | (with_reducible assumption) | assumption)
                      obtain ⟨ad204, A204_0, c204_0, e204, hx204_0, hl204_0, hi204_0⟩ := at_L2 (Kd.V_reads' HO_0.out).2.2 x13_3 p204 q204
                      obtain rfl : ad203 = ad204 := (by injection e204)
                      obtain ⟨ce204, hce204, hMe204, hcc204⟩ := Kd.V_get HO_0.out [] x13_3 p204 (by first | exact q204 | exact of_decide_eq_true (by first | (with_reducible assumption) | assumption) | (have e_ := (Kd.V_reads' HO_0.out).1; omega))
                      obtain ⟨ua204_0, uc204_0, rfl, ul204_0, ge204_0⟩ := Kd.FK_slice_open hMe204
                      have hv204_0 := hcc204 0 _ rfl
                      rw [Nat.add_zero, show ((Kd.slice 29 k29)).sz = 1 from rfl, Nat.mul_one] at hv204_0
                      replace hv204_0 := Option.some.inj (hv204_0.symm.trans hx204_0)
                      injection hv204_0 with hva_ hvn_ hvc_
                      rw [hva_] at ge204_0
                      rw [hvc_] at ul204_0
                      have HL204_0 := Aside0.mk (show Kd.V k29 29 _ w.heap.size _ _ (rd_L2 l0 x13_3) from Kd.V_mk ul204_0 ge204_0)
                      clear hva_ hvn_ hvc_ ge204_0 ul204_0
                      clear hcc204 hce204
                      have HR204_0 := Aside0.mk hi204_0
                      have HC204_0 := Aside0.mk hl204_0
                      clear hi204_0 hl204_0
                      replace p204 := eq_true p204
                      replace q204 := eq_true q204
                      have ea_ := Option.some.inj (hx203_0.symm.trans hx204_0)
                      injection ea_ with ea_ en_ ec_
                      subst ea_
                      subst ec_
                      clear en_
                      have p205 : 0 ≤ (x10_2 : Int) := of_decide_eq_true (by first | (with_reducible assumption) | assumption)
                      have q205 : x10_2 < ((rd_L2 l0 x13_3).length : Int) := of_decide_eq_true (by first | (with_reducible assumption) | assumption)
                      obtain ⟨ad205, e205, hx205_0, hx205_1⟩ := at_T29 (by repeat (first | (with_reducible exact HR204_0.out) | (with_reducible refine Kd.C_alloc ?_ _) | (with_reducible refine Kd.C_drewN ?_ _) | (with_reducible refine Kd.C_drew ?_) | exact HR204_0.out)) x10_2 p205 q205
                      cases e205
                      replace p205 := eq_true p205
                      replace q205 := eq_true q205
                      go_wp2_with (first | ((with_reducible refine gate_dst (N := 14) rfl ?_); (try (refine gate_guard (by rfl) ?_; dsimp only)); refine box_event ?hg (N := 14) ?hd (cs := #[.int .i64 0, .int .i64 0]) (t := 29) ?hr ?_; (case hd => rfl); (case hg => rfl); (case hr => first | (go_simp; done) | (go_simp; rfl)); intro gb206 hg w37 hbox hb; have n0_ := Aside0.mk (Kd.V_below (Kd.V_elderB (by (with_reducible repeat (first | apply Kd.V_alloc | apply Kd.V_drewN | apply Kd.V_drew)); exact HO_0.out) gb206 (Nat.le_of_eq hg.symm)) hb); have n1_ := Aside0.mk (Kd.R_below (Kd.R_elderB (by (with_reducible repeat (first | apply Kd.R_alloc | apply Kd.R_drewN | apply Kd.R_drew)); exact HO_4.out) gb206 (Nat.le_of_eq hg.symm)) hb); have n2_ := Aside0.mk (Kd.R_below (Kd.R_elderB (by (with_reducible repeat (first | apply Kd.R_alloc | apply Kd.R_drewN | apply Kd.R_drew)); exact HO_8.out) gb206 (Nat.le_of_eq hg.symm)) hb); have n3_ := Aside0.mk (Kd.V_below (Kd.V_elderB (by (with_reducible repeat (first | apply Kd.V_alloc | apply Kd.V_drewN | apply Kd.V_drew)); exact HL203_0.out) gb206 (Nat.le_of_eq hg.symm)) hb); have n4_ := Aside0.mk (Kd.V_below (Kd.V_elderB (by (with_reducible repeat (first | apply Kd.V_alloc | apply Kd.V_drewN | apply Kd.V_drew)); exact HL204_0.out) gb206 (Nat.le_of_eq hg.symm)) hb); have n5_ := Aside0.mk (Kd.C_below (by repeat (first | (with_reducible exact HR203_0.out) | (with_reducible refine Kd.C_alloc ?_ _) | (with_reducible refine Kd.C_drewN ?_ _) | (with_reducible refine Kd.C_drew ?_) | exact HR203_0.out)) hb); have n6_ := Aside0.mk (Kd.C_below (by repeat (first | (with_reducible exact HR204_0.out) | (with_reducible refine Kd.C_alloc ?_ _) | (with_reducible refine Kd.C_drewN ?_ _) | (with_reducible refine Kd.C_drew ?_) | exact HR204_0.out)) hb); have n7_ := Aside0.mk (below_step (by repeat (first | (with_reducible first | exact HB.out | apply below_alloc | apply pw_below_drewN | apply below_drew1) | exact HB.out)) hb); have n8_ := Aside0.mk (hbox); have n9_ := Aside0.mk ((by rw [hg]; exact (below_size (by repeat (first | (with_reducible first | exact HB.out | apply below_alloc | apply pw_below_drewN | apply below_drew1) | exact HB.out))) : w.heap.size ≤ gb206)); have n10_ := Aside0.mk ((by rw [hg]; exact (below_size (by repeat (first | (with_reducible first | exact HB.out | apply below_alloc | apply pw_below_drewN | apply below_drew1) | exact HB.out))) : w.heap.size ≤ gb206)); clear HO_0; clear HO_4; clear HO_8; clear HL203_0; clear HL204_0; clear HR203_0; clear HR204_0; clear HB; have HO_0 := n0_; have HO_4 := n1_; have HO_8 := n2_; have HL203_0 := n3_; have HL204_0 := n4_; have HR203_0 := n5_; have HR204_0 := n6_; have HB := n7_; have BK206 := n8_; have GW206 := n9_; have GE206 := n10_; clear n0_ n1_ n2_ n3_ n4_ n5_ n6_ n7_ n8_ n9_ n10_; clear hb hbox hg; have hcz38_0 : w37.cell? ⟨gb206, 0, none⟩ = some (.int .i64 0) := (blk_cell BK206.out 0).trans rfl; have hcz38_1 : w37.cell? ⟨gb206, 1, none⟩ = some (.int .i64 0) := (blk_cell BK206.out 1).trans rfl; have hfz38_0 := blk_frozen BK206.out 0; have hfz38_1 := blk_frozen BK206.out 1; have p207 : 0 ≤ (x10_2 : Int) := of_decide_eq_true (by first | (with_reducible assumption) | assumption); have q207 : x10_2 < (t191.length : Int) := of_decide_eq_true (by first | (with_reducible assumption) | assumption); obtain ⟨ad207, e207, hx207_0, hx207_1⟩ := at_T29 (Kd.R_reads' HO_4.out).2.2 x10_2 p207 q207; cases e207; have hn207_0 : ad207.block ≠ gb206 := Kd.own_blk (by first | exact Kd.R_ne HO_4.out BK206.out (by decide) | exact (fun e_ => by have h_ := HO_4.out.1 _ e_.symm; simp at h_)); have hn207_1 : ad207.block ≠ gb206 := Kd.own_blk (by first | exact Kd.R_ne HO_4.out BK206.out (by decide) | exact (fun e_ => by have h_ := HO_4.out.1 _ e_.symm; simp at h_)); replace hx207_0 := (cell_far (p := ⟨gb206, 0, none⟩) (by first | (rw [add_block]; exact hn207_0) | (show (Addr.add _ _).block ≠ _; rw [add_block]; exact hn207_0) | exact hn207_0) (.int .i64 ((rd_T29 (rd_L2 l0 x13_3) x10_2).f0))).trans hx207_0; replace hx207_1 := (cell_far (p := ⟨gb206, 0, none⟩) (by first | (rw [add_block]; exact hn207_0) | (show (Addr.add _ _).block ≠ _; rw [add_block]; exact hn207_0) | exact hn207_0) (.int .i64 ((rd_T29 (rd_L2 l0 x13_3) x10_2).f0))).trans hx207_1; replace hx207_0 := (cell_far (p := ⟨gb206, 1, none⟩) (by first | (rw [add_block]; exact hn207_1) | (show (Addr.add _ _).block ≠ _; rw [add_block]; exact hn207_1) | exact hn207_1) (.int .i64 ((rd_T29 (rd_L2 l0 x13_3) x10_2).f1))).trans hx207_0; replace hx207_1 := (cell_far (p := ⟨gb206, 1, none⟩) (by first | (rw [add_block]; exact hn207_1) | (show (Addr.add _ _).block ≠ _; rw [add_block]; exact hn207_1) | exact hn207_1) (.int .i64 ((rd_T29 (rd_L2 l0 x13_3) x10_2).f1))).trans hx207_1; (try have hy207_0 := fun (n_ : Nat) => (show ((((w37.drewN n_).setCell ⟨gb206, 0, none⟩ (.int .i64 ((rd_T29 (rd_L2 l0 x13_3) x10_2).f0))).setCell ⟨gb206, 1, none⟩ (.int .i64 ((rd_T29 (rd_L2 l0 x13_3) x10_2).f1)))).cell? _ = some _ from hx207_0)); (try have hy207_1 := fun (n_ : Nat) => (show ((((w37.drewN n_).setCell ⟨gb206, 0, none⟩ (.int .i64 ((rd_T29 (rd_L2 l0 x13_3) x10_2).f0))).setCell ⟨gb206, 1, none⟩ (.int .i64 ((rd_T29 (rd_L2 l0 x13_3) x10_2).f1)))).cell? _ = some _ from hx207_1)); clear hn207_0; clear hn207_1; replace p207 := eq_true p207; replace q207 := eq_true q207; have p208 : 0 ≤ (x10_2 : Int) := of_decide_eq_true (by first | (with_reducible assumption) | assumption); have q208 : x10_2 < (t191.length : Int) := of_decide_eq_true (by first | (with_reducible assumption) | assumption); obtain ⟨ad208, e208, hx208_0, hx208_1⟩ := at_T29 (Kd.R_reads' HO_4.out).2.2 x10_2 p208 q208; obtain rfl : ad207 = ad208 := (by injection e208); have hn208_0 : ad207.block ≠ gb206 := Kd.own_blk (by first | exact Kd.R_ne HO_4.out BK206.out (by decide) | exact (fun e_ => by have h_ := HO_4.out.1 _ e_.symm; simp at h_)); have hn208_1 : ad207.block ≠ gb206 := Kd.own_blk (by first | exact Kd.R_ne HO_4.out BK206.out (by decide) | exact (fun e_ => by have h_ := HO_4.out.1 _ e_.symm; simp at h_)); replace hx208_0 := (cell_far (p := ⟨gb206, 0, none⟩) (by first | (rw [add_block]; exact hn208_0) | (show (Addr.add _ _).block ≠ _; rw [add_block]; exact hn208_0) | exact hn208_0) (.int .i64 ((rd_T29 (rd_L2 l0 x13_3) x10_2).f0))).trans hx208_0; replace hx208_1 := (cell_far (p := ⟨gb206, 0, none⟩) (by first | (rw [add_block]; exact hn208_0) | (show (Addr.add _ _).block ≠ _; rw [add_block]; exact hn208_0) | exact hn208_0) (.int .i64 ((rd_T29 (rd_L2 l0 x13_3) x10_2).f0))).trans hx208_1; replace hx208_0 := (cell_far (p := ⟨gb206, 1, none⟩) (by first | (rw [add_block]; exact hn208_1) | (show (Addr.add _ _).block ≠ _; rw [add_block]; exact hn208_1) | exact hn208_1) (.int .i64 ((rd_T29 (rd_L2 l0 x13_3) x10_2).f1))).trans hx208_0; replace hx208_1 := (cell_far (p := ⟨gb206, 1, none⟩) (by first | (rw [add_block]; exact hn208_1) | (show (Addr.add _ _).block ≠ _; rw [add_block]; exact hn208_1) | exact hn208_1) (.int .i64 ((rd_T29 (rd_L2 l0 x13_3) x10_2).f1))).trans hx208_1; (try have hy208_0 := fun (n_ : Nat) => (show ((((w37.drewN n_).setCell ⟨gb206, 0, none⟩ (.int .i64 ((rd_T29 (rd_L2 l0 x13_3) x10_2).f0))).setCell ⟨gb206, 1, none⟩ (.int .i64 ((rd_T29 (rd_L2 l0 x13_3) x10_2).f1)))).cell? _ = some _ from hx208_0)); (try have hy208_1 := fun (n_ : Nat) => (show ((((w37.drewN n_).setCell ⟨gb206, 0, none⟩ (.int .i64 ((rd_T29 (rd_L2 l0 x13_3) x10_2).f0))).setCell ⟨gb206, 1, none⟩ (.int .i64 ((rd_T29 (rd_L2 l0 x13_3) x10_2).f1)))).cell? _ = some _ from hx208_1)); clear hn208_0; clear hn208_1; replace p208 := eq_true p208; replace q208 := eq_true q208; have p210 : 0 ≤ (x10_2 : Int) := of_decide_eq_true (by first | (with_reducible assumption) | assumption); have q210 : x10_2 < (t191.length : Int) := of_decide_eq_true (by first | (with_reducible assumption) | assumption); obtain ⟨ad210, e210, hx210_0, hx210_1⟩ := at_T29 (Kd.R_reads' HO_4.out).2.2 x10_2 p210 q210; obtain rfl : ad207 = ad210 := (by injection e210); have hn210_0 : ad207.block ≠ gb206 := Kd.own_blk (by first | exact Kd.R_ne HO_4.out BK206.out (by decide) | exact (fun e_ => by have h_ := HO_4.out.1 _ e_.symm; simp at h_)); have hn210_1 : ad207.block ≠ gb206 := Kd.own_blk (by first | exact Kd.R_ne HO_4.out BK206.out (by decide) | exact (fun e_ => by have h_ := HO_4.out.1 _ e_.symm; simp at h_)); replace hx210_0 := (cell_far (p := ⟨gb206, 0, none⟩) (by first | (rw [add_block]; exact hn210_0) | (show (Addr.add _ _).block ≠ _; rw [add_block]; exact hn210_0) | exact hn210_0) (.int .i64 ((rd_T29 (rd_L2 l0 x13_3) x10_2).f0))).trans hx210_0; replace hx210_1 := (cell_far (p := ⟨gb206, 0, none⟩) (by first | (rw [add_block]; exact hn210_0) | (show (Addr.add _ _).block ≠ _; rw [add_block]; exact hn210_0) | exact hn210_0) (.int .i64 ((rd_T29 (rd_L2 l0 x13_3) x10_2).f0))).trans hx210_1; replace hx210_0 := (cell_far (p := ⟨gb206, 1, none⟩) (by first | (rw [add_block]; exact hn210_1) | (show (Addr.add _ _).block ≠ _; rw [add_block]; exact hn210_1) | exact hn210_1) (.int .i64 ((rd_T29 (rd_L2 l0 x13_3) x10_2).f1))).trans hx210_0; replace hx210_1 := (cell_far (p := ⟨gb206, 1, none⟩) (by first | (rw [add_block]; exact hn210_1) | (show (Addr.add _ _).block ≠ _; rw [add_block]; exact hn210_1) | exact hn210_1) (.int .i64 ((rd_T29 (rd_L2 l0 x13_3) x10_2).f1))).trans hx210_1; (try have hy210_0 := fun (n_ : Nat) => (show ((((w37.drewN n_).setCell ⟨gb206, 0, none⟩ (.int .i64 ((rd_T29 (rd_L2 l0 x13_3) x10_2).f0))).setCell ⟨gb206, 1, none⟩ (.int .i64 ((rd_T29 (rd_L2 l0 x13_3) x10_2).f1)))).cell? _ = some _ from hx210_0)); (try have hy210_1 := fun (n_ : Nat) => (show ((((w37.drewN n_).setCell ⟨gb206, 0, none⟩ (.int .i64 ((rd_T29 (rd_L2 l0 x13_3) x10_2).f0))).setCell ⟨gb206, 1, none⟩ (.int .i64 ((rd_T29 (rd_L2 l0 x13_3) x10_2).f1)))).cell? _ = some _ from hx210_1)); clear hn210_0; clear hn210_1; replace p210 := eq_true p210; replace q210 := eq_true q210; have p211 : 0 ≤ (x10_2 : Int) := of_decide_eq_true (by first | (with_reducible assumption) | assumption); have q211 : x10_2 < (t191.length : Int) := of_decide_eq_true (by first | (with_reducible assumption) | assumption); obtain ⟨ad211, e211, hx211_0, hx211_1⟩ := at_T29 (Kd.R_reads' HO_4.out).2.2 x10_2 p211 q211; obtain rfl : ad207 = ad211 := (by injection e211); have hn211_0 : ad207.block ≠ gb206 := Kd.own_blk (by first | exact Kd.R_ne HO_4.out BK206.out (by decide) | exact (fun e_ => by have h_ := HO_4.out.1 _ e_.symm; simp at h_)); have hn211_1 : ad207.block ≠ gb206 := Kd.own_blk (by first | exact Kd.R_ne HO_4.out BK206.out (by decide) | exact (fun e_ => by have h_ := HO_4.out.1 _ e_.symm; simp at h_)); replace hx211_0 := (cell_far (p := ⟨gb206, 0, none⟩) (by first | (rw [add_block]; exact hn211_0) | (show (Addr.add _ _).block ≠ _; rw [add_block]; exact hn211_0) | exact hn211_0) (.int .i64 ((rd_T29 (rd_L2 l0 x13_3) x10_2).f0))).trans hx211_0; replace hx211_1 := (cell_far (p := ⟨gb206, 0, none⟩) (by first | (rw [add_block]; exact hn211_0) | (show (Addr.add _ _).block ≠ _; rw [add_block]; exact hn211_0) | exact hn211_0) (.int .i64 ((rd_T29 (rd_L2 l0 x13_3) x10_2).f0))).trans hx211_1; replace hx211_0 := (cell_far (p := ⟨gb206, 1, none⟩) (by first | (rw [add_block]; exact hn211_1) | (show (Addr.add _ _).block ≠ _; rw [add_block]; exact hn211_1) | exact hn211_1) (.int .i64 ((rd_T29 (rd_L2 l0 x13_3) x10_2).f1))).trans hx211_0; replace hx211_1 := (cell_far (p := ⟨gb206, 1, none⟩) (by first | (rw [add_block]; exact hn211_1) | (show (Addr.add _ _).block ≠ _; rw [add_block]; exact hn211_1) | exact hn211_1) (.int .i64 ((rd_T29 (rd_L2 l0 x13_3) x10_2).f1))).trans hx211_1; (try have hy211_0 := fun (n_ : Nat) => (show ((((w37.drewN n_).setCell ⟨gb206, 0, none⟩ (.int .i64 ((rd_T29 (rd_L2 l0 x13_3) x10_2).f0))).setCell ⟨gb206, 1, none⟩ (.int .i64 ((rd_T29 (rd_L2 l0 x13_3) x10_2).f1)))).cell? _ = some _ from hx211_0)); (try have hy211_1 := fun (n_ : Nat) => (show ((((w37.drewN n_).setCell ⟨gb206, 0, none⟩ (.int .i64 ((rd_T29 (rd_L2 l0 x13_3) x10_2).f0))).setCell ⟨gb206, 1, none⟩ (.int .i64 ((rd_T29 (rd_L2 l0 x13_3) x10_2).f1)))).cell? _ = some _ from hx211_1)); clear hn211_0; clear hn211_1; replace p211 := eq_true p211; replace q211 := eq_true q211))
                      repeat (go_quiet (fail); try go_wp2_with (first | ((with_reducible refine gate_dst (N := 14) rfl ?_); (try (refine gate_guard (by rfl) ?_; dsimp only)); refine box_event ?hg (N := 14) ?hd (cs := #[.int .i64 0, .int .i64 0]) (t := 29) ?hr ?_; (case hd => rfl); (case hg => rfl); (case hr => first | (go_simp; done) | (go_simp; rfl)); intro gb206 hg w37 hbox hb; have n0_ := Aside0.mk (Kd.V_below (Kd.V_elderB (by (with_reducible repeat (first | apply Kd.V_alloc | apply Kd.V_drewN | apply Kd.V_drew)); exact HO_0.out) gb206 (Nat.le_of_eq hg.symm)) hb); have n1_ := Aside0.mk (Kd.R_below (Kd.R_elderB (by (with_reducible repeat (first | apply Kd.R_alloc | apply Kd.R_drewN | apply Kd.R_drew)); exact HO_4.out) gb206 (Nat.le_of_eq hg.symm)) hb); have n2_ := Aside0.mk (Kd.R_below (Kd.R_elderB (by (with_reducible repeat (first | apply Kd.R_alloc | apply Kd.R_drewN | apply Kd.R_drew)); exact HO_8.out) gb206 (Nat.le_of_eq hg.symm)) hb); have n3_ := Aside0.mk (Kd.V_below (Kd.V_elderB (by (with_reducible repeat (first | apply Kd.V_alloc | apply Kd.V_drewN | apply Kd.V_drew)); exact HL203_0.out) gb206 (Nat.le_of_eq hg.symm)) hb); have n4_ := Aside0.mk (Kd.V_below (Kd.V_elderB (by (with_reducible repeat (first | apply Kd.V_alloc | apply Kd.V_drewN | apply Kd.V_drew)); exact HL204_0.out) gb206 (Nat.le_of_eq hg.symm)) hb); have n5_ := Aside0.mk (Kd.C_below (by repeat (first | (with_reducible exact HR203_0.out) | (with_reducible refine Kd.C_alloc ?_ _) | (with_reducible refine Kd.C_drewN ?_ _) | (with_reducible refine Kd.C_drew ?_) | exact HR203_0.out)) hb); have n6_ := Aside0.mk (Kd.C_below (by repeat (first | (with_reducible exact HR204_0.out) | (with_reducible refine Kd.C_alloc ?_ _) | (with_reducible refine Kd.C_drewN ?_ _) | (with_reducible refine Kd.C_drew ?_) | exact HR204_0.out)) hb); have n7_ := Aside0.mk (below_step (by repeat (first | (with_reducible first | exact HB.out | apply below_alloc | apply pw_below_drewN | apply below_drew1) | exact HB.out)) hb); have n8_ := Aside0.mk (hbox); have n9_ := Aside0.mk ((by rw [hg]; exact (below_size (by repeat (first | (with_reducible first | exact HB.out | apply below_alloc | apply pw_below_drewN | apply below_drew1) | exact HB.out))) : w.heap.size ≤ gb206)); have n10_ := Aside0.mk ((by rw [hg]; exact (below_size (by repeat (first | (with_reducible first | exact HB.out | apply below_alloc | apply pw_below_drewN | apply below_drew1) | exact HB.out))) : w.heap.size ≤ gb206)); clear HO_0; clear HO_4; clear HO_8; clear HL203_0; clear HL204_0; clear HR203_0; clear HR204_0; clear HB; have HO_0 := n0_; have HO_4 := n1_; have HO_8 := n2_; have HL203_0 := n3_; have HL204_0 := n4_; have HR203_0 := n5_; have HR204_0 := n6_; have HB := n7_; have BK206 := n8_; have GW206 := n9_; have GE206 := n10_; clear n0_ n1_ n2_ n3_ n4_ n5_ n6_ n7_ n8_ n9_ n10_; clear hb hbox hg; have hcz38_0 : w37.cell? ⟨gb206, 0, none⟩ = some (.int .i64 0) := (blk_cell BK206.out 0).trans rfl; have hcz38_1 : w37.cell? ⟨gb206, 1, none⟩ = some (.int .i64 0) := (blk_cell BK206.out 1).trans rfl; have hfz38_0 := blk_frozen BK206.out 0; have hfz38_1 := blk_frozen BK206.out 1; have p207 : 0 ≤ (x10_2 : Int) := of_decide_eq_true (by first | (with_reducible assumption) | assumption); have q207 : x10_2 < (t191.length : Int) := of_decide_eq_true (by first | (with_reducible assumption) | assumption); obtain ⟨ad207, e207, hx207_0, hx207_1⟩ := at_T29 (Kd.R_reads' HO_4.out).2.2 x10_2 p207 q207; cases e207; have hn207_0 : ad207.block ≠ gb206 := Kd.own_blk (by first | exact Kd.R_ne HO_4.out BK206.out (by decide) | exact (fun e_ => by have h_ := HO_4.out.1 _ e_.symm; simp at h_)); have hn207_1 : ad207.block ≠ gb206 := Kd.own_blk (by first | exact Kd.R_ne HO_4.out BK206.out (by decide) | exact (fun e_ => by have h_ := HO_4.out.1 _ e_.symm; simp at h_)); replace hx207_0 := (cell_far (p := ⟨gb206, 0, none⟩) (by first | (rw [add_block]; exact hn207_0) | (show (Addr.add _ _).block ≠ _; rw [add_block]; exact hn207_0) | exact hn207_0) (.int .i64 ((rd_T29 (rd_L2 l0 x13_3) x10_2).f0))).trans hx207_0; replace hx207_1 := (cell_far (p := ⟨gb206, 0, none⟩) (by first | (rw [add_block]; exact hn207_0) | (show (Addr.add _ _).block ≠ _; rw [add_block]; exact hn207_0) | exact hn207_0) (.int .i64 ((rd_T29 (rd_L2 l0 x13_3) x10_2).f0))).trans hx207_1; replace hx207_0 := (cell_far (p := ⟨gb206, 1, none⟩) (by first | (rw [add_block]; exact hn207_1) | (show (Addr.add _ _).block ≠ _; rw [add_block]; exact hn207_1) | exact hn207_1) (.int .i64 ((rd_T29 (rd_L2 l0 x13_3) x10_2).f1))).trans hx207_0; replace hx207_1 := (cell_far (p := ⟨gb206, 1, none⟩) (by first | (rw [add_block]; exact hn207_1) | (show (Addr.add _ _).block ≠ _; rw [add_block]; exact hn207_1) | exact hn207_1) (.int .i64 ((rd_T29 (rd_L2 l0 x13_3) x10_2).f1))).trans hx207_1; (try have hy207_0 := fun (n_ : Nat) => (show ((((w37.drewN n_).setCell ⟨gb206, 0, none⟩ (.int .i64 ((rd_T29 (rd_L2 l0 x13_3) x10_2).f0))).setCell ⟨gb206, 1, none⟩ (.int .i64 ((rd_T29 (rd_L2 l0 x13_3) x10_2).f1)))).cell? _ = some _ from hx207_0)); (try have hy207_1 := fun (n_ : Nat) => (show ((((w37.drewN n_).setCell ⟨gb206, 0, none⟩ (.int .i64 ((rd_T29 (rd_L2 l0 x13_3) x10_2).f0))).setCell ⟨gb206, 1, none⟩ (.int .i64 ((rd_T29 (rd_L2 l0 x13_3) x10_2).f1)))).cell? _ = some _ from hx207_1)); clear hn207_0; clear hn207_1; replace p207 := eq_true p207; replace q207 := eq_true q207; have p208 : 0 ≤ (x10_2 : Int) := of_decide_eq_true (by first | (with_reducible assumption) | assumption); have q208 : x10_2 < (t191.length : Int) := of_decide_eq_true (by first | (with_reducible assumption) | assumption); obtain ⟨ad208, e208, hx208_0, hx208_1⟩ := at_T29 (Kd.R_reads' HO_4.out).2.2 x10_2 p208 q208; obtain rfl : ad207 = ad208 := (by injection e208); have hn208_0 : ad207.block ≠ gb206 := Kd.own_blk (by first | exact Kd.R_ne HO_4.out BK206.out (by decide) | exact (fun e_ => by have h_ := HO_4.out.1 _ e_.symm; simp at h_)); have hn208_1 : ad207.block ≠ gb206 := Kd.own_blk (by first | exact Kd.R_ne HO_4.out BK206.out (by decide) | exact (fun e_ => by have h_ := HO_4.out.1 _ e_.symm; simp at h_)); replace hx208_0 := (cell_far (p := ⟨gb206, 0, none⟩) (by first | (rw [add_block]; exact hn208_0) | (show (Addr.add _ _).block ≠ _; rw [add_block]; exact hn208_0) | exact hn208_0) (.int .i64 ((rd_T29 (rd_L2 l0 x13_3) x10_2).f0))).trans hx208_0; replace hx208_1 := (cell_far (p := ⟨gb206, 0, none⟩) (by first | (rw [add_block]; exact hn208_0) | (show (Addr.add _ _).block ≠ _; rw [add_block]; exact hn208_0) | exact hn208_0) (.int .i64 ((rd_T29 (rd_L2 l0 x13_3) x10_2).f0))).trans hx208_1; replace hx208_0 := (cell_far (p := ⟨gb206, 1, none⟩) (by first | (rw [add_block]; exact hn208_1) | (show (Addr.add _ _).block ≠ _; rw [add_block]; exact hn208_1) | exact hn208_1) (.int .i64 ((rd_T29 (rd_L2 l0 x13_3) x10_2).f1))).trans hx208_0; replace hx208_1 := (cell_far (p := ⟨gb206, 1, none⟩) (by first | (rw [add_block]; exact hn208_1) | (show (Addr.add _ _).block ≠ _; rw [add_block]; exact hn208_1) | exact hn208_1) (.int .i64 ((rd_T29 (rd_L2 l0 x13_3) x10_2).f1))).trans hx208_1; (try have hy208_0 := fun (n_ : Nat) => (show ((((w37.drewN n_).setCell ⟨gb206, 0, none⟩ (.int .i64 ((rd_T29 (rd_L2 l0 x13_3) x10_2).f0))).setCell ⟨gb206, 1, none⟩ (.int .i64 ((rd_T29 (rd_L2 l0 x13_3) x10_2).f1)))).cell? _ = some _ from hx208_0)); (try have hy208_1 := fun (n_ : Nat) => (show ((((w37.drewN n_).setCell ⟨gb206, 0, none⟩ (.int .i64 ((rd_T29 (rd_L2 l0 x13_3) x10_2).f0))).setCell ⟨gb206, 1, none⟩ (.int .i64 ((rd_T29 (rd_L2 l0 x13_3) x10_2).f1)))).cell? _ = some _ from hx208_1)); clear hn208_0; clear hn208_1; replace p208 := eq_true p208; replace q208 := eq_true q208; have p210 : 0 ≤ (x10_2 : Int) := of_decide_eq_true (by first | (with_reducible assumption) | assumption); have q210 : x10_2 < (t191.length : Int) := of_decide_eq_true (by first | (with_reducible assumption) | assumption); obtain ⟨ad210, e210, hx210_0, hx210_1⟩ := at_T29 (Kd.R_reads' HO_4.out).2.2 x10_2 p210 q210; obtain rfl : ad207 = ad210 := (by injection e210); have hn210_0 : ad207.block ≠ gb206 := Kd.own_blk (by first | exact Kd.R_ne HO_4.out BK206.out (by decide) | exact (fun e_ => by have h_ := HO_4.out.1 _ e_.symm; simp at h_)); have hn210_1 : ad207.block ≠ gb206 := Kd.own_blk (by first | exact Kd.R_ne HO_4.out BK206.out (by decide) | exact (fun e_ => by have h_ := HO_4.out.1 _ e_.symm; simp at h_)); replace hx210_0 := (cell_far (p := ⟨gb206, 0, none⟩) (by first | (rw [add_block]; exact hn210_0) | (show (Addr.add _ _).block ≠ _; rw [add_block]; exact hn210_0) | exact hn210_0) (.int .i64 ((rd_T29 (rd_L2 l0 x13_3) x10_2).f0))).trans hx210_0; replace hx210_1 := (cell_far (p := ⟨gb206, 0, none⟩) (by first | (rw [add_block]; exact hn210_0) | (show (Addr.add _ _).block ≠ _; rw [add_block]; exact hn210_0) | exact hn210_0) (.int .i64 ((rd_T29 (rd_L2 l0 x13_3) x10_2).f0))).trans hx210_1; replace hx210_0 := (cell_far (p := ⟨gb206, 1, none⟩) (by first | (rw [add_block]; exact hn210_1) | (show (Addr.add _ _).block ≠ _; rw [add_block]; exact hn210_1) | exact hn210_1) (.int .i64 ((rd_T29 (rd_L2 l0 x13_3) x10_2).f1))).trans hx210_0; replace hx210_1 := (cell_far (p := ⟨gb206, 1, none⟩) (by first | (rw [add_block]; exact hn210_1) | (show (Addr.add _ _).block ≠ _; rw [add_block]; exact hn210_1) | exact hn210_1) (.int .i64 ((rd_T29 (rd_L2 l0 x13_3) x10_2).f1))).trans hx210_1; (try have hy210_0 := fun (n_ : Nat) => (show ((((w37.drewN n_).setCell ⟨gb206, 0, none⟩ (.int .i64 ((rd_T29 (rd_L2 l0 x13_3) x10_2).f0))).setCell ⟨gb206, 1, none⟩ (.int .i64 ((rd_T29 (rd_L2 l0 x13_3) x10_2).f1)))).cell? _ = some _ from hx210_0)); (try have hy210_1 := fun (n_ : Nat) => (show ((((w37.drewN n_).setCell ⟨gb206, 0, none⟩ (.int .i64 ((rd_T29 (rd_L2 l0 x13_3) x10_2).f0))).setCell ⟨gb206, 1, none⟩ (.int .i64 ((rd_T29 (rd_L2 l0 x13_3) x10_2).f1)))).cell? _ = some _ from hx210_1)); clear hn210_0; clear hn210_1; replace p210 := eq_true p210; replace q210 := eq_true q210; have p211 : 0 ≤ (x10_2 : Int) := of_decide_eq_true (by first | (with_reducible assumption) | assumption); have q211 : x10_2 < (t191.length : Int) := of_decide_eq_true (by first | (with_reducible assumption) | assumption); obtain ⟨ad211, e211, hx211_0, hx211_1⟩ := at_T29 (Kd.R_reads' HO_4.out).2.2 x10_2 p211 q211; obtain rfl : ad207 = ad211 := (by injection e211); have hn211_0 : ad207.block ≠ gb206 := Kd.own_blk (by first | exact Kd.R_ne HO_4.out BK206.out (by decide) | exact (fun e_ => by have h_ := HO_4.out.1 _ e_.symm; simp at h_)); have hn211_1 : ad207.block ≠ gb206 := Kd.own_blk (by first | exact Kd.R_ne HO_4.out BK206.out (by decide) | exact (fun e_ => by have h_ := HO_4.out.1 _ e_.symm; simp at h_)); replace hx211_0 := (cell_far (p := ⟨gb206, 0, none⟩) (by first | (rw [add_block]; exact hn211_0) | (show (Addr.add _ _).block ≠ _; rw [add_block]; exact hn211_0) | exact hn211_0) (.int .i64 ((rd_T29 (rd_L2 l0 x13_3) x10_2).f0))).trans hx211_0; replace hx211_1 := (cell_far (p := ⟨gb206, 0, none⟩) (by first | (rw [add_block]; exact hn211_0) | (show (Addr.add _ _).block ≠ _; rw [add_block]; exact hn211_0) | exact hn211_0) (.int .i64 ((rd_T29 (rd_L2 l0 x13_3) x10_2).f0))).trans hx211_1; replace hx211_0 := (cell_far (p := ⟨gb206, 1, none⟩) (by first | (rw [add_block]; exact hn211_1) | (show (Addr.add _ _).block ≠ _; rw [add_block]; exact hn211_1) | exact hn211_1) (.int .i64 ((rd_T29 (rd_L2 l0 x13_3) x10_2).f1))).trans hx211_0; replace hx211_1 := (cell_far (p := ⟨gb206, 1, none⟩) (by first | (rw [add_block]; exact hn211_1) | (show (Addr.add _ _).block ≠ _; rw [add_block]; exact hn211_1) | exact hn211_1) (.int .i64 ((rd_T29 (rd_L2 l0 x13_3) x10_2).f1))).trans hx211_1; (try have hy211_0 := fun (n_ : Nat) => (show ((((w37.drewN n_).setCell ⟨gb206, 0, none⟩ (.int .i64 ((rd_T29 (rd_L2 l0 x13_3) x10_2).f0))).setCell ⟨gb206, 1, none⟩ (.int .i64 ((rd_T29 (rd_L2 l0 x13_3) x10_2).f1)))).cell? _ = some _ from hx211_0)); (try have hy211_1 := fun (n_ : Nat) => (show ((((w37.drewN n_).setCell ⟨gb206, 0, none⟩ (.int .i64 ((rd_T29 (rd_L2 l0 x13_3) x10_2).f0))).setCell ⟨gb206, 1, none⟩ (.int .i64 ((rd_T29 (rd_L2 l0 x13_3) x10_2).f1)))).cell? _ = some _ from hx211_1)); clear hn211_0; clear hn211_1; replace p211 := eq_true p211; replace q211 := eq_true q211)))
                      go_roundg k3
                      case measure => have := HK1.out; have := HK2.out; have := HK3.out; omega
                      case rel => exact ⟨((((rd_T29 (rd_L2 l0 x13_3) x10_2).f0) == ((rd_T29 t191 x10_2).f0))), ((((rd_T29 (rd_L2 l0 x13_3) x10_2).f1) == ((rd_T29 t191 x10_2).f1))), (wrap64 (x13_3 + 1)), (by first | rfl | (simp; done) | (simp [*]; done)), (by first | rfl | (simp; done) | (simp [*]; done)), (by first | rfl | (simp; done) | (simp [*]; done)), H', ⟨by have := HK1.out; have := HK2.out; have := HK3.out; omega⟩, ⟨by (with_reducible repeat (first | apply Kd.V_alloc | apply Kd.V_drewN | apply Kd.V_drew)); exact Kd.V_mono (Kd.V_far (p := ⟨gb206, 1, none⟩) (Kd.V_far (p := ⟨gb206, 0, none⟩) (Kd.V_mono HO_0.out (fun k_ hk => (⟨hk, hk.2⟩ : _ ∧ k_ ≠ gb206))) (fun _ hk => hk.2) (.int .i64 ((rd_T29 (rd_L2 l0 x13_3) x10_2).f0))) (fun _ hk => hk.2) (.int .i64 ((rd_T29 (rd_L2 l0 x13_3) x10_2).f1))) (fun _ hk => ⟨hk.1.1.1, ⟨hk.1.1.2.1, hk.1.1.2.2⟩⟩)⟩, ⟨by (with_reducible repeat (first | apply Kd.R_alloc | apply Kd.R_drewN | apply Kd.R_drew)); exact Kd.R_mono (Kd.R_far (p := ⟨gb206, 1, none⟩) (Kd.R_far (p := ⟨gb206, 0, none⟩) (Kd.R_mono HO_4.out (fun k_ hk => (⟨hk, hk.2⟩ : _ ∧ k_ ≠ gb206))) (fun _ hk => hk.2) (.int .i64 ((rd_T29 (rd_L2 l0 x13_3) x10_2).f0))) (fun _ hk => hk.2) (.int .i64 ((rd_T29 (rd_L2 l0 x13_3) x10_2).f1))) (fun _ hk => ⟨hk.1.1.1, hk.1.1.2⟩)⟩, ⟨by (with_reducible repeat (first | apply Kd.R_alloc | apply Kd.R_drewN | apply Kd.R_drew)); exact Kd.R_mono (Kd.R_far (p := ⟨gb206, 1, none⟩) (Kd.R_far (p := ⟨gb206, 0, none⟩) (Kd.R_mono HO_8.out (fun k_ hk => (⟨hk, hk.2⟩ : _ ∧ k_ ≠ gb206))) (fun _ hk => hk.2) (.int .i64 ((rd_T29 (rd_L2 l0 x13_3) x10_2).f0))) (fun _ hk => hk.2) (.int .i64 ((rd_T29 (rd_L2 l0 x13_3) x10_2).f1))) (fun _ hk => ⟨hk.1.1.1, hk.1.1.2⟩)⟩, ⟨by repeat (first | (with_reducible first | exact HB.out | apply below_alloc | apply pw_below_drewN | apply below_drew1 | refine below_set ?_ GE206.out) | exact HB.out)⟩⟩
                 ·
                  rw [if_neg c25] at H
                  exact absurd H (by simp)
                ·
                 rw [if_neg c24] at H
                 exact absurd H (by simp)
               ·
                rw [if_neg c23] at H
                exact absurd H (by simp)
             ·
              rw [if_neg c21] at H
              exact absurd H (by simp)
            ·
             rw [if_neg c20] at H
             have c20b0 : decide (x13_3 < (l0.length : Int)) = false := decide_eq_false c20
             clear c20
             by_cases c39 : x11_3 = true
             ·
              subst c39
              have H1 : (if x12_3 = true then (formelaw26_TableNeeds.l1 k3 l0 true t191 t199 t200 (wrap64 (x10_2 + 1))) else (none)) = some r := by rw [if_pos rfl] at H; exact H
              clear H
              have H := H1
              clear H1
              by_cases c40 : x12_3 = true
              ·
               subst c40
               have H1 : (formelaw26_TableNeeds.l1 k3 l0 true t191 t199 t200 (wrap64 (x10_2 + 1))) = some r := by rw [if_pos rfl] at H; exact H
               clear H
               have H := H1
               clear H1
               have H' := Aside0.mk H
               clear H
               go_wp2
               repeat (go_quiet (fail); try go_wp2)
               go_roundg k3
               case measure => have := HK1.out; have := HK2.out; have := HK3.out; omega
               case rel => exact ⟨(wrap64 (x10_2 + 1)), (by first | rfl | (simp; done) | (simp [*]; done)), H', ⟨by have := HK1.out; have := HK2.out; have := HK3.out; omega⟩, ⟨by (with_reducible repeat (first | apply Kd.V_alloc | apply Kd.V_drewN | apply Kd.V_drew)); exact HO_0.out⟩, ⟨by (with_reducible repeat (first | apply Kd.R_alloc | apply Kd.R_drewN | apply Kd.R_drew)); exact HO_4.out⟩, ⟨by (with_reducible repeat (first | apply Kd.R_alloc | apply Kd.R_drewN | apply Kd.R_drew)); exact HO_8.out⟩, ⟨by repeat (first | (with_reducible first | exact HB.out | apply below_alloc | apply pw_below_drewN | apply below_drew1) | exact HB.out)⟩⟩
              ·
               replace c40 := Bool.eq_false_iff.mpr c40
               subst c40
               have H1 : (none) = some r := by rw [if_neg (show ¬ (false = true) by decide)] at H; exact H
               clear H
               have H := H1
               clear H1
               exact absurd H (by simp)
             ·
              replace c39 := Bool.eq_false_iff.mpr c39
              subst c39
              have H1 : (none) = some r := by rw [if_neg (show ¬ (false = true) by decide)] at H; exact H
              clear H
              have H := H1
              clear H1
              exact absurd H (by simp)
         ·
          rw [if_neg c18] at H
          have c18b0 : decide (x10_2 < (t191.length : Int)) = false := decide_eq_false c18
          clear c18
          have H' := Aside0.mk H
          clear H
          obtain ⟨Ao41, co41, eo41⟩ := Kd.R_slice HO_4.out
          subst eo41
          go_wp2
          repeat (go_quiet (fail); try go_wp2)
          go_loopg [15] k2 (fun kq v15 w' => ∃ (x15_3 : Int), v15 = .int .i64 x15_3 ∧ Aside0 (formelaw26_TableNeeds.l3 kq l0 true t191 t199 t200 x15_3 = some r) ∧ Aside0 (kq ≤ k2) ∧ Aside0 (Kd.V (Kd.slice 29 k29) 23 w' w.heap.size (fun k_ => (P0_ k_ ∨ w.heap.size ≤ k_) ∧ some k_ ≠ ((.slice Ao41 t191.length co41) : Value).ownBlock ∧ some k_ ≠ (v201 : Value).ownBlock) (.slice A0 l0.length c0) l0) ∧ Aside0 (Kd.R k29 29 w' w.heap.size (fun k_ => (w.heap.size ≤ k_) ∧ some k_ ≠ (v201 : Value).ownBlock) (.slice Ao41 t191.length co41) t191) ∧ Aside0 (Kd.R k29 29 w' w.heap.size (fun k_ => (w.heap.size ≤ k_) ∧ some k_ ≠ ((.slice Ao41 t191.length co41) : Value).ownBlock) v201 t199) ∧ Aside0 (Below w.heap.size w w'))
          case atStart => exact ⟨(0), (by first | rfl | (simp; done) | (simp [*]; done)), H', ⟨Nat.le_refl _⟩, ⟨by (with_reducible repeat (first | apply Kd.V_alloc | apply Kd.V_drewN | apply Kd.V_drew)); exact HO_0.out⟩, ⟨by (with_reducible repeat (first | apply Kd.R_alloc | apply Kd.R_drewN | apply Kd.R_drew)); exact HO_4.out⟩, ⟨by (with_reducible repeat (first | apply Kd.R_alloc | apply Kd.R_drewN | apply Kd.R_drew)); exact HO_8.out⟩, ⟨by repeat (first | (with_reducible first | exact HB.out | apply below_alloc | apply pw_below_drewN | apply below_drew1) | exact HB.out)⟩⟩
          case round =>
           clear H'
           try clear c1
           try clear p1
           try clear q1
           try clear hx1
           try clear c2
           try clear p2
           try clear q2
           try clear hx2
           try clear c3
           try clear c4
           try clear c5
           try clear p6
           try clear c9
           try clear c9b0
           try clear c10
           try clear c10b0
           try clear c11
           try clear c11b0
           try clear c12
           try clear c15
           try clear c15b0
           try clear c15b1
           try clear c18
           try clear c18b0
           try clear c19
           try clear p19
           try clear q19
           try clear hx19
           try clear c20
           try clear c20b0
           try clear p20
           try clear q20
           try clear hx20
           try clear c21
           try clear c21b0
           try clear p21
           try clear q21
           try clear hx21
           try clear c22
           try clear c22b0
           try clear c23
           try clear c23b0
           try clear c24
           try clear c24b0
           try clear c25
           try clear c25b0
           try clear c26
           try clear c26b0
           try clear c27
           try clear c27b0
           try clear c28
           try clear c29
           try clear c34
           try clear c39
           try clear c40
           try clear hcz31_0
           try clear hcz31_1
           try clear hcz33_0
           try clear hcz33_1
           try clear hcz36_0
           try clear hcz36_1
           try clear hcz38_0
           try clear hcz38_1
           try clear hfz31_0
           try clear hfz31_1
           try clear hfz33_0
           try clear hfz33_1
           try clear hfz36_0
           try clear hfz36_1
           try clear hfz38_0
           try clear hfz38_1
           try clear hx195_0
           try clear hx203_0
           try clear hx204_0
           try clear hx205_0
           try clear hx205_1
           try clear hx207_0
           try clear hx207_1
           try clear hx208_0
           try clear hx208_1
           try clear hx209_0
           try clear hx209_1
           try clear hx210_0
           try clear hx210_1
           try clear hx211_0
           try clear hx211_1
           try clear p1
           try clear p19
           try clear p195
           try clear p2
           try clear p203
           try clear p204
           try clear p205
           try clear p207
           try clear p208
           try clear p209
           try clear p210
           try clear p211
           try clear p6
           try clear q1
           try clear q19
           try clear q195
           try clear q203
           try clear q204
           try clear q205
           try clear q207
           try clear q208
           try clear q209
           try clear q210
           try clear q211
           obtain ⟨x15_3, rfl, HA, HK3, HO_0, HO_4, HO_8, HB⟩ := hrel
           cases gk with
           | zero => exact absurd HA.out (by simp [formelaw26_TableNeeds.l3])
           | succ k3 =>
            have H := HA.out
            clear HA
            simp only [formelaw26_TableNeeds.l3] at H
            by_cases c42 : x15_3 < (l0.length : Int)
            ·
             rw [if_pos c42] at H
             have c42b0 : decide (x15_3 < (l0.length : Int)) = true := decide_eq_true c42
             clear c42
             by_cases c43 : 0 ≤ x15_3
             ·
              rw [if_pos c43] at H
              have c43b0 : decide (0 ≤ x15_3) = true := decide_eq_true c43
              clear c43
              by_cases c44 : ((rd_L2 l0 x15_3).length : Int) > (t191.length : Int)
              ·
               rw [if_pos c44] at H
               exact absurd H (by simp)
              ·
               rw [if_neg c44] at H
               have c44b0 : decide ((t191.length : Int) < ((rd_L2 l0 x15_3).length : Int)) = false := decide_eq_false c44
               have c44b1 : decide (t191.length < (rd_L2 l0 x15_3).length) = false := decide_eq_false (fun h => c44 (Int.ofNat_lt.mpr h))
               clear c44
               have H' := Aside0.mk H
               clear H
               have p212 : 0 ≤ (x15_3 : Int) := of_decide_eq_true (by first | (with_reducible assumption) | assumption)
               have q212 : x15_3 < (l0.length : Int) := of_decide_eq_true (by first | (with_reducible assumption) | assumption)
               obtain ⟨ad212, A212_0, c212_0, e212, hx212_0, hl212_0, hi212_0⟩ := at_L2 (Kd.V_reads' HO_0.out).2.2 x15_3 p212 q212
               cases e212
               obtain ⟨ce212, hce212, hMe212, hcc212⟩ := Kd.V_get HO_0.out [] x15_3 p212 (by first | exact q212 | exact of_decide_eq_true (by first | (with_reducible assumption) | assumption) | (have e_ := (Kd.V_reads' HO_0.out).1; omega))
               obtain ⟨ua212_0, uc212_0, rfl, ul212_0, ge212_0⟩ := Kd.FK_slice_open hMe212
               have hv212_0 := hcc212 0 _ rfl
               rw [Nat.add_zero, show ((Kd.slice 29 k29)).sz = 1 from rfl, Nat.mul_one] at hv212_0
               replace hv212_0 := Option.some.inj (hv212_0.symm.trans hx212_0)
               injection hv212_0 with hva_ hvn_ hvc_
               rw [hva_] at ge212_0
               rw [hvc_] at ul212_0
               have HL212_0 := Aside0.mk (show Kd.V k29 29 _ w.heap.size _ _ (rd_L2 l0 x15_3) from Kd.V_mk ul212_0 ge212_0)
               clear hva_ hvn_ hvc_ ge212_0 ul212_0
               clear hcc212 hce212
               have HR212_0 := Aside0.mk hi212_0
               have HC212_0 := Aside0.mk hl212_0
               clear hi212_0 hl212_0
               replace p212 := eq_true p212
               replace q212 := eq_true q212
               go_wp2
               repeat (go_quiet (fail); try go_wp2)
               go_roundg k3
               case measure => have := HK1.out; have := HK2.out; have := HK3.out; omega
               case rel => exact ⟨(wrap64 (x15_3 + 1)), (by first | rfl | (simp; done) | (simp [*]; done)), H', ⟨by have := HK1.out; have := HK2.out; have := HK3.out; omega⟩, ⟨by (with_reducible repeat (first | apply Kd.V_alloc | apply Kd.V_drewN | apply Kd.V_drew)); exact HO_0.out⟩, ⟨by (with_reducible repeat (first | apply Kd.R_alloc | apply Kd.R_drewN | apply Kd.R_drew)); exact HO_4.out⟩, ⟨by (with_reducible repeat (first | apply Kd.R_alloc | apply Kd.R_drewN | apply Kd.R_drew)); exact HO_8.out⟩, ⟨by repeat (first | (with_reducible first | exact HB.out | apply below_alloc | apply pw_below_drewN | apply below_drew1) | exact HB.out)⟩⟩
             ·
              rw [if_neg c43] at H
              exact absurd H (by simp)
            ·
             rw [if_neg c42] at H
             have c42b0 : decide (x15_3 < (l0.length : Int)) = false := decide_eq_false c42
             clear c42
             (first | rw [if_pos (rfl : true = true)] at H | rw [if_pos True.intro] at H)
             by_cases c45 : t200 = 0
             ·
              rw [if_pos c45] at H
              have c45b0 : (t200 == 0) = true := beq_iff_eq.mpr c45
              have c45b1 : (t200 != 0) = false := bne_eq_false_iff_eq.mpr c45
              clear c45
              replace H := Option.bind_eq_some_iff.mp H
              obtain ⟨t213, A460, H⟩ := H
              replace H : (some t213) = some r := H
              have A46 := Aside0.mk A460
              clear A460
              obtain rfl := Option.some.inj H
              obtain ⟨Ao47, co47, eo47⟩ := Kd.R_slice HO_8.out
              subst eo47
              go_wp2_with (first | (go_at_call 14; (with_reducible refine (formeref26_SameNeeds.calls k3 _ _ t191 _ _ t199 t213 _ ?side1 ?side2 ?side3 ?side4 A46.out).mono ?_); (case side1 => repeat (first | exact (Kd.R_reads' HO_4.out).2.2 | (with_reducible refine Kd.C_alloc ?_ _) | (with_reducible refine Kd.C_drewN ?_ _) | (with_reducible refine Kd.C_drew ?_))); (case side2 => exact (Kd.R_reads' HO_4.out).2.1); (case side3 => repeat (first | exact (Kd.R_reads' HO_8.out).2.2 | (with_reducible refine Kd.C_alloc ?_ _) | (with_reducible refine Kd.C_drewN ?_ _) | (with_reducible refine Kd.C_drew ?_))); (case side4 => exact (Kd.R_reads' HO_8.out).2.1); rintro e w' ⟨rfl, ⟨nd, rfl⟩⟩; (try first | exact ⟨rfl, _, World.drewN_drewN _ _ _⟩ | exact ⟨rfl, _, Eq.trans (World.drewN_drewN _ _ _) (congrArg (World.drewN _) (Nat.add_assoc _ _ _))⟩)))
              repeat (go_quiet (first | (go_at_call 14; (with_reducible refine (formeref26_SameNeeds.calls k3 _ _ t191 _ _ t199 t213 _ ?side1 ?side2 ?side3 ?side4 A46.out).mono ?_); (case side1 => repeat (first | exact (Kd.R_reads' HO_4.out).2.2 | (with_reducible refine Kd.C_alloc ?_ _) | (with_reducible refine Kd.C_drewN ?_ _) | (with_reducible refine Kd.C_drew ?_))); (case side2 => exact (Kd.R_reads' HO_4.out).2.1); (case side3 => repeat (first | exact (Kd.R_reads' HO_8.out).2.2 | (with_reducible refine Kd.C_alloc ?_ _) | (with_reducible refine Kd.C_drewN ?_ _) | (with_reducible refine Kd.C_drew ?_))); (case side4 => exact (Kd.R_reads' HO_8.out).2.1); rintro e w' ⟨rfl, ⟨nd, rfl⟩⟩; (try first | exact ⟨rfl, _, World.drewN_drewN _ _ _⟩ | exact ⟨rfl, _, Eq.trans (World.drewN_drewN _ _ _) (congrArg (World.drewN _) (Nat.add_assoc _ _ _))⟩))); try go_wp2_with (first | (go_at_call 14; (with_reducible refine (formeref26_SameNeeds.calls k3 _ _ t191 _ _ t199 t213 _ ?side1 ?side2 ?side3 ?side4 A46.out).mono ?_); (case side1 => repeat (first | exact (Kd.R_reads' HO_4.out).2.2 | (with_reducible refine Kd.C_alloc ?_ _) | (with_reducible refine Kd.C_drewN ?_ _) | (with_reducible refine Kd.C_drew ?_))); (case side2 => exact (Kd.R_reads' HO_4.out).2.1); (case side3 => repeat (first | exact (Kd.R_reads' HO_8.out).2.2 | (with_reducible refine Kd.C_alloc ?_ _) | (with_reducible refine Kd.C_drewN ?_ _) | (with_reducible refine Kd.C_drew ?_))); (case side4 => exact (Kd.R_reads' HO_8.out).2.1); rintro e w' ⟨rfl, ⟨nd, rfl⟩⟩; (try first | exact ⟨rfl, _, World.drewN_drewN _ _ _⟩ | exact ⟨rfl, _, Eq.trans (World.drewN_drewN _ _ _) (congrArg (World.drewN _) (Nat.add_assoc _ _ _))⟩))))
              go_ret
              exact ⟨by first | rfl | (simp [errW_none, errW_some] <;> rfl) | (simp [*, errW_none, errW_some] <;> rfl), by repeat (first | (with_reducible first | exact HB.out | apply below_alloc | apply pw_below_drewN | apply below_drew1) | exact HB.out)⟩
             ·
              rw [if_neg c45] at H
              exact absurd H (by simp)
      ·
       rw [if_neg c15] at H
       have c15b0 : (t192 == 0) = false := beq_eq_false_iff_ne.mpr c15
       have c15b1 : (t192 != 0) = true := bne_iff_ne.mpr c15
       (first | rw [if_pos (rfl : true = true)] at H | rw [if_pos True.intro] at H)
       by_cases c48 : t192 = 1
       ·
        rw [if_pos c48] at H
        have c48b0 : (t192 == 1) = true := beq_iff_eq.mpr c48
        have c48b1 : (t192 != 1) = false := bne_eq_false_iff_eq.mpr c48
        clear c48
        by_cases c49 : t200 = 1
        ·
         rw [if_pos c49] at H
         have c49b0 : (t200 == 1) = true := beq_iff_eq.mpr c49
         have c49b1 : (t200 != 1) = false := bne_eq_false_iff_eq.mpr c49
         clear c49
         obtain rfl := Option.some.inj H
         obtain ⟨Ao50, co50, eo50⟩ := Kd.N_slice HO_6.out
         subst eo50
         go_wp2_with (first | (go_at_call 12; (with_reducible refine (table_Needs.calls _ _ x6_1 t199 t200 _ ?side1 ?side2 A14.out).mono ?_); (case side1 => repeat (first | exact (Kd.N_reads' HO_6.out).2.2 | (with_reducible refine Kd.C_alloc ?_ _) | (with_reducible refine Kd.C_drewN ?_ _) | (with_reducible refine Kd.C_drew ?_))); (case side2 => exact (Kd.N_reads' HO_6.out).2.1); rintro e w51 ⟨v201, rfl, ho0, hb⟩; have n0_ := Aside0.mk (Kd.V_elder' (by (with_reducible repeat (first | apply Kd.V_alloc | apply Kd.V_drewN | apply Kd.V_drew)); exact HO_0.out) (Kd.R_base ho0) hb); have n1_ := Aside0.mk (Kd.R_elder' (by (with_reducible repeat (first | apply Kd.R_alloc | apply Kd.R_drewN | apply Kd.R_drew)); exact HO_4.out) (Kd.R_base ho0) hb); have n2_ := Aside0.mk (Kd.N_elder' (by (with_reducible repeat (first | apply Kd.N_alloc | apply Kd.N_drewN | apply Kd.N_drew)); exact HO_6.out) (Kd.R_base ho0) hb); have n3_ := Aside0.mk (Kd.R_lower (Kd.R_new' (Kd.R_newM (M := fun k_ => (w.heap.size ≤ k_)) ho0 (below_size (by repeat (first | (with_reducible first | exact HB.out | apply below_alloc | apply pw_below_drewN | apply below_drew1) | exact HB.out))) (fun k_ h_ => h_)) (Kd.R_lt (by (with_reducible repeat (first | apply Kd.R_alloc | apply Kd.R_drewN | apply Kd.R_drew)); exact HO_4.out))) (below_size (by repeat (first | (with_reducible first | exact HB.out | apply below_alloc | apply pw_below_drewN | apply below_drew1) | exact HB.out)))); have n4_ := Aside0.mk (below_step (by repeat (first | (with_reducible first | exact HB.out | apply below_alloc | apply pw_below_drewN | apply below_drew1) | exact HB.out)) hb); clear HO_0; clear HO_4; clear HO_6; clear HB; have HO_0 := n0_; have HO_4 := n1_; have HO_6 := n2_; have HO202 := n3_; have HB := n4_; clear n0_ n1_ n2_ n3_ n4_; (try clear hb); (try clear hb2); (try clear hk); (try clear hi); (try clear ho0); obtain ⟨Ao52, co52, eo52⟩ := Kd.R_slice HO_4.out; subst eo52))
         repeat (go_quiet (fail); try go_wp2_with (first | (go_at_call 12; (with_reducible refine (table_Needs.calls _ _ x6_1 t199 t200 _ ?side1 ?side2 A14.out).mono ?_); (case side1 => repeat (first | exact (Kd.N_reads' HO_6.out).2.2 | (with_reducible refine Kd.C_alloc ?_ _) | (with_reducible refine Kd.C_drewN ?_ _) | (with_reducible refine Kd.C_drew ?_))); (case side2 => exact (Kd.N_reads' HO_6.out).2.1); rintro e w51 ⟨v201, rfl, ho0, hb⟩; have n0_ := Aside0.mk (Kd.V_elder' (by (with_reducible repeat (first | apply Kd.V_alloc | apply Kd.V_drewN | apply Kd.V_drew)); exact HO_0.out) (Kd.R_base ho0) hb); have n1_ := Aside0.mk (Kd.R_elder' (by (with_reducible repeat (first | apply Kd.R_alloc | apply Kd.R_drewN | apply Kd.R_drew)); exact HO_4.out) (Kd.R_base ho0) hb); have n2_ := Aside0.mk (Kd.N_elder' (by (with_reducible repeat (first | apply Kd.N_alloc | apply Kd.N_drewN | apply Kd.N_drew)); exact HO_6.out) (Kd.R_base ho0) hb); have n3_ := Aside0.mk (Kd.R_lower (Kd.R_new' (Kd.R_newM (M := fun k_ => (w.heap.size ≤ k_)) ho0 (below_size (by repeat (first | (with_reducible first | exact HB.out | apply below_alloc | apply pw_below_drewN | apply below_drew1) | exact HB.out))) (fun k_ h_ => h_)) (Kd.R_lt (by (with_reducible repeat (first | apply Kd.R_alloc | apply Kd.R_drewN | apply Kd.R_drew)); exact HO_4.out))) (below_size (by repeat (first | (with_reducible first | exact HB.out | apply below_alloc | apply pw_below_drewN | apply below_drew1) | exact HB.out)))); have n4_ := Aside0.mk (below_step (by repeat (first | (with_reducible first | exact HB.out | apply below_alloc | apply pw_below_drewN | apply below_drew1) | exact HB.out)) hb); clear HO_0; clear HO_4; clear HO_6; clear HB; have HO_0 := n0_; have HO_4 := n1_; have HO_6 := n2_; have HO202 := n3_; have HB := n4_; clear n0_ n1_ n2_ n3_ n4_; (try clear hb); (try clear hb2); (try clear hk); (try clear hi); (try clear ho0); obtain ⟨Ao52, co52, eo52⟩ := Kd.R_slice HO_4.out; subst eo52)))
         go_ret
         exact ⟨by first | rfl | (simp [errW_none, errW_some] <;> rfl) | (simp [*, errW_none, errW_some] <;> rfl), by repeat (first | (with_reducible first | exact HB.out | apply below_alloc | apply pw_below_drewN | apply below_drew1) | exact HB.out)⟩
        ·
         rw [if_neg c49] at H
         exact absurd H (by simp)
       ·
        rw [if_neg c48] at H
        exact absurd H (by simp)
  ·
   replace c5 := Bool.eq_false_iff.mpr c5
   subst c5
   have H1 : (some true) = some r := by rw [if_neg (show ¬ (false = true) by decide)] at H; exact H
   clear H
   have H := H1
   clear H1
   obtain rfl := Option.some.inj H
   go_enter Try.func4, Try.ntmps4
   go_wp2_with (first | (go_at_call 9; (with_reducible refine (formelaw26_head.calls k  true _ A2.out).mono ?_); rintro e w53 ⟨rfl, hb⟩; have n0_ := Aside0.mk (Kd.V_below (by (with_reducible repeat (first | apply Kd.V_alloc | apply Kd.V_drewN | apply Kd.V_drew)); exact HO0.out) hb); have n1_ := Aside0.mk (below_step (by repeat (first | (with_reducible first | exact HB.out | apply below_alloc | apply pw_below_drewN | apply below_drew1) | exact HB.out)) hb); clear HO0; clear HB; have HO0 := n0_; have HB := n1_; clear n0_ n1_; (try clear hb); (try clear hb2); (try clear hk); (try clear hi)) | (go_at_call 10; (with_reducible refine (api_Range_10.calls k _ _ l0 false _ ?side1 ?side2 A4.out).mono ?_); (case side1 => repeat (first | exact (Kd.V_reads' HO0.out).2.2 | (with_reducible refine Kd.C_alloc ?_ _) | (with_reducible refine Kd.C_drewN ?_ _) | (with_reducible refine Kd.C_drew ?_))); (case side2 => exact (Kd.V_reads' HO0.out).2.1); rintro e w' ⟨rfl, ⟨nd, rfl⟩⟩; (try first | exact ⟨rfl, _, World.drewN_drewN _ _ _⟩ | exact ⟨rfl, _, Eq.trans (World.drewN_drewN _ _ _) (congrArg (World.drewN _) (Nat.add_assoc _ _ _))⟩)))
   repeat (go_quiet (first | (go_at_call 10; (with_reducible refine (api_Range_10.calls k _ _ l0 false _ ?side1 ?side2 A4.out).mono ?_); (case side1 => repeat (first | exact (Kd.V_reads' HO0.out).2.2 | (with_reducible refine Kd.C_alloc ?_ _) | (with_reducible refine Kd.C_drewN ?_ _) | (with_reducible refine Kd.C_drew ?_))); (case side2 => exact (Kd.V_reads' HO0.out).2.1); rintro e w' ⟨rfl, ⟨nd, rfl⟩⟩; (try first | exact ⟨rfl, _, World.drewN_drewN _ _ _⟩ | exact ⟨rfl, _, Eq.trans (World.drewN_drewN _ _ _) (congrArg (World.drewN _) (Nat.add_assoc _ _ _))⟩))); try go_wp2_with (first | (go_at_call 9; (with_reducible refine (formelaw26_head.calls k  true _ A2.out).mono ?_); rintro e w53 ⟨rfl, hb⟩; have n0_ := Aside0.mk (Kd.V_below (by (with_reducible repeat (first | apply Kd.V_alloc | apply Kd.V_drewN | apply Kd.V_drew)); exact HO0.out) hb); have n1_ := Aside0.mk (below_step (by repeat (first | (with_reducible first | exact HB.out | apply below_alloc | apply pw_below_drewN | apply below_drew1) | exact HB.out)) hb); clear HO0; clear HB; have HO0 := n0_; have HB := n1_; clear n0_ n1_; (try clear hb); (try clear hb2); (try clear hk); (try clear hi)) | (go_at_call 10; (with_reducible refine (api_Range_10.calls k _ _ l0 false _ ?side1 ?side2 A4.out).mono ?_); (case side1 => repeat (first | exact (Kd.V_reads' HO0.out).2.2 | (with_reducible refine Kd.C_alloc ?_ _) | (with_reducible refine Kd.C_drewN ?_ _) | (with_reducible refine Kd.C_drew ?_))); (case side2 => exact (Kd.V_reads' HO0.out).2.1); rintro e w' ⟨rfl, ⟨nd, rfl⟩⟩; (try first | exact ⟨rfl, _, World.drewN_drewN _ _ _⟩ | exact ⟨rfl, _, Eq.trans (World.drewN_drewN _ _ _) (congrArg (World.drewN _) (Nat.add_assoc _ _ _))⟩))))
   go_ret
   exact ⟨by first | rfl | (simp [errW_none, errW_some] <;> rfl) | (simp [*, errW_none, errW_some] <;> rfl), by repeat (first | (with_reducible first | exact HB.out | apply below_alloc | apply pw_below_drewN | apply below_drew1) | exact HB.out)⟩
 ·
  replace c3 := Bool.eq_false_iff.mpr c3
  subst c3
  have H1 : (none) = some r := by rw [if_neg (show ¬ (false = true) by decide)] at H; exact H
  clear H
  have H := H1
  clear H1
  exact absurd H (by simp)

end Go.Proofs.Ytclfimdafmoafaa.P
