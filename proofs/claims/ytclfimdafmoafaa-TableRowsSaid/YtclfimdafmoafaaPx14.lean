-- Laid by a program of this session (wip/fam.sh) over the kit's words: Lean checks it.
import Derived.Test.YtclfimdafmoafaaPx0
import Derived.Test.YtclfimdafmoafaaPx3
import Derived.Test.YtclfimdafmoafaaPx4
import Derived.Test.YtclfimdafmoafaaPx10
import Derived.Test.YtclfimdafmoafaaHPlace
namespace Go.Proofs.Ytclfimdafmoafaa.P
open Go.RowKit Go.Proofs.YtclfimdafmoafaaW.PrintWords Go.Proofs.YtclfimdafmoafaaW.PrintLast Go.Proofs.YtclfimdafmoafaaW.PrintMore
attribute [local go_sem] max2_int min2_int max_two min_two max_three min_three max_four min_four   -- for this text's walks alone
set_option linter.unusedVariables false
set_option linter.unusedSimpArgs false

/-! ### formelaw26_TableRows: function 8 -/
mutual
def formelaw26_TableRows.j0 : Nat → List Int → List (List Int) → List (List Int) → Int → Bool → Bool → Option (Bool)
 | 0, _, _, _, _, _, _ => none
 | k + 1, x0, x1, x2, x3, x9, x42 => if x42 = true then (some x9) else ((table_Place.f x0 x1 x3).bind fun bt389 => ((table_Place.f x0 x2 x3).bind fun bt394 => (if bt389.2.2 = 0 then (formelaw26_TableRows.j1 k x0 x1 x2 x3 x9 bt389.1 bt389.2.1 bt394.1 bt394.2.1 (bt394.2.2 != 0)) else (formelaw26_TableRows.j1 k x0 x1 x2 x3 x9 bt389.1 bt389.2.1 bt394.1 bt394.2.1 true))))
def formelaw26_TableRows.j1 : Nat → List Int → List (List Int) → List (List Int) → Int → Bool → List (List (S50)) → Int → List (List (S50)) → Int → Bool → Option (Bool)
 | 0, _, _, _, _, _, _, _, _, _, _ => none
 | k + 1, x0, x1, x2, x3, x9, x10, x11, x13, x14, x65 => if x65 = true then (some x9) else ((some (([] : List (List Int)) : List (List Int))).bind fun y399 => (if y399.length + x1.length < 5864062014805 then ((some (y399 ++ x1 : List (List Int))).bind fun y402 => (if y402.length + x2.length < 5864062014805 then ((table_Place.f x0 (y402 ++ x2) x3).bind fun bt408 => (if bt408.2.2 = 0 then (formelaw26_TableRows.j2 k x3 x9 x10 x11 x13 bt408.1 (bt408.2.1 != (wrap64 ((wrap64 (x11 + x3)) + x14)))) else (formelaw26_TableRows.j2 k x3 x9 x10 x11 x13 bt408.1 true))) else (none))) else (none)))
def formelaw26_TableRows.j2 : Nat → Int → Bool → List (List (S50)) → Int → List (List (S50)) → List (List (S50)) → Bool → Option (Bool)
 | 0, _, _, _, _, _, _, _ => none
 | k + 1, x3, x9, x10, x11, x13, x16, x89 => if x89 = true then (some false) else ((some (([] : List (List (S50))) : List (List (S50)))).bind fun y413 => (if y413.length + x10.length < 5864062014805 then (formelaw26_TableRows.l0 k x3 x9 x11 x13 x16 (y413 ++ x10) 0) else (none)))
def formelaw26_TableRows.l0 : Nat → Int → Bool → Int → List (List (S50)) → List (List (S50)) → List (List (S50)) → Int → Option (Bool)
 | 0, _, _, _, _, _, _, _ => none
 | k + 1, x3, x9, x11, x13, x16, x19, x20 => if x20 < (x13.length : Int) then (formelaw26_TableRows.l1 k x3 x9 x11 x13 x16 x19 x20 ([] : List (S50)) 0) else (if x9 = true then ((formeref26_SameRows.f k x16 x19).bind fun t419 => (some t419)) else (some false))
def formelaw26_TableRows.l1 : Nat → Int → Bool → Int → List (List (S50)) → List (List (S50)) → List (List (S50)) → Int → List (S50) → Int → Option (Bool)
 | 0, _, _, _, _, _, _, _, _, _ => none
 | k + 1, x3, x9, x11, x13, x16, x19, x20, x21, x22 => if 0 ≤ x20 then (if x20 < (x13.length : Int) then (if x22 < ((rd_L11 x13 x20).length : Int) then (if 0 ≤ x22 then (if x21.length < 1954687338268 then (formelaw26_TableRows.l1 k x3 x9 x11 x13 x16 x19 x20 (x21 ++ [(⟨(rd_T50 (rd_L11 x13 x20) x22).f0, (rd_T50 (rd_L11 x13 x20) x22).f1, wrap64 (((rd_T50 (rd_L11 x13 x20) x22).f2) + (wrap64 (x11 + x3))), (rd_T50 (rd_L11 x13 x20) x22).f3, (rd_T50 (rd_L11 x13 x20) x22).f4, (rd_T50 (rd_L11 x13 x20) x22).f5, (rd_T50 (rd_L11 x13 x20) x22).f6⟩ : S50)]) (wrap64 (x22 + 1))) else (none)) else (none)) else (if x19.length < 5864062014805 then (formelaw26_TableRows.l0 k x3 x9 x11 x13 x16 (x19 ++ [x21]) (wrap64 (x20 + 1))) else (none))) else (none)) else (none)
end
def formelaw26_TableRows.f (k : Nat) (l0 : List Int) (l1 : List (List Int)) (l2 : List (List Int)) (a3 : Int) : Option (Bool) := (formelaw26_head.f k).bind fun t386 => (if t386 = true then ((formelaw26_few_int.f k l1).bind fun t387 => (if t387 = true then ((formelaw26_few_int.f k l2).bind fun t388 => (if t388 = true then (if (l1.length : Int) = 0 then (formelaw26_TableRows.j0 k l0 l1 l2 a3 true true) else (formelaw26_TableRows.j0 k l0 l1 l2 a3 true ((l2.length : Int) == 0))) else (formelaw26_TableRows.j0 k l0 l1 l2 a3 true true))) else (formelaw26_TableRows.j0 k l0 l1 l2 a3 true true))) else (none))
theorem formelaw26_TableRows.mono_l : ∀ k, (∀ y0 y1 y2 y3 y4 y5, LeO (formelaw26_TableRows.j0 k y0 y1 y2 y3 y4 y5) (formelaw26_TableRows.j0 (k + 1) y0 y1 y2 y3 y4 y5)) ∧ (∀ y0 y1 y2 y3 y4 y5 y6 y7 y8 y9, LeO (formelaw26_TableRows.j1 k y0 y1 y2 y3 y4 y5 y6 y7 y8 y9) (formelaw26_TableRows.j1 (k + 1) y0 y1 y2 y3 y4 y5 y6 y7 y8 y9)) ∧ (∀ y0 y1 y2 y3 y4 y5 y6, LeO (formelaw26_TableRows.j2 k y0 y1 y2 y3 y4 y5 y6) (formelaw26_TableRows.j2 (k + 1) y0 y1 y2 y3 y4 y5 y6)) ∧ (∀ y0 y1 y2 y3 y4 y5 y6, LeO (formelaw26_TableRows.l0 k y0 y1 y2 y3 y4 y5 y6) (formelaw26_TableRows.l0 (k + 1) y0 y1 y2 y3 y4 y5 y6)) ∧ (∀ y0 y1 y2 y3 y4 y5 y6 y7 y8, LeO (formelaw26_TableRows.l1 k y0 y1 y2 y3 y4 y5 y6 y7 y8) (formelaw26_TableRows.l1 (k + 1) y0 y1 y2 y3 y4 y5 y6 y7 y8))
 | 0 => ⟨fun _ _ _ _ _ _ r h => by simp [formelaw26_TableRows.j0] at h, fun _ _ _ _ _ _ _ _ _ _ r h => by simp [formelaw26_TableRows.j1] at h, fun _ _ _ _ _ _ _ r h => by simp [formelaw26_TableRows.j2] at h, fun _ _ _ _ _ _ _ r h => by simp [formelaw26_TableRows.l0] at h, fun _ _ _ _ _ _ _ _ _ r h => by simp [formelaw26_TableRows.l1] at h⟩
 | k + 1 => by
  obtain ⟨ih0, ih1, ih2, ih3, ih4⟩ := formelaw26_TableRows.mono_l k
  refine ⟨?_, ?_, ?_, ?_, ?_⟩
  ·
   intro y0 y1 y2 y3 y4 y5
   unfold formelaw26_TableRows.j0
   repeat' first
   | (with_reducible exact ih0 _ _ _ _ _ _)
   | (with_reducible exact ih1 _ _ _ _ _ _ _ _ _ _)
   | (with_reducible exact ih2 _ _ _ _ _ _ _)
   | (with_reducible exact ih3 _ _ _ _ _ _ _)
   | (with_reducible exact ih4 _ _ _ _ _ _ _ _ _)
   | (with_reducible exact formelaw26_few_int.mono _ _)
   | (with_reducible exact formelaw26_head.mono _)
   | (with_reducible exact formeref26_SameRows.mono _ _ _)
   | (with_reducible exact LeO.refl _)
   | (with_reducible exact LeO.none _)
   | (with_reducible refine LeO.ite ?_ ?_)
   | (with_reducible refine LeO.bind ?_ (fun _ => ?_))
   | exact ih0 _ _ _ _ _ _
   | exact ih1 _ _ _ _ _ _ _ _ _ _
   | exact ih2 _ _ _ _ _ _ _
   | exact ih3 _ _ _ _ _ _ _
   | exact ih4 _ _ _ _ _ _ _ _ _
   | exact formelaw26_few_int.mono _ _
   | exact formelaw26_head.mono _
   | exact formeref26_SameRows.mono _ _ _
   | exact LeO.none _
   | refine LeO.ite ?_ ?_
   | refine LeO.bind ?_ (fun _ => ?_)
  ·
   intro y0 y1 y2 y3 y4 y5 y6 y7 y8 y9
   unfold formelaw26_TableRows.j1
   repeat' first
   | (with_reducible exact ih0 _ _ _ _ _ _)
   | (with_reducible exact ih1 _ _ _ _ _ _ _ _ _ _)
   | (with_reducible exact ih2 _ _ _ _ _ _ _)
   | (with_reducible exact ih3 _ _ _ _ _ _ _)
   | (with_reducible exact ih4 _ _ _ _ _ _ _ _ _)
   | (with_reducible exact formelaw26_few_int.mono _ _)
   | (with_reducible exact formelaw26_head.mono _)
   | (with_reducible exact formeref26_SameRows.mono _ _ _)
   | (with_reducible exact LeO.refl _)
   | (with_reducible exact LeO.none _)
   | (with_reducible refine LeO.ite ?_ ?_)
   | (with_reducible refine LeO.bind ?_ (fun _ => ?_))
   | exact ih0 _ _ _ _ _ _
   | exact ih1 _ _ _ _ _ _ _ _ _ _
   | exact ih2 _ _ _ _ _ _ _
   | exact ih3 _ _ _ _ _ _ _
   | exact ih4 _ _ _ _ _ _ _ _ _
   | exact formelaw26_few_int.mono _ _
   | exact formelaw26_head.mono _
   | exact formeref26_SameRows.mono _ _ _
   | exact LeO.none _
   | refine LeO.ite ?_ ?_
   | refine LeO.bind ?_ (fun _ => ?_)
  ·
   intro y0 y1 y2 y3 y4 y5 y6
   unfold formelaw26_TableRows.j2
   repeat' first
   | (with_reducible exact ih0 _ _ _ _ _ _)
   | (with_reducible exact ih1 _ _ _ _ _ _ _ _ _ _)
   | (with_reducible exact ih2 _ _ _ _ _ _ _)
   | (with_reducible exact ih3 _ _ _ _ _ _ _)
   | (with_reducible exact ih4 _ _ _ _ _ _ _ _ _)
   | (with_reducible exact formelaw26_few_int.mono _ _)
   | (with_reducible exact formelaw26_head.mono _)
   | (with_reducible exact formeref26_SameRows.mono _ _ _)
   | (with_reducible exact LeO.refl _)
   | (with_reducible exact LeO.none _)
   | (with_reducible refine LeO.ite ?_ ?_)
   | (with_reducible refine LeO.bind ?_ (fun _ => ?_))
   | exact ih0 _ _ _ _ _ _
   | exact ih1 _ _ _ _ _ _ _ _ _ _
   | exact ih2 _ _ _ _ _ _ _
   | exact ih3 _ _ _ _ _ _ _
   | exact ih4 _ _ _ _ _ _ _ _ _
   | exact formelaw26_few_int.mono _ _
   | exact formelaw26_head.mono _
   | exact formeref26_SameRows.mono _ _ _
   | exact LeO.none _
   | refine LeO.ite ?_ ?_
   | refine LeO.bind ?_ (fun _ => ?_)
  ·
   intro y0 y1 y2 y3 y4 y5 y6
   unfold formelaw26_TableRows.l0
   repeat' first
   | (with_reducible exact ih0 _ _ _ _ _ _)
   | (with_reducible exact ih1 _ _ _ _ _ _ _ _ _ _)
   | (with_reducible exact ih2 _ _ _ _ _ _ _)
   | (with_reducible exact ih3 _ _ _ _ _ _ _)
   | (with_reducible exact ih4 _ _ _ _ _ _ _ _ _)
   | (with_reducible exact formelaw26_few_int.mono _ _)
   | (with_reducible exact formelaw26_head.mono _)
   | (with_reducible exact formeref26_SameRows.mono _ _ _)
   | (with_reducible exact LeO.refl _)
   | (with_reducible exact LeO.none _)
   | (with_reducible refine LeO.ite ?_ ?_)
   | (with_reducible refine LeO.bind ?_ (fun _ => ?_))
   | exact ih0 _ _ _ _ _ _
   | exact ih1 _ _ _ _ _ _ _ _ _ _
   | exact ih2 _ _ _ _ _ _ _
   | exact ih3 _ _ _ _ _ _ _
   | exact ih4 _ _ _ _ _ _ _ _ _
   | exact formelaw26_few_int.mono _ _
   | exact formelaw26_head.mono _
   | exact formeref26_SameRows.mono _ _ _
   | exact LeO.none _
   | refine LeO.ite ?_ ?_
   | refine LeO.bind ?_ (fun _ => ?_)
  ·
   intro y0 y1 y2 y3 y4 y5 y6 y7 y8
   unfold formelaw26_TableRows.l1
   repeat' first
   | (with_reducible exact ih0 _ _ _ _ _ _)
   | (with_reducible exact ih1 _ _ _ _ _ _ _ _ _ _)
   | (with_reducible exact ih2 _ _ _ _ _ _ _)
   | (with_reducible exact ih3 _ _ _ _ _ _ _)
   | (with_reducible exact ih4 _ _ _ _ _ _ _ _ _)
   | (with_reducible exact formelaw26_few_int.mono _ _)
   | (with_reducible exact formelaw26_head.mono _)
   | (with_reducible exact formeref26_SameRows.mono _ _ _)
   | (with_reducible exact LeO.refl _)
   | (with_reducible exact LeO.none _)
   | (with_reducible refine LeO.ite ?_ ?_)
   | (with_reducible refine LeO.bind ?_ (fun _ => ?_))
   | exact ih0 _ _ _ _ _ _
   | exact ih1 _ _ _ _ _ _ _ _ _ _
   | exact ih2 _ _ _ _ _ _ _
   | exact ih3 _ _ _ _ _ _ _
   | exact ih4 _ _ _ _ _ _ _ _ _
   | exact formelaw26_few_int.mono _ _
   | exact formelaw26_head.mono _
   | exact formeref26_SameRows.mono _ _ _
   | exact LeO.none _
   | refine LeO.ite ?_ ?_
   | refine LeO.bind ?_ (fun _ => ?_)
theorem formelaw26_TableRows.mono : ∀ a0 a1 a2 a3 k, LeO (formelaw26_TableRows.f k a0 a1 a2 a3) (formelaw26_TableRows.f (k + 1) a0 a1 a2 a3) := by
 intro a0 a1 a2 a3 k
 obtain ⟨ih0, ih1, ih2, ih3, ih4⟩ := formelaw26_TableRows.mono_l k
 unfold formelaw26_TableRows.f
 repeat' first
   | (with_reducible exact ih0 _ _ _ _ _ _)
   | (with_reducible exact ih1 _ _ _ _ _ _ _ _ _ _)
   | (with_reducible exact ih2 _ _ _ _ _ _ _)
   | (with_reducible exact ih3 _ _ _ _ _ _ _)
   | (with_reducible exact ih4 _ _ _ _ _ _ _ _ _)
   | (with_reducible exact formelaw26_few_int.mono _ _)
   | (with_reducible exact formelaw26_head.mono _)
   | (with_reducible exact formeref26_SameRows.mono _ _ _)
   | (with_reducible exact LeO.refl _)
   | (with_reducible exact LeO.none _)
   | (with_reducible refine LeO.ite ?_ ?_)
   | (with_reducible refine LeO.bind ?_ (fun _ => ?_))
   | exact ih0 _ _ _ _ _ _
   | exact ih1 _ _ _ _ _ _ _ _ _ _
   | exact ih2 _ _ _ _ _ _ _
   | exact ih3 _ _ _ _ _ _ _
   | exact ih4 _ _ _ _ _ _ _ _ _
   | exact formelaw26_few_int.mono _ _
   | exact formelaw26_head.mono _
   | exact formeref26_SameRows.mono _ _ _
   | exact LeO.none _
   | refine LeO.ite ?_ ?_
   | refine LeO.bind ?_ (fun _ => ?_)
set_option maxHeartbeats 8000000 in
set_option maxRecDepth 100000 in
theorem formelaw26_TableRows.calls (k : Nat) (A0 : Option Addr) (c0 : Nat) (l0 : List Int) (P1_ : Nat → Prop) (A1 : Option Addr) (c1 : Nat) (l1 : List (List Int)) (P2_ : Nat → Prop) (A2 : Option Addr) (c2 : Nat) (l2 : List (List Int)) (a3 : Int) (r : Bool) (w : World) (hr0 : Kd.C (Kd.int .i64) w A0 l0.length l0) (hc0 : l0.length ≤ c0) (hs1 : Kd.V (Kd.slice 3 (Kd.int .i64)) 24 w w.heap.size (fun k_ => P1_ k_) (.slice A1 l1.length c1) l1) (hs2 : Kd.V (Kd.slice 3 (Kd.int .i64)) 24 w w.heap.size (fun k_ => P2_ k_) (.slice A2 l2.length c2) l2) (h : formelaw26_TableRows.f k l0 l1 l2 a3 = some r) :
  Calls Try.prog 8 #[.slice A0 l0.length c0, .slice A1 l1.length c1, .slice A2 l2.length c2, .int .i64 a3] w fun e w' => e = .returned (.bool r) ∧ Below w.heap.size w w' := by
 have hu50 := Try.underlying50
 have HR0 := Aside0.mk hr0
 have HC0 := Aside0.mk hc0
 clear hr0 hc0
 have HO1 := Aside0.mk (show Kd.V (Kd.slice 3 (Kd.int .i64)) 24 w w.heap.size (fun k_ => ((P1_ k_ ∨ P2_ k_) ∨ w.heap.size ≤ k_)) (.slice A1 l1.length c1) l1 from Kd.V_mono hs1 (fun k_ hk => .inl (.inl hk)))
 have HO2 := Aside0.mk (show Kd.V (Kd.slice 3 (Kd.int .i64)) 24 w w.heap.size (fun k_ => ((P1_ k_ ∨ P2_ k_) ∨ w.heap.size ≤ k_)) (.slice A2 l2.length c2) l2 from Kd.V_mono hs2 (fun k_ hk => .inl (.inr hk)))
 have HB := Aside0.mk (Below.refl w.heap.size w)
 have H : ((formelaw26_head.f k).bind fun t386 => (if t386 = true then ((formelaw26_few_int.f k l1).bind fun t387 => (if t387 = true then ((formelaw26_few_int.f k l2).bind fun t388 => (if t388 = true then (if (l1.length : Int) = 0 then (formelaw26_TableRows.j0 k l0 l1 l2 a3 true true) else (formelaw26_TableRows.j0 k l0 l1 l2 a3 true ((l2.length : Int) == 0))) else (formelaw26_TableRows.j0 k l0 l1 l2 a3 true true))) else (formelaw26_TableRows.j0 k l0 l1 l2 a3 true true))) else (none))) = some r := h
 clear h
 replace H := Option.bind_eq_some_iff.mp H
 obtain ⟨t386, A50, H⟩ := H
 replace H : (if t386 = true then ((formelaw26_few_int.f k l1).bind fun t387 => (if t387 = true then ((formelaw26_few_int.f k l2).bind fun t388 => (if t388 = true then (if (l1.length : Int) = 0 then (formelaw26_TableRows.j0 k l0 l1 l2 a3 true true) else (formelaw26_TableRows.j0 k l0 l1 l2 a3 true ((l2.length : Int) == 0))) else (formelaw26_TableRows.j0 k l0 l1 l2 a3 true true))) else (formelaw26_TableRows.j0 k l0 l1 l2 a3 true true))) else (none)) = some r := H
 have A5 := Aside0.mk A50
 clear A50
 by_cases c6 : t386 = true
 ·
  subst c6
  have H1 : ((formelaw26_few_int.f k l1).bind fun t387 => (if t387 = true then ((formelaw26_few_int.f k l2).bind fun t388 => (if t388 = true then (if (l1.length : Int) = 0 then (formelaw26_TableRows.j0 k l0 l1 l2 a3 true true) else (formelaw26_TableRows.j0 k l0 l1 l2 a3 true ((l2.length : Int) == 0))) else (formelaw26_TableRows.j0 k l0 l1 l2 a3 true true))) else (formelaw26_TableRows.j0 k l0 l1 l2 a3 true true))) = some r := by rw [if_pos rfl] at H; exact H
  clear H
  have H := H1
  clear H1
  have HC7 := Aside0.mk H
  clear H
  go_enter Try.func8, Try.ntmps8
  go_upto_region 2 with (first | ((with_reducible refine gate_callee (f := 9) rfl ?_); refine goesL_ (some 24) rfl rfl Try.func9 (by kernel_rfl) rfl #[] rfl (by (try simp only [List.map_toArray, List.map_cons, List.map_nil]); first | done | rfl | (simp only [List.length_drop, List.length_take]; rfl)) ?_; (with_reducible refine (formelaw26_head.calls k  true _ A5.out).mono ?_); rintro e w8 ⟨rfl, hb⟩; refine ⟨_, rfl, ?_⟩; have n0_ := Aside0.mk (Kd.V_below (by (with_reducible repeat (first | apply Kd.V_alloc | apply Kd.V_drewN | apply Kd.V_drew)); exact HO1.out) hb); have n1_ := Aside0.mk (Kd.V_below (by (with_reducible repeat (first | apply Kd.V_alloc | apply Kd.V_drewN | apply Kd.V_drew)); exact HO2.out) hb); have n2_ := Aside0.mk (below_step (by repeat (first | (with_reducible first | exact HB.out | apply below_alloc | apply pw_below_drewN | apply below_drew1) | exact HB.out)) hb); clear HO1; clear HO2; clear HB; have HO1 := n0_; have HO2 := n1_; have HB := n2_; clear n0_ n1_ n2_; (try clear hb); (try clear hb2); (try clear hk); (try clear hi)))
  (try simp only [Act.put, List.setIfInBounds_toArray, List.set_cons_zero, List.set_cons_succ])
  go_cut [42] (fun v42 wc => ∃ (kq : Nat) (x42_6 : Bool), v42 = .bool x42_6 ∧ Aside0 (formelaw26_TableRows.j0 kq l0 l1 l2 a3 true x42_6 = some r) ∧ Aside0 (kq ≤ k) ∧ Aside0 (Kd.V (Kd.slice 3 (Kd.int .i64)) 24 wc w.heap.size (fun k_ => ((P1_ k_ ∨ P2_ k_) ∨ w.heap.size ≤ k_)) (.slice A1 l1.length c1) l1) ∧ Aside0 (Kd.V (Kd.slice 3 (Kd.int .i64)) 24 wc w.heap.size (fun k_ => ((P1_ k_ ∨ P2_ k_) ∨ w.heap.size ≤ k_)) (.slice A2 l2.length c2) l2) ∧ Aside0 (Below w.heap.size w wc))
  case first =>
   have H := HC7.out
   clear HC7
   replace H := Option.bind_eq_some_iff.mp H
   obtain ⟨t387, A90, H⟩ := H
   replace H : (if t387 = true then ((formelaw26_few_int.f k l2).bind fun t388 => (if t388 = true then (if (l1.length : Int) = 0 then (formelaw26_TableRows.j0 k l0 l1 l2 a3 true true) else (formelaw26_TableRows.j0 k l0 l1 l2 a3 true ((l2.length : Int) == 0))) else (formelaw26_TableRows.j0 k l0 l1 l2 a3 true true))) else (formelaw26_TableRows.j0 k l0 l1 l2 a3 true true)) = some r := H
   have A9 := Aside0.mk A90
   clear A90
   by_cases c10 : t387 = true
   ·
    subst c10
    have H1 : ((formelaw26_few_int.f k l2).bind fun t388 => (if t388 = true then (if (l1.length : Int) = 0 then (formelaw26_TableRows.j0 k l0 l1 l2 a3 true true) else (formelaw26_TableRows.j0 k l0 l1 l2 a3 true ((l2.length : Int) == 0))) else (formelaw26_TableRows.j0 k l0 l1 l2 a3 true true))) = some r := by rw [if_pos rfl] at H; exact H
    clear H
    have H := H1
    clear H1
    replace H := Option.bind_eq_some_iff.mp H
    obtain ⟨t388, A110, H⟩ := H
    replace H : (if t388 = true then (if (l1.length : Int) = 0 then (formelaw26_TableRows.j0 k l0 l1 l2 a3 true true) else (formelaw26_TableRows.j0 k l0 l1 l2 a3 true ((l2.length : Int) == 0))) else (formelaw26_TableRows.j0 k l0 l1 l2 a3 true true)) = some r := H
    have A11 := Aside0.mk A110
    clear A110
    by_cases c12 : t388 = true
    ·
     subst c12
     have H1 : (if (l1.length : Int) = 0 then (formelaw26_TableRows.j0 k l0 l1 l2 a3 true true) else (formelaw26_TableRows.j0 k l0 l1 l2 a3 true ((l2.length : Int) == 0))) = some r := by rw [if_pos rfl] at H; exact H
     clear H
     have H := H1
     clear H1
     by_cases c13 : (l1.length : Int) = 0
     ·
      rw [if_pos c13] at H
      have c13b0 : ((l1.length : Int) == 0) = true := beq_iff_eq.mpr c13
      have c13b1 : ((l1.length : Int) != 0) = false := bne_eq_false_iff_eq.mpr c13
      clear c13
      (first | rw [c13b0] | (simp only [i64_w, i32_w]; rw [c13b0]) | skip)
      have H' := Aside0.mk H
      clear H
      go_wp2_with (first | ((with_reducible refine gate_callee (f := 11) rfl ?_); refine goesL_ (some 26) rfl rfl Try.func11 (by kernel_rfl) rfl #[.slice A1 l1.length c1] rfl (by (try simp only [List.map_toArray, List.map_cons, List.map_nil]); first | done | rfl | (simp only [List.length_drop, List.length_take]; rfl)) ?_; (with_reducible refine (formelaw26_few_int.calls k _ _ l1 true _ ?side1 ?side2 A9.out).mono ?_); (case side1 => repeat (first | exact (Kd.V_reads' HO1.out).2.2 | (with_reducible refine Kd.C_alloc ?_ _) | (with_reducible refine Kd.C_drewN ?_ _) | (with_reducible refine Kd.C_drew ?_))); (case side2 => exact (Kd.V_reads' HO1.out).2.1); rintro e w' ⟨rfl, ⟨nd, rfl⟩⟩; refine ⟨_, rfl, ?_⟩) | (go_at_call 11; (with_reducible refine (formelaw26_few_int.calls k _ _ l2 true _ ?side1 ?side2 A11.out).mono ?_); (case side1 => repeat (first | exact (Kd.V_reads' HO2.out).2.2 | (with_reducible refine Kd.C_alloc ?_ _) | (with_reducible refine Kd.C_drewN ?_ _) | (with_reducible refine Kd.C_drew ?_))); (case side2 => exact (Kd.V_reads' HO2.out).2.1); rintro e w' ⟨rfl, ⟨nd, rfl⟩⟩))
      go_meet
      case rel => exact ⟨_, (true), (by first | rfl | (simp; done) | (simp [*]; done)), H', ⟨by first | omega | exact Nat.le_refl _⟩, ⟨by (with_reducible repeat (first | apply Kd.V_alloc | apply Kd.V_drewN | apply Kd.V_drew)); exact HO1.out⟩, ⟨by (with_reducible repeat (first | apply Kd.V_alloc | apply Kd.V_drewN | apply Kd.V_drew)); exact HO2.out⟩, ⟨by repeat (first | (with_reducible first | exact HB.out | apply below_alloc | apply pw_below_drewN | apply below_drew1) | exact HB.out)⟩⟩
     ·
      rw [if_neg c13] at H
      have c13b0 : ((l1.length : Int) == 0) = false := beq_eq_false_iff_ne.mpr c13
      have c13b1 : ((l1.length : Int) != 0) = true := bne_iff_ne.mpr c13
      have c13b2 : ¬ (l1 = []) := fun h_ => c13 (by rw [h_]; rfl)
      (first | rw [c13b0] | (simp only [i64_w, i32_w]; rw [c13b0]) | skip)
      have H' := Aside0.mk H
      clear H
      go_wp2_with (first | ((with_reducible refine gate_callee (f := 11) rfl ?_); refine goesL_ (some 26) rfl rfl Try.func11 (by kernel_rfl) rfl #[.slice A1 l1.length c1] rfl (by (try simp only [List.map_toArray, List.map_cons, List.map_nil]); first | done | rfl | (simp only [List.length_drop, List.length_take]; rfl)) ?_; (with_reducible refine (formelaw26_few_int.calls k _ _ l1 true _ ?side1 ?side2 A9.out).mono ?_); (case side1 => repeat (first | exact (Kd.V_reads' HO1.out).2.2 | (with_reducible refine Kd.C_alloc ?_ _) | (with_reducible refine Kd.C_drewN ?_ _) | (with_reducible refine Kd.C_drew ?_))); (case side2 => exact (Kd.V_reads' HO1.out).2.1); rintro e w' ⟨rfl, ⟨nd, rfl⟩⟩; refine ⟨_, rfl, ?_⟩) | (go_at_call 11; (with_reducible refine (formelaw26_few_int.calls k _ _ l2 true _ ?side1 ?side2 A11.out).mono ?_); (case side1 => repeat (first | exact (Kd.V_reads' HO2.out).2.2 | (with_reducible refine Kd.C_alloc ?_ _) | (with_reducible refine Kd.C_drewN ?_ _) | (with_reducible refine Kd.C_drew ?_))); (case side2 => exact (Kd.V_reads' HO2.out).2.1); rintro e w' ⟨rfl, ⟨nd, rfl⟩⟩))
      go_meet
      case rel => exact ⟨_, (((l2.length : Int) == 0)), (by first | rfl | (simp; done) | (simp [*]; done)), H', ⟨by first | omega | exact Nat.le_refl _⟩, ⟨by (with_reducible repeat (first | apply Kd.V_alloc | apply Kd.V_drewN | apply Kd.V_drew)); exact HO1.out⟩, ⟨by (with_reducible repeat (first | apply Kd.V_alloc | apply Kd.V_drewN | apply Kd.V_drew)); exact HO2.out⟩, ⟨by repeat (first | (with_reducible first | exact HB.out | apply below_alloc | apply pw_below_drewN | apply below_drew1) | exact HB.out)⟩⟩
    ·
     replace c12 := Bool.eq_false_iff.mpr c12
     subst c12
     have H1 : (formelaw26_TableRows.j0 k l0 l1 l2 a3 true true) = some r := by rw [if_neg (show ¬ (false = true) by decide)] at H; exact H
     clear H
     have H := H1
     clear H1
     have H' := Aside0.mk H
     clear H
     go_wp2_with (first | ((with_reducible refine gate_callee (f := 11) rfl ?_); refine goesL_ (some 26) rfl rfl Try.func11 (by kernel_rfl) rfl #[.slice A1 l1.length c1] rfl (by (try simp only [List.map_toArray, List.map_cons, List.map_nil]); first | done | rfl | (simp only [List.length_drop, List.length_take]; rfl)) ?_; (with_reducible refine (formelaw26_few_int.calls k _ _ l1 true _ ?side1 ?side2 A9.out).mono ?_); (case side1 => repeat (first | exact (Kd.V_reads' HO1.out).2.2 | (with_reducible refine Kd.C_alloc ?_ _) | (with_reducible refine Kd.C_drewN ?_ _) | (with_reducible refine Kd.C_drew ?_))); (case side2 => exact (Kd.V_reads' HO1.out).2.1); rintro e w' ⟨rfl, ⟨nd, rfl⟩⟩; refine ⟨_, rfl, ?_⟩) | (go_at_call 11; (with_reducible refine (formelaw26_few_int.calls k _ _ l2 false _ ?side1 ?side2 A11.out).mono ?_); (case side1 => repeat (first | exact (Kd.V_reads' HO2.out).2.2 | (with_reducible refine Kd.C_alloc ?_ _) | (with_reducible refine Kd.C_drewN ?_ _) | (with_reducible refine Kd.C_drew ?_))); (case side2 => exact (Kd.V_reads' HO2.out).2.1); rintro e w' ⟨rfl, ⟨nd, rfl⟩⟩))
     go_meet
     case rel => exact ⟨_, (true), (by first | rfl | (simp; done) | (simp [*]; done)), H', ⟨by first | omega | exact Nat.le_refl _⟩, ⟨by (with_reducible repeat (first | apply Kd.V_alloc | apply Kd.V_drewN | apply Kd.V_drew)); exact HO1.out⟩, ⟨by (with_reducible repeat (first | apply Kd.V_alloc | apply Kd.V_drewN | apply Kd.V_drew)); exact HO2.out⟩, ⟨by repeat (first | (with_reducible first | exact HB.out | apply below_alloc | apply pw_below_drewN | apply below_drew1) | exact HB.out)⟩⟩
   ·
    replace c10 := Bool.eq_false_iff.mpr c10
    subst c10
    have H1 : (formelaw26_TableRows.j0 k l0 l1 l2 a3 true true) = some r := by rw [if_neg (show ¬ (false = true) by decide)] at H; exact H
    clear H
    have H := H1
    clear H1
    have H' := Aside0.mk H
    clear H
    go_wp2_with (first | ((with_reducible refine gate_callee (f := 11) rfl ?_); refine goesL_ (some 26) rfl rfl Try.func11 (by kernel_rfl) rfl #[.slice A1 l1.length c1] rfl (by (try simp only [List.map_toArray, List.map_cons, List.map_nil]); first | done | rfl | (simp only [List.length_drop, List.length_take]; rfl)) ?_; (with_reducible refine (formelaw26_few_int.calls k _ _ l1 false _ ?side1 ?side2 A9.out).mono ?_); (case side1 => repeat (first | exact (Kd.V_reads' HO1.out).2.2 | (with_reducible refine Kd.C_alloc ?_ _) | (with_reducible refine Kd.C_drewN ?_ _) | (with_reducible refine Kd.C_drew ?_))); (case side2 => exact (Kd.V_reads' HO1.out).2.1); rintro e w' ⟨rfl, ⟨nd, rfl⟩⟩; refine ⟨_, rfl, ?_⟩))
    go_meet
    case rel => exact ⟨_, (true), (by first | rfl | (simp; done) | (simp [*]; done)), H', ⟨by first | omega | exact Nat.le_refl _⟩, ⟨by (with_reducible repeat (first | apply Kd.V_alloc | apply Kd.V_drewN | apply Kd.V_drew)); exact HO1.out⟩, ⟨by (with_reducible repeat (first | apply Kd.V_alloc | apply Kd.V_drewN | apply Kd.V_drew)); exact HO2.out⟩, ⟨by repeat (first | (with_reducible first | exact HB.out | apply below_alloc | apply pw_below_drewN | apply below_drew1) | exact HB.out)⟩⟩
  case rest =>
   clear HC7
   try clear c1
   try clear c2
   try clear p2
   try clear c6
   try clear c8
   try clear c9
   try clear c10
   try clear c11
   try clear c12
   try clear c13
   try clear c13b0
   try clear c13b1
   try clear c13b2
   obtain ⟨kq, x42_6, rfl, HA, HJ6, HO_1, HO_2, HB⟩ := hcut
   cases kq with
   | zero => exact absurd HA.out (by simp [formelaw26_TableRows.j0])
   | succ kj6 =>
    have H := HA.out
    clear HA
    simp only [formelaw26_TableRows.j0] at H
    by_cases c14 : x42_6 = true
    ·
     subst c14
     have H1 : (some true) = some r := by rw [if_pos rfl] at H; exact H
     clear H
     have H := H1
     clear H1
     obtain rfl := Option.some.inj H
     go_wp2
     go_ret
     exact ⟨by first | rfl | (simp [errW_none, errW_some] <;> rfl) | (simp [*, errW_none, errW_some] <;> rfl), by repeat (first | (with_reducible first | exact HB.out | apply below_alloc | apply pw_below_drewN | apply below_drew1) | exact HB.out)⟩
    ·
     replace c14 := Bool.eq_false_iff.mpr c14
     subst c14
     have H1 : ((table_Place.f l0 l1 a3).bind fun bt389 => ((table_Place.f l0 l2 a3).bind fun bt394 => (if bt389.2.2 = 0 then (formelaw26_TableRows.j1 kj6 l0 l1 l2 a3 true bt389.1 bt389.2.1 bt394.1 bt394.2.1 (bt394.2.2 != 0)) else (formelaw26_TableRows.j1 kj6 l0 l1 l2 a3 true bt389.1 bt389.2.1 bt394.1 bt394.2.1 true)))) = some r := by rw [if_neg (show ¬ (false = true) by decide)] at H; exact H
     clear H
     have H := H1
     clear H1
     replace H := Option.bind_eq_some_iff.mp H
     obtain ⟨⟨t389, t390, t391⟩, A150, H⟩ := H
     replace H : ((table_Place.f l0 l2 a3).bind fun bt394 => (if t391 = 0 then (formelaw26_TableRows.j1 kj6 l0 l1 l2 a3 true t389 t390 bt394.1 bt394.2.1 (bt394.2.2 != 0)) else (formelaw26_TableRows.j1 kj6 l0 l1 l2 a3 true t389 t390 bt394.1 bt394.2.1 true))) = some r := H
     have A15 := Aside0.mk A150
     clear A150
     replace H := Option.bind_eq_some_iff.mp H
     obtain ⟨⟨t394, t395, t396⟩, A160, H⟩ := H
     replace H : (if t391 = 0 then (formelaw26_TableRows.j1 kj6 l0 l1 l2 a3 true t389 t390 t394 t395 (t396 != 0)) else (formelaw26_TableRows.j1 kj6 l0 l1 l2 a3 true t389 t390 t394 t395 true)) = some r := H
     have A16 := Aside0.mk A160
     clear A160
     have HC17 := Aside0.mk H
     clear H
     go_upto_region 6 with (first | ((with_reducible refine gate_callee (f := 18) rfl ?_); refine goesL_ (some 48) rfl rfl Try.func18 (by kernel_rfl) rfl #[.slice A0 l0.length c0, .slice A1 l1.length c1, .int .i64 a3] rfl (by (try simp only [List.map_toArray, List.map_cons, List.map_nil]); first | done | rfl | (simp only [List.length_drop, List.length_take]; rfl)) ?_; (with_reducible refine (table_Place.calls _ _ l0 _ _ l1 a3 t389 t390 t391 _ ?side1 ?side2 ?side3 ?side4 A15.out).mono ?_); (case side1 => repeat (first | exact (Kd.C_below HR0.out HB.out) | (with_reducible refine Kd.C_alloc ?_ _) | (with_reducible refine Kd.C_drewN ?_ _) | (with_reducible refine Kd.C_drew ?_))); (case side2 => exact HC0.out); (case side3 => repeat (first | exact (Kd.V_reads' HO_1.out).2.2 | (with_reducible refine Kd.C_alloc ?_ _) | (with_reducible refine Kd.C_drewN ?_ _) | (with_reducible refine Kd.C_drew ?_))); (case side4 => exact (Kd.V_reads' HO_1.out).2.1); rintro e w18 ⟨v392, rfl, ho0, hb⟩; refine ⟨_, rfl, ?_⟩; have n0_ := Aside0.mk (Kd.V_elder' (by (with_reducible repeat (first | apply Kd.V_alloc | apply Kd.V_drewN | apply Kd.V_drew)); exact HO_1.out) (Kd.R_base ho0) hb); have n1_ := Aside0.mk (Kd.V_elder' (by (with_reducible repeat (first | apply Kd.V_alloc | apply Kd.V_drewN | apply Kd.V_drew)); exact HO_2.out) (Kd.R_base ho0) hb); have n2_ := Aside0.mk (Kd.N_lower (Kd.N_mono (ok' := fun k_ => ((P1_ k_ ∨ P2_ k_) ∨ w.heap.size ≤ k_)) (Kd.R_N (Kd.R_bound ho0)) (fun k_ hk_ => (.inr (Nat.le_trans (below_size (by repeat (first | (with_reducible first | exact HB.out | apply below_alloc | apply pw_below_drewN | apply below_drew1) | exact HB.out))) hk_.2.1)))) (below_size (by repeat (first | (with_reducible first | exact HB.out | apply below_alloc | apply pw_below_drewN | apply below_drew1) | exact HB.out)))); have n3_ := Aside0.mk (below_step (by repeat (first | (with_reducible first | exact HB.out | apply below_alloc | apply pw_below_drewN | apply below_drew1) | exact HB.out)) hb); clear HO_1; clear HO_2; clear HB; have HO_1 := n0_; have HO_2 := n1_; have HO393 := n2_; have HB := n3_; clear n0_ n1_ n2_ n3_; (try clear hb); (try clear hb2); (try clear hk); (try clear hi); (try clear ho0)) | ((with_reducible refine gate_callee (f := 18) rfl ?_); refine goesL_ (some 56) rfl rfl Try.func18 (by kernel_rfl) rfl #[.slice A0 l0.length c0, .slice A2 l2.length c2, .int .i64 a3] rfl (by (try simp only [List.map_toArray, List.map_cons, List.map_nil]); first | done | rfl | (simp only [List.length_drop, List.length_take]; rfl)) ?_; (with_reducible refine (table_Place.calls _ _ l0 _ _ l2 a3 t394 t395 t396 _ ?side1 ?side2 ?side3 ?side4 A16.out).mono ?_); (case side1 => repeat (first | exact (Kd.C_below HR0.out HB.out) | (with_reducible refine Kd.C_alloc ?_ _) | (with_reducible refine Kd.C_drewN ?_ _) | (with_reducible refine Kd.C_drew ?_))); (case side2 => exact HC0.out); (case side3 => repeat (first | exact (Kd.V_reads' HO_2.out).2.2 | (with_reducible refine Kd.C_alloc ?_ _) | (with_reducible refine Kd.C_drewN ?_ _) | (with_reducible refine Kd.C_drew ?_))); (case side4 => exact (Kd.V_reads' HO_2.out).2.1); rintro e w19 ⟨v397, rfl, ho0, hb⟩; refine ⟨_, rfl, ?_⟩; have n0_ := Aside0.mk (Kd.V_elder' (by (with_reducible repeat (first | apply Kd.V_alloc | apply Kd.V_drewN | apply Kd.V_drew)); exact HO_1.out) (Kd.R_base ho0) hb); have n1_ := Aside0.mk (Kd.V_elder' (by (with_reducible repeat (first | apply Kd.V_alloc | apply Kd.V_drewN | apply Kd.V_drew)); exact HO_2.out) (Kd.R_base ho0) hb); have n2_ := Aside0.mk (Kd.N_elder' (by (with_reducible repeat (first | apply Kd.N_alloc | apply Kd.N_drewN | apply Kd.N_drew)); exact HO393.out) (Kd.R_base ho0) hb); have n3_ := Aside0.mk (Kd.N_lower (Kd.N_mono (ok' := fun k_ => ((P1_ k_ ∨ P2_ k_) ∨ w.heap.size ≤ k_) ∧ some k_ ≠ (v392 : Value).ownBlock) (Kd.R_N (Kd.R_bound ho0)) (fun k_ hk_ => ⟨(.inr (Nat.le_trans (below_size (by repeat (first | (with_reducible first | exact HB.out | apply below_alloc | apply pw_below_drewN | apply below_drew1) | exact HB.out))) hk_.2.1)), (Kd.fresh' (Kd.N_lt (by (with_reducible repeat (first | apply Kd.N_alloc | apply Kd.N_drewN | apply Kd.N_drew)); exact HO393.out)) k_ hk_.2.1)⟩)) (below_size (by repeat (first | (with_reducible first | exact HB.out | apply below_alloc | apply pw_below_drewN | apply below_drew1) | exact HB.out)))); have n4_ := Aside0.mk (below_step (by repeat (first | (with_reducible first | exact HB.out | apply below_alloc | apply pw_below_drewN | apply below_drew1) | exact HB.out)) hb); clear HO_1; clear HO_2; clear HO393; clear HB; have HO_1 := n0_; have HO_2 := n1_; have HO393 := n2_; have HO398 := n3_; have HB := n4_; clear n0_ n1_ n2_ n3_ n4_; (try clear hb); (try clear hb2); (try clear hk); (try clear hi); (try clear ho0)))
     (try simp only [Act.put, List.setIfInBounds_toArray, List.set_cons_zero, List.set_cons_succ])
     go_cut [65] (fun v65 wc => ∃ (kq : Nat) (x65_16 : Bool), v65 = .bool x65_16 ∧ Aside0 (formelaw26_TableRows.j1 kq l0 l1 l2 a3 true t389 t390 t394 t395 x65_16 = some r) ∧ Aside0 (kq ≤ kj6) ∧ Aside0 (Kd.V (Kd.slice 3 (Kd.int .i64)) 24 wc w.heap.size (fun k_ => ((P1_ k_ ∨ P2_ k_) ∨ w.heap.size ≤ k_) ∧ some k_ ≠ (v392 : Value).ownBlock ∧ some k_ ≠ (v397 : Value).ownBlock) (.slice A1 l1.length c1) l1) ∧ Aside0 (Kd.V (Kd.slice 3 (Kd.int .i64)) 24 wc w.heap.size (fun k_ => ((P1_ k_ ∨ P2_ k_) ∨ w.heap.size ≤ k_) ∧ some k_ ≠ (v392 : Value).ownBlock ∧ some k_ ≠ (v397 : Value).ownBlock) (.slice A2 l2.length c2) l2) ∧ Aside0 (Kd.N (Kd.slice 50 k50) 47 wc w.heap.size (fun k_ => ((P1_ k_ ∨ P2_ k_) ∨ w.heap.size ≤ k_) ∧ some k_ ≠ (v397 : Value).ownBlock) v392 t389) ∧ Aside0 (Kd.N (Kd.slice 50 k50) 47 wc w.heap.size (fun k_ => ((P1_ k_ ∨ P2_ k_) ∨ w.heap.size ≤ k_) ∧ some k_ ≠ (v392 : Value).ownBlock) v397 t394) ∧ Aside0 (Below w.heap.size w wc))
     case first =>
      have H := HC17.out
      clear HC17
      by_cases c20 : t391 = 0
      ·
       rw [if_pos c20] at H
       have c20b0 : (t391 == 0) = true := beq_iff_eq.mpr c20
       have c20b1 : (t391 != 0) = false := bne_eq_false_iff_eq.mpr c20
       clear c20
       (first | rw [c20b0] | (simp only [i64_w, i32_w]; rw [c20b0]) | skip)
       have H' := Aside0.mk H
       clear H
       go_wp2
       go_meet
       case rel => exact ⟨_, ((t396 != 0)), (by first | rfl | (simp; done) | (simp [*]; done)), H', ⟨by have := HJ6.out; first | omega | exact Nat.le_refl _⟩, ⟨by (with_reducible repeat (first | apply Kd.V_alloc | apply Kd.V_drewN | apply Kd.V_drew)); exact Kd.V_mono HO_1.out (fun _ hk => ⟨hk.1.1, ⟨hk.1.2, hk.2⟩⟩)⟩, ⟨by (with_reducible repeat (first | apply Kd.V_alloc | apply Kd.V_drewN | apply Kd.V_drew)); exact Kd.V_mono HO_2.out (fun _ hk => ⟨hk.1.1, ⟨hk.1.2, hk.2⟩⟩)⟩, ⟨by (with_reducible repeat (first | apply Kd.N_alloc | apply Kd.N_drewN | apply Kd.N_drew)); exact HO393.out⟩, ⟨by (with_reducible repeat (first | apply Kd.N_alloc | apply Kd.N_drewN | apply Kd.N_drew)); exact HO398.out⟩, ⟨by repeat (first | (with_reducible first | exact HB.out | apply below_alloc | apply pw_below_drewN | apply below_drew1) | exact HB.out)⟩⟩
      ·
       rw [if_neg c20] at H
       have c20b0 : (t391 == 0) = false := beq_eq_false_iff_ne.mpr c20
       have c20b1 : (t391 != 0) = true := bne_iff_ne.mpr c20
       (first | rw [c20b0] | (simp only [i64_w, i32_w]; rw [c20b0]) | skip)
       have H' := Aside0.mk H
       clear H
       go_wp2
       go_meet
       case rel => exact ⟨_, (true), (by first | rfl | (simp; done) | (simp [*]; done)), H', ⟨by have := HJ6.out; first | omega | exact Nat.le_refl _⟩, ⟨by (with_reducible repeat (first | apply Kd.V_alloc | apply Kd.V_drewN | apply Kd.V_drew)); exact Kd.V_mono HO_1.out (fun _ hk => ⟨hk.1.1, ⟨hk.1.2, hk.2⟩⟩)⟩, ⟨by (with_reducible repeat (first | apply Kd.V_alloc | apply Kd.V_drewN | apply Kd.V_drew)); exact Kd.V_mono HO_2.out (fun _ hk => ⟨hk.1.1, ⟨hk.1.2, hk.2⟩⟩)⟩, ⟨by (with_reducible repeat (first | apply Kd.N_alloc | apply Kd.N_drewN | apply Kd.N_drew)); exact HO393.out⟩, ⟨by (with_reducible repeat (first | apply Kd.N_alloc | apply Kd.N_drewN | apply Kd.N_drew)); exact HO398.out⟩, ⟨by repeat (first | (with_reducible first | exact HB.out | apply below_alloc | apply pw_below_drewN | apply below_drew1) | exact HB.out)⟩⟩
     case rest =>
      clear HC17
      try clear c1
      try clear c2
      try clear p2
      try clear c6
      try clear c8
      try clear c9
      try clear c10
      try clear c11
      try clear c12
      try clear c13
      try clear c13b0
      try clear c13b1
      try clear c13b2
      try clear c14
      try clear c18
      try clear c20
      try clear c20b0
      try clear c20b1
      try clear p2
      obtain ⟨kq, x65_16, rfl, HA, HJ16, HO_1, HO_2, HO_10, HO_13, HB⟩ := hcut
      cases kq with
      | zero => exact absurd HA.out (by simp [formelaw26_TableRows.j1])
      | succ kj16 =>
       have H := HA.out
       clear HA
       simp only [formelaw26_TableRows.j1] at H
       by_cases c21 : x65_16 = true
       ·
        subst c21
        have H1 : (some true) = some r := by rw [if_pos rfl] at H; exact H
        clear H
        have H := H1
        clear H1
        obtain rfl := Option.some.inj H
        go_wp2
        go_ret
        exact ⟨by first | rfl | (simp [errW_none, errW_some] <;> rfl) | (simp [*, errW_none, errW_some] <;> rfl), by repeat (first | (with_reducible first | exact HB.out | apply below_alloc | apply pw_below_drewN | apply below_drew1) | exact HB.out)⟩
       ·
        replace c21 := Bool.eq_false_iff.mpr c21
        subst c21
        have H1 : ((some (([] : List (List Int)) : List (List Int))).bind fun y399 => (if y399.length + l1.length < 5864062014805 then ((some (y399 ++ l1 : List (List Int))).bind fun y402 => (if y402.length + l2.length < 5864062014805 then ((table_Place.f l0 (y402 ++ l2) a3).bind fun bt408 => (if bt408.2.2 = 0 then (formelaw26_TableRows.j2 kj16 a3 true t389 t390 t394 bt408.1 (bt408.2.1 != (wrap64 ((wrap64 (t390 + a3)) + t395)))) else (formelaw26_TableRows.j2 kj16 a3 true t389 t390 t394 bt408.1 true))) else (none))) else (none))) = some r := by rw [if_neg (show ¬ (false = true) by decide)] at H; exact H
        clear H
        have H := H1
        clear H1
        obtain ⟨y399, hy399⟩ : ∃ y_ : List (List Int), y_ = (([] : List (List Int))) := ⟨_, rfl⟩
        replace H : (if y399.length + l1.length < 5864062014805 then ((some (y399 ++ l1 : List (List Int))).bind fun y402 => (if y402.length + l2.length < 5864062014805 then ((table_Place.f l0 (y402 ++ l2) a3).bind fun bt408 => (if bt408.2.2 = 0 then (formelaw26_TableRows.j2 kj16 a3 true t389 t390 t394 bt408.1 (bt408.2.1 != (wrap64 ((wrap64 (t390 + a3)) + t395)))) else (formelaw26_TableRows.j2 kj16 a3 true t389 t390 t394 bt408.1 true))) else (none))) else (none)) = some r := by first | (rw [hy399]; with_reducible exact H) | (have H2_ := (Option.bind_some _ _).symm.trans H; rw [hy399]; with_reducible exact H2_) | (have H2_ := (Option.bind_some _ _).symm.trans H; with_reducible exact H2_) | with_reducible exact H | (rw [hy399]; exact H) | exact H
        have Ny399 := Aside0.mk hy399
        clear hy399
        by_cases c22 : y399.length + l1.length < 5864062014805
        ·
         rw [if_pos c22] at H
         have LMc22 := Aside0.mk c22
         clear c22
         obtain ⟨y402, hy402⟩ : ∃ y_ : List (List Int), y_ = (y399 ++ l1) := ⟨_, rfl⟩
         replace H : (if y402.length + l2.length < 5864062014805 then ((table_Place.f l0 (y402 ++ l2) a3).bind fun bt408 => (if bt408.2.2 = 0 then (formelaw26_TableRows.j2 kj16 a3 true t389 t390 t394 bt408.1 (bt408.2.1 != (wrap64 ((wrap64 (t390 + a3)) + t395)))) else (formelaw26_TableRows.j2 kj16 a3 true t389 t390 t394 bt408.1 true))) else (none)) = some r := by first | (rw [hy402]; with_reducible exact H) | (have H2_ := (Option.bind_some _ _).symm.trans H; rw [hy402]; with_reducible exact H2_) | (have H2_ := (Option.bind_some _ _).symm.trans H; with_reducible exact H2_) | with_reducible exact H | (rw [hy402]; exact H) | exact H
         have Ny402 := Aside0.mk hy402
         clear hy402
         by_cases c23 : y402.length + l2.length < 5864062014805
         ·
          rw [if_pos c23] at H
          have LMc23 := Aside0.mk c23
          clear c23
          obtain ⟨y405, hy405⟩ : ∃ y_ : List (List Int), y_ = (y402 ++ l2) := ⟨_, rfl⟩
          replace H : ((table_Place.f l0 y405 a3).bind fun bt408 => (if bt408.2.2 = 0 then (formelaw26_TableRows.j2 kj16 a3 true t389 t390 t394 bt408.1 (bt408.2.1 != (wrap64 ((wrap64 (t390 + a3)) + t395)))) else (formelaw26_TableRows.j2 kj16 a3 true t389 t390 t394 bt408.1 true))) = some r := by first | (rw [hy405]; with_reducible exact H) | (have H2_ := (Option.bind_some _ _).symm.trans H; rw [hy405]; with_reducible exact H2_) | (have H2_ := (Option.bind_some _ _).symm.trans H; with_reducible exact H2_) | with_reducible exact H | (rw [hy405]; exact H) | exact H
          have Ny405 := Aside0.mk hy405
          clear hy405
          replace H := Option.bind_eq_some_iff.mp H
          obtain ⟨⟨t408, t409, t410⟩, A240, H⟩ := H
          replace H : (if t410 = 0 then (formelaw26_TableRows.j2 kj16 a3 true t389 t390 t394 t408 (t409 != (wrap64 ((wrap64 (t390 + a3)) + t395)))) else (formelaw26_TableRows.j2 kj16 a3 true t389 t390 t394 t408 true)) = some r := H
          have A24 := Aside0.mk A240
          clear A240
          have HC25 := Aside0.mk H
          clear H
          go_upto_region 9 with (first | ((with_reducible refine gate_dst (N := 69) rfl ?_); (try (refine gate_guard (by rfl) ?_; dsimp only)); refine Kd.N_lit (Kd.slice 3 (Kd.int .i64)) _ 24 ?hg (N' := 69) ?hd (xs := ([] : List (List Int))) (inner := []) (ok := (fun k_ => ((P1_ k_ ∨ P2_ k_) ∨ w.heap.size ≤ k_) ∧ some k_ ≠ (v392 : Value).ownBlock ∧ some k_ ≠ (v397 : Value).ownBlock)) (okp := (fun k_ => ((P1_ k_ ∨ P2_ k_) ∨ w.heap.size ≤ k_) ∧ some k_ ≠ (v392 : Value).ownBlock ∧ some k_ ≠ (v397 : Value).ownBlock)) ?hr ?hp (fun _ hk => hk) ((show ∀ k_, wc.heap.size ≤ k_ → (fun k_ => ((P1_ k_ ∨ P2_ k_) ∨ w.heap.size ≤ k_) ∧ some k_ ≠ (v392 : Value).ownBlock ∧ some k_ ≠ (v397 : Value).ownBlock) k_ from fun k_ hk => ⟨(.inr (Nat.le_trans (below_size (by repeat (first | (with_reducible first | exact HB.out | apply below_alloc | apply pw_below_drewN | apply below_drew1) | exact HB.out))) hk)), Kd.fresh' (Kd.N_lt (by (with_reducible repeat (first | apply Kd.N_alloc | apply Kd.N_drewN | apply Kd.N_drew)); exact HO_10.out)) k_ hk, Kd.fresh' (Kd.N_lt (by (with_reducible repeat (first | apply Kd.N_alloc | apply Kd.N_drewN | apply Kd.N_drew)); exact HO_13.out)) k_ hk⟩) _ (Nat.le_refl _)) (Below.refl _ _) (Nat.le_refl _) (by simp) ?_; (case hd => rfl); (case hg => rfl); (case hr => first | (go_simp; done) | (go_simp; rfl)); (case hp => exact (Reps.none _ _)); intro v400 w26 ho27 hb hg_ hnew_; clear hg_ hnew_; (first | rw [← Ny399.out] at ho27 | (simp only [Int.reduceToNat] at ho27; rw [← Ny399.out] at ho27)); have n0_ := Aside0.mk (Kd.V_elder' (by (with_reducible repeat (first | apply Kd.V_alloc | apply Kd.V_drewN | apply Kd.V_drew)); exact HO_1.out) (Kd.N_base ho27) hb); have n1_ := Aside0.mk (Kd.V_elder' (by (with_reducible repeat (first | apply Kd.V_alloc | apply Kd.V_drewN | apply Kd.V_drew)); exact HO_2.out) (Kd.N_base ho27) hb); have n2_ := Aside0.mk (Kd.N_elder' (by (with_reducible repeat (first | apply Kd.N_alloc | apply Kd.N_drewN | apply Kd.N_drew)); exact HO_10.out) (Kd.N_base ho27) hb); have n3_ := Aside0.mk (Kd.N_elder' (by (with_reducible repeat (first | apply Kd.N_alloc | apply Kd.N_drewN | apply Kd.N_drew)); exact HO_13.out) (Kd.N_base ho27) hb); have n4_ := Aside0.mk (Kd.N_lower ho27 (below_size (by repeat (first | (with_reducible first | exact HB.out | apply below_alloc | apply pw_below_drewN | apply below_drew1) | exact HB.out)))); have n5_ := Aside0.mk (below_step (by repeat (first | (with_reducible first | exact HB.out | apply below_alloc | apply pw_below_drewN | apply below_drew1) | exact HB.out)) hb); clear HO_1; clear HO_2; clear HO_10; clear HO_13; clear HB; have HO_1 := n0_; have HO_2 := n1_; have HO_10 := n2_; have HO_13 := n3_; have HO401 := n4_; have HB := n5_; clear n0_ n1_ n2_ n3_ n4_ n5_; clear hb ho27) | ((with_reducible refine gate_builtin (b := .append) (xs := #[.tmp 69, .tmp 70]) rfl ?_); (try (refine gate_guard (by rfl) ?_; dsimp only)); at_builtin; refine Kd.N_append_rows (Kd.slice 3 (Kd.int .i64)) (w0 := w) w.heap.size rfl (.tmp 69) (.tmp 70) 25 24 (.slice none 0 0) 24 rfl Try.underlying25 info24 rfl (by decide) (by omega) v400 y399 l1 _ _ _ (fun k_ => ((P1_ k_ ∨ P2_ k_) ∨ w.heap.size ≤ k_) ∧ some k_ ≠ (v392 : Value).ownBlock ∧ some k_ ≠ (v397 : Value).ownBlock) (fun k_ => ((fun k_ => ((P1_ k_ ∨ P2_ k_) ∨ w.heap.size ≤ k_) ∧ some k_ ≠ (v392 : Value).ownBlock ∧ some k_ ≠ (v397 : Value).ownBlock)) k_ ∧ some k_ ≠ (v400 : Value).ownBlock) rfl rfl ?aO ?aR (fun _ hk => hk) ?aF ?aB ?aS ?aL ?_; (case aR => exact (by skip; exact Kd.V_F (Kd.V_mono (ok' := (fun k_ => ((fun k_ => ((P1_ k_ ∨ P2_ k_) ∨ w.heap.size ≤ k_) ∧ some k_ ≠ (v392 : Value).ownBlock ∧ some k_ ≠ (v397 : Value).ownBlock)) k_ ∧ some k_ ≠ (v400 : Value).ownBlock)) (HO_1.out) (fun k_ hk => ⟨⟨hk.1.1, ⟨hk.1.2.1, hk.1.2.2⟩⟩, hk.2⟩)))); (case aB => exact (by repeat (first | (with_reducible first | exact HB.out | apply below_alloc | apply pw_below_drewN | apply below_drew1) | exact HB.out))); (case aF => exact (fun k_ hk => ⟨(.inr (Nat.le_trans (below_size (by repeat (first | (with_reducible first | exact HB.out | apply below_alloc | apply pw_below_drewN | apply below_drew1) | exact HB.out))) hk)), Kd.fresh' (Kd.N_lt (by (with_reducible repeat (first | apply Kd.N_alloc | apply Kd.N_drewN | apply Kd.N_drew)); exact HO_10.out)) k_ hk, Kd.fresh' (Kd.N_lt (by (with_reducible repeat (first | apply Kd.N_alloc | apply Kd.N_drewN | apply Kd.N_drew)); exact HO_13.out)) k_ hk⟩)); (case aO => exact (by (with_reducible repeat (first | apply Kd.N_alloc | apply Kd.N_drewN | apply Kd.N_drew)); exact HO401.out)); (case aS => exact (below_size (by repeat (first | (with_reducible first | exact HB.out | apply below_alloc | apply pw_below_drewN | apply below_drew1) | exact HB.out)))); (case aL => have := LMc22.out; omega); intro v403 w28 ho hb hg hat; rw [← Ny402.out] at ho; have n0_ := Aside0.mk (Kd.V_afterv (ok := (fun k_ => ((P1_ k_ ∨ P2_ k_) ∨ w.heap.size ≤ k_) ∧ some k_ ≠ (v392 : Value).ownBlock ∧ some k_ ≠ (v397 : Value).ownBlock)) (by (with_reducible repeat (first | apply Kd.V_alloc | apply Kd.V_drewN | apply Kd.V_drew)); exact HO_1.out) hg hat); have n1_ := Aside0.mk (Kd.V_afterv (ok := (fun k_ => ((P1_ k_ ∨ P2_ k_) ∨ w.heap.size ≤ k_) ∧ some k_ ≠ (v392 : Value).ownBlock ∧ some k_ ≠ (v397 : Value).ownBlock)) (by (with_reducible repeat (first | apply Kd.V_alloc | apply Kd.V_drewN | apply Kd.V_drew)); exact HO_2.out) hg hat); have n2_ := Aside0.mk (Kd.N_afterv (ok := (fun k_ => ((P1_ k_ ∨ P2_ k_) ∨ w.heap.size ≤ k_) ∧ some k_ ≠ (v397 : Value).ownBlock)) (by (with_reducible repeat (first | apply Kd.N_alloc | apply Kd.N_drewN | apply Kd.N_drew)); exact HO_10.out) hg hat); have n3_ := Aside0.mk (Kd.N_afterv (ok := (fun k_ => ((P1_ k_ ∨ P2_ k_) ∨ w.heap.size ≤ k_) ∧ some k_ ≠ (v392 : Value).ownBlock)) (by (with_reducible repeat (first | apply Kd.N_alloc | apply Kd.N_drewN | apply Kd.N_drew)); exact HO_13.out) hg hat); have n4_ := Aside0.mk (hb); have n5_ := Aside0.mk (ho); clear HO_1; clear HO_2; clear HO_10; clear HO_13; clear HB; clear HO401; have HO_1 := n0_; have HO_2 := n1_; have HO_10 := n2_; have HO_13 := n3_; have HB := n4_; have HO404 := n5_; clear n0_ n1_ n2_ n3_ n4_ n5_; clear ho hb hg hat) | ((with_reducible refine gate_builtin (b := .append) (xs := #[.tmp 71, .tmp 72]) rfl ?_); (try (refine gate_guard (by rfl) ?_; dsimp only)); at_builtin; refine Kd.N_append_rows (Kd.slice 3 (Kd.int .i64)) (w0 := w) w.heap.size rfl (.tmp 71) (.tmp 72) 25 24 (.slice none 0 0) 24 rfl Try.underlying25 info24 rfl (by decide) (by omega) v403 y402 l2 _ _ _ (fun k_ => ((P1_ k_ ∨ P2_ k_) ∨ w.heap.size ≤ k_) ∧ some k_ ≠ (v392 : Value).ownBlock ∧ some k_ ≠ (v397 : Value).ownBlock) (fun k_ => ((fun k_ => ((P1_ k_ ∨ P2_ k_) ∨ w.heap.size ≤ k_) ∧ some k_ ≠ (v392 : Value).ownBlock ∧ some k_ ≠ (v397 : Value).ownBlock)) k_ ∧ some k_ ≠ (v403 : Value).ownBlock) rfl rfl ?aO ?aR (fun _ hk => hk) ?aF ?aB ?aS ?aL ?_; (case aR => exact (by skip; exact Kd.V_F (Kd.V_mono (ok' := (fun k_ => ((fun k_ => ((P1_ k_ ∨ P2_ k_) ∨ w.heap.size ≤ k_) ∧ some k_ ≠ (v392 : Value).ownBlock ∧ some k_ ≠ (v397 : Value).ownBlock)) k_ ∧ some k_ ≠ (v403 : Value).ownBlock)) (HO_2.out) (fun k_ hk => ⟨⟨hk.1.1, ⟨hk.1.2.1, hk.1.2.2⟩⟩, hk.2⟩)))); (case aB => exact (by repeat (first | (with_reducible first | exact HB.out | apply below_alloc | apply pw_below_drewN | apply below_drew1) | exact HB.out))); (case aF => exact (fun k_ hk => ⟨(.inr (Nat.le_trans (below_size (by repeat (first | (with_reducible first | exact HB.out | apply below_alloc | apply pw_below_drewN | apply below_drew1) | exact HB.out))) hk)), Kd.fresh' (Kd.N_lt (by (with_reducible repeat (first | apply Kd.N_alloc | apply Kd.N_drewN | apply Kd.N_drew)); exact HO_10.out)) k_ hk, Kd.fresh' (Kd.N_lt (by (with_reducible repeat (first | apply Kd.N_alloc | apply Kd.N_drewN | apply Kd.N_drew)); exact HO_13.out)) k_ hk⟩)); (case aO => exact (by (with_reducible repeat (first | apply Kd.N_alloc | apply Kd.N_drewN | apply Kd.N_drew)); exact HO404.out)); (case aS => exact (below_size (by repeat (first | (with_reducible first | exact HB.out | apply below_alloc | apply pw_below_drewN | apply below_drew1) | exact HB.out)))); (case aL => have := LMc23.out; omega); intro v406 w29 ho hb hg hat; rw [← Ny405.out] at ho; have n0_ := Aside0.mk (Kd.V_afterv (ok := (fun k_ => ((P1_ k_ ∨ P2_ k_) ∨ w.heap.size ≤ k_) ∧ some k_ ≠ (v392 : Value).ownBlock ∧ some k_ ≠ (v397 : Value).ownBlock)) (by (with_reducible repeat (first | apply Kd.V_alloc | apply Kd.V_drewN | apply Kd.V_drew)); exact HO_1.out) hg hat); have n1_ := Aside0.mk (Kd.V_afterv (ok := (fun k_ => ((P1_ k_ ∨ P2_ k_) ∨ w.heap.size ≤ k_) ∧ some k_ ≠ (v392 : Value).ownBlock ∧ some k_ ≠ (v397 : Value).ownBlock)) (by (with_reducible repeat (first | apply Kd.V_alloc | apply Kd.V_drewN | apply Kd.V_drew)); exact HO_2.out) hg hat); have n2_ := Aside0.mk (Kd.N_afterv (ok := (fun k_ => ((P1_ k_ ∨ P2_ k_) ∨ w.heap.size ≤ k_) ∧ some k_ ≠ (v397 : Value).ownBlock)) (by (with_reducible repeat (first | apply Kd.N_alloc | apply Kd.N_drewN | apply Kd.N_drew)); exact HO_10.out) hg hat); have n3_ := Aside0.mk (Kd.N_afterv (ok := (fun k_ => ((P1_ k_ ∨ P2_ k_) ∨ w.heap.size ≤ k_) ∧ some k_ ≠ (v392 : Value).ownBlock)) (by (with_reducible repeat (first | apply Kd.N_alloc | apply Kd.N_drewN | apply Kd.N_drew)); exact HO_13.out) hg hat); have n4_ := Aside0.mk (hb); have n5_ := Aside0.mk (ho); clear HO_1; clear HO_2; clear HO_10; clear HO_13; clear HB; clear HO404; have HO_1 := n0_; have HO_2 := n1_; have HO_10 := n2_; have HO_13 := n3_; have HB := n4_; have HO407 := n5_; clear n0_ n1_ n2_ n3_ n4_ n5_; clear ho hb hg hat; obtain ⟨Ao30, co30, eo30⟩ := Kd.N_slice HO407.out; subst eo30) | ((with_reducible refine gate_callee (f := 18) rfl ?_); refine goesL_ (some 75) rfl rfl Try.func18 (by kernel_rfl) rfl #[.slice A0 l0.length c0, .slice Ao30 y405.length co30, .int .i64 a3] rfl (by (try simp only [List.map_toArray, List.map_cons, List.map_nil]); first | done | rfl | (simp only [List.length_drop, List.length_take]; rfl)) ?_; (with_reducible refine (table_Place.calls _ _ l0 _ _ y405 a3 t408 t409 t410 _ ?side1 ?side2 ?side3 ?side4 A24.out).mono ?_); (case side1 => repeat (first | exact (Kd.C_below HR0.out HB.out) | (with_reducible refine Kd.C_alloc ?_ _) | (with_reducible refine Kd.C_drewN ?_ _) | (with_reducible refine Kd.C_drew ?_))); (case side2 => exact HC0.out); (case side3 => repeat (first | exact (Kd.N_reads' HO407.out).2.2 | (with_reducible refine Kd.C_alloc ?_ _) | (with_reducible refine Kd.C_drewN ?_ _) | (with_reducible refine Kd.C_drew ?_))); (case side4 => exact (Kd.N_reads' HO407.out).2.1); rintro e w31 ⟨v411, rfl, ho0, hb⟩; refine ⟨_, rfl, ?_⟩; have n0_ := Aside0.mk (Kd.V_elder' (by (with_reducible repeat (first | apply Kd.V_alloc | apply Kd.V_drewN | apply Kd.V_drew)); exact HO_1.out) (Kd.R_base ho0) hb); have n1_ := Aside0.mk (Kd.V_elder' (by (with_reducible repeat (first | apply Kd.V_alloc | apply Kd.V_drewN | apply Kd.V_drew)); exact HO_2.out) (Kd.R_base ho0) hb); have n2_ := Aside0.mk (Kd.N_elder' (by (with_reducible repeat (first | apply Kd.N_alloc | apply Kd.N_drewN | apply Kd.N_drew)); exact HO_10.out) (Kd.R_base ho0) hb); have n3_ := Aside0.mk (Kd.N_elder' (by (with_reducible repeat (first | apply Kd.N_alloc | apply Kd.N_drewN | apply Kd.N_drew)); exact HO_13.out) (Kd.R_base ho0) hb); have n4_ := Aside0.mk (Kd.N_elder' (by (with_reducible repeat (first | apply Kd.N_alloc | apply Kd.N_drewN | apply Kd.N_drew)); exact HO407.out) (Kd.R_base ho0) hb); have n5_ := Aside0.mk (Kd.N_lower (Kd.N_mono (ok' := fun k_ => ((P1_ k_ ∨ P2_ k_) ∨ w.heap.size ≤ k_) ∧ some k_ ≠ (v392 : Value).ownBlock ∧ some k_ ≠ (v397 : Value).ownBlock ∧ some k_ ≠ (.slice Ao30 y405.length co30 : Value).ownBlock) (Kd.R_N (Kd.R_bound ho0)) (fun k_ hk_ => ⟨(.inr (Nat.le_trans (below_size (by repeat (first | (with_reducible first | exact HB.out | apply below_alloc | apply pw_below_drewN | apply below_drew1) | exact HB.out))) hk_.2.1)), (Kd.fresh' (Kd.N_lt (by (with_reducible repeat (first | apply Kd.N_alloc | apply Kd.N_drewN | apply Kd.N_drew)); exact HO_10.out)) k_ hk_.2.1), (Kd.fresh' (Kd.N_lt (by (with_reducible repeat (first | apply Kd.N_alloc | apply Kd.N_drewN | apply Kd.N_drew)); exact HO_13.out)) k_ hk_.2.1), (Kd.fresh' (Kd.N_lt (by (with_reducible repeat (first | apply Kd.N_alloc | apply Kd.N_drewN | apply Kd.N_drew)); exact HO407.out)) k_ hk_.2.1)⟩)) (below_size (by repeat (first | (with_reducible first | exact HB.out | apply below_alloc | apply pw_below_drewN | apply below_drew1) | exact HB.out)))); have n6_ := Aside0.mk (below_step (by repeat (first | (with_reducible first | exact HB.out | apply below_alloc | apply pw_below_drewN | apply below_drew1) | exact HB.out)) hb); clear HO_1; clear HO_2; clear HO_10; clear HO_13; clear HO407; clear HB; have HO_1 := n0_; have HO_2 := n1_; have HO_10 := n2_; have HO_13 := n3_; have HO407 := n4_; have HO412 := n5_; have HB := n6_; clear n0_ n1_ n2_ n3_ n4_ n5_ n6_; (try clear hb); (try clear hb2); (try clear hk); (try clear hi); (try clear ho0)))
          (try simp only [Act.put, List.setIfInBounds_toArray, List.set_cons_zero, List.set_cons_succ])
          go_cut [89] (fun v89 wc => ∃ (kq : Nat) (x89_24 : Bool), v89 = .bool x89_24 ∧ Aside0 (formelaw26_TableRows.j2 kq a3 true t389 t390 t394 t408 x89_24 = some r) ∧ Aside0 (kq ≤ kj16) ∧ Aside0 (Kd.N (Kd.slice 50 k50) 47 wc w.heap.size (fun k_ => ((P1_ k_ ∨ P2_ k_) ∨ w.heap.size ≤ k_) ∧ some k_ ≠ (v397 : Value).ownBlock ∧ some k_ ≠ (v411 : Value).ownBlock) v392 t389) ∧ Aside0 (Kd.N (Kd.slice 50 k50) 47 wc w.heap.size (fun k_ => ((P1_ k_ ∨ P2_ k_) ∨ w.heap.size ≤ k_) ∧ some k_ ≠ (v392 : Value).ownBlock ∧ some k_ ≠ (v411 : Value).ownBlock) v397 t394) ∧ Aside0 (Kd.N (Kd.slice 50 k50) 47 wc w.heap.size (fun k_ => ((P1_ k_ ∨ P2_ k_) ∨ w.heap.size ≤ k_) ∧ some k_ ≠ (v392 : Value).ownBlock ∧ some k_ ≠ (v397 : Value).ownBlock) v411 t408) ∧ Aside0 (Below w.heap.size w wc))
          case first =>
           have H := HC25.out
           clear HC25
           by_cases c32 : t410 = 0
           ·
            rw [if_pos c32] at H
            have c32b0 : (t410 == 0) = true := beq_iff_eq.mpr c32
            have c32b1 : (t410 != 0) = false := bne_eq_false_iff_eq.mpr c32
            clear c32
            (first | rw [c32b0] | (simp only [i64_w, i32_w]; rw [c32b0]) | skip)
            have H' := Aside0.mk H
            clear H
            go_wp2
            go_meet
            case rel => exact ⟨_, ((t409 != (wrap64 ((wrap64 (t390 + a3)) + t395)))), (by first | rfl | (simp; done) | (simp [*]; done)), H', ⟨by have := HJ6.out; have := HJ16.out; first | omega | exact Nat.le_refl _⟩, ⟨by (with_reducible repeat (first | apply Kd.N_alloc | apply Kd.N_drewN | apply Kd.N_drew)); exact Kd.N_mono HO_10.out (fun _ hk => ⟨hk.1.1.1, ⟨hk.1.1.2, hk.2⟩⟩)⟩, ⟨by (with_reducible repeat (first | apply Kd.N_alloc | apply Kd.N_drewN | apply Kd.N_drew)); exact Kd.N_mono HO_13.out (fun _ hk => ⟨hk.1.1.1, ⟨hk.1.1.2, hk.2⟩⟩)⟩, ⟨by (with_reducible repeat (first | apply Kd.N_alloc | apply Kd.N_drewN | apply Kd.N_drew)); exact Kd.N_mono HO412.out (fun _ hk => ⟨hk.1, ⟨hk.2.1, hk.2.2.1⟩⟩)⟩, ⟨by repeat (first | (with_reducible first | exact HB.out | apply below_alloc | apply pw_below_drewN | apply below_drew1) | exact HB.out)⟩⟩
           ·
            rw [if_neg c32] at H
            have c32b0 : (t410 == 0) = false := beq_eq_false_iff_ne.mpr c32
            have c32b1 : (t410 != 0) = true := bne_iff_ne.mpr c32
            (first | rw [c32b0] | (simp only [i64_w, i32_w]; rw [c32b0]) | skip)
            have H' := Aside0.mk H
            clear H
            go_wp2
            go_meet
            case rel => exact ⟨_, (true), (by first | rfl | (simp; done) | (simp [*]; done)), H', ⟨by have := HJ6.out; have := HJ16.out; first | omega | exact Nat.le_refl _⟩, ⟨by (with_reducible repeat (first | apply Kd.N_alloc | apply Kd.N_drewN | apply Kd.N_drew)); exact Kd.N_mono HO_10.out (fun _ hk => ⟨hk.1.1.1, ⟨hk.1.1.2, hk.2⟩⟩)⟩, ⟨by (with_reducible repeat (first | apply Kd.N_alloc | apply Kd.N_drewN | apply Kd.N_drew)); exact Kd.N_mono HO_13.out (fun _ hk => ⟨hk.1.1.1, ⟨hk.1.1.2, hk.2⟩⟩)⟩, ⟨by (with_reducible repeat (first | apply Kd.N_alloc | apply Kd.N_drewN | apply Kd.N_drew)); exact Kd.N_mono HO412.out (fun _ hk => ⟨hk.1, ⟨hk.2.1, hk.2.2.1⟩⟩)⟩, ⟨by repeat (first | (with_reducible first | exact HB.out | apply below_alloc | apply pw_below_drewN | apply below_drew1) | exact HB.out)⟩⟩
          case rest =>
           clear HC25
           try clear c1
           try clear c2
           try clear p2
           try clear c3
           try clear c6
           try clear p6
           try clear c8
           try clear c9
           try clear c10
           try clear c11
           try clear c12
           try clear c13
           try clear c13b0
           try clear c13b1
           try clear c13b2
           try clear c14
           try clear c18
           try clear c20
           try clear c20b0
           try clear c20b1
           try clear c21
           try clear c22
           try clear c23
           try clear c32
           try clear c32b0
           try clear c32b1
           try clear p2
           obtain ⟨kq, x89_24, rfl, HA, HJ24, HO_10, HO_13, HO_16, HB⟩ := hcut
           cases kq with
           | zero => exact absurd HA.out (by simp [formelaw26_TableRows.j2])
           | succ kj24 =>
            have H := HA.out
            clear HA
            simp only [formelaw26_TableRows.j2] at H
            by_cases c33 : x89_24 = true
            ·
             subst c33
             have H1 : (some false) = some r := by rw [if_pos rfl] at H; exact H
             clear H
             have H := H1
             clear H1
             obtain rfl := Option.some.inj H
             go_wp2
             go_ret
             exact ⟨by first | rfl | (simp [errW_none, errW_some] <;> rfl) | (simp [*, errW_none, errW_some] <;> rfl), by repeat (first | (with_reducible first | exact HB.out | apply below_alloc | apply pw_below_drewN | apply below_drew1) | exact HB.out)⟩
            ·
             replace c33 := Bool.eq_false_iff.mpr c33
             subst c33
             have H1 : ((some (([] : List (List (S50))) : List (List (S50)))).bind fun y413 => (if y413.length + t389.length < 5864062014805 then (formelaw26_TableRows.l0 kj24 a3 true t390 t394 t408 (y413 ++ t389) 0) else (none))) = some r := by rw [if_neg (show ¬ (false = true) by decide)] at H; exact H
             clear H
             have H := H1
             clear H1
             obtain ⟨y413, hy413⟩ : ∃ y_ : List (List (S50)), y_ = (([] : List (List (S50)))) := ⟨_, rfl⟩
             replace H : (if y413.length + t389.length < 5864062014805 then (formelaw26_TableRows.l0 kj24 a3 true t390 t394 t408 (y413 ++ t389) 0) else (none)) = some r := by first | (rw [hy413]; with_reducible exact H) | (have H2_ := (Option.bind_some _ _).symm.trans H; rw [hy413]; with_reducible exact H2_) | (have H2_ := (Option.bind_some _ _).symm.trans H; with_reducible exact H2_) | with_reducible exact H | (rw [hy413]; exact H) | exact H
             have Ny413 := Aside0.mk hy413
             clear hy413
             by_cases c34 : y413.length + t389.length < 5864062014805
             ·
              rw [if_pos c34] at H
              have LMc34 := Aside0.mk c34
              clear c34
              obtain ⟨y416, hy416⟩ : ∃ y_ : List (List (S50)), y_ = (y413 ++ t389) := ⟨_, rfl⟩
              replace H : (formelaw26_TableRows.l0 kj24 a3 true t390 t394 t408 y416 0) = some r := by first | (rw [hy416]; with_reducible exact H) | (have H2_ := (Option.bind_some _ _).symm.trans H; rw [hy416]; with_reducible exact H2_) | (have H2_ := (Option.bind_some _ _).symm.trans H; with_reducible exact H2_) | with_reducible exact H | (rw [hy416]; exact H) | exact H
              have Ny416 := Aside0.mk hy416
              clear hy416
              have H' := Aside0.mk H
              clear H
              go_wp2_with (first | ((with_reducible refine gate_dst (N := 90) rfl ?_); (try (refine gate_guard (by rfl) ?_; dsimp only)); refine Kd.N_lit (Kd.slice 50 k50) _ 47 ?hg (N' := 90) ?hd (xs := ([] : List (List (S50)))) (inner := []) (ok := (fun k_ => ((P1_ k_ ∨ P2_ k_) ∨ w.heap.size ≤ k_) ∧ some k_ ≠ (v392 : Value).ownBlock ∧ some k_ ≠ (v397 : Value).ownBlock ∧ some k_ ≠ (v411 : Value).ownBlock)) (okp := (fun k_ => ((P1_ k_ ∨ P2_ k_) ∨ w.heap.size ≤ k_) ∧ some k_ ≠ (v392 : Value).ownBlock ∧ some k_ ≠ (v397 : Value).ownBlock ∧ some k_ ≠ (v411 : Value).ownBlock)) ?hr ?hp (fun _ hk => hk) ((show ∀ k_, wc.heap.size ≤ k_ → (fun k_ => ((P1_ k_ ∨ P2_ k_) ∨ w.heap.size ≤ k_) ∧ some k_ ≠ (v392 : Value).ownBlock ∧ some k_ ≠ (v397 : Value).ownBlock ∧ some k_ ≠ (v411 : Value).ownBlock) k_ from fun k_ hk => ⟨(.inr (Nat.le_trans (below_size (by repeat (first | (with_reducible first | exact HB.out | apply below_alloc | apply pw_below_drewN | apply below_drew1) | exact HB.out))) hk)), Kd.fresh' (Kd.N_lt (by (with_reducible repeat (first | apply Kd.N_alloc | apply Kd.N_drewN | apply Kd.N_drew)); exact HO_10.out)) k_ hk, Kd.fresh' (Kd.N_lt (by (with_reducible repeat (first | apply Kd.N_alloc | apply Kd.N_drewN | apply Kd.N_drew)); exact HO_13.out)) k_ hk, Kd.fresh' (Kd.N_lt (by (with_reducible repeat (first | apply Kd.N_alloc | apply Kd.N_drewN | apply Kd.N_drew)); exact HO_16.out)) k_ hk⟩) _ (Nat.le_refl _)) (Below.refl _ _) (Nat.le_refl _) (by simp) ?_; (case hd => rfl); (case hg => rfl); (case hr => first | (go_simp; done) | (go_simp; rfl)); (case hp => exact (Reps.none _ _)); intro v414 w35 ho36 hb hg_ hnew_; clear hg_ hnew_; (first | rw [← Ny413.out] at ho36 | (simp only [Int.reduceToNat] at ho36; rw [← Ny413.out] at ho36)); have n0_ := Aside0.mk (Kd.N_elder' (by (with_reducible repeat (first | apply Kd.N_alloc | apply Kd.N_drewN | apply Kd.N_drew)); exact HO_10.out) (Kd.N_base ho36) hb); have n1_ := Aside0.mk (Kd.N_elder' (by (with_reducible repeat (first | apply Kd.N_alloc | apply Kd.N_drewN | apply Kd.N_drew)); exact HO_13.out) (Kd.N_base ho36) hb); have n2_ := Aside0.mk (Kd.N_elder' (by (with_reducible repeat (first | apply Kd.N_alloc | apply Kd.N_drewN | apply Kd.N_drew)); exact HO_16.out) (Kd.N_base ho36) hb); have n3_ := Aside0.mk (Kd.N_lower ho36 (below_size (by repeat (first | (with_reducible first | exact HB.out | apply below_alloc | apply pw_below_drewN | apply below_drew1) | exact HB.out)))); have n4_ := Aside0.mk (below_step (by repeat (first | (with_reducible first | exact HB.out | apply below_alloc | apply pw_below_drewN | apply below_drew1) | exact HB.out)) hb); clear HO_10; clear HO_13; clear HO_16; clear HB; have HO_10 := n0_; have HO_13 := n1_; have HO_16 := n2_; have HO415 := n3_; have HB := n4_; clear n0_ n1_ n2_ n3_ n4_; clear hb ho36; obtain ⟨Ao38, co38, eo38⟩ := Kd.N_slice HO_10.out; subst eo38) | ((with_reducible refine gate_builtin (b := .append) (xs := #[.tmp 90, .tmp 91]) rfl ?_); (try (refine gate_guard (by rfl) ?_; dsimp only)); at_builtin; refine Kd.N_append_rows (Kd.slice 50 k50) (w0 := w) w.heap.size rfl (.tmp 90) (.tmp 91) 38 47 (.slice none 0 0) 24 rfl Try.underlying38 info47 rfl (by decide) (by omega) v414 y413 t389 _ _ _ (fun k_ => ((P1_ k_ ∨ P2_ k_) ∨ w.heap.size ≤ k_) ∧ some k_ ≠ (v397 : Value).ownBlock ∧ some k_ ≠ (v411 : Value).ownBlock) (fun k_ => ((fun k_ => ((P1_ k_ ∨ P2_ k_) ∨ w.heap.size ≤ k_) ∧ some k_ ≠ (v397 : Value).ownBlock ∧ some k_ ≠ (v411 : Value).ownBlock)) k_ ∧ some k_ ≠ (v414 : Value).ownBlock) rfl rfl ?aO ?aR (fun _ hk => hk) ?aF ?aB ?aS ?aL ?_; (case aR => exact (by skip; exact Kd.N_F (Kd.N_mono (ok' := (fun k_ => ((fun k_ => ((P1_ k_ ∨ P2_ k_) ∨ w.heap.size ≤ k_) ∧ some k_ ≠ (v397 : Value).ownBlock ∧ some k_ ≠ (v411 : Value).ownBlock)) k_ ∧ some k_ ≠ (v414 : Value).ownBlock)) (HO_10.out) (fun k_ hk => ⟨⟨hk.1.1, ⟨hk.1.2.1, hk.1.2.2⟩⟩, hk.2⟩)))); (case aB => exact (by repeat (first | (with_reducible first | exact HB.out | apply below_alloc | apply pw_below_drewN | apply below_drew1) | exact HB.out))); (case aF => exact (fun k_ hk => ⟨(.inr (Nat.le_trans (below_size (by repeat (first | (with_reducible first | exact HB.out | apply below_alloc | apply pw_below_drewN | apply below_drew1) | exact HB.out))) hk)), Kd.fresh' (Kd.N_lt (by (with_reducible repeat (first | apply Kd.N_alloc | apply Kd.N_drewN | apply Kd.N_drew)); exact HO_13.out)) k_ hk, Kd.fresh' (Kd.N_lt (by (with_reducible repeat (first | apply Kd.N_alloc | apply Kd.N_drewN | apply Kd.N_drew)); exact HO_16.out)) k_ hk⟩)); (case aO => exact (by (with_reducible repeat (first | apply Kd.N_alloc | apply Kd.N_drewN | apply Kd.N_drew)); exact Kd.N_mono HO415.out (fun _ hk => ⟨hk.1, ⟨hk.2.2.1, hk.2.2.2⟩⟩))); (case aS => exact (below_size (by repeat (first | (with_reducible first | exact HB.out | apply below_alloc | apply pw_below_drewN | apply below_drew1) | exact HB.out)))); (case aL => have := LMc34.out; omega); intro v417 w37 ho hb hg hat; rw [← Ny416.out] at ho; have n0_ := Aside0.mk (Kd.N_afterv (ok := (fun k_ => ((P1_ k_ ∨ P2_ k_) ∨ w.heap.size ≤ k_) ∧ some k_ ≠ (v397 : Value).ownBlock ∧ some k_ ≠ (v411 : Value).ownBlock)) (by (with_reducible repeat (first | apply Kd.N_alloc | apply Kd.N_drewN | apply Kd.N_drew)); exact HO_10.out) hg hat); have n1_ := Aside0.mk (Kd.N_afterv (ok := (fun k_ => ((P1_ k_ ∨ P2_ k_) ∨ w.heap.size ≤ k_) ∧ some k_ ≠ (.slice Ao38 t389.length co38 : Value).ownBlock ∧ some k_ ≠ (v411 : Value).ownBlock)) (by (with_reducible repeat (first | apply Kd.N_alloc | apply Kd.N_drewN | apply Kd.N_drew)); exact HO_13.out) hg hat); have n2_ := Aside0.mk (Kd.N_afterv (ok := (fun k_ => ((P1_ k_ ∨ P2_ k_) ∨ w.heap.size ≤ k_) ∧ some k_ ≠ (.slice Ao38 t389.length co38 : Value).ownBlock ∧ some k_ ≠ (v397 : Value).ownBlock)) (by (with_reducible repeat (first | apply Kd.N_alloc | apply Kd.N_drewN | apply Kd.N_drew)); exact HO_16.out) hg hat); have n3_ := Aside0.mk (hb); have n4_ := Aside0.mk (ho); clear HO_10; clear HO_13; clear HO_16; clear HB; clear HO415; have HO_10 := n0_; have HO_13 := n1_; have HO_16 := n2_; have HB := n3_; have HO418 := n4_; clear n0_ n1_ n2_ n3_ n4_; clear ho hb hg hat))
              go_loopg [19, 20] kj24 (fun kq v19 v20 w' => ∃ (x19_4 : List (List (S50))) (x20_4 : Int), v20 = .int .i64 x20_4 ∧ Aside0 (formelaw26_TableRows.l0 kq a3 true t390 t394 t408 x19_4 x20_4 = some r) ∧ Aside0 (kq ≤ kj24) ∧ Aside0 (Kd.N (Kd.slice 50 k50) 47 w' w.heap.size (fun k_ => ((P1_ k_ ∨ P2_ k_) ∨ w.heap.size ≤ k_) ∧ some k_ ≠ (v411 : Value).ownBlock ∧ some k_ ≠ (v19 : Value).ownBlock) v397 t394) ∧ Aside0 (Kd.N (Kd.slice 50 k50) 47 w' w.heap.size (fun k_ => ((P1_ k_ ∨ P2_ k_) ∨ w.heap.size ≤ k_) ∧ some k_ ≠ (v397 : Value).ownBlock ∧ some k_ ≠ (v19 : Value).ownBlock) v411 t408) ∧ Aside0 (Kd.N (Kd.slice 50 k50) 47 w' w.heap.size (fun k_ => ((P1_ k_ ∨ P2_ k_) ∨ w.heap.size ≤ k_) ∧ some k_ ≠ (v397 : Value).ownBlock ∧ some k_ ≠ (v411 : Value).ownBlock) v19 x19_4) ∧ Aside0 (Below w.heap.size w w'))
              case atStart => exact ⟨(y416), (0), (by first | rfl | (simp; done) | (simp [*]; done)), H', ⟨Nat.le_refl _⟩, ⟨by (with_reducible repeat (first | apply Kd.N_alloc | apply Kd.N_drewN | apply Kd.N_drew)); exact Kd.N_mono HO_13.out (fun _ hk => ⟨hk.1.1, ⟨hk.1.2.2, hk.2⟩⟩)⟩, ⟨by (with_reducible repeat (first | apply Kd.N_alloc | apply Kd.N_drewN | apply Kd.N_drew)); exact Kd.N_mono HO_16.out (fun _ hk => ⟨hk.1.1, ⟨hk.1.2.2, hk.2⟩⟩)⟩, ⟨by (with_reducible repeat (first | apply Kd.N_alloc | apply Kd.N_drewN | apply Kd.N_drew)); exact HO418.out⟩, ⟨by repeat (first | (with_reducible first | exact HB.out | apply below_alloc | apply pw_below_drewN | apply below_drew1) | exact HB.out)⟩⟩
              case round =>
               clear H'
               try clear c1
               try clear c2
               try clear p2
               try clear c3
               try clear c6
               try clear p6
               try clear c8
               try clear c9
               try clear c10
               try clear c11
               try clear c12
               try clear c13
               try clear c13b0
               try clear c13b1
               try clear c13b2
               try clear c14
               try clear c18
               try clear c20
               try clear c20b0
               try clear c20b1
               try clear c21
               try clear c22
               try clear c23
               try clear c32
               try clear c32b0
               try clear c32b1
               try clear c33
               try clear c34
               try clear p2
               try clear p6
               obtain ⟨x19_4, x20_4, rfl, HA, HK4, HO_13, HO_16, HO_19, HB⟩ := hrel
               cases gk with
               | zero => exact absurd HA.out (by simp [formelaw26_TableRows.l0])
               | succ k4 =>
                have H := HA.out
                clear HA
                simp only [formelaw26_TableRows.l0] at H
                by_cases c39 : x20_4 < (t394.length : Int)
                ·
                 rw [if_pos c39] at H
                 have c39b0 : decide (x20_4 < (t394.length : Int)) = true := decide_eq_true c39
                 clear c39
                 have H' := Aside0.mk H
                 clear H
                 obtain ⟨Ao40, co40, eo40⟩ := Kd.N_slice HO_13.out
                 subst eo40
                 go_wp2
                 go_loopg [21, 22] k4 (fun kq v21 v22 w' => ∃ (x21_5 : List (S50)) (x22_5 : Int), v22 = .int .i64 x22_5 ∧ Aside0 (formelaw26_TableRows.l1 kq a3 true t390 t394 t408 x19_4 x20_4 x21_5 x22_5 = some r) ∧ Aside0 (kq ≤ k4) ∧ Aside0 (Kd.N (Kd.slice 50 k50) 47 w' w.heap.size (fun k_ => ((P1_ k_ ∨ P2_ k_) ∨ w.heap.size ≤ k_) ∧ some k_ ≠ (v411 : Value).ownBlock ∧ some k_ ≠ (u19 : Value).ownBlock ∧ some k_ ≠ (v21 : Value).ownBlock) (.slice Ao40 t394.length co40) t394) ∧ Aside0 (Kd.N (Kd.slice 50 k50) 47 w' w.heap.size (fun k_ => ((P1_ k_ ∨ P2_ k_) ∨ w.heap.size ≤ k_) ∧ some k_ ≠ ((.slice Ao40 t394.length co40) : Value).ownBlock ∧ some k_ ≠ (u19 : Value).ownBlock ∧ some k_ ≠ (v21 : Value).ownBlock) v411 t408) ∧ Aside0 (Kd.N (Kd.slice 50 k50) 47 w' w.heap.size (fun k_ => ((P1_ k_ ∨ P2_ k_) ∨ w.heap.size ≤ k_) ∧ some k_ ≠ ((.slice Ao40 t394.length co40) : Value).ownBlock ∧ some k_ ≠ (v411 : Value).ownBlock ∧ some k_ ≠ (v21 : Value).ownBlock) u19 x19_4) ∧ Aside0 (Kd.N k50 50 w' w.heap.size (fun k_ => ((P1_ k_ ∨ P2_ k_) ∨ w.heap.size ≤ k_) ∧ some k_ ≠ ((.slice Ao40 t394.length co40) : Value).ownBlock ∧ some k_ ≠ (v411 : Value).ownBlock ∧ some k_ ≠ (u19 : Value).ownBlock) v21 x21_5) ∧ Aside0 (Below w.heap.size w w'))
                 case atStart => exact ⟨(([] : List (S50))), (0), (by first | rfl | (simp; done) | (simp [*]; done)), H', ⟨Nat.le_refl _⟩, ⟨by (with_reducible repeat (first | apply Kd.N_alloc | apply Kd.N_drewN | apply Kd.N_drew)); exact Kd.N_mono HO_13.out (fun _ hk => ⟨hk.1, ⟨hk.2.1, ⟨hk.2.2, (by simp [Value.ownBlock])⟩⟩⟩)⟩, ⟨by (with_reducible repeat (first | apply Kd.N_alloc | apply Kd.N_drewN | apply Kd.N_drew)); exact Kd.N_mono HO_16.out (fun _ hk => ⟨hk.1, ⟨hk.2.1, ⟨hk.2.2, (by simp [Value.ownBlock])⟩⟩⟩)⟩, ⟨by (with_reducible repeat (first | apply Kd.N_alloc | apply Kd.N_drewN | apply Kd.N_drew)); exact Kd.N_mono HO_19.out (fun _ hk => ⟨hk.1, ⟨hk.2.1, ⟨hk.2.2, (by simp [Value.ownBlock])⟩⟩⟩)⟩, ⟨by first | exact Kd.S_nil _ _ _ _ _ | exact Kd.N_nil _ _ _ _ _ | exact Kd.V_nil _ _ _ _ _ | exact Kd.Q_nil _ _ _ _ _ | exact Kd.R_nil _ _ _ _ _⟩, ⟨by repeat (first | (with_reducible first | exact HB.out | apply below_alloc | apply pw_below_drewN | apply below_drew1) | exact HB.out)⟩⟩
                 case round =>
                  clear H'
                  try clear c1
                  try clear c2
                  try clear p2
                  try clear c3
                  try clear c6
                  try clear p6
                  try clear c8
                  try clear c9
                  try clear c10
                  try clear c11
                  try clear c12
                  try clear c13
                  try clear c13b0
                  try clear c13b1
                  try clear c13b2
                  try clear c14
                  try clear c18
                  try clear c20
                  try clear c20b0
                  try clear c20b1
                  try clear c21
                  try clear c22
                  try clear c23
                  try clear c32
                  try clear c32b0
                  try clear c32b1
                  try clear c33
                  try clear c34
                  try clear c39
                  try clear c39b0
                  try clear p2
                  try clear p6
                  obtain ⟨x21_5, x22_5, rfl, HA, HK5, HO_13, HO_16, HO_19, HO_21, HB⟩ := hrel
                  cases gk with
                  | zero => exact absurd HA.out (by simp [formelaw26_TableRows.l1])
                  | succ k5 =>
                   have H := HA.out
                   clear HA
                   simp only [formelaw26_TableRows.l1] at H
                   by_cases c41 : 0 ≤ x20_4
                   ·
                    rw [if_pos c41] at H
                    have c41b0 : decide (0 ≤ x20_4) = true := decide_eq_true c41
                    clear c41
                    by_cases c42 : x20_4 < (t394.length : Int)
                    ·
                     rw [if_pos c42] at H
                     have c42b0 : decide (x20_4 < (t394.length : Int)) = true := decide_eq_true c42
                     clear c42
                     by_cases c43 : x22_5 < ((rd_L11 t394 x20_4).length : Int)
                     ·
                      rw [if_pos c43] at H
                      have c43b0 : decide (x22_5 < ((rd_L11 t394 x20_4).length : Int)) = true := decide_eq_true c43
                      clear c43
                      by_cases c44 : 0 ≤ x22_5
                      ·
                       rw [if_pos c44] at H
                       have c44b0 : decide (0 ≤ x22_5) = true := decide_eq_true c44
                       clear c44
                       by_cases c45 : x21_5.length < 1954687338268
                       ·
                        rw [if_pos c45] at H
                        have LMc45 := Aside0.mk c45
                        clear c45
                        obtain ⟨y424, hy424⟩ : ∃ y_ : List (S50), y_ = (x21_5 ++ [(⟨(rd_T50 (rd_L11 t394 x20_4) x22_5).f0, (rd_T50 (rd_L11 t394 x20_4) x22_5).f1, wrap64 (((rd_T50 (rd_L11 t394 x20_4) x22_5).f2) + (wrap64 (t390 + a3))), (rd_T50 (rd_L11 t394 x20_4) x22_5).f3, (rd_T50 (rd_L11 t394 x20_4) x22_5).f4, (rd_T50 (rd_L11 t394 x20_4) x22_5).f5, (rd_T50 (rd_L11 t394 x20_4) x22_5).f6⟩ : S50)]) := ⟨_, rfl⟩
                        replace H : (formelaw26_TableRows.l1 k5 a3 true t390 t394 t408 x19_4 x20_4 y424 (wrap64 (x22_5 + 1))) = some r := by first | (rw [hy424]; with_reducible exact H) | (have H2_ := (Option.bind_some _ _).symm.trans H; rw [hy424]; with_reducible exact H2_) | (have H2_ := (Option.bind_some _ _).symm.trans H; with_reducible exact H2_) | with_reducible exact H | (rw [hy424]; exact H) | exact H
                        have Ny424 := Aside0.mk hy424
                        clear hy424
                        have H' := Aside0.mk H
                        clear H
                        have p420 : 0 ≤ (x20_4 : Int) := of_decide_eq_true (by first | (with_reducible assumption) | assumption)
                        have q420 : x20_4 < (t394.length : Int) := of_decide_eq_true (by first | (with_reducible assumption) | assumption)
                        obtain ⟨ad420, A420_0, c420_0, e420, hx420_0, hl420_0, hi420_0⟩ := at_L11 (Kd.N_reads' HO_13.out).2.2 x20_4 p420 q420
                        cases e420
                        obtain ⟨ce420, hce420, hMe420, hcc420⟩ := Kd.N_get HO_13.out [] x20_4 p420 (by first | exact q420 | exact of_decide_eq_true (by first | (with_reducible assumption) | assumption) | (have e_ := (Kd.N_reads' HO_13.out).1; omega))
                        obtain ⟨ua420_0, uc420_0, rfl, ul420_0, ge420_0⟩ := Kd.FK_slice_open hMe420
                        have hv420_0 := hcc420 0 _ rfl
                        rw [Nat.add_zero, show ((Kd.slice 50 k50)).sz = 1 from rfl, Nat.mul_one] at hv420_0
                        replace hv420_0 := Option.some.inj (hv420_0.symm.trans hx420_0)
                        injection hv420_0 with hva_ hvn_ hvc_
                        rw [hva_] at ge420_0
                        rw [hvc_] at ul420_0
                        have HL420_0 := Aside0.mk (show Kd.V k50 50 _ w.heap.size _ _ (rd_L11 t394 x20_4) from Kd.V_mk ul420_0 ge420_0)
                        clear hva_ hvn_ hvc_ ge420_0 ul420_0
                        clear hcc420 hce420
                        have HR420_0 := Aside0.mk hi420_0
                        have HC420_0 := Aside0.mk hl420_0
                        clear hi420_0 hl420_0
                        replace p420 := eq_true p420
                        replace q420 := eq_true q420
                        have p421 : 0 ≤ (x20_4 : Int) := of_decide_eq_true (by first | (with_reducible assumption) | assumption)
                        have q421 : x20_4 < (t394.length : Int) := of_decide_eq_true (by first | (with_reducible assumption) | assumption)
                        obtain ⟨ad421, A421_0, c421_0, e421, hx421_0, hl421_0, hi421_0⟩ := at_L11 (Kd.N_reads' HO_13.out).2.2 x20_4 p421 q421
                        obtain rfl : ad420 = ad421 := (by injection e421)
                        obtain ⟨ce421, hce421, hMe421, hcc421⟩ := Kd.N_get HO_13.out [] x20_4 p421 (by first | exact q421 | exact of_decide_eq_true (by first | (with_reducible assumption) | assumption) | (have e_ := (Kd.N_reads' HO_13.out).1; omega))
                        obtain ⟨ua421_0, uc421_0, rfl, ul421_0, ge421_0⟩ := Kd.FK_slice_open hMe421
                        have hv421_0 := hcc421 0 _ rfl
                        rw [Nat.add_zero, show ((Kd.slice 50 k50)).sz = 1 from rfl, Nat.mul_one] at hv421_0
                        replace hv421_0 := Option.some.inj (hv421_0.symm.trans hx421_0)
                        injection hv421_0 with hva_ hvn_ hvc_
                        rw [hva_] at ge421_0
                        rw [hvc_] at ul421_0
                        have HL421_0 := Aside0.mk (show Kd.V k50 50 _ w.heap.size _ _ (rd_L11 t394 x20_4) from Kd.V_mk ul421_0 ge421_0)
                        clear hva_ hvn_ hvc_ ge421_0 ul421_0
                        clear hcc421 hce421
                        have HR421_0 := Aside0.mk hi421_0
                        have HC421_0 := Aside0.mk hl421_0
                        clear hi421_0 hl421_0
                        replace p421 := eq_true p421
                        replace q421 := eq_true q421
                        have ea_ := Option.some.inj (hx420_0.symm.trans hx421_0)
                        injection ea_ with ea_ en_ ec_
                        subst ea_
                        subst ec_
                        clear en_
                        have p422 : 0 ≤ (x22_5 : Int) := of_decide_eq_true (by first | (with_reducible assumption) | assumption)
                        have q422 : x22_5 < ((rd_L11 t394 x20_4).length : Int) := of_decide_eq_true (by first | (with_reducible assumption) | assumption)
                        obtain ⟨ad422, A422_6, c422_6, e422, hx422_0, hx422_1, hx422_2, hx422_3, hx422_4, hx422_5, hx422_6, hl422_6, hi422_6⟩ := at_T50 (by repeat (first | (with_reducible exact HR421_0.out) | (with_reducible refine Kd.C_alloc ?_ _) | (with_reducible refine Kd.C_drewN ?_ _) | (with_reducible refine Kd.C_drew ?_) | exact HR421_0.out)) x22_5 p422 q422
                        cases e422
                        obtain ⟨ce422, hce422, hMe422, hcc422⟩ := Kd.V_get HL421_0.out z50 x22_5 p422 (by first | exact q422 | exact of_decide_eq_true (by first | (with_reducible assumption) | assumption) | (have e_ := (Kd.V_reads' HL421_0.out).1; omega))
                        obtain ⟨ua422_6, uc422_6, rfl, ul422_6, ge422_6⟩ := k50_openF hMe422
                        have hv422_6 := hcc422 6 _ rfl
                        rw [add_field _ _ 6 (by omega)] at hv422_6
                        replace hv422_6 := Option.some.inj (hv422_6.symm.trans hx422_6)
                        injection hv422_6 with hva_ hvn_ hvc_
                        rw [hva_] at ge422_6
                        rw [hvc_] at ul422_6
                        have HL422_6 := Aside0.mk (show Kd.V k101 101 _ w.heap.size _ _ ((rd_T50 (rd_L11 t394 x20_4) x22_5).f6) from Kd.V_mk ul422_6 ge422_6)
                        clear hva_ hvn_ hvc_ ge422_6 ul422_6
                        clear hcc422 hce422
                        have HR422_6 := Aside0.mk hi422_6
                        have HC422_6 := Aside0.mk hl422_6
                        clear hi422_6 hl422_6
                        replace p422 := eq_true p422
                        replace q422 := eq_true q422
                        go_wp2_with (first | ((with_reducible refine gate_dst (N := 23) rfl ?_); (try (refine gate_guard (by rfl) ?_; dsimp only)); refine box_event ?hg (N := 23) ?hd (cs := #[.int .i64 0, .int .i64 0, .int .i64 0, .int .i64 0, .int .i64 0, .bool false, .slice none 0 0]) (t := 50) ?hr ?_; (case hd => rfl); (case hg => rfl); (case hr => first | (go_simp; done) | (go_simp; rfl)); intro gb423 hg w46 hbox hb; have n0_ := Aside0.mk (Kd.N_below (Kd.N_elderB (by (with_reducible repeat (first | apply Kd.N_alloc | apply Kd.N_drewN | apply Kd.N_drew)); exact HO_13.out) gb423 (Nat.le_of_eq hg.symm)) hb); have n1_ := Aside0.mk (Kd.N_below (Kd.N_elderB (by (with_reducible repeat (first | apply Kd.N_alloc | apply Kd.N_drewN | apply Kd.N_drew)); exact HO_16.out) gb423 (Nat.le_of_eq hg.symm)) hb); have n2_ := Aside0.mk (Kd.N_below (Kd.N_elderB (by (with_reducible repeat (first | apply Kd.N_alloc | apply Kd.N_drewN | apply Kd.N_drew)); exact HO_19.out) gb423 (Nat.le_of_eq hg.symm)) hb); have n3_ := Aside0.mk (Kd.N_below (Kd.N_elderB (by (with_reducible repeat (first | apply Kd.N_alloc | apply Kd.N_drewN | apply Kd.N_drew)); exact HO_21.out) gb423 (Nat.le_of_eq hg.symm)) hb); have n4_ := Aside0.mk (Kd.V_below (Kd.V_elderB (by (with_reducible repeat (first | apply Kd.V_alloc | apply Kd.V_drewN | apply Kd.V_drew)); exact HL420_0.out) gb423 (Nat.le_of_eq hg.symm)) hb); have n5_ := Aside0.mk (Kd.V_below (Kd.V_elderB (by (with_reducible repeat (first | apply Kd.V_alloc | apply Kd.V_drewN | apply Kd.V_drew)); exact HL421_0.out) gb423 (Nat.le_of_eq hg.symm)) hb); have n6_ := Aside0.mk (Kd.V_below (Kd.V_elderB (by (with_reducible repeat (first | apply Kd.V_alloc | apply Kd.V_drewN | apply Kd.V_drew)); exact HL422_6.out) gb423 (Nat.le_of_eq hg.symm)) hb); have n7_ := Aside0.mk (Kd.C_below (by repeat (first | (with_reducible exact HR420_0.out) | (with_reducible refine Kd.C_alloc ?_ _) | (with_reducible refine Kd.C_drewN ?_ _) | (with_reducible refine Kd.C_drew ?_) | exact HR420_0.out)) hb); have n8_ := Aside0.mk (Kd.C_below (by repeat (first | (with_reducible exact HR421_0.out) | (with_reducible refine Kd.C_alloc ?_ _) | (with_reducible refine Kd.C_drewN ?_ _) | (with_reducible refine Kd.C_drew ?_) | exact HR421_0.out)) hb); have n9_ := Aside0.mk (Kd.C_below (by repeat (first | (with_reducible exact HR422_6.out) | (with_reducible refine Kd.C_alloc ?_ _) | (with_reducible refine Kd.C_drewN ?_ _) | (with_reducible refine Kd.C_drew ?_) | exact HR422_6.out)) hb); have n10_ := Aside0.mk (below_step (by repeat (first | (with_reducible first | exact HB.out | apply below_alloc | apply pw_below_drewN | apply below_drew1) | exact HB.out)) hb); have n11_ := Aside0.mk (hbox); have n12_ := Aside0.mk ((by rw [hg]; exact (below_size (by repeat (first | (with_reducible first | exact HB.out | apply below_alloc | apply pw_below_drewN | apply below_drew1) | exact HB.out))) : w.heap.size ≤ gb423)); have n13_ := Aside0.mk ((by rw [hg]; exact (below_size (by repeat (first | (with_reducible first | exact HB.out | apply below_alloc | apply pw_below_drewN | apply below_drew1) | exact HB.out))) : w.heap.size ≤ gb423)); clear HO_13; clear HO_16; clear HO_19; clear HO_21; clear HL420_0; clear HL421_0; clear HL422_6; clear HR420_0; clear HR421_0; clear HR422_6; clear HB; have HO_13 := n0_; have HO_16 := n1_; have HO_19 := n2_; have HO_21 := n3_; have HL420_0 := n4_; have HL421_0 := n5_; have HL422_6 := n6_; have HR420_0 := n7_; have HR421_0 := n8_; have HR422_6 := n9_; have HB := n10_; have BK423 := n11_; have GW423 := n12_; have GE423 := n13_; clear n0_ n1_ n2_ n3_ n4_ n5_ n6_ n7_ n8_ n9_ n10_ n11_ n12_ n13_; clear hb hbox hg; have hcz47_0 : w46.cell? ⟨gb423, 0, none⟩ = some (.int .i64 0) := (blk_cell BK423.out 0).trans rfl; have hcz47_1 : w46.cell? ⟨gb423, 1, none⟩ = some (.int .i64 0) := (blk_cell BK423.out 1).trans rfl; have hcz47_2 : w46.cell? ⟨gb423, 2, none⟩ = some (.int .i64 0) := (blk_cell BK423.out 2).trans rfl; have hcz47_3 : w46.cell? ⟨gb423, 3, none⟩ = some (.int .i64 0) := (blk_cell BK423.out 3).trans rfl; have hcz47_4 : w46.cell? ⟨gb423, 4, none⟩ = some (.int .i64 0) := (blk_cell BK423.out 4).trans rfl; have hcz47_5 : w46.cell? ⟨gb423, 5, none⟩ = some (.bool false) := (blk_cell BK423.out 5).trans rfl; have hcz47_6 : w46.cell? ⟨gb423, 6, none⟩ = some (.slice none 0 0) := (blk_cell BK423.out 6).trans rfl; have hfz47_0 := blk_frozen BK423.out 0; have hfz47_1 := blk_frozen BK423.out 1; have hfz47_2 := blk_frozen BK423.out 2; have hfz47_3 := blk_frozen BK423.out 3; have hfz47_4 := blk_frozen BK423.out 4; have hfz47_5 := blk_frozen BK423.out 5; have hfz47_6 := blk_frozen BK423.out 6) | ((with_reducible refine gate_store (t := 50) (p := 23) rfl ?_); refine store_event (t := 50) (p := 23) (v := ?vo_w48) (w1 := (((((((w46.setCell ⟨gb423, 0, none⟩ (.int .i64 ((rd_T50 (rd_L11 t394 x20_4) x22_5).f0))).setCell ⟨gb423, 1, none⟩ (.int .i64 ((rd_T50 (rd_L11 t394 x20_4) x22_5).f1))).setCell ⟨gb423, 2, none⟩ (.int .i64 ((rd_T50 (rd_L11 t394 x20_4) x22_5).f2))).setCell ⟨gb423, 3, none⟩ (.int .i64 ((rd_T50 (rd_L11 t394 x20_4) x22_5).f3))).setCell ⟨gb423, 4, none⟩ (.int .i64 ((rd_T50 (rd_L11 t394 x20_4) x22_5).f4))).setCell ⟨gb423, 5, none⟩ (.bool ((rd_T50 (rd_L11 t394 x20_4) x22_5).f5))).setCell ⟨gb423, 6, none⟩ (.slice A422_6 ((rd_T50 (rd_L11 t394 x20_4) x22_5).f6).length c422_6))) ?hg ?ho ?hn ?hr ?_; (case ho => rfl); (case hg => rfl); (case hn => rfl); (case hr => first | (go_simp; done) | (go_simp; rfl)); intro w48 hw; have n0_ : Aside0 (Kd.N (Kd.slice 50 k50) 47 w48 w.heap.size (fun k_ => ((P1_ k_ ∨ P2_ k_) ∨ w.heap.size ≤ k_) ∧ some k_ ≠ (v411 : Value).ownBlock ∧ some k_ ≠ (u19 : Value).ownBlock ∧ some k_ ≠ (u21 : Value).ownBlock ∧ k_ ≠ gb423) (.slice (some ad420) t394.length co40) t394) := ⟨(by rw [hw]; exact (by (with_reducible repeat (first | apply Kd.N_alloc | apply Kd.N_drewN | apply Kd.N_drew)); exact Kd.N_mono (Kd.N_far (p := ⟨gb423, 6, none⟩) (Kd.N_far (p := ⟨gb423, 5, none⟩) (Kd.N_far (p := ⟨gb423, 4, none⟩) (Kd.N_far (p := ⟨gb423, 3, none⟩) (Kd.N_far (p := ⟨gb423, 2, none⟩) (Kd.N_far (p := ⟨gb423, 1, none⟩) (Kd.N_far (p := ⟨gb423, 0, none⟩) (Kd.N_mono HO_13.out (fun k_ hk => (⟨hk, hk.2⟩ : _ ∧ k_ ≠ gb423))) (fun _ hk => hk.2) (.int .i64 ((rd_T50 (rd_L11 t394 x20_4) x22_5).f0))) (fun _ hk => hk.2) (.int .i64 ((rd_T50 (rd_L11 t394 x20_4) x22_5).f1))) (fun _ hk => hk.2) (.int .i64 ((rd_T50 (rd_L11 t394 x20_4) x22_5).f2))) (fun _ hk => hk.2) (.int .i64 ((rd_T50 (rd_L11 t394 x20_4) x22_5).f3))) (fun _ hk => hk.2) (.int .i64 ((rd_T50 (rd_L11 t394 x20_4) x22_5).f4))) (fun _ hk => hk.2) (.bool ((rd_T50 (rd_L11 t394 x20_4) x22_5).f5))) (fun _ hk => hk.2) (.slice A422_6 ((rd_T50 (rd_L11 t394 x20_4) x22_5).f6).length c422_6)) (fun _ hk => ⟨hk.1.1.1, ⟨hk.1.1.2.1, ⟨hk.1.1.2.2.1, ⟨hk.1.1.2.2.2, hk.1.2⟩⟩⟩⟩)))⟩; have n1_ : Aside0 (Kd.N (Kd.slice 50 k50) 47 w48 w.heap.size (fun k_ => ((P1_ k_ ∨ P2_ k_) ∨ w.heap.size ≤ k_) ∧ some k_ ≠ (.slice (some ad420) t394.length co40 : Value).ownBlock ∧ some k_ ≠ (u19 : Value).ownBlock ∧ some k_ ≠ (u21 : Value).ownBlock ∧ k_ ≠ gb423) v411 t408) := ⟨(by rw [hw]; exact (by (with_reducible repeat (first | apply Kd.N_alloc | apply Kd.N_drewN | apply Kd.N_drew)); exact Kd.N_mono (Kd.N_far (p := ⟨gb423, 6, none⟩) (Kd.N_far (p := ⟨gb423, 5, none⟩) (Kd.N_far (p := ⟨gb423, 4, none⟩) (Kd.N_far (p := ⟨gb423, 3, none⟩) (Kd.N_far (p := ⟨gb423, 2, none⟩) (Kd.N_far (p := ⟨gb423, 1, none⟩) (Kd.N_far (p := ⟨gb423, 0, none⟩) (Kd.N_mono HO_16.out (fun k_ hk => (⟨hk, hk.2⟩ : _ ∧ k_ ≠ gb423))) (fun _ hk => hk.2) (.int .i64 ((rd_T50 (rd_L11 t394 x20_4) x22_5).f0))) (fun _ hk => hk.2) (.int .i64 ((rd_T50 (rd_L11 t394 x20_4) x22_5).f1))) (fun _ hk => hk.2) (.int .i64 ((rd_T50 (rd_L11 t394 x20_4) x22_5).f2))) (fun _ hk => hk.2) (.int .i64 ((rd_T50 (rd_L11 t394 x20_4) x22_5).f3))) (fun _ hk => hk.2) (.int .i64 ((rd_T50 (rd_L11 t394 x20_4) x22_5).f4))) (fun _ hk => hk.2) (.bool ((rd_T50 (rd_L11 t394 x20_4) x22_5).f5))) (fun _ hk => hk.2) (.slice A422_6 ((rd_T50 (rd_L11 t394 x20_4) x22_5).f6).length c422_6)) (fun _ hk => ⟨hk.1.1.1, ⟨hk.1.1.2.1, ⟨hk.1.1.2.2.1, ⟨hk.1.1.2.2.2, hk.1.2⟩⟩⟩⟩)))⟩; have n2_ : Aside0 (Kd.N (Kd.slice 50 k50) 47 w48 w.heap.size (fun k_ => ((P1_ k_ ∨ P2_ k_) ∨ w.heap.size ≤ k_) ∧ some k_ ≠ (.slice (some ad420) t394.length co40 : Value).ownBlock ∧ some k_ ≠ (v411 : Value).ownBlock ∧ some k_ ≠ (u21 : Value).ownBlock ∧ k_ ≠ gb423) u19 x19_4) := ⟨(by rw [hw]; exact (by (with_reducible repeat (first | apply Kd.N_alloc | apply Kd.N_drewN | apply Kd.N_drew)); exact Kd.N_mono (Kd.N_far (p := ⟨gb423, 6, none⟩) (Kd.N_far (p := ⟨gb423, 5, none⟩) (Kd.N_far (p := ⟨gb423, 4, none⟩) (Kd.N_far (p := ⟨gb423, 3, none⟩) (Kd.N_far (p := ⟨gb423, 2, none⟩) (Kd.N_far (p := ⟨gb423, 1, none⟩) (Kd.N_far (p := ⟨gb423, 0, none⟩) (Kd.N_mono HO_19.out (fun k_ hk => (⟨hk, hk.2⟩ : _ ∧ k_ ≠ gb423))) (fun _ hk => hk.2) (.int .i64 ((rd_T50 (rd_L11 t394 x20_4) x22_5).f0))) (fun _ hk => hk.2) (.int .i64 ((rd_T50 (rd_L11 t394 x20_4) x22_5).f1))) (fun _ hk => hk.2) (.int .i64 ((rd_T50 (rd_L11 t394 x20_4) x22_5).f2))) (fun _ hk => hk.2) (.int .i64 ((rd_T50 (rd_L11 t394 x20_4) x22_5).f3))) (fun _ hk => hk.2) (.int .i64 ((rd_T50 (rd_L11 t394 x20_4) x22_5).f4))) (fun _ hk => hk.2) (.bool ((rd_T50 (rd_L11 t394 x20_4) x22_5).f5))) (fun _ hk => hk.2) (.slice A422_6 ((rd_T50 (rd_L11 t394 x20_4) x22_5).f6).length c422_6)) (fun _ hk => ⟨hk.1.1.1, ⟨hk.1.1.2.1, ⟨hk.1.1.2.2.1, ⟨hk.1.1.2.2.2, hk.1.2⟩⟩⟩⟩)))⟩; have n3_ : Aside0 (Kd.N k50 50 w48 w.heap.size (fun k_ => ((P1_ k_ ∨ P2_ k_) ∨ w.heap.size ≤ k_) ∧ some k_ ≠ (.slice (some ad420) t394.length co40 : Value).ownBlock ∧ some k_ ≠ (v411 : Value).ownBlock ∧ some k_ ≠ (u19 : Value).ownBlock ∧ k_ ≠ gb423) u21 x21_5) := ⟨(by rw [hw]; exact (by (with_reducible repeat (first | apply Kd.N_alloc | apply Kd.N_drewN | apply Kd.N_drew)); exact Kd.N_mono (Kd.N_far (p := ⟨gb423, 6, none⟩) (Kd.N_far (p := ⟨gb423, 5, none⟩) (Kd.N_far (p := ⟨gb423, 4, none⟩) (Kd.N_far (p := ⟨gb423, 3, none⟩) (Kd.N_far (p := ⟨gb423, 2, none⟩) (Kd.N_far (p := ⟨gb423, 1, none⟩) (Kd.N_far (p := ⟨gb423, 0, none⟩) (Kd.N_mono HO_21.out (fun k_ hk => (⟨hk, hk.2⟩ : _ ∧ k_ ≠ gb423))) (fun _ hk => hk.2) (.int .i64 ((rd_T50 (rd_L11 t394 x20_4) x22_5).f0))) (fun _ hk => hk.2) (.int .i64 ((rd_T50 (rd_L11 t394 x20_4) x22_5).f1))) (fun _ hk => hk.2) (.int .i64 ((rd_T50 (rd_L11 t394 x20_4) x22_5).f2))) (fun _ hk => hk.2) (.int .i64 ((rd_T50 (rd_L11 t394 x20_4) x22_5).f3))) (fun _ hk => hk.2) (.int .i64 ((rd_T50 (rd_L11 t394 x20_4) x22_5).f4))) (fun _ hk => hk.2) (.bool ((rd_T50 (rd_L11 t394 x20_4) x22_5).f5))) (fun _ hk => hk.2) (.slice A422_6 ((rd_T50 (rd_L11 t394 x20_4) x22_5).f6).length c422_6)) (fun _ hk => ⟨hk.1.1.1, ⟨hk.1.1.2.1, ⟨hk.1.1.2.2.1, ⟨hk.1.1.2.2.2, hk.1.2⟩⟩⟩⟩)))⟩; have n4_ : Aside0 (Kd.V k50 50 w48 w.heap.size (fun k_ => ((P1_ k_ ∨ P2_ k_) ∨ w.heap.size ≤ k_) ∧ some k_ ≠ (.slice (some ad420) t394.length co40 : Value).ownBlock ∧ some k_ ≠ (v411 : Value).ownBlock ∧ some k_ ≠ (u19 : Value).ownBlock ∧ some k_ ≠ (u21 : Value).ownBlock ∧ k_ ≠ gb423) (.slice (some ad422) (rd_L11 t394 x20_4).length c420_0) (rd_L11 t394 x20_4)) := ⟨(by rw [hw]; exact (by (with_reducible repeat (first | apply Kd.V_alloc | apply Kd.V_drewN | apply Kd.V_drew)); exact Kd.V_mono (Kd.V_far (p := ⟨gb423, 6, none⟩) (Kd.V_far (p := ⟨gb423, 5, none⟩) (Kd.V_far (p := ⟨gb423, 4, none⟩) (Kd.V_far (p := ⟨gb423, 3, none⟩) (Kd.V_far (p := ⟨gb423, 2, none⟩) (Kd.V_far (p := ⟨gb423, 1, none⟩) (Kd.V_far (p := ⟨gb423, 0, none⟩) (Kd.V_mono HL420_0.out (fun k_ hk => (⟨hk, hk.2⟩ : _ ∧ k_ ≠ gb423))) (fun _ hk => hk.2) (.int .i64 ((rd_T50 (rd_L11 t394 x20_4) x22_5).f0))) (fun _ hk => hk.2) (.int .i64 ((rd_T50 (rd_L11 t394 x20_4) x22_5).f1))) (fun _ hk => hk.2) (.int .i64 ((rd_T50 (rd_L11 t394 x20_4) x22_5).f2))) (fun _ hk => hk.2) (.int .i64 ((rd_T50 (rd_L11 t394 x20_4) x22_5).f3))) (fun _ hk => hk.2) (.int .i64 ((rd_T50 (rd_L11 t394 x20_4) x22_5).f4))) (fun _ hk => hk.2) (.bool ((rd_T50 (rd_L11 t394 x20_4) x22_5).f5))) (fun _ hk => hk.2) (.slice A422_6 ((rd_T50 (rd_L11 t394 x20_4) x22_5).f6).length c422_6)) (fun _ hk => ⟨hk.1.1.1.1, ⟨hk.1.1.2, ⟨hk.1.1.1.2.1, ⟨hk.1.1.1.2.2.1, ⟨hk.1.1.1.2.2.2, hk.1.2⟩⟩⟩⟩⟩)))⟩; have n5_ : Aside0 (Kd.V k50 50 w48 w.heap.size (fun k_ => ((P1_ k_ ∨ P2_ k_) ∨ w.heap.size ≤ k_) ∧ some k_ ≠ (.slice (some ad420) t394.length co40 : Value).ownBlock ∧ some k_ ≠ (v411 : Value).ownBlock ∧ some k_ ≠ (u19 : Value).ownBlock ∧ some k_ ≠ (u21 : Value).ownBlock ∧ k_ ≠ gb423) (.slice (some ad422) (rd_L11 t394 x20_4).length c420_0) (rd_L11 t394 x20_4)) := ⟨(by rw [hw]; exact (by (with_reducible repeat (first | apply Kd.V_alloc | apply Kd.V_drewN | apply Kd.V_drew)); exact Kd.V_mono (Kd.V_far (p := ⟨gb423, 6, none⟩) (Kd.V_far (p := ⟨gb423, 5, none⟩) (Kd.V_far (p := ⟨gb423, 4, none⟩) (Kd.V_far (p := ⟨gb423, 3, none⟩) (Kd.V_far (p := ⟨gb423, 2, none⟩) (Kd.V_far (p := ⟨gb423, 1, none⟩) (Kd.V_far (p := ⟨gb423, 0, none⟩) (Kd.V_mono HL421_0.out (fun k_ hk => (⟨hk, hk.2⟩ : _ ∧ k_ ≠ gb423))) (fun _ hk => hk.2) (.int .i64 ((rd_T50 (rd_L11 t394 x20_4) x22_5).f0))) (fun _ hk => hk.2) (.int .i64 ((rd_T50 (rd_L11 t394 x20_4) x22_5).f1))) (fun _ hk => hk.2) (.int .i64 ((rd_T50 (rd_L11 t394 x20_4) x22_5).f2))) (fun _ hk => hk.2) (.int .i64 ((rd_T50 (rd_L11 t394 x20_4) x22_5).f3))) (fun _ hk => hk.2) (.int .i64 ((rd_T50 (rd_L11 t394 x20_4) x22_5).f4))) (fun _ hk => hk.2) (.bool ((rd_T50 (rd_L11 t394 x20_4) x22_5).f5))) (fun _ hk => hk.2) (.slice A422_6 ((rd_T50 (rd_L11 t394 x20_4) x22_5).f6).length c422_6)) (fun _ hk => ⟨hk.1.1.1.1, ⟨hk.1.1.2, ⟨hk.1.1.1.2.1, ⟨hk.1.1.1.2.2.1, ⟨hk.1.1.1.2.2.2, hk.1.2⟩⟩⟩⟩⟩)))⟩; have n6_ : Aside0 (Kd.V k101 101 w48 w.heap.size (fun k_ => ((P1_ k_ ∨ P2_ k_) ∨ w.heap.size ≤ k_) ∧ some k_ ≠ (.slice (some ad420) t394.length co40 : Value).ownBlock ∧ some k_ ≠ (v411 : Value).ownBlock ∧ some k_ ≠ (u19 : Value).ownBlock ∧ some k_ ≠ (u21 : Value).ownBlock ∧ k_ ≠ gb423) (.slice A422_6 ((rd_T50 (rd_L11 t394 x20_4) x22_5).f6).length c422_6) ((rd_T50 (rd_L11 t394 x20_4) x22_5).f6)) := ⟨(by rw [hw]; exact (by (with_reducible repeat (first | apply Kd.V_alloc | apply Kd.V_drewN | apply Kd.V_drew)); exact Kd.V_mono (Kd.V_far (p := ⟨gb423, 6, none⟩) (Kd.V_far (p := ⟨gb423, 5, none⟩) (Kd.V_far (p := ⟨gb423, 4, none⟩) (Kd.V_far (p := ⟨gb423, 3, none⟩) (Kd.V_far (p := ⟨gb423, 2, none⟩) (Kd.V_far (p := ⟨gb423, 1, none⟩) (Kd.V_far (p := ⟨gb423, 0, none⟩) (Kd.V_mono HL422_6.out (fun k_ hk => (⟨hk, hk.2⟩ : _ ∧ k_ ≠ gb423))) (fun _ hk => hk.2) (.int .i64 ((rd_T50 (rd_L11 t394 x20_4) x22_5).f0))) (fun _ hk => hk.2) (.int .i64 ((rd_T50 (rd_L11 t394 x20_4) x22_5).f1))) (fun _ hk => hk.2) (.int .i64 ((rd_T50 (rd_L11 t394 x20_4) x22_5).f2))) (fun _ hk => hk.2) (.int .i64 ((rd_T50 (rd_L11 t394 x20_4) x22_5).f3))) (fun _ hk => hk.2) (.int .i64 ((rd_T50 (rd_L11 t394 x20_4) x22_5).f4))) (fun _ hk => hk.2) (.bool ((rd_T50 (rd_L11 t394 x20_4) x22_5).f5))) (fun _ hk => hk.2) (.slice A422_6 ((rd_T50 (rd_L11 t394 x20_4) x22_5).f6).length c422_6)) (fun _ hk => ⟨hk.1.1.1.1, ⟨hk.1.1.2, ⟨hk.1.1.1.2.1, ⟨hk.1.1.1.2.2.1, ⟨hk.1.1.1.2.2.2, hk.1.2⟩⟩⟩⟩⟩)))⟩; have n7_ : Aside0 (w48.heap[gb423]? = some (.cells #[.int .i64 ((rd_T50 (rd_L11 t394 x20_4) x22_5).f0), .int .i64 ((rd_T50 (rd_L11 t394 x20_4) x22_5).f1), .int .i64 ((rd_T50 (rd_L11 t394 x20_4) x22_5).f2), .int .i64 ((rd_T50 (rd_L11 t394 x20_4) x22_5).f3), .int .i64 ((rd_T50 (rd_L11 t394 x20_4) x22_5).f4), .bool ((rd_T50 (rd_L11 t394 x20_4) x22_5).f5), .slice A422_6 ((rd_T50 (rd_L11 t394 x20_4) x22_5).f6).length c422_6] 50 (0, 0))) := ⟨(by rw [hw]; exact (by (with_reducible repeat (first | refine blk_drewN ?_ _ | refine blk_drew ?_ | refine blk_alloc ?_ _)); refine blk_put (cs := #[.int .i64 ((rd_T50 (rd_L11 t394 x20_4) x22_5).f0), .int .i64 ((rd_T50 (rd_L11 t394 x20_4) x22_5).f1), .int .i64 ((rd_T50 (rd_L11 t394 x20_4) x22_5).f2), .int .i64 ((rd_T50 (rd_L11 t394 x20_4) x22_5).f3), .int .i64 ((rd_T50 (rd_L11 t394 x20_4) x22_5).f4), .bool ((rd_T50 (rd_L11 t394 x20_4) x22_5).f5), .slice none 0 0]) ?_ 6 _ rfl; (with_reducible repeat (first | refine blk_drewN ?_ _ | refine blk_drew ?_ | refine blk_alloc ?_ _)); refine blk_put (cs := #[.int .i64 ((rd_T50 (rd_L11 t394 x20_4) x22_5).f0), .int .i64 ((rd_T50 (rd_L11 t394 x20_4) x22_5).f1), .int .i64 ((rd_T50 (rd_L11 t394 x20_4) x22_5).f2), .int .i64 ((rd_T50 (rd_L11 t394 x20_4) x22_5).f3), .int .i64 ((rd_T50 (rd_L11 t394 x20_4) x22_5).f4), .bool false, .slice none 0 0]) ?_ 5 _ rfl; (with_reducible repeat (first | refine blk_drewN ?_ _ | refine blk_drew ?_ | refine blk_alloc ?_ _)); refine blk_put (cs := #[.int .i64 ((rd_T50 (rd_L11 t394 x20_4) x22_5).f0), .int .i64 ((rd_T50 (rd_L11 t394 x20_4) x22_5).f1), .int .i64 ((rd_T50 (rd_L11 t394 x20_4) x22_5).f2), .int .i64 ((rd_T50 (rd_L11 t394 x20_4) x22_5).f3), .int .i64 0, .bool false, .slice none 0 0]) ?_ 4 _ rfl; (with_reducible repeat (first | refine blk_drewN ?_ _ | refine blk_drew ?_ | refine blk_alloc ?_ _)); refine blk_put (cs := #[.int .i64 ((rd_T50 (rd_L11 t394 x20_4) x22_5).f0), .int .i64 ((rd_T50 (rd_L11 t394 x20_4) x22_5).f1), .int .i64 ((rd_T50 (rd_L11 t394 x20_4) x22_5).f2), .int .i64 0, .int .i64 0, .bool false, .slice none 0 0]) ?_ 3 _ rfl; (with_reducible repeat (first | refine blk_drewN ?_ _ | refine blk_drew ?_ | refine blk_alloc ?_ _)); refine blk_put (cs := #[.int .i64 ((rd_T50 (rd_L11 t394 x20_4) x22_5).f0), .int .i64 ((rd_T50 (rd_L11 t394 x20_4) x22_5).f1), .int .i64 0, .int .i64 0, .int .i64 0, .bool false, .slice none 0 0]) ?_ 2 _ rfl; (with_reducible repeat (first | refine blk_drewN ?_ _ | refine blk_drew ?_ | refine blk_alloc ?_ _)); refine blk_put (cs := #[.int .i64 ((rd_T50 (rd_L11 t394 x20_4) x22_5).f0), .int .i64 0, .int .i64 0, .int .i64 0, .int .i64 0, .bool false, .slice none 0 0]) ?_ 1 _ rfl; (with_reducible repeat (first | refine blk_drewN ?_ _ | refine blk_drew ?_ | refine blk_alloc ?_ _)); refine blk_put (cs := #[.int .i64 0, .int .i64 0, .int .i64 0, .int .i64 0, .int .i64 0, .bool false, .slice none 0 0]) ?_ 0 _ rfl; (with_reducible repeat (first | refine blk_drewN ?_ _ | refine blk_drew ?_ | refine blk_alloc ?_ _)); exact BK423.out))⟩; have n8_ : Aside0 (Below w.heap.size w w48) := ⟨(by rw [hw]; exact (by repeat (first | (with_reducible first | exact HB.out | apply below_alloc | apply pw_below_drewN | apply below_drew1 | refine below_set ?_ GE423.out) | exact HB.out)))⟩; clear hw; clear HO_13; clear HO_16; clear HO_19; clear HO_21; clear HL420_0; clear HL421_0; clear HL422_6; clear BK423; clear HB; have HO_13 := n0_; have HO_16 := n1_; have HO_19 := n2_; have HO_21 := n3_; have HL420_0 := n4_; have HL421_0 := n5_; have HL422_6 := n6_; have BK423 := n7_; have HB := n8_; clear n0_ n1_ n2_ n3_ n4_ n5_ n6_ n7_ n8_; have hcz49_0 : w48.cell? ⟨gb423, 0, none⟩ = some (.int .i64 ((rd_T50 (rd_L11 t394 x20_4) x22_5).f0)) := (blk_cell BK423.out 0).trans rfl; have hcz49_1 : w48.cell? ⟨gb423, 1, none⟩ = some (.int .i64 ((rd_T50 (rd_L11 t394 x20_4) x22_5).f1)) := (blk_cell BK423.out 1).trans rfl; have hcz49_2 : w48.cell? ⟨gb423, 2, none⟩ = some (.int .i64 ((rd_T50 (rd_L11 t394 x20_4) x22_5).f2)) := (blk_cell BK423.out 2).trans rfl; have hcz49_3 : w48.cell? ⟨gb423, 3, none⟩ = some (.int .i64 ((rd_T50 (rd_L11 t394 x20_4) x22_5).f3)) := (blk_cell BK423.out 3).trans rfl; have hcz49_4 : w48.cell? ⟨gb423, 4, none⟩ = some (.int .i64 ((rd_T50 (rd_L11 t394 x20_4) x22_5).f4)) := (blk_cell BK423.out 4).trans rfl; have hcz49_5 : w48.cell? ⟨gb423, 5, none⟩ = some (.bool ((rd_T50 (rd_L11 t394 x20_4) x22_5).f5)) := (blk_cell BK423.out 5).trans rfl; have hcz49_6 : w48.cell? ⟨gb423, 6, none⟩ = some (.slice A422_6 ((rd_T50 (rd_L11 t394 x20_4) x22_5).f6).length c422_6) := (blk_cell BK423.out 6).trans rfl; have hfz49_0 := blk_frozen BK423.out 0; have hfz49_1 := blk_frozen BK423.out 1; have hfz49_2 := blk_frozen BK423.out 2; have hfz49_3 := blk_frozen BK423.out 3; have hfz49_4 := blk_frozen BK423.out 4; have hfz49_5 := blk_frozen BK423.out 5; have hfz49_6 := blk_frozen BK423.out 6) | ((with_reducible refine gate_store (t := 3) (p := 121) rfl ?_); refine store_event (t := 3) (p := 121) (v := ?vo_w50) (w1 := (w48.setCell ⟨gb423, 2, none⟩ (.int .i64 (wrap64 (((rd_T50 (rd_L11 t394 x20_4) x22_5).f2) + (wrap64 (t390 + a3))))))) ?hg ?ho ?hn ?hr ?_; (case ho => rfl); (case hg => rfl); (case hn => rfl); (case hr => first | (go_simp; done) | (go_simp; rfl)); intro w50 hw; have n0_ : Aside0 (Kd.N (Kd.slice 50 k50) 47 w50 w.heap.size (fun k_ => ((P1_ k_ ∨ P2_ k_) ∨ w.heap.size ≤ k_) ∧ some k_ ≠ (v411 : Value).ownBlock ∧ some k_ ≠ (u19 : Value).ownBlock ∧ some k_ ≠ (u21 : Value).ownBlock ∧ k_ ≠ gb423) (.slice (some ad420) t394.length co40) t394) := ⟨(by rw [hw]; exact (by (with_reducible repeat (first | apply Kd.N_alloc | apply Kd.N_drewN | apply Kd.N_drew)); exact Kd.N_mono (Kd.N_far (p := ⟨gb423, 2, none⟩) (Kd.N_mono HO_13.out (fun k_ hk => (⟨hk, hk.2.2.2.2⟩ : _ ∧ k_ ≠ gb423))) (fun _ hk => hk.2) (.int .i64 (wrap64 (((rd_T50 (rd_L11 t394 x20_4) x22_5).f2) + (wrap64 (t390 + a3)))))) (fun _ hk => ⟨hk.1.1, ⟨hk.1.2.1, ⟨hk.1.2.2.1, ⟨hk.1.2.2.2.1, hk.1.2.2.2.2⟩⟩⟩⟩)))⟩; have n1_ : Aside0 (Kd.N (Kd.slice 50 k50) 47 w50 w.heap.size (fun k_ => ((P1_ k_ ∨ P2_ k_) ∨ w.heap.size ≤ k_) ∧ some k_ ≠ (.slice (some ad420) t394.length co40 : Value).ownBlock ∧ some k_ ≠ (u19 : Value).ownBlock ∧ some k_ ≠ (u21 : Value).ownBlock ∧ k_ ≠ gb423) v411 t408) := ⟨(by rw [hw]; exact (by (with_reducible repeat (first | apply Kd.N_alloc | apply Kd.N_drewN | apply Kd.N_drew)); exact Kd.N_mono (Kd.N_far (p := ⟨gb423, 2, none⟩) (Kd.N_mono HO_16.out (fun k_ hk => (⟨hk, hk.2.2.2.2⟩ : _ ∧ k_ ≠ gb423))) (fun _ hk => hk.2) (.int .i64 (wrap64 (((rd_T50 (rd_L11 t394 x20_4) x22_5).f2) + (wrap64 (t390 + a3)))))) (fun _ hk => ⟨hk.1.1, ⟨hk.1.2.1, ⟨hk.1.2.2.1, ⟨hk.1.2.2.2.1, hk.1.2.2.2.2⟩⟩⟩⟩)))⟩; have n2_ : Aside0 (Kd.N (Kd.slice 50 k50) 47 w50 w.heap.size (fun k_ => ((P1_ k_ ∨ P2_ k_) ∨ w.heap.size ≤ k_) ∧ some k_ ≠ (.slice (some ad420) t394.length co40 : Value).ownBlock ∧ some k_ ≠ (v411 : Value).ownBlock ∧ some k_ ≠ (u21 : Value).ownBlock ∧ k_ ≠ gb423) u19 x19_4) := ⟨(by rw [hw]; exact (by (with_reducible repeat (first | apply Kd.N_alloc | apply Kd.N_drewN | apply Kd.N_drew)); exact Kd.N_mono (Kd.N_far (p := ⟨gb423, 2, none⟩) (Kd.N_mono HO_19.out (fun k_ hk => (⟨hk, hk.2.2.2.2⟩ : _ ∧ k_ ≠ gb423))) (fun _ hk => hk.2) (.int .i64 (wrap64 (((rd_T50 (rd_L11 t394 x20_4) x22_5).f2) + (wrap64 (t390 + a3)))))) (fun _ hk => ⟨hk.1.1, ⟨hk.1.2.1, ⟨hk.1.2.2.1, ⟨hk.1.2.2.2.1, hk.1.2.2.2.2⟩⟩⟩⟩)))⟩; have n3_ : Aside0 (Kd.N k50 50 w50 w.heap.size (fun k_ => ((P1_ k_ ∨ P2_ k_) ∨ w.heap.size ≤ k_) ∧ some k_ ≠ (.slice (some ad420) t394.length co40 : Value).ownBlock ∧ some k_ ≠ (v411 : Value).ownBlock ∧ some k_ ≠ (u19 : Value).ownBlock ∧ k_ ≠ gb423) u21 x21_5) := ⟨(by rw [hw]; exact (by (with_reducible repeat (first | apply Kd.N_alloc | apply Kd.N_drewN | apply Kd.N_drew)); exact Kd.N_mono (Kd.N_far (p := ⟨gb423, 2, none⟩) (Kd.N_mono HO_21.out (fun k_ hk => (⟨hk, hk.2.2.2.2⟩ : _ ∧ k_ ≠ gb423))) (fun _ hk => hk.2) (.int .i64 (wrap64 (((rd_T50 (rd_L11 t394 x20_4) x22_5).f2) + (wrap64 (t390 + a3)))))) (fun _ hk => ⟨hk.1.1, ⟨hk.1.2.1, ⟨hk.1.2.2.1, ⟨hk.1.2.2.2.1, hk.1.2.2.2.2⟩⟩⟩⟩)))⟩; have n4_ : Aside0 (Kd.V k50 50 w50 w.heap.size (fun k_ => ((P1_ k_ ∨ P2_ k_) ∨ w.heap.size ≤ k_) ∧ some k_ ≠ (.slice (some ad420) t394.length co40 : Value).ownBlock ∧ some k_ ≠ (v411 : Value).ownBlock ∧ some k_ ≠ (u19 : Value).ownBlock ∧ some k_ ≠ (u21 : Value).ownBlock ∧ k_ ≠ gb423) (.slice (some ad422) (rd_L11 t394 x20_4).length c420_0) (rd_L11 t394 x20_4)) := ⟨(by rw [hw]; exact (by (with_reducible repeat (first | apply Kd.V_alloc | apply Kd.V_drewN | apply Kd.V_drew)); exact Kd.V_mono (Kd.V_far (p := ⟨gb423, 2, none⟩) (Kd.V_mono HL420_0.out (fun k_ hk => (⟨hk, hk.2.2.2.2.2⟩ : _ ∧ k_ ≠ gb423))) (fun _ hk => hk.2) (.int .i64 (wrap64 (((rd_T50 (rd_L11 t394 x20_4) x22_5).f2) + (wrap64 (t390 + a3)))))) (fun _ hk => ⟨hk.1.1, ⟨hk.1.2.1, ⟨hk.1.2.2.1, ⟨hk.1.2.2.2.1, ⟨hk.1.2.2.2.2.1, hk.1.2.2.2.2.2⟩⟩⟩⟩⟩)))⟩; have n5_ : Aside0 (Kd.V k50 50 w50 w.heap.size (fun k_ => ((P1_ k_ ∨ P2_ k_) ∨ w.heap.size ≤ k_) ∧ some k_ ≠ (.slice (some ad420) t394.length co40 : Value).ownBlock ∧ some k_ ≠ (v411 : Value).ownBlock ∧ some k_ ≠ (u19 : Value).ownBlock ∧ some k_ ≠ (u21 : Value).ownBlock ∧ k_ ≠ gb423) (.slice (some ad422) (rd_L11 t394 x20_4).length c420_0) (rd_L11 t394 x20_4)) := ⟨(by rw [hw]; exact (by (with_reducible repeat (first | apply Kd.V_alloc | apply Kd.V_drewN | apply Kd.V_drew)); exact Kd.V_mono (Kd.V_far (p := ⟨gb423, 2, none⟩) (Kd.V_mono HL421_0.out (fun k_ hk => (⟨hk, hk.2.2.2.2.2⟩ : _ ∧ k_ ≠ gb423))) (fun _ hk => hk.2) (.int .i64 (wrap64 (((rd_T50 (rd_L11 t394 x20_4) x22_5).f2) + (wrap64 (t390 + a3)))))) (fun _ hk => ⟨hk.1.1, ⟨hk.1.2.1, ⟨hk.1.2.2.1, ⟨hk.1.2.2.2.1, ⟨hk.1.2.2.2.2.1, hk.1.2.2.2.2.2⟩⟩⟩⟩⟩)))⟩; have n6_ : Aside0 (Kd.V k101 101 w50 w.heap.size (fun k_ => ((P1_ k_ ∨ P2_ k_) ∨ w.heap.size ≤ k_) ∧ some k_ ≠ (.slice (some ad420) t394.length co40 : Value).ownBlock ∧ some k_ ≠ (v411 : Value).ownBlock ∧ some k_ ≠ (u19 : Value).ownBlock ∧ some k_ ≠ (u21 : Value).ownBlock ∧ k_ ≠ gb423) (.slice A422_6 ((rd_T50 (rd_L11 t394 x20_4) x22_5).f6).length c422_6) ((rd_T50 (rd_L11 t394 x20_4) x22_5).f6)) := ⟨(by rw [hw]; exact (by (with_reducible repeat (first | apply Kd.V_alloc | apply Kd.V_drewN | apply Kd.V_drew)); exact Kd.V_mono (Kd.V_far (p := ⟨gb423, 2, none⟩) (Kd.V_mono HL422_6.out (fun k_ hk => (⟨hk, hk.2.2.2.2.2⟩ : _ ∧ k_ ≠ gb423))) (fun _ hk => hk.2) (.int .i64 (wrap64 (((rd_T50 (rd_L11 t394 x20_4) x22_5).f2) + (wrap64 (t390 + a3)))))) (fun _ hk => ⟨hk.1.1, ⟨hk.1.2.1, ⟨hk.1.2.2.1, ⟨hk.1.2.2.2.1, ⟨hk.1.2.2.2.2.1, hk.1.2.2.2.2.2⟩⟩⟩⟩⟩)))⟩; have n7_ : Aside0 (w50.heap[gb423]? = some (.cells #[.int .i64 ((rd_T50 (rd_L11 t394 x20_4) x22_5).f0), .int .i64 ((rd_T50 (rd_L11 t394 x20_4) x22_5).f1), .int .i64 (wrap64 (((rd_T50 (rd_L11 t394 x20_4) x22_5).f2) + (wrap64 (t390 + a3)))), .int .i64 ((rd_T50 (rd_L11 t394 x20_4) x22_5).f3), .int .i64 ((rd_T50 (rd_L11 t394 x20_4) x22_5).f4), .bool ((rd_T50 (rd_L11 t394 x20_4) x22_5).f5), .slice A422_6 ((rd_T50 (rd_L11 t394 x20_4) x22_5).f6).length c422_6] 50 (0, 0))) := ⟨(by rw [hw]; exact (by (with_reducible repeat (first | refine blk_drewN ?_ _ | refine blk_drew ?_ | refine blk_alloc ?_ _)); refine blk_put (cs := #[.int .i64 ((rd_T50 (rd_L11 t394 x20_4) x22_5).f0), .int .i64 ((rd_T50 (rd_L11 t394 x20_4) x22_5).f1), .int .i64 ((rd_T50 (rd_L11 t394 x20_4) x22_5).f2), .int .i64 ((rd_T50 (rd_L11 t394 x20_4) x22_5).f3), .int .i64 ((rd_T50 (rd_L11 t394 x20_4) x22_5).f4), .bool ((rd_T50 (rd_L11 t394 x20_4) x22_5).f5), .slice A422_6 ((rd_T50 (rd_L11 t394 x20_4) x22_5).f6).length c422_6]) ?_ 2 _ rfl; (with_reducible repeat (first | refine blk_drewN ?_ _ | refine blk_drew ?_ | refine blk_alloc ?_ _)); exact BK423.out))⟩; have n8_ : Aside0 (Below w.heap.size w w50) := ⟨(by rw [hw]; exact (by repeat (first | (with_reducible first | exact HB.out | apply below_alloc | apply pw_below_drewN | apply below_drew1 | refine below_set ?_ GE423.out) | exact HB.out)))⟩; clear hw; clear HO_13; clear HO_16; clear HO_19; clear HO_21; clear HL420_0; clear HL421_0; clear HL422_6; clear BK423; clear HB; have HO_13 := n0_; have HO_16 := n1_; have HO_19 := n2_; have HO_21 := n3_; have HL420_0 := n4_; have HL421_0 := n5_; have HL422_6 := n6_; have BK423 := n7_; have HB := n8_; clear n0_ n1_ n2_ n3_ n4_ n5_ n6_ n7_ n8_; have hcz51_0 : w50.cell? ⟨gb423, 0, none⟩ = some (.int .i64 ((rd_T50 (rd_L11 t394 x20_4) x22_5).f0)) := (blk_cell BK423.out 0).trans rfl; have hcz51_1 : w50.cell? ⟨gb423, 1, none⟩ = some (.int .i64 ((rd_T50 (rd_L11 t394 x20_4) x22_5).f1)) := (blk_cell BK423.out 1).trans rfl; have hcz51_2 : w50.cell? ⟨gb423, 2, none⟩ = some (.int .i64 (wrap64 (((rd_T50 (rd_L11 t394 x20_4) x22_5).f2) + (wrap64 (t390 + a3))))) := (blk_cell BK423.out 2).trans rfl; have hcz51_3 : w50.cell? ⟨gb423, 3, none⟩ = some (.int .i64 ((rd_T50 (rd_L11 t394 x20_4) x22_5).f3)) := (blk_cell BK423.out 3).trans rfl; have hcz51_4 : w50.cell? ⟨gb423, 4, none⟩ = some (.int .i64 ((rd_T50 (rd_L11 t394 x20_4) x22_5).f4)) := (blk_cell BK423.out 4).trans rfl; have hcz51_5 : w50.cell? ⟨gb423, 5, none⟩ = some (.bool ((rd_T50 (rd_L11 t394 x20_4) x22_5).f5)) := (blk_cell BK423.out 5).trans rfl; have hcz51_6 : w50.cell? ⟨gb423, 6, none⟩ = some (.slice A422_6 ((rd_T50 (rd_L11 t394 x20_4) x22_5).f6).length c422_6) := (blk_cell BK423.out 6).trans rfl; have hfz51_0 := blk_frozen BK423.out 0; have hfz51_1 := blk_frozen BK423.out 1; have hfz51_2 := blk_frozen BK423.out 2; have hfz51_3 := blk_frozen BK423.out 3; have hfz51_4 := blk_frozen BK423.out 4; have hfz51_5 := blk_frozen BK423.out 5; have hfz51_6 := blk_frozen BK423.out 6) | ((with_reducible refine gate_builtin (b := .append) (xs := #[.tmp 122, .tmp 124]) rfl ?_); (try (refine gate_guard (by rfl) ?_; dsimp only)); at_builtin; refine Kd.N_append k50 (w0 := w) w.heap.size rfl (.tmp 122) (.tmp 124) 47 50 (.agg #[(.int .i64 0), (.int .i64 0), (.int .i64 0), (.int .i64 0), (.int .i64 0), (.bool false), (.slice none 0 0)]) 72 rfl Try.underlying47 info50 rfl (by decide) (by omega) u21 x21_5 (⟨(rd_T50 (rd_L11 t394 x20_4) x22_5).f0, (rd_T50 (rd_L11 t394 x20_4) x22_5).f1, wrap64 (((rd_T50 (rd_L11 t394 x20_4) x22_5).f2) + (wrap64 (t390 + a3))), (rd_T50 (rd_L11 t394 x20_4) x22_5).f3, (rd_T50 (rd_L11 t394 x20_4) x22_5).f4, (rd_T50 (rd_L11 t394 x20_4) x22_5).f5, (rd_T50 (rd_L11 t394 x20_4) x22_5).f6⟩ : S50) [.int .i64 ((rd_T50 (rd_L11 t394 x20_4) x22_5).f0), .int .i64 ((rd_T50 (rd_L11 t394 x20_4) x22_5).f1), .int .i64 (wrap64 (((rd_T50 (rd_L11 t394 x20_4) x22_5).f2) + (wrap64 (t390 + a3)))), .int .i64 ((rd_T50 (rd_L11 t394 x20_4) x22_5).f3), .int .i64 ((rd_T50 (rd_L11 t394 x20_4) x22_5).f4), .bool ((rd_T50 (rd_L11 t394 x20_4) x22_5).f5), .slice A422_6 ((rd_T50 (rd_L11 t394 x20_4) x22_5).f6).length c422_6] (fun k_ => ((P1_ k_ ∨ P2_ k_) ∨ w.heap.size ≤ k_) ∧ some k_ ≠ (.slice (some ad420) t394.length co40 : Value).ownBlock ∧ some k_ ≠ (v411 : Value).ownBlock ∧ some k_ ≠ (u19 : Value).ownBlock ∧ k_ ≠ gb423) (fun k_ => ((fun k_ => ((P1_ k_ ∨ P2_ k_) ∨ w.heap.size ≤ k_) ∧ some k_ ≠ (.slice (some ad420) t394.length co40 : Value).ownBlock ∧ some k_ ≠ (v411 : Value).ownBlock ∧ some k_ ≠ (u19 : Value).ownBlock ∧ k_ ≠ gb423)) k_ ∧ some k_ ≠ (u21 : Value).ownBlock) rfl rfl ?aP (fun _ hk => hk) ?aF ?aO ?aB ?aS ?aL ?_; (case aP => exact (k50_mkF _ _ (⟨(rd_T50 (rd_L11 t394 x20_4) x22_5).f0, (rd_T50 (rd_L11 t394 x20_4) x22_5).f1, wrap64 (((rd_T50 (rd_L11 t394 x20_4) x22_5).f2) + (wrap64 (t390 + a3))), (rd_T50 (rd_L11 t394 x20_4) x22_5).f3, (rd_T50 (rd_L11 t394 x20_4) x22_5).f4, (rd_T50 (rd_L11 t394 x20_4) x22_5).f5, (rd_T50 (rd_L11 t394 x20_4) x22_5).f6⟩ : S50) (Kd.V_reads' (Kd.V_mono (ok' := (fun k_ => ((fun k_ => ((P1_ k_ ∨ P2_ k_) ∨ w.heap.size ≤ k_) ∧ some k_ ≠ (.slice (some ad420) t394.length co40 : Value).ownBlock ∧ some k_ ≠ (v411 : Value).ownBlock ∧ some k_ ≠ (u19 : Value).ownBlock ∧ k_ ≠ gb423)) k_ ∧ some k_ ≠ (u21 : Value).ownBlock)) (HL422_6.out) (fun k_ hk => ⟨⟨hk.1, ⟨hk.2.1, ⟨hk.2.2.1, ⟨hk.2.2.2.1, hk.2.2.2.2.2⟩⟩⟩⟩, hk.2.2.2.2.1⟩))).2.1 (Kd.V_F (Kd.V_mono (ok' := (fun k_ => ((fun k_ => ((P1_ k_ ∨ P2_ k_) ∨ w.heap.size ≤ k_) ∧ some k_ ≠ (.slice (some ad420) t394.length co40 : Value).ownBlock ∧ some k_ ≠ (v411 : Value).ownBlock ∧ some k_ ≠ (u19 : Value).ownBlock ∧ k_ ≠ gb423)) k_ ∧ some k_ ≠ (u21 : Value).ownBlock)) (HL422_6.out) (fun k_ hk => ⟨⟨hk.1, ⟨hk.2.1, ⟨hk.2.2.1, ⟨hk.2.2.2.1, hk.2.2.2.2.2⟩⟩⟩⟩, hk.2.2.2.2.1⟩))))); (case aB => exact (by repeat (first | (with_reducible first | exact HB.out | apply below_alloc | apply pw_below_drewN | apply below_drew1 | refine below_set ?_ GE423.out) | exact HB.out))); (case aF => exact (fun k_ hk => ⟨(.inr (Nat.le_trans (below_size (by repeat (first | (with_reducible first | exact HB.out | apply below_alloc | apply pw_below_drewN | apply below_drew1 | refine below_set ?_ GE423.out) | exact HB.out))) hk)), Kd.fresh' (Kd.N_lt (by (with_reducible repeat (first | apply Kd.N_alloc | apply Kd.N_drewN | apply Kd.N_drew)); exact HO_13.out)) k_ hk, Kd.fresh' (Kd.N_lt (by (with_reducible repeat (first | apply Kd.N_alloc | apply Kd.N_drewN | apply Kd.N_drew)); exact HO_16.out)) k_ hk, Kd.fresh' (Kd.N_lt (by (with_reducible repeat (first | apply Kd.N_alloc | apply Kd.N_drewN | apply Kd.N_drew)); exact HO_19.out)) k_ hk, Kd.freshB (g := gb423) (o := .cells #[.int .i64 ((rd_T50 (rd_L11 t394 x20_4) x22_5).f0), .int .i64 ((rd_T50 (rd_L11 t394 x20_4) x22_5).f1), .int .i64 (wrap64 (((rd_T50 (rd_L11 t394 x20_4) x22_5).f2) + (wrap64 (t390 + a3)))), .int .i64 ((rd_T50 (rd_L11 t394 x20_4) x22_5).f3), .int .i64 ((rd_T50 (rd_L11 t394 x20_4) x22_5).f4), .bool ((rd_T50 (rd_L11 t394 x20_4) x22_5).f5), .slice A422_6 ((rd_T50 (rd_L11 t394 x20_4) x22_5).f6).length c422_6] 50 (0, 0)) (by (with_reducible repeat (first | refine blk_drewN ?_ _ | refine blk_drew ?_ | refine blk_alloc ?_ _)); exact BK423.out) k_ hk⟩)); (case aO => exact (by (with_reducible repeat (first | apply Kd.N_alloc | apply Kd.N_drewN | apply Kd.N_drew)); exact HO_21.out)); (case aS => exact (below_size (by repeat (first | (with_reducible first | exact HB.out | apply below_alloc | apply pw_below_drewN | apply below_drew1 | refine below_set ?_ GE423.out) | exact HB.out)))); (case aL => have := LMc45.out; omega); intro v425 w52 ho hb hg hat; rw [← Ny424.out] at ho; have n0_ := Aside0.mk (Kd.N_afterv (ok := (fun k_ => ((P1_ k_ ∨ P2_ k_) ∨ w.heap.size ≤ k_) ∧ some k_ ≠ (v411 : Value).ownBlock ∧ some k_ ≠ (u19 : Value).ownBlock ∧ k_ ≠ gb423)) (by (with_reducible repeat (first | apply Kd.N_alloc | apply Kd.N_drewN | apply Kd.N_drew)); exact Kd.N_mono HO_13.out (fun _ hk => ⟨⟨hk.1, ⟨hk.2.1, ⟨hk.2.2.1, hk.2.2.2.2⟩⟩⟩, hk.2.2.2.1⟩)) hg hat); have n1_ := Aside0.mk (Kd.N_afterv (ok := (fun k_ => ((P1_ k_ ∨ P2_ k_) ∨ w.heap.size ≤ k_) ∧ some k_ ≠ (.slice (some ad420) t394.length co40 : Value).ownBlock ∧ some k_ ≠ (u19 : Value).ownBlock ∧ k_ ≠ gb423)) (by (with_reducible repeat (first | apply Kd.N_alloc | apply Kd.N_drewN | apply Kd.N_drew)); exact Kd.N_mono HO_16.out (fun _ hk => ⟨⟨hk.1, ⟨hk.2.1, ⟨hk.2.2.1, hk.2.2.2.2⟩⟩⟩, hk.2.2.2.1⟩)) hg hat); have n2_ := Aside0.mk (Kd.N_afterv (ok := (fun k_ => ((P1_ k_ ∨ P2_ k_) ∨ w.heap.size ≤ k_) ∧ some k_ ≠ (.slice (some ad420) t394.length co40 : Value).ownBlock ∧ some k_ ≠ (v411 : Value).ownBlock ∧ k_ ≠ gb423)) (by (with_reducible repeat (first | apply Kd.N_alloc | apply Kd.N_drewN | apply Kd.N_drew)); exact Kd.N_mono HO_19.out (fun _ hk => ⟨⟨hk.1, ⟨hk.2.1, ⟨hk.2.2.1, hk.2.2.2.2⟩⟩⟩, hk.2.2.2.1⟩)) hg hat); have n3_ := Aside0.mk (Kd.V_afterv (ok := (fun k_ => ((P1_ k_ ∨ P2_ k_) ∨ w.heap.size ≤ k_) ∧ some k_ ≠ (.slice (some ad420) t394.length co40 : Value).ownBlock ∧ some k_ ≠ (v411 : Value).ownBlock ∧ some k_ ≠ (u19 : Value).ownBlock ∧ k_ ≠ gb423)) (by (with_reducible repeat (first | apply Kd.V_alloc | apply Kd.V_drewN | apply Kd.V_drew)); exact Kd.V_mono HL420_0.out (fun _ hk => ⟨⟨hk.1, ⟨hk.2.1, ⟨hk.2.2.1, ⟨hk.2.2.2.1, hk.2.2.2.2.2⟩⟩⟩⟩, hk.2.2.2.2.1⟩)) hg hat); have n4_ := Aside0.mk (Kd.V_afterv (ok := (fun k_ => ((P1_ k_ ∨ P2_ k_) ∨ w.heap.size ≤ k_) ∧ some k_ ≠ (.slice (some ad420) t394.length co40 : Value).ownBlock ∧ some k_ ≠ (v411 : Value).ownBlock ∧ some k_ ≠ (u19 : Value).ownBlock ∧ k_ ≠ gb423)) (by (with_reducible repeat (first | apply Kd.V_alloc | apply Kd.V_drewN | apply Kd.V_drew)); exact Kd.V_mono HL421_0.out (fun _ hk => ⟨⟨hk.1, ⟨hk.2.1, ⟨hk.2.2.1, ⟨hk.2.2.2.1, hk.2.2.2.2.2⟩⟩⟩⟩, hk.2.2.2.2.1⟩)) hg hat); have n5_ := Aside0.mk (Kd.V_afterv (ok := (fun k_ => ((P1_ k_ ∨ P2_ k_) ∨ w.heap.size ≤ k_) ∧ some k_ ≠ (.slice (some ad420) t394.length co40 : Value).ownBlock ∧ some k_ ≠ (v411 : Value).ownBlock ∧ some k_ ≠ (u19 : Value).ownBlock ∧ k_ ≠ gb423)) (by (with_reducible repeat (first | apply Kd.V_alloc | apply Kd.V_drewN | apply Kd.V_drew)); exact Kd.V_mono HL422_6.out (fun _ hk => ⟨⟨hk.1, ⟨hk.2.1, ⟨hk.2.2.1, ⟨hk.2.2.2.1, hk.2.2.2.2.2⟩⟩⟩⟩, hk.2.2.2.2.1⟩)) hg hat); have n6_ := Aside0.mk (blk_grown (g := gb423) (o := .cells #[.int .i64 ((rd_T50 (rd_L11 t394 x20_4) x22_5).f0), .int .i64 ((rd_T50 (rd_L11 t394 x20_4) x22_5).f1), .int .i64 (wrap64 (((rd_T50 (rd_L11 t394 x20_4) x22_5).f2) + (wrap64 (t390 + a3)))), .int .i64 ((rd_T50 (rd_L11 t394 x20_4) x22_5).f3), .int .i64 ((rd_T50 (rd_L11 t394 x20_4) x22_5).f4), .bool ((rd_T50 (rd_L11 t394 x20_4) x22_5).f5), .slice A422_6 ((rd_T50 (rd_L11 t394 x20_4) x22_5).f6).length c422_6] 50 (0, 0)) (by (with_reducible repeat (first | refine blk_drewN ?_ _ | refine blk_drew ?_ | refine blk_alloc ?_ _)); exact BK423.out) hg (Kd.N_away HO_21.out (fun _ hk => hk.2.2.2.2))); have n7_ := Aside0.mk (hb); have n8_ := Aside0.mk (ho); clear HO_13; clear HO_16; clear HO_19; clear HL420_0; clear HL421_0; clear HL422_6; clear BK423; clear HB; clear HO_21; have HO_13 := n0_; have HO_16 := n1_; have HO_19 := n2_; have HL420_0 := n3_; have HL421_0 := n4_; have HL422_6 := n5_; have BK423 := n6_; have HB := n7_; have HO426 := n8_; clear n0_ n1_ n2_ n3_ n4_ n5_ n6_ n7_ n8_; clear ho hb hg hat))
                        go_roundg k5
                        case measure => have := HJ6.out; have := HJ16.out; have := HJ24.out; have := HK4.out; have := HK5.out; omega
                        case rel => exact ⟨(y424), (wrap64 (x22_5 + 1)), (by first | rfl | (simp; done) | (simp [*]; done)), H', ⟨by have := HJ6.out; have := HJ16.out; have := HJ24.out; have := HK4.out; have := HK5.out; omega⟩, ⟨by (with_reducible repeat (first | apply Kd.N_alloc | apply Kd.N_drewN | apply Kd.N_drew)); exact Kd.N_mono HO_13.out (fun _ hk => ⟨hk.1.1, ⟨hk.1.2.1, ⟨hk.1.2.2.1, hk.2⟩⟩⟩)⟩, ⟨by (with_reducible repeat (first | apply Kd.N_alloc | apply Kd.N_drewN | apply Kd.N_drew)); exact Kd.N_mono HO_16.out (fun _ hk => ⟨hk.1.1, ⟨hk.1.2.1, ⟨hk.1.2.2.1, hk.2⟩⟩⟩)⟩, ⟨by (with_reducible repeat (first | apply Kd.N_alloc | apply Kd.N_drewN | apply Kd.N_drew)); exact Kd.N_mono HO_19.out (fun _ hk => ⟨hk.1.1, ⟨hk.1.2.1, ⟨hk.1.2.2.1, hk.2⟩⟩⟩)⟩, ⟨by (with_reducible repeat (first | apply Kd.N_alloc | apply Kd.N_drewN | apply Kd.N_drew)); exact Kd.N_mono HO426.out (fun _ hk => ⟨hk.1, ⟨hk.2.1, ⟨hk.2.2.1, hk.2.2.2.1⟩⟩⟩)⟩, ⟨by repeat (first | (with_reducible first | exact HB.out | apply below_alloc | apply pw_below_drewN | apply below_drew1 | refine below_set ?_ GE423.out) | exact HB.out)⟩⟩
                       ·
                        rw [if_neg c45] at H
                        exact absurd H (by simp)
                      ·
                       rw [if_neg c44] at H
                       exact absurd H (by simp)
                     ·
                      rw [if_neg c43] at H
                      have c43b0 : decide (x22_5 < ((rd_L11 t394 x20_4).length : Int)) = false := decide_eq_false c43
                      clear c43
                      by_cases c53 : x19_4.length < 5864062014805
                      ·
                       rw [if_pos c53] at H
                       have LMc53 := Aside0.mk c53
                       clear c53
                       obtain ⟨y427, hy427⟩ : ∃ y_ : List (List (S50)), y_ = (x19_4 ++ [x21_5]) := ⟨_, rfl⟩
                       replace H : (formelaw26_TableRows.l0 k5 a3 true t390 t394 t408 y427 (wrap64 (x20_4 + 1))) = some r := by first | (rw [hy427]; with_reducible exact H) | (have H2_ := (Option.bind_some _ _).symm.trans H; rw [hy427]; with_reducible exact H2_) | (have H2_ := (Option.bind_some _ _).symm.trans H; with_reducible exact H2_) | with_reducible exact H | (rw [hy427]; exact H) | exact H
                       have Ny427 := Aside0.mk hy427
                       clear hy427
                       have H' := Aside0.mk H
                       clear H
                       have p420 : 0 ≤ (x20_4 : Int) := of_decide_eq_true (by first | (with_reducible assumption) | assumption)
                       have q420 : x20_4 < (t394.length : Int) := of_decide_eq_true (by first | (with_reducible assumption) | assumption)
                       obtain ⟨ad420, A420_0, c420_0, e420, hx420_0, hl420_0, hi420_0⟩ := at_L11 (Kd.N_reads' HO_13.out).2.2 x20_4 p420 q420
                       cases e420
                       obtain ⟨ce420, hce420, hMe420, hcc420⟩ := Kd.N_get HO_13.out [] x20_4 p420 (by first | exact q420 | exact of_decide_eq_true (by first | (with_reducible assumption) | assumption) | (have e_ := (Kd.N_reads' HO_13.out).1; omega))
                       obtain ⟨ua420_0, uc420_0, rfl, ul420_0, ge420_0⟩ := Kd.FK_slice_open hMe420
                       have hv420_0 := hcc420 0 _ rfl
                       rw [Nat.add_zero, show ((Kd.slice 50 k50)).sz = 1 from rfl, Nat.mul_one] at hv420_0
                       replace hv420_0 := Option.some.inj (hv420_0.symm.trans hx420_0)
                       injection hv420_0 with hva_ hvn_ hvc_
                       rw [hva_] at ge420_0
                       rw [hvc_] at ul420_0
                       have HL420_0 := Aside0.mk (show Kd.V k50 50 _ w.heap.size _ _ (rd_L11 t394 x20_4) from Kd.V_mk ul420_0 ge420_0)
                       clear hva_ hvn_ hvc_ ge420_0 ul420_0
                       clear hcc420 hce420
                       have HR420_0 := Aside0.mk hi420_0
                       have HC420_0 := Aside0.mk hl420_0
                       clear hi420_0 hl420_0
                       replace p420 := eq_true p420
                       replace q420 := eq_true q420
                       obtain ⟨Ao55, co55, eo55⟩ := Kd.N_slice HO_21.out
                       subst eo55
                       go_wp2_with (first | ((with_reducible refine gate_builtin (b := .append) (xs := #[.tmp 126, .tmp 128]) rfl ?_); (try (refine gate_guard (by rfl) ?_; dsimp only)); at_builtin; refine Kd.N_append (Kd.slice 50 k50) (w0 := w) w.heap.size rfl (.tmp 126) (.tmp 128) 38 47 (.slice none 0 0) 24 rfl Try.underlying38 info47 rfl (by decide) (by omega) u19 x19_4 x21_5 [.slice Ao55 x21_5.length co55] (fun k_ => ((P1_ k_ ∨ P2_ k_) ∨ w.heap.size ≤ k_) ∧ some k_ ≠ (.slice (some ad420) t394.length co40 : Value).ownBlock ∧ some k_ ≠ (v411 : Value).ownBlock) (fun k_ => ((fun k_ => ((P1_ k_ ∨ P2_ k_) ∨ w.heap.size ≤ k_) ∧ some k_ ≠ (.slice (some ad420) t394.length co40 : Value).ownBlock ∧ some k_ ≠ (v411 : Value).ownBlock)) k_ ∧ some k_ ≠ (u19 : Value).ownBlock) rfl rfl ?aP (fun _ hk => hk) ?aF ?aO ?aB ?aS ?aL ?_; (case aP => exact (Kd.FK_slice_mk (Kd.N_reads' (Kd.N_mono (ok' := (fun k_ => ((fun k_ => ((P1_ k_ ∨ P2_ k_) ∨ w.heap.size ≤ k_) ∧ some k_ ≠ (.slice (some ad420) t394.length co40 : Value).ownBlock ∧ some k_ ≠ (v411 : Value).ownBlock)) k_ ∧ some k_ ≠ (u19 : Value).ownBlock)) (HO_21.out) (fun k_ hk => ⟨⟨hk.1, ⟨hk.2.1, hk.2.2.1⟩⟩, hk.2.2.2⟩))).2.1 (Kd.N_F (Kd.N_mono (ok' := (fun k_ => ((fun k_ => ((P1_ k_ ∨ P2_ k_) ∨ w.heap.size ≤ k_) ∧ some k_ ≠ (.slice (some ad420) t394.length co40 : Value).ownBlock ∧ some k_ ≠ (v411 : Value).ownBlock)) k_ ∧ some k_ ≠ (u19 : Value).ownBlock)) (HO_21.out) (fun k_ hk => ⟨⟨hk.1, ⟨hk.2.1, hk.2.2.1⟩⟩, hk.2.2.2⟩))))); (case aB => exact (by repeat (first | (with_reducible first | exact HB.out | apply below_alloc | apply pw_below_drewN | apply below_drew1) | exact HB.out))); (case aF => exact (fun k_ hk => ⟨(.inr (Nat.le_trans (below_size (by repeat (first | (with_reducible first | exact HB.out | apply below_alloc | apply pw_below_drewN | apply below_drew1) | exact HB.out))) hk)), Kd.fresh' (Kd.N_lt (by (with_reducible repeat (first | apply Kd.N_alloc | apply Kd.N_drewN | apply Kd.N_drew)); exact HO_13.out)) k_ hk, Kd.fresh' (Kd.N_lt (by (with_reducible repeat (first | apply Kd.N_alloc | apply Kd.N_drewN | apply Kd.N_drew)); exact HO_16.out)) k_ hk⟩)); (case aO => exact (by (with_reducible repeat (first | apply Kd.N_alloc | apply Kd.N_drewN | apply Kd.N_drew)); exact Kd.N_mono HO_19.out (fun _ hk => ⟨hk.1, ⟨hk.2.1, hk.2.2.1⟩⟩))); (case aS => exact (below_size (by repeat (first | (with_reducible first | exact HB.out | apply below_alloc | apply pw_below_drewN | apply below_drew1) | exact HB.out)))); (case aL => have := LMc53.out; omega); intro v428 w54 ho hb hg hat; rw [← Ny427.out] at ho; have n0_ := Aside0.mk (Kd.N_afterv (ok := (fun k_ => ((P1_ k_ ∨ P2_ k_) ∨ w.heap.size ≤ k_) ∧ some k_ ≠ (v411 : Value).ownBlock ∧ some k_ ≠ (.slice Ao55 x21_5.length co55 : Value).ownBlock)) (by (with_reducible repeat (first | apply Kd.N_alloc | apply Kd.N_drewN | apply Kd.N_drew)); exact Kd.N_mono HO_13.out (fun _ hk => ⟨⟨hk.1, ⟨hk.2.1, hk.2.2.2⟩⟩, hk.2.2.1⟩)) hg hat); have n1_ := Aside0.mk (Kd.N_afterv (ok := (fun k_ => ((P1_ k_ ∨ P2_ k_) ∨ w.heap.size ≤ k_) ∧ some k_ ≠ (.slice (some ad420) t394.length co40 : Value).ownBlock ∧ some k_ ≠ (.slice Ao55 x21_5.length co55 : Value).ownBlock)) (by (with_reducible repeat (first | apply Kd.N_alloc | apply Kd.N_drewN | apply Kd.N_drew)); exact Kd.N_mono HO_16.out (fun _ hk => ⟨⟨hk.1, ⟨hk.2.1, hk.2.2.2⟩⟩, hk.2.2.1⟩)) hg hat); have n2_ := Aside0.mk (Kd.V_afterv (ok := (fun k_ => ((P1_ k_ ∨ P2_ k_) ∨ w.heap.size ≤ k_) ∧ some k_ ≠ (.slice (some ad420) t394.length co40 : Value).ownBlock ∧ some k_ ≠ (v411 : Value).ownBlock ∧ some k_ ≠ (.slice Ao55 x21_5.length co55 : Value).ownBlock)) (by (with_reducible repeat (first | apply Kd.V_alloc | apply Kd.V_drewN | apply Kd.V_drew)); exact Kd.V_mono HL420_0.out (fun _ hk => ⟨⟨hk.1.1, ⟨hk.2, ⟨hk.1.2.1, hk.1.2.2.2⟩⟩⟩, hk.1.2.2.1⟩)) hg hat); have n3_ := Aside0.mk (hb); have n4_ := Aside0.mk (ho); clear HO_13; clear HO_16; clear HL420_0; clear HB; clear HO_19; clear HO_21; have HO_13 := n0_; have HO_16 := n1_; have HL420_0 := n2_; have HB := n3_; have HO429 := n4_; clear n0_ n1_ n2_ n3_ n4_; clear ho hb hg hat))
                       go_roundg k5
                       case measure => have := HJ6.out; have := HJ16.out; have := HJ24.out; have := HK4.out; have := HK5.out; omega
                       case rel => exact ⟨(y427), (wrap64 (x20_4 + 1)), (by first | rfl | (simp; done) | (simp [*]; done)), H', ⟨by have := HJ6.out; have := HJ16.out; have := HJ24.out; have := HK4.out; have := HK5.out; omega⟩, ⟨by (with_reducible repeat (first | apply Kd.N_alloc | apply Kd.N_drewN | apply Kd.N_drew)); exact Kd.N_mono HO_13.out (fun _ hk => ⟨hk.1.1, ⟨hk.1.2.1, hk.2⟩⟩)⟩, ⟨by (with_reducible repeat (first | apply Kd.N_alloc | apply Kd.N_drewN | apply Kd.N_drew)); exact Kd.N_mono HO_16.out (fun _ hk => ⟨hk.1.1, ⟨hk.1.2.1, hk.2⟩⟩)⟩, ⟨by (with_reducible repeat (first | apply Kd.N_alloc | apply Kd.N_drewN | apply Kd.N_drew)); exact HO429.out⟩, ⟨by repeat (first | (with_reducible first | exact HB.out | apply below_alloc | apply pw_below_drewN | apply below_drew1) | exact HB.out)⟩⟩
                      ·
                       rw [if_neg c53] at H
                       exact absurd H (by simp)
                    ·
                     rw [if_neg c42] at H
                     exact absurd H (by simp)
                   ·
                    rw [if_neg c41] at H
                    exact absurd H (by simp)
                ·
                 rw [if_neg c39] at H
                 have c39b0 : decide (x20_4 < (t394.length : Int)) = false := decide_eq_false c39
                 clear c39
                 (first | rw [if_pos (rfl : true = true)] at H | rw [if_pos True.intro] at H)
                 replace H := Option.bind_eq_some_iff.mp H
                 obtain ⟨t419, A560, H⟩ := H
                 replace H : (some t419) = some r := H
                 have A56 := Aside0.mk A560
                 clear A560
                 obtain rfl := Option.some.inj H
                 obtain ⟨Ao57, co57, eo57⟩ := Kd.N_slice HO_13.out
                 subst eo57
                 obtain ⟨Ao58, co58, eo58⟩ := Kd.N_slice HO_16.out
                 subst eo58
                 obtain ⟨Ao59, co59, eo59⟩ := Kd.N_slice HO_19.out
                 subst eo59
                 go_wp2_with (first | (go_at_call 20; (with_reducible refine (formeref26_SameRows.calls k4 _ _ t408 _ _ x19_4 t419 _ ?side1 ?side2 ?side3 ?side4 A56.out).mono ?_); (case side1 => repeat (first | exact (Kd.N_reads' HO_16.out).2.2 | (with_reducible refine Kd.C_alloc ?_ _) | (with_reducible refine Kd.C_drewN ?_ _) | (with_reducible refine Kd.C_drew ?_))); (case side2 => exact (Kd.N_reads' HO_16.out).2.1); (case side3 => repeat (first | exact (Kd.N_reads' HO_19.out).2.2 | (with_reducible refine Kd.C_alloc ?_ _) | (with_reducible refine Kd.C_drewN ?_ _) | (with_reducible refine Kd.C_drew ?_))); (case side4 => exact (Kd.N_reads' HO_19.out).2.1); rintro e w60 ⟨rfl, hb⟩; have n0_ := Aside0.mk (Kd.N_below (by (with_reducible repeat (first | apply Kd.N_alloc | apply Kd.N_drewN | apply Kd.N_drew)); exact HO_13.out) hb); have n1_ := Aside0.mk (Kd.N_below (by (with_reducible repeat (first | apply Kd.N_alloc | apply Kd.N_drewN | apply Kd.N_drew)); exact HO_16.out) hb); have n2_ := Aside0.mk (Kd.N_below (by (with_reducible repeat (first | apply Kd.N_alloc | apply Kd.N_drewN | apply Kd.N_drew)); exact HO_19.out) hb); have n3_ := Aside0.mk (below_step (by repeat (first | (with_reducible first | exact HB.out | apply below_alloc | apply pw_below_drewN | apply below_drew1) | exact HB.out)) hb); clear HO_13; clear HO_16; clear HO_19; clear HB; have HO_13 := n0_; have HO_16 := n1_; have HO_19 := n2_; have HB := n3_; clear n0_ n1_ n2_ n3_; (try clear hb); (try clear hb2); (try clear hk); (try clear hi)))
                 go_ret
                 exact ⟨by first | rfl | (simp [errW_none, errW_some] <;> rfl) | (simp [*, errW_none, errW_some] <;> rfl), by repeat (first | (with_reducible first | exact HB.out | apply below_alloc | apply pw_below_drewN | apply below_drew1) | exact HB.out)⟩
             ·
              rw [if_neg c34] at H
              exact absurd H (by simp)
         ·
          rw [if_neg c23] at H
          exact absurd H (by simp)
        ·
         rw [if_neg c22] at H
         exact absurd H (by simp)
 ·
  replace c6 := Bool.eq_false_iff.mpr c6
  subst c6
  have H1 : (none) = some r := by rw [if_neg (show ¬ (false = true) by decide)] at H; exact H
  clear H
  have H := H1
  clear H1
  exact absurd H (by simp)

end Go.Proofs.Ytclfimdafmoafaa.P
