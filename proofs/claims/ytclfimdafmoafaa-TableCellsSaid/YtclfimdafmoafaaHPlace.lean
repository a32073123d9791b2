import Derived.Test.YtclfimdafmoafaaHGreat
import Derived.StillTailTactics
set_option linter.unusedVariables false
set_option linter.unusedSimpArgs false
namespace Go.Proofs.Ytclfimdafmoafaa.P
open Go.RowKit Go.Proofs.YtclfimdafmoafaaW.PrintWords Go.Proofs.YtclfimdafmoafaaW.PrintLast Go.Proofs.YtclfimdafmoafaaW.PrintMore Go.Proofs.Ytclfimdafmoafaa.Rng
attribute [local go_sem] Oper.semAt_some
def startsOk (l0 : List Int) (a2 : Int) : Bool := inside (l0.length : Int) 1 64 && inside a2 0 100000 && !l0.any farW
/-- Starts, in two cases. -/
theorem startsC (A0 : Option Addr) (c0 : Nat) (l0 : List Int) (a1 : Int) (w : World) (hr0 : Kd.C (Kd.int .i64) w A0 l0.length l0) (hc0 : l0.length ≤ c0) (b : Bool) (hb : startsOk l0 a1 = b) :
    Calls Try.prog 22 #[.slice A0 l0.length c0, .int .i64 a1] w fun e w' => ∃ (A : Option Addr) (n c : Nat), e = .returned (.tuple #[.slice A n c, .int .i64 (if b then 0 else 1)]) ∧ Aside0 (b = true → n = l0.length ∧ Kd.C (Kd.int .i64) w' A l0.length (outS l0 a1 (l0.length - 1))) ∧ Below w.heap.size w w' := by
  subst hb
  have hf : tracks_Starts.f l0 a1 = some (if startsOk l0 a1 = true then outS l0 a1 (l0.length - 1) else [], if startsOk l0 a1 = true then 0 else 1) := by
    unfold tracks_Starts.f startsOk
    by_cases hl : l0.length ≤ 1000000
    rotate_left
    · have h1 : inside (l0.length : Int) 1 64 = false := by simp [inside]; omega
      rw [if_neg hl, h1]
      simp
    rw [if_pos hl]
    cases h1 : inside (l0.length : Int) 1 64 <;> cases h2 : inside a1 0 100000 <;> cases h3 : l0.any farW <;> simp
  refine (tracks_Starts.calls A0 c0 l0 a1 _ _ w hr0 hc0 hf).mono ?_
  rintro e w' ⟨v0, rfl, hR, hb⟩
  obtain ⟨A, c, rfl, hlc, hC⟩ := Kd.R_reads hR
  refine ⟨A, _, c, rfl, ⟨fun h => ?_⟩, hb⟩
  rw [if_pos h] at hC ⊢
  rw [outS_length] at hC ⊢
  exact ⟨rfl, hC⟩
theorem high_calls (xs : List Int) (A : Option Addr) (c Bl : Nat) (W : World) (hB : Boxed W Bl 24 (.slice A xs.length c)) (hr : Kd.C (Kd.int .i64) W A xs.length xs) :
    Calls Try.prog 42 #[.func (.func 55) #[] #[.pointer (some ⟨Bl, 0, none⟩)], .func (.func 41) #[] #[]] W fun e w' => e = .returned (.int .i64 (gmax xs)) ∧ Below W.heap.size W w' := by
  refine (great42_calls 55 _ (S := fun ys => ys = xs) (enters_of Try.func55 (by kernel_rfl) rfl) W (fun W' hW => values55_iter xs A c Bl _ W' ((hW.block _ hB.lt).trans hB) (Kd.C_below hr hW) hB.lt (fun ad he hn => ?_))).mono ?_
  · subst he
    obtain ⟨ad', e, hx⟩ := Kd.at_int hr 0 (by omega) (by omega)
    cases e
    have := World.block_lt_of_cell? _ _ hx
    rw [add_block] at this
    exact ⟨this, Nat.lt_of_lt_of_le this hW.size⟩
  · rintro e w' ⟨⟨ys, rfl, rfl⟩, hb⟩
    exact ⟨by simp, hb⟩
set_option maxHeartbeats 8000000 in
set_option maxRecDepth 100000 in
theorem cellAt_calls (a b x y : Int) (w : World) :
    Calls Try.prog 44 #[.agg #[.int .i64 0, .int .i64 0, .int .i64 0, .int .i64 a, .int .i64 b, .bool false, .slice none 0 0], .int .i64 x, .int .i64 y] w fun e w' => e = .returned (.agg #[.int .i64 0, .int .i64 x, .int .i64 y, .int .i64 a, .int .i64 b, .bool false, .slice none 0 0]) ∧ Below w.heap.size w w' := by
  have hu78 := Try.underlying78
  have hu50 := Try.underlying50
  have hB := Below.refl w.heap.size w
  have HO0_6 := Aside0.mk (show Kd.R k101 101 w w.heap.size (fun k_ => (False ∨ w.heap.size ≤ k_)) (.slice none 0 0) [] from Kd.R_nil _ _ _ _ _)
  have HK := Aside0.mk (Kept.refl w (fun k_ => False))
  have HW0 := Aside0.mk hB.size
  have HB := Aside0.mk hB
  clear hB
  go_enter Try.func44, Try.ntmps44
  go_wp2_with (first | ((with_reducible refine gate_dst (N := 3) rfl ?_); refine box_event ?hg (N := 3) ?hd (cs := #[.int .i64 0, .int .i64 0, .int .i64 0, .int .i64 a, .int .i64 b, .bool false, .slice none 0 0]) (t := 78) ?hr ?_; (case hd => rfl); (case hg => rfl); (case hr => first | (go_simp; done) | (go_simp; rfl)); intro gb108 hg w5 hbox hb; have n0_ := Aside0.mk (Kd.R_below (by (with_reducible repeat (first | apply Kd.R_alloc | apply Kd.R_drewN | apply Kd.R_drew)); exact HO0_6.out) hb); have n1_ := Aside0.mk (Kept.below (S := (fun k_ => False)) (by repeat (first | (with_reducible first | exact HK.out | apply Kept.alloc | apply Kept.drewN | apply Kept.drew) | exact HK.out)) hb); have n2_ := Aside0.mk (below_step (by repeat (first | (with_reducible first | exact HB.out | apply below_alloc | apply pw_below_drewN | apply below_drew1) | exact HB.out)) hb); have n3_ := Aside0.mk (hbox); have n4_ := Aside0.mk ((by rw [hg]; exact (by first | exact HK.out.1 | exact (show Kept w _ (fun k_ => False) from by repeat (first | (with_reducible first | exact HK.out | apply Kept.alloc | apply Kept.drewN | apply Kept.drew) | exact HK.out)).1) : w.heap.size ≤ gb108)); have n5_ := Aside0.mk ((by rw [hg]; exact (below_size (by repeat (first | (with_reducible first | exact HB.out | apply below_alloc | apply pw_below_drewN | apply below_drew1) | exact HB.out))) : w.heap.size ≤ gb108)); clear HO0_6; clear HK; clear HB; have HO0_6 := n0_; have HK := n1_; have HB := n2_; have BK108 := n3_; have GW108 := n4_; have GE108 := n5_; clear n0_ n1_ n2_ n3_ n4_ n5_; clear hb hbox hg) | ((with_reducible refine gate_dst (N := 6) rfl ?_); refine box_event ?hg (N := 6) ?hd (cs := #[.int .i64 0, .int .i64 0, .int .i64 0, .int .i64 0, .int .i64 0, .bool false, .slice none 0 0]) (t := 50) ?hr ?_; (case hd => rfl); (case hg => rfl); (case hr => first | (go_simp; done) | (go_simp; rfl)); intro gb109 hg w6 hbox hb; have n0_ := Aside0.mk (Kd.R_below (by (with_reducible repeat (first | apply Kd.R_alloc | apply Kd.R_drewN | apply Kd.R_drew)); exact HO0_6.out) hb); have n1_ := Aside0.mk (blk_below (g := gb108) (o := .cells #[.int .i64 0, .int .i64 0, .int .i64 0, .int .i64 a, .int .i64 b, .bool false, .slice none 0 0] 78 (0, 0)) (by (with_reducible repeat (first | refine blk_drewN ?_ _ | refine blk_drew ?_ | refine blk_alloc ?_ _)); exact BK108.out) hb); have n2_ := Aside0.mk (Kept.below (S := (fun k_ => False)) (by repeat (first | (with_reducible first | exact HK.out | apply Kept.alloc | apply Kept.drewN | apply Kept.drew | refine Kept.setCell ?_ (.inr GW108.out) _) | exact HK.out)) hb); have n3_ := Aside0.mk (below_step (by repeat (first | (with_reducible first | exact HB.out | apply below_alloc | apply pw_below_drewN | apply below_drew1 | refine below_set ?_ GE108.out) | exact HB.out)) hb); have n4_ := Aside0.mk (hbox); have n5_ := Aside0.mk ((by rw [hg]; exact (by first | exact HK.out.1 | exact (show Kept w _ (fun k_ => False) from by repeat (first | (with_reducible first | exact HK.out | apply Kept.alloc | apply Kept.drewN | apply Kept.drew | refine Kept.setCell ?_ (.inr GW108.out) _) | exact HK.out)).1) : w.heap.size ≤ gb109)); have n6_ := Aside0.mk ((by rw [hg]; exact (below_size (by repeat (first | (with_reducible first | exact HB.out | apply below_alloc | apply pw_below_drewN | apply below_drew1 | refine below_set ?_ GE108.out) | exact HB.out))) : w.heap.size ≤ gb109)); have n7_ := Aside0.mk ((by rw [hg]; exact Nat.ne_of_lt (blk_lt (g := gb108) (o := .cells #[.int .i64 0, .int .i64 0, .int .i64 0, .int .i64 a, .int .i64 b, .bool false, .slice none 0 0] 78 (0, 0)) (by (with_reducible repeat (first | refine blk_drewN ?_ _ | refine blk_drew ?_ | refine blk_alloc ?_ _)); exact BK108.out)) : gb108 ≠ gb109)); have n8_ := Aside0.mk ((by rw [hg]; exact Nat.ne_of_gt (blk_lt (g := gb108) (o := .cells #[.int .i64 0, .int .i64 0, .int .i64 0, .int .i64 a, .int .i64 b, .bool false, .slice none 0 0] 78 (0, 0)) (by (with_reducible repeat (first | refine blk_drewN ?_ _ | refine blk_drew ?_ | refine blk_alloc ?_ _)); exact BK108.out)) : gb109 ≠ gb108)); clear HO0_6; clear BK108; clear HK; clear HB; have HO0_6 := n0_; have BK108 := n1_; have HK := n2_; have HB := n3_; have BK109 := n4_; have GW109 := n5_; have GE109 := n6_; have NB108_109 := n7_; have NB109_108 := n8_; clear n0_ n1_ n2_ n3_ n4_ n5_ n6_ n7_ n8_; clear hb hbox hg; have hnb7 := NB108_109.out; have hnc7 := NB109_108.out; have hcz8_0 : w6.cell? ⟨gb108, 0, none⟩ = some (.int .i64 0) := (blk_cell BK108.out 0).trans rfl; have hcz8_1 : w6.cell? ⟨gb108, 1, none⟩ = some (.int .i64 0) := (blk_cell BK108.out 1).trans rfl; have hcz8_2 : w6.cell? ⟨gb108, 2, none⟩ = some (.int .i64 0) := (blk_cell BK108.out 2).trans rfl; have hcz8_3 : w6.cell? ⟨gb108, 3, none⟩ = some (.int .i64 a) := (blk_cell BK108.out 3).trans rfl; have hcz8_4 : w6.cell? ⟨gb108, 4, none⟩ = some (.int .i64 b) := (blk_cell BK108.out 4).trans rfl; have hcz8_5 : w6.cell? ⟨gb108, 5, none⟩ = some (.bool false) := (blk_cell BK108.out 5).trans rfl; have hcz8_6 : w6.cell? ⟨gb108, 6, none⟩ = some (.slice none 0 0) := (blk_cell BK108.out 6).trans rfl; have hfz8_0 := blk_frozen BK108.out 0; have hfz8_1 := blk_frozen BK108.out 1; have hfz8_2 := blk_frozen BK108.out 2; have hfz8_3 := blk_frozen BK108.out 3; have hfz8_4 := blk_frozen BK108.out 4; have hfz8_5 := blk_frozen BK108.out 5; have hfz8_6 := blk_frozen BK108.out 6; have hcz9_0 : w6.cell? ⟨gb109, 0, none⟩ = some (.int .i64 0) := (blk_cell BK109.out 0).trans rfl; have hcz9_1 : w6.cell? ⟨gb109, 1, none⟩ = some (.int .i64 0) := (blk_cell BK109.out 1).trans rfl; have hcz9_2 : w6.cell? ⟨gb109, 2, none⟩ = some (.int .i64 0) := (blk_cell BK109.out 2).trans rfl; have hcz9_3 : w6.cell? ⟨gb109, 3, none⟩ = some (.int .i64 0) := (blk_cell BK109.out 3).trans rfl; have hcz9_4 : w6.cell? ⟨gb109, 4, none⟩ = some (.int .i64 0) := (blk_cell BK109.out 4).trans rfl; have hcz9_5 : w6.cell? ⟨gb109, 5, none⟩ = some (.bool false) := (blk_cell BK109.out 5).trans rfl; have hcz9_6 : w6.cell? ⟨gb109, 6, none⟩ = some (.slice none 0 0) := (blk_cell BK109.out 6).trans rfl; have hfz9_0 := blk_frozen BK109.out 0; have hfz9_1 := blk_frozen BK109.out 1; have hfz9_2 := blk_frozen BK109.out 2; have hfz9_3 := blk_frozen BK109.out 3; have hfz9_4 := blk_frozen BK109.out 4; have hfz9_5 := blk_frozen BK109.out 5; have hfz9_6 := blk_frozen BK109.out 6))
  refine bodyPost_ret (results_cell_row rfl _ _ gb109 50 #[.int .i64 0, .int .i64 x, .int .i64 y, .int .i64 a, .int .i64 b, .bool false, .slice none 0 0] (0, 0) _ rfl (by (with_reducible repeat (first | refine blk_drewN ?_ _ | refine blk_drew ?_ | refine blk_alloc ?_ _)); refine blk_put (cs := #[.int .i64 0, .int .i64 x, .int .i64 y, .int .i64 a, .int .i64 b, .bool false, .slice none 0 0]) ?_ 6 _ rfl; (with_reducible repeat (first | refine blk_drewN ?_ _ | refine blk_drew ?_ | refine blk_alloc ?_ _)); refine blk_put (cs := #[.int .i64 0, .int .i64 x, .int .i64 y, .int .i64 a, .int .i64 b, .bool false, .slice none 0 0]) ?_ 5 _ rfl; (with_reducible repeat (first | refine blk_drewN ?_ _ | refine blk_drew ?_ | refine blk_alloc ?_ _)); refine blk_put (cs := #[.int .i64 0, .int .i64 x, .int .i64 y, .int .i64 a, .int .i64 0, .bool false, .slice none 0 0]) ?_ 4 _ rfl; (with_reducible repeat (first | refine blk_drewN ?_ _ | refine blk_drew ?_ | refine blk_alloc ?_ _)); refine blk_put (cs := #[.int .i64 0, .int .i64 x, .int .i64 y, .int .i64 0, .int .i64 0, .bool false, .slice none 0 0]) ?_ 3 _ rfl; (with_reducible repeat (first | refine blk_drewN ?_ _ | refine blk_drew ?_ | refine blk_alloc ?_ _)); refine blk_put (cs := #[.int .i64 0, .int .i64 x, .int .i64 0, .int .i64 0, .int .i64 0, .bool false, .slice none 0 0]) ?_ 2 _ rfl; (with_reducible repeat (first | refine blk_drewN ?_ _ | refine blk_drew ?_ | refine blk_alloc ?_ _)); refine blk_put (cs := #[.int .i64 0, .int .i64 0, .int .i64 0, .int .i64 0, .int .i64 0, .bool false, .slice none 0 0]) ?_ 1 _ rfl; (with_reducible repeat (first | refine blk_drewN ?_ _ | refine blk_drew ?_ | refine blk_alloc ?_ _)); refine blk_put (cs := #[.int .i64 0, .int .i64 0, .int .i64 0, .int .i64 0, .int .i64 0, .bool false, .slice none 0 0]) ?_ 0 _ rfl; (with_reducible repeat (first | refine blk_drewN ?_ _ | refine blk_drew ?_ | refine blk_alloc ?_ _)); refine blk_far ?_ NB109_108.out _; (with_reducible repeat (first | refine blk_drewN ?_ _ | refine blk_drew ?_ | refine blk_alloc ?_ _)); refine blk_far ?_ NB109_108.out _; (with_reducible repeat (first | refine blk_drewN ?_ _ | refine blk_drew ?_ | refine blk_alloc ?_ _)); exact BK109.out) Try.underlying50 rfl (by kernel_rfl)) rfl ?_
  exact ⟨rfl, by repeat (first | (with_reducible first | exact HB.out | apply below_alloc | apply pw_below_drewN | apply below_drew1 | refine below_set ?_ GE108.out | refine below_set ?_ GE109.out) | exact HB.out)⟩
def hk (hs : List (List Int)) (i : Nat) : List Int := rd_L4 hs (i : Int)
def yTo (hs : List (List Int)) (gap : Int) : Nat → Int
  | 0 => wrap64 (-gap)
  | i + 1 => wrap64 (wrap64 (yTo hs gap i + gap) + gmax (hk hs i))
def pcBox (ws st : List Int) (h y : Int) (k : Nat) : S50 := ⟨0, rd st (k : Int), y, rd ws (k : Int), h, false, []⟩
def rowB (ws st : List Int) (h y : Int) (n : Nat) : List S50 := (List.range n).map (pcBox ws st h y)
theorem rowB_length (ws st : List Int) (h y : Int) (n : Nat) : (rowB ws st h y n).length = n := by simp [rowB]
theorem rowB_succ (ws st : List Int) (h y : Int) (n : Nat) : rowB ws st h y (n + 1) = rowB ws st h y n ++ [pcBox ws st h y n] := by simp [rowB, List.range_succ]
def rowAt (ws st : List Int) (hs : List (List Int)) (gap : Int) (i : Nat) : List S50 := rowB ws st (gmax (hk hs i)) (wrap64 (yTo hs gap i + gap)) (hk hs i).length
def rowsT (ws st : List Int) (hs : List (List Int)) (gap : Int) (n : Nat) : List (List S50) := (List.range n).map (rowAt ws st hs gap)
theorem rowsT_length (ws st : List Int) (hs : List (List Int)) (gap : Int) (n : Nat) : (rowsT ws st hs gap n).length = n := by simp [rowsT]
theorem rowsT_succ (ws st : List Int) (hs : List (List Int)) (gap : Int) (n : Nat) : rowsT ws st hs gap (n + 1) = rowsT ws st hs gap n ++ [rowAt ws st hs gap n] := by simp [rowsT, List.range_succ]
def placeOk (ws : List Int) (hs : List (List Int)) (gap : Int) : Bool := startsOk ws gap && decide (hs.length ≤ 4000) && !hs.any (badI ws.length)
def yEnd (hs : List (List Int)) (gap : Int) : Int := if hs.length = 0 then 0 else yTo hs gap hs.length
def placeR (ws : List Int) (hs : List (List Int)) (gap : Int) : List (List S50) × Int × Int :=
  if placeOk ws hs gap = true then (if yEnd hs gap > 1000000000 then ([], 0, 3) else (rowsT ws (outS ws gap (ws.length - 1)) hs gap hs.length, yEnd hs gap, 0)) else ([], 0, 1)
def table_Place.f (ws : List Int) (hs : List (List Int)) (gap : Int) : Option (List (List S50) × Int × Int) := some (placeR ws hs gap)
set_option maxRecDepth 100000 in
set_option maxHeartbeats 8000000 in
theorem table_Place.calls (A0 : Option Addr) (c0 : Nat) (l0 : List Int) (A1 : Option Addr) (c1 : Nat) (l1 : List (List Int)) (a2 : Int) (r1 : List (List S50)) (r2 r3 : Int) (w : World) (hr0 : Kd.C (Kd.int .i64) w A0 l0.length l0) (hc0 : l0.length ≤ c0) (hr1 : Kd.C (Kd.slice 3 (Kd.int .i64)) w A1 l1.length l1) (hc1 : l1.length ≤ c1) (h : table_Place.f l0 l1 a2 = some (r1, r2, r3)) :
    Calls Try.prog 18 #[.slice A0 l0.length c0, .slice A1 l1.length c1, .int .i64 a2] w fun e w' => ∃ v0_ : Value, e = .returned (.tuple #[v0_, .int .i64 r2, .int .i64 r3]) ∧ Kd.R (Kd.slice 50 k50) 47 w' w.heap.size (fun _ => True) v0_ r1 ∧ Below w.heap.size w w' := by
  have HR0 := Aside0.mk hr0
  have HR1 := Aside0.mk hr1
  have HC0 := Aside0.mk hc0
  clear hr0 hc0 hr1 hc1
  have H : placeR l0 l1 a2 = (r1, r2, r3) := Option.some.inj h
  clear h
  unfold placeR placeOk at H
  have hb1 : Below w.heap.size w (w.alloc (.cells #[.slice A0 l0.length c0] 24)) := (Below.refl _ w).alloc (Nat.le_refl _) _
  have hst : ∀ b, startsOk l0 a2 = b → Calls Try.prog 22 #[.slice A0 l0.length c0, .int .i64 a2] (w.alloc (.cells #[.slice A0 l0.length c0] 24)) fun e w' => ∃ (A : Option Addr) (n c : Nat), e = .returned (.tuple #[.slice A n c, .int .i64 (if b then 0 else 1)]) ∧ Aside0 (b = true → n = l0.length ∧ Kd.C (Kd.int .i64) w' A l0.length (outS l0 a2 (l0.length - 1))) ∧ Below w.heap.size w w' ∧ Boxed w' w.heap.size 24 (.slice A0 l0.length c0) := fun b hb => by
    refine (startsC A0 c0 l0 a2 _ (Kd.C_below HR0.out hb1) HC0.out b hb).mono ?_
    rintro e w' ⟨A, n, c, rfl, hA, hb⟩
    exact ⟨A, n, c, rfl, hA, hb1.trans (hb.mono hb1.size), (hb.block _ (by simp)).trans (Boxed.new w 24 _)⟩
  clear hb1
  have hany : ∀ b, l1.any (badI l0.length) = b → ∀ w1 q, Below w.heap.size w w1 → Boxed w1 w.heap.size 24 (.slice A0 l0.length c0) → Boxed w1 q 68 (.func (.func 37) #[] #[]) → Calls Try.prog 40 #[.slice A1 l1.length c1, .func (.func 38) #[] #[.pointer (some ⟨w.heap.size, 0, none⟩), .pointer (some ⟨q, 0, none⟩)]] w1 fun e w' => e = .returned (.bool b) ∧ Below w.heap.size w w' ∧ Below w1.heap.size w1 w' := fun b hb w1 q h1 hp hq => by
    rw [← hb]
    refine (anyBadI_calls A1 c1 l1 w1 (Kd.C_below HR1.out h1) A0 l0.length c0 w.heap.size q hp hq).mono ?_
    rintro e w' ⟨rfl, hb⟩
    exact ⟨rfl, h1.trans (hb.mono h1.size), hb⟩
  cases h0 : startsOk l0 a2
  case false =>
    obtain ⟨rfl, rfl, rfl⟩ : [] = r1 ∧ 0 = r2 ∧ 1 = r3 := by simpa [h0] using H
    have hst := hst _ h0
    clear H h0 hany
    go_enter Try.func18, Try.ntmps18
    go_wp2_with (first | (go_at_call 22; (with_reducible refine hst.mono ?_); rintro e w1 ⟨A, n, c, rfl, hA, hb, hx⟩; simp only [Bool.false_eq_true, if_false]; have HB2 := Aside0.mk hb; clear hb hA hx))
    refine bodyPost_ret (results_tmp3 rfl _ _ _) rfl ?_
    exact ⟨.slice none 0 0, rfl, Kd.R_nil _ _ _ _ _, by repeat (first | (with_reducible first | exact HB2.out | apply below_alloc | refine below_set ?_ HB2.out.size) | exact HB2.out)⟩
  have hst := hst _ h0
  have arms := True.intro
  by_cases h1 : l1.length ≤ 4000
  case neg =>
    obtain ⟨rfl, rfl, rfl⟩ : [] = r1 ∧ 0 = r2 ∧ 1 = r3 := by simpa [h0, h1] using H
    have d1 : decide ((l1.length : Int) > 4000) = true := by simp; omega
    clear H h0 hany h1
    go_enter Try.func18, Try.ntmps18
    go_wp2_with (first | (go_at_call 22; (with_reducible refine hst.mono ?_); rintro e w1 ⟨A, n, c, rfl, hA, hb, hx⟩; simp only [if_true]; have HB2 := Aside0.mk hb; clear hb hA hx))
    refine bodyPost_ret (results_tmp3 rfl _ _ _) rfl ?_
    exact ⟨.slice none 0 0, rfl, Kd.R_nil _ _ _ _ _, by repeat (first | (with_reducible first | exact HB2.out | apply below_alloc | refine below_set ?_ HB2.out.size) | exact HB2.out)⟩
  have d1 : decide ((l1.length : Int) > 4000) = false := by simp; omega
  have HL := Aside0.mk h1
  have hfour : ∀ (w1 : World), Below w.heap.size w w1 → Boxed w1 w.heap.size 24 (.slice A0 l0.length c0) → Aside0 (Below w.heap.size w (w1.alloc (.cells #[.func (.func 37) #[] #[]] 68)) ∧ Boxed (w1.alloc (.cells #[.func (.func 37) #[] #[]] 68)) w.heap.size 24 (.slice A0 l0.length c0) ∧ Boxed (w1.alloc (.cells #[.func (.func 37) #[] #[]] 68)) w1.heap.size 68 (.func (.func 37) #[] #[]) ∧ Below w1.heap.size w1 (w1.alloc (.cells #[.func (.func 37) #[] #[]] 68))) := fun w1 hb hx =>
    ⟨below_alloc hb _, hx.alloc _, Boxed.new w1 68 _, below_alloc (Below.refl _ _) _⟩
  cases h2 : l1.any (badI l0.length)
  case true =>
    obtain ⟨rfl, rfl, rfl⟩ : [] = r1 ∧ 0 = r2 ∧ 1 = r3 := by simpa [h0, h1, h2] using H
    have hany := hany _ h2
    clear H h0 h1 h2
    go_enter Try.func18, Try.ntmps18
    go_upto_region 4 with (first | (go_at_call 22; (with_reducible refine hst.mono ?_); rintro e w1 ⟨A, n, c, rfl, hA, hb, hx⟩; simp only [if_true]; have HF := hfour _ hb hx; clear hb hA hx))
    go_wp2_with (first | (go_at_call 40; (with_reducible refine (hany _ _ HF.out.1 HF.out.2.1 HF.out.2.2.1).mono ?_); rintro e w3 ⟨rfl, hb, hb2⟩; have HB3 := Aside0.mk hb; clear hb hb2))
    refine bodyPost_ret (results_tmp3 rfl _ _ _) rfl ?_
    exact ⟨.slice none 0 0, rfl, Kd.R_nil _ _ _ _ _, HB3.out⟩
  have hany := hany _ h2
  obtain ⟨st, hstl⟩ : ∃ st, outS l0 a2 (l0.length - 1) = st := ⟨_, rfl⟩
  rw [hstl] at hst H
  have hsl : st.length = l0.length := by rw [← hstl, outS_length]
  have HSL := Aside0.mk hsl
  have H2 : (if yEnd l1 a2 > 1000000000 then ([], 0, 3) else (rowsT l0 st l1 a2 l1.length, yEnd l1 a2, 0)) = (r1, r2, r3) := by simpa [h0, h1, h2] using H
  have HH := Aside0.mk H2
  have HBD : Aside0 (∀ row ∈ l1, row.length ≤ l0.length) := ⟨fun row hr => by have := List.any_eq_false.1 h2 row hr; simp [badI] at this; omega⟩
  have HW : Aside0 (l0.length ≤ 64) := ⟨by simp [startsOk, inside] at h0; omega⟩
  clear H H2 hsl hstl h0 h1 h2
  go_enter Try.func18, Try.ntmps18
  go_upto_region 4 with (first | (go_at_call 22; (with_reducible refine hst.mono ?_); rintro e w1 ⟨A, n, c, rfl, ⟨hA⟩, hb, hx⟩; simp only [if_true]; obtain ⟨hn, hA2⟩ := hA rfl; clear hA; subst hn; have HA := Aside0.mk hA2; have HF := hfour _ hb hx; clear hb hA2 hx))
  clear hst
  go_wp2_with (first | (go_at_call 40; (with_reducible refine (hany _ _ HF.out.1 HF.out.2.1 HF.out.2.2.1).mono ?_); rintro e w3 ⟨rfl, hb, hb2⟩; have HB3 := Aside0.mk hb; have HX := Aside0.mk ((hb2.block _ HF.out.2.1.lt).trans HF.out.2.1); have HS := Aside0.mk (Kd.C_below (Kd.C_below HA.out HF.out.2.2.2) hb2); clear hb hb2))
  clear HA HF hany hfour d1
  have HT := Aside0.mk (Kd.C_below HR0.out HB3.out)
  have HU := Aside0.mk (Kd.C_below HR1.out HB3.out)
  go_loopg [14, 15, 44] l1.length (fun kq v14 v15 v44 w' => ∃ i : Nat, v15 = .int .i64 (yTo l1 a2 i) ∧ v44 = .int .i64 (i : Int) ∧ Aside0 (kq + i = l1.length) ∧ Aside0 (Kd.R (Kd.slice 50 k50) 47 w' w3.heap.size (fun _ => True) v14 (rowsT l0 st l1 a2 i)) ∧ Aside0 (Below w3.heap.size w3 w'))
  case atStart => exact ⟨0, by simp only [yTo], rfl, ⟨rfl⟩, ⟨Kd.R_nil _ _ _ _ _⟩, ⟨Below.refl _ _⟩⟩
  case round =>
    obtain ⟨i, rfl, rfl, HK, HO, HB⟩ := hrel
    cases gk with
    | zero =>
      have hil : i = l1.length := by have := HK.out; omega
      subst hil
      have c1b : decide ((l1.length : Int) < (l1.length : Int)) = false := by simp
      obtain ⟨y, hy⟩ : ∃ y, yTo l1 a2 l1.length = y := ⟨_, rfl⟩
      have H3 := HH.out
      unfold yEnd at H3
      rw [hy] at H3 ⊢
      have HO' := Aside0.mk (Kd.R_lower HO.out HB3.out.size)
      have HB' := Aside0.mk (HB3.out.trans (HB.out.mono HB3.out.size))
      clear HO HB HX HS HT HU
      by_cases he : l1.length = 0
      · have hr0 : rowsT l0 st l1 a2 l1.length = [] := by rw [he]; rfl
        simp [he] at H3
        obtain ⟨e1, rfl, rfl⟩ := H3
        rw [he] at HO'
        have HE := Aside0.mk e1
        have he0 : decide ((l1.length : Int) = 0) = true := decide_eq_true (by omega)
        have he1 : ((l1.length : Int) == 0) = true := beq_iff_eq.2 (by omega)
        clear hr0 e1
        go_wp2
        refine bodyPost_ret (results_tmp3 rfl _ _ _) rfl ?_
        exact ⟨_, rfl, by first | exact HE.out ▸ HO'.out | (rw [← HE.out]; exact HO'.out), HB'.out⟩
      · rw [if_neg he] at H3
        have he0 : decide ((l1.length : Int) = 0) = false := decide_eq_false (by omega)
        have he1 : ((l1.length : Int) == 0) = false := beq_eq_false_iff_ne.2 (by omega)
        by_cases hbig : y > 1000000000
        · rw [if_pos hbig] at H3
          obtain ⟨rfl, rfl, rfl⟩ : [] = r1 ∧ 0 = r2 ∧ 3 = r3 := by simpa using H3
          have hb0 : decide (y > 1000000000) = true := decide_eq_true hbig
          clear H3 hy he
          go_wp2
          refine bodyPost_ret (results_tmp3 rfl _ _ _) rfl ?_
          exact ⟨.slice none 0 0, rfl, Kd.R_nil _ _ _ _ _, HB'.out⟩
        · rw [if_neg hbig] at H3
          obtain ⟨rfl, rfl, rfl⟩ : rowsT l0 st l1 a2 l1.length = r1 ∧ y = r2 ∧ 0 = r3 := by simpa using H3
          have hb0 : decide (y > 1000000000) = false := decide_eq_false hbig
          clear H3 hy he
          go_wp2
          refine bodyPost_ret (results_tmp3 rfl _ _ _) rfl ?_
          exact ⟨_, rfl, HO'.out, HB'.out⟩
    | succ k1 =>
      clear HR0 HR1 HH
      have hi : i < l1.length := by have := HK.out; omega
      have p1 : 0 ≤ (i : Int) := by omega
      have q1 : (i : Int) < (l1.length : Int) := by omega
      have c1b : decide ((i : Int) < (l1.length : Int)) = true := decide_eq_true q1
      have c1c : decide (i < l1.length) = true := decide_eq_true hi
      have hsum : IntKind.i64.wrap ((i : Int) + 1) = ((i + 1 : Nat) : Int) := by have := HL.out; exact IntWalk.i64_in _ (by omega)
      have hsum2 : wrap64 ((i : Int) + 1) = ((i + 1 : Nat) : Int) := by have := HL.out; unfold wrap64; omega
      obtain ⟨ad, A2, c2, ead, hx0, hc2, hC2⟩ := at_L4 (Kd.C_below HU.out HB.out) (i : Int) p1 q1
      cases ead
      obtain ⟨x, hx⟩ : ∃ x, rd_L4 l1 (i : Int) = x := ⟨_, rfl⟩
      have hxl : x.length ≤ l0.length := by
        rw [← hx]
        refine HBD.out _ ?_
        simp [rd_L4, List.getD_eq_getElem?_getD, List.getElem?_eq_getElem hi]
      rw [hx] at hx0 hc2 hC2
      simp only [Int.toNat_natCast] at hx0
      have HRA : Aside0 (rowAt l0 st l1 a2 i = rowB l0 st (gmax x) (wrap64 (yTo l1 a2 i + a2)) x.length) := ⟨by unfold rowAt hk; rw [hx]⟩
      have HYT : Aside0 (yTo l1 a2 (i + 1) = wrap64 (wrap64 (yTo l1 a2 i + a2) + gmax x)) := ⟨by simp only [yTo]; unfold hk; rw [hx]⟩
      obtain ⟨y, hy⟩ : ∃ y, yTo l1 a2 i = y := ⟨_, rfl⟩
      obtain ⟨g, hg⟩ : ∃ g, gmax x = g := ⟨_, rfl⟩
      have hb1 : Below wr.heap.size wr (wr.alloc (.cells #[.slice A2 x.length c2] 24)) := (Below.refl _ wr).alloc (Nat.le_refl _) _
      have hhigh : Calls Try.prog 42 #[.func (.func 55) #[] #[.pointer (some ⟨wr.heap.size, 0, none⟩)], .func (.func 41) #[] #[]] (wr.alloc (.cells #[.slice A2 x.length c2] 24)) fun e w' => e = .returned (.int .i64 g) ∧ Below wr.heap.size wr w' := by
        rw [← hg]
        refine (high_calls x A2 c2 wr.heap.size _ (Boxed.new wr 24 _) (Kd.C_below hC2 hb1)).mono ?_
        rintro e w' ⟨rfl, hb⟩
        exact ⟨rfl, hb1.trans (hb.mono hb1.size)⟩
      rw [hy, hg] at HRA HYT
      rw [hy]
      obtain ⟨A14, c14, e14⟩ := Kd.R_slice HO.out
      subst e14
      have HXL := Aside0.mk hxl
      have HI := Aside0.mk hi
      replace p1 := eq_true p1
      replace q1 := eq_true q1
      clear hb1 hx hxl hy hg hC2 hi
      go_wp2_with (first | (go_at_call 43; (with_reducible refine (values43_calls _ _ _ _).mono ?_); rintro e w1 ⟨rfl, rfl⟩) | (go_at_call 42; (with_reducible refine hhigh.mono ?_); rintro e w5 ⟨rfl, hb⟩; have HB5 := Aside0.mk hb; have HO5 := Aside0.mk (Kd.R_below HO.out hb); have HW5 := Aside0.mk (HB.out.trans (hb.mono HB.out.size)); clear hb))
      clear hhigh HB5 HO HB hx0
      have HX5 := Aside0.mk ((HW5.out.block _ (Boxed.lt HX.out)).trans HX.out)
      have HS5 := Aside0.mk (Kd.C_below HS.out HW5.out)
      have HT5 := Aside0.mk (Kd.C_below HT.out HW5.out)
      go_loopg [19, 54] x.length (fun kr v19 v54 w' => ∃ j : Nat, v54 = .int .i64 (j : Int) ∧ Aside0 (kr + j = x.length) ∧ Aside0 (Kd.R k50 50 w' w5.heap.size (fun _ => True) v19 (rowB l0 st g (wrap64 (y + a2)) j)) ∧ Aside0 (Below w5.heap.size w5 w'))
      case atStart => exact ⟨0, rfl, ⟨rfl⟩, ⟨Kd.R_nil _ _ _ _ _⟩, ⟨Below.refl _ _⟩⟩
      case round =>
        obtain ⟨j, rfl, HK2, HO2, HB2⟩ := hrel
        cases gk with
        | zero =>
          have hjl : j = x.length := by have := HK2.out; omega
          subst hjl
          have d1b : decide ((x.length : Int) < (x.length : Int)) = false := by simp
          obtain ⟨A19, c19, e19⟩ := Kd.R_slice HO2.out
          subst e19
          have HO6 := Aside0.mk (Kd.R_below HO5.out HB2.out)
          have HW6 := Aside0.mk (HW5.out.trans (HB2.out.mono HW5.out.size))
          have RP := Aside0.mk (Kd.R_lower (Kd.R_new' (u := .slice A14 (rowsT l0 st l1 a2 i).length c14) HO2.out (fun k hk => by obtain ⟨cells, hc⟩ := Kd.R_typed HO5.out k hk; exact (Array.getElem?_eq_some_iff.1 hc).1)) HW5.out.size)
          clear HO5 HW5 HO2 HB2 HX5 HS5 HT5
          go_wp2_with (first | (at_builtin; refine Kd.R_append (Kd.slice 50 k50) (w0 := w3) w3.heap.size rfl (.tmp 76) (.tmp 78) 38 47 (.slice none 0 0) 24 rfl Try.underlying38 info47 rfl (by decide) (by omega) _ (rowsT l0 st l1 a2 i) (rowB l0 st g (wrap64 (y + a2)) x.length) [.slice A19 (rowB l0 st g (wrap64 (y + a2)) x.length).length c19] (fun _ => True) (fun k_ => True ∧ some k_ ≠ (Value.slice A14 (rowsT l0 st l1 a2 i).length c14).ownBlock) rfl rfl (Kd.M_row RP.out) (fun _ hk => hk) (fun _ _ => trivial) HO6.out HW6.out HW6.out.size (by rw [rowsT_length]; have := HL.out; have := HI.out; omega) ?_; intro v1 w6 ho hb hg hat; have HO7 := Aside0.mk ho; have HB7 := Aside0.mk hb; clear ho hb hg hat))
          go_roundg k1
          case measure => omega
          case rel => exact ⟨i + 1, by rw [HYT.out], by first | rfl | simp [hsum, hsum2], ⟨by have := HK.out; omega⟩, ⟨by rw [rowsT_succ, HRA.out]; exact HO7.out⟩, HB7⟩
        | succ k2 =>
          clear HO5
          have hj : j < x.length := by have := HK2.out; omega
          have d1b : decide ((j : Int) < (x.length : Int)) = true := decide_eq_true (by omega)
          have d1c : decide (j < x.length) = true := decide_eq_true hj
          have hsum3 : IntKind.i64.wrap ((j : Int) + 1) = ((j + 1 : Nat) : Int) := by have := HW.out; have := HXL.out; exact IntWalk.i64_in _ (by omega)
          have hsum4 : wrap64 ((j : Int) + 1) = ((j + 1 : Nat) : Int) := by have := HW.out; have := HXL.out; unfold wrap64; omega
          have pj : 0 ≤ (j : Int) := by omega
          have qj : (j : Int) < (l0.length : Int) := by have := HXL.out; omega
          obtain ⟨aw, eaw, hw0⟩ := Kd.at_int (Kd.C_below HT5.out HB2.out) (j : Int) pj qj
          obtain ⟨ast, eas, hs0⟩ := Kd.at_int (Kd.C_below HS5.out HB2.out) (j : Int) pj qj
          cases eaw
          cases eas
          simp only [Int.toNat_natCast] at hw0 hs0
          have hx0 := Boxed.cell ((HB2.out.block _ (Boxed.lt HX5.out)).trans HX5.out)
          obtain ⟨wv, hwv⟩ : ∃ x, rd l0 (j : Int) = x := ⟨_, rfl⟩
          obtain ⟨sv, hsv⟩ : ∃ x, rd st (j : Int) = x := ⟨_, rfl⟩
          rw [hwv] at hw0
          rw [hsv] at hs0
          have HPC : Aside0 (pcBox l0 st g (wrap64 (y + a2)) j = ⟨0, sv, wrap64 (y + a2), wv, g, false, []⟩) := ⟨by unfold pcBox; rw [hwv, hsv]⟩
          have HJ := Aside0.mk hj
          obtain ⟨A19, c19, e19⟩ := Kd.R_slice HO2.out
          subst e19
          replace pj := eq_true pj
          replace qj := eq_true qj
          clear hwv hsv hj
          have C1 := Aside0.mk hx0
          have C2 := Aside0.mk hw0
          have C3 := Aside0.mk hs0
          clear hx0 hw0 hs0
          go_upto_region 17 with (fail)
          refine start_ (n := 19) (S := fun w' => w'.cell? ⟨w.heap.size, 0, none⟩ = some (.slice (some aw) l0.length c0) ∧ w'.cell? (aw.add j) = some (.int .i64 wv) ∧ w'.cell? (ast.add j) = some (.int .i64 sv)) (ds := [15, 16, 17]) #[false, false, false, false, false, false, false, false, false, false, false, false, false, false, false, false, false, false, false] (by kernel_rfl) rfl rfl ⟨C1.out, C2.out, C3.out⟩ (fun hHeld => ?_)
          have HO3 := Aside0.mk (Kd.R_drew HO2.out)
          have HB3 := Aside0.mk (below_drew HB2.out)
          clear HO2 HB2 C1 C2 C3
          generalize World.drew _ = w25 at HO3 HB3 hHeld ⊢
          refine pure_ (i := 0) (N := some 57) (v := ?_) (a' := ?_) #[true, false, false, false, false, false, false, false, false, false, false, false, false, false, false, false, false, false, false] rfl rfl (by kernel_rfl) (fun _ _ _ h => h) (Or.inl ⟨by rfl, ?_⟩) ?_ ?_
          rotate_left
          · intro w' 
            go_simp
            with_reducible rfl
          rotate_left
          · simp only [Act.put, List.setIfInBounds_toArray, List.set_cons_zero, List.set_cons_succ, i64_w, i32_w]
            rfl
          refine take_ (i := 1) (N := some 58) (v := ?_) (a' := ?_) #[true, true, false, false, false, false, false, false, false, false, false, false, false, false, false, false, false, false, false] rfl rfl (by kernel_rfl) (fun _ _ _ h => h) (Or.inl ⟨by rfl, ?_⟩) hHeld ?_ ?_
          rotate_left
          · rintro w' ⟨s0, s1, s2⟩
            go_simp
            with_reducible rfl
          rotate_left
          · simp only [Act.put, List.setIfInBounds_toArray, List.set_cons_zero, List.set_cons_succ, i64_w, i32_w]
            rfl
          refine pure_ (i := 2) (N := some 59) (v := ?_) (a' := ?_) #[true, true, true, false, false, false, false, false, false, false, false, false, false, false, false, false, false, false, false] rfl rfl (by kernel_rfl) (fun _ _ _ h => h) (Or.inl ⟨by rfl, ?_⟩) ?_ ?_
          rotate_left
          · intro w' 
            go_simp
            with_reducible rfl
          rotate_left
          · simp only [Act.put, List.setIfInBounds_toArray, List.set_cons_zero, List.set_cons_succ, i64_w, i32_w]
            rfl
          refine pure_ (i := 3) (N := some 60) (v := ?_) (a' := ?_) #[true, true, true, true, false, false, false, false, false, false, false, false, false, false, false, false, false, false, false] rfl rfl (by kernel_rfl) (fun _ _ _ h => h) (Or.inl ⟨by rfl, ?_⟩) ?_ ?_
          rotate_left
          · intro w' 
            go_simp
            with_reducible rfl
          rotate_left
          · simp only [Act.put, List.setIfInBounds_toArray, List.set_cons_zero, List.set_cons_succ, i64_w, i32_w]
            rfl
          refine take_ (i := 4) (N := some 61) (v := ?_) (a' := ?_) #[true, true, true, true, true, false, false, false, false, false, false, false, false, false, false, false, false, false, false] rfl rfl (by kernel_rfl) (fun _ _ _ h => h) (Or.inl ⟨by rfl, ?_⟩) hHeld ?_ ?_
          rotate_left
          · rintro w' ⟨s0, s1, s2⟩
            go_simp
            with_reducible rfl
          rotate_left
          · simp only [Act.put, List.setIfInBounds_toArray, List.set_cons_zero, List.set_cons_succ, i64_w, i32_w]
            rfl
          refine pure_ (i := 5) (N := some 62) (v := ?_) (a' := ?_) #[true, true, true, true, true, true, false, false, false, false, false, false, false, false, false, false, false, false, false] rfl rfl (by kernel_rfl) (fun _ _ _ h => h) (Or.inl ⟨by rfl, ?_⟩) ?_ ?_
          rotate_left
          · intro w' 
            go_simp
            with_reducible rfl
          rotate_left
          · simp only [Act.put, List.setIfInBounds_toArray, List.set_cons_zero, List.set_cons_succ, i64_w, i32_w]
            rfl
          refine pure_ (i := 6) (N := some 63) (v := ?_) (a' := ?_) #[true, true, true, true, true, true, true, false, false, false, false, false, false, false, false, false, false, false, false] rfl rfl (by kernel_rfl) (fun _ _ _ h => h) (Or.inl ⟨by rfl, ?_⟩) ?_ ?_
          rotate_left
          · intro w' 
            go_simp
            with_reducible rfl
          rotate_left
          · simp only [Act.put, List.setIfInBounds_toArray, List.set_cons_zero, List.set_cons_succ, i64_w, i32_w]
            rfl
          refine pure_ (i := 7) (N := some 64) (v := ?_) (a' := ?_) #[true, true, true, true, true, true, true, true, false, false, false, false, false, false, false, false, false, false, false] rfl rfl (by kernel_rfl) (fun _ _ _ h => h) (Or.inl ⟨by rfl, ?_⟩) ?_ ?_
          rotate_left
          · intro w' 
            go_simp
            with_reducible rfl
          rotate_left
          · simp only [Act.put, List.setIfInBounds_toArray, List.set_cons_zero, List.set_cons_succ, i64_w, i32_w]
            rfl
          refine pure_ (i := 8) (N := some 65) (v := ?_) (a' := ?_) #[true, true, true, true, true, true, true, true, true, false, false, false, false, false, false, false, false, false, false] rfl rfl (by kernel_rfl) (fun _ _ _ h => h) (Or.inl ⟨by rfl, ?_⟩) ?_ ?_
          rotate_left
          · intro w' 
            go_simp
            with_reducible rfl
          rotate_left
          · simp only [Act.put, List.setIfInBounds_toArray, List.set_cons_zero, List.set_cons_succ, i64_w, i32_w]
            rfl
          refine pure_ (i := 9) (N := some 66) (v := ?_) (a' := ?_) #[true, true, true, true, true, true, true, true, true, true, false, false, false, false, false, false, false, false, false] rfl rfl (by kernel_rfl) (fun _ _ _ h => h) (Or.inl ⟨by rfl, ?_⟩) ?_ ?_
          rotate_left
          · intro w' 
            go_simp
            with_reducible rfl
          rotate_left
          · simp only [Act.put, List.setIfInBounds_toArray, List.set_cons_zero, List.set_cons_succ, i64_w, i32_w]
            rfl
          refine pure_ (i := 10) (N := some 67) (v := ?_) (a' := ?_) #[true, true, true, true, true, true, true, true, true, true, true, false, false, false, false, false, false, false, false] rfl rfl (by kernel_rfl) (fun _ _ _ h => h) (Or.inl ⟨by rfl, ?_⟩) ?_ ?_
          rotate_left
          · intro w' 
            go_simp
            with_reducible rfl
          rotate_left
          · simp only [Act.put, List.setIfInBounds_toArray, List.set_cons_zero, List.set_cons_succ, i64_w, i32_w]
            rfl
          refine take_ (i := 11) (N := some 68) (v := ?_) (a' := ?_) #[true, true, true, true, true, true, true, true, true, true, true, true, false, false, false, false, false, false, false] rfl rfl (by kernel_rfl) (fun _ _ _ h => h) (Or.inl ⟨by rfl, ?_⟩) hHeld ?_ ?_
          rotate_left
          · rintro w' ⟨s0, s1, s2⟩
            go_simp
            with_reducible rfl
          rotate_left
          · simp only [Act.put, List.setIfInBounds_toArray, List.set_cons_zero, List.set_cons_succ, i64_w, i32_w]
            rfl
          refine pure_ (i := 12) (N := some 69) (v := ?_) (a' := ?_) #[true, true, true, true, true, true, true, true, true, true, true, true, true, false, false, false, false, false, false] rfl rfl (by kernel_rfl) (fun _ _ _ h => h) (Or.inl ⟨by rfl, ?_⟩) ?_ ?_
          rotate_left
          · intro w' 
            go_simp
            with_reducible rfl
          rotate_left
          · simp only [Act.put, List.setIfInBounds_toArray, List.set_cons_zero, List.set_cons_succ, i64_w, i32_w]
            rfl
          refine pure_ (i := 13) (N := some 70) (v := ?_) (a' := ?_) #[true, true, true, true, true, true, true, true, true, true, true, true, true, true, false, false, false, false, false] rfl rfl (by kernel_rfl) (fun _ _ _ h => h) (Or.inl ⟨by rfl, ?_⟩) ?_ ?_
          rotate_left
          · intro w' 
            go_simp
            with_reducible rfl
          rotate_left
          · simp only [Act.put, List.setIfInBounds_toArray, List.set_cons_zero, List.set_cons_succ, i64_w, i32_w]
            rfl
          refine pure_ (i := 14) (N := some 71) (v := ?_) (a' := ?_) #[true, true, true, true, true, true, true, true, true, true, true, true, true, true, true, false, false, false, false] rfl rfl (by kernel_rfl) (fun _ _ _ h => h) (Or.inl ⟨by rfl, ?_⟩) ?_ ?_
          rotate_left
          · intro w' 
            go_simp
            with_reducible rfl
          rotate_left
          · simp only [Act.put, List.setIfInBounds_toArray, List.set_cons_zero, List.set_cons_succ, i64_w, i32_w]
            rfl
          refine last_ (i := 15) (N := some 72) #[true, true, true, true, true, true, true, true, true, true, true, true, true, true, true, true, false, false, false] rfl rfl (by kernel_rfl) (by decide) (fun K hK => ?_)
          refine call_ 44 #[.agg #[.int .i64 0, .int .i64 0, .int .i64 0, .int .i64 wv, .int .i64 g, .bool false, .slice none 0 0], .int .i64 sv, .int .i64 (wrap64 (y + a2))] (by rfl) rfl (by go_simp) ?_
          refine (cellAt_calls wv g sv (wrap64 (y + a2)) w25).mono ?_
          rintro e w26 ⟨rfl, hb⟩
          have HO4 := Aside0.mk (Kd.R_below HO3.out hb)
          have HB4 := Aside0.mk (HB3.out.trans (hb.mono HB3.out.size))
          clear hb HO3 HB3 hHeld
          refine ⟨_, rfl, ?_⟩
          refine hK.out _ _ ?_
          clear hK K
          refine norm_ (a' := ?_) ?_ ?_
          rotate_left
          · show Act.put _ (some 72) _ = _
            simp only [Act.put, List.setIfInBounds_toArray, List.set_cons_zero, List.set_cons_succ, i64_w, i32_w]
            rfl
          refine last_ (i := 16) (N := some 73) #[true, true, true, true, true, true, true, true, true, true, true, true, true, true, true, true, true, false, false] rfl rfl (by kernel_rfl) (by decide) (fun K hK => ?_)
          refine value_ (w1 := ?_) (v := ?_) (by rfl) rfl ?_ ?_
          rotate_left 2
          · go_simp
            constructor
            · rfl
            · rfl
          refine hK.out _ _ ?_
          clear hK K
          refine norm_ (a' := ?_) ?_ ?_
          rotate_left
          · show Act.put _ (some 73) _ = _
            simp only [Act.put, List.setIfInBounds_toArray, List.set_cons_zero, List.set_cons_succ, i64_w, i32_w]
            rfl
          refine last_ (i := 17) (N := some 74) #[true, true, true, true, true, true, true, true, true, true, true, true, true, true, true, true, true, true, false] rfl rfl (by kernel_rfl) (by decide) (fun K hK => ?_)
          refine Kd.R_append_step k50 (w0 := w5) w5.heap.size (by rfl) (.tmp 57) (.tmp 73) 47 50 (.agg #[.int .i64 0, .int .i64 0, .int .i64 0, .int .i64 0, .int .i64 0, .bool false, .slice none 0 0]) 72 rfl Try.underlying47 info50 rfl (by decide) (by omega) _ (rowB l0 st g (wrap64 (y + a2)) j) ⟨0, sv, wrap64 (y + a2), wv, g, false, []⟩ [.int .i64 0, .int .i64 sv, .int .i64 (wrap64 (y + a2)), .int .i64 wv, .int .i64 g, .bool false, .slice none 0 0] (fun _ => True) (fun _ => False) rfl rfl (k50_mkM _ _ _ _ (Kd.R_nil _ _ _ _ _)) (fun _ hk => hk.elim) (fun _ _ => trivial) HO4.out HB4.out HB4.out.size (by rw [rowB_length]; have := HJ.out; have := HXL.out; have := HW.out; omega) ?_
          intro v1 w27 ho hb hg hat
          have HO5 := Aside0.mk ho
          have HB5 := Aside0.mk hb
          clear ho hb hg hat
          refine hK.out _ _ ?_
          clear hK K
          refine norm_ (a' := ?_) ?_ ?_
          rotate_left
          · show Act.put _ (some 74) _ = _
            simp only [Act.put, List.setIfInBounds_toArray, List.set_cons_zero, List.set_cons_succ, i64_w, i32_w]
            rfl
          refine pure_ (i := 18) (N := some 19) (v := ?_) (a' := ?_) #[true, true, true, true, true, true, true, true, true, true, true, true, true, true, true, true, true, true, true] rfl rfl (by kernel_rfl) (fun _ _ _ h => h) (Or.inl ⟨by rfl, ?_⟩) ?_ ?_
          rotate_left
          · intro w' 
            go_simp
            with_reducible rfl
          rotate_left
          · simp only [Act.put, List.setIfInBounds_toArray, List.set_cons_zero, List.set_cons_succ, i64_w, i32_w]
            rfl
          refine done_ (by kernel_rfl) ?_
          go_wp2
          go_roundg k2
          case measure => omega
          case rel => exact ⟨j + 1, by first | rfl | simp [hsum3, hsum4], ⟨by have := HK2.out; omega⟩, ⟨by rw [rowB_succ, HPC.out]; exact HO5.out⟩, HB5⟩
end Go.Proofs.Ytclfimdafmoafaa.P
