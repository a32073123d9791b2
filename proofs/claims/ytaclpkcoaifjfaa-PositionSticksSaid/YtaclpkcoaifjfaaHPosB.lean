import Derived.Test.YtaclpkcoaifjfaaHPosA
set_option linter.unusedVariables false
set_option linter.unusedSimpArgs false
namespace Go.Proofs.Ytaclpkcoaifjfaa.P
open Go.RowKit Go.Proofs.YtaclpkcoaifjfaaW.PrintWords Go.Proofs.YtaclpkcoaifjfaaW.PrintLast Go.Proofs.YtaclpkcoaifjfaaW.PrintMore
attribute [local go_sem] Oper.semAt_some
theorem wpList_want {ops : Array Oper} {rest : List Oper} {o : Oper} {a : Act} {Q : Exit → Act → World → Prop} {w : World} (hw : Region.wanted o (yielded ops a.tmps) = true)
    (h : ∀ K : Act → World → Prop, (∀ a w, wpList Try.prog ops Q rest a w → K a w) → o.wp Try.prog a w K Q) : wpList Try.prog ops Q (o :: rest) a w :=
  wpList_step fun K hK => by rw [if_pos hw]; exact h K hK
theorem wp_loadG {ops : Array Oper} {rest : List Oper} {o : Oper} {a : Act} {Q : Exit → Act → World → Prop} {W : World} (hw : Region.wanted o (yielded ops a.tmps) = true) (T T' : TypeId) (hT : (Try.prog.underlying T = some (.array 33 3) ∧ (Try.prog.info? T).map (·.size) = some 33)) (x : Operand) (hop : o.op = .load T x) (b : Nat) (hx : a.eval x = .pointer (some ⟨b, 0, none⟩)) (s : Nat → Int)
    (hb : W.heap[b]? = some (.cells (cells s) T' (0, 0))) (h : wpList Try.prog ops Q rest (a.put o.dst (sv s)) W) : wpList Try.prog ops Q (o :: rest) a W :=
  wpList_want hw fun K hK => by
    unfold Oper.wp
    rw [show (execOp a.eval o).run Try.prog W = .ok (.value (sv s)) W by simp [execOp, hop, hx, load_run T T' hT s b W hb, Result.andThen]]
    exact hK _ _ h
theorem isLength_f (n : Int) : position_isLength.f n = some (lenP n) := by
  unfold position_isLength.f lenP
  by_cases h : 0 ≤ n
  · rw [if_pos h, decide_eq_true h]; rfl
  · rw [if_neg h, decide_eq_false h]; rfl
theorem isCoord_f (n : Int) : position_isCoord.f n = some (coordP n) := by
  unfold position_isCoord.f coordP
  by_cases h : -1000000000 ≤ n
  · rw [if_pos h, decide_eq_true h]; rfl
  · rw [if_neg h, decide_eq_false h]; rfl
theorem rsize_f (n : Int) : formeref22_size.f n = some (sizeP n) := by
  unfold formeref22_size.f sizeP
  by_cases h : n ≥ 0
  · rw [if_pos h, decide_eq_true (show 0 ≤ n from h)]; rfl
  · rw [if_neg h, decide_eq_false (show ¬ 0 ≤ n from h)]; rfl
theorem rlen_f (n : Int) : formeref22_Length.f n = some (lenP n) := by
  unfold formeref22_Length.f lenP
  by_cases h : n ≥ 0
  · rw [if_pos h, decide_eq_true (show 0 ≤ n from h)]; rfl
  · rw [if_neg h, decide_eq_false (show ¬ 0 ≤ n from h)]; rfl
theorem rcoord_f (n : Int) : formeref22_Coord.f n = some (coordP n) := by
  unfold formeref22_Coord.f coordP
  by_cases h : n ≥ -1000000000
  · rw [if_pos h, decide_eq_true (show -1000000000 ≤ n from h)]; rfl
  · rw [if_neg h, decide_eq_false (show ¬ -1000000000 ≤ n from h)]; rfl
theorem lenC (n : Int) (b : Bool) (h : lenP n = b) (w : World) : Calls Try.prog 21 #[.int .i64 n] w fun e w' => e = .returned (.bool b) ∧ Drawn0 w w' := position_isLength.calls n b w (by rw [isLength_f, h])
theorem coordC (n : Int) (b : Bool) (h : coordP n = b) (w : World) : Calls Try.prog 25 #[.int .i64 n] w fun e w' => e = .returned (.bool b) ∧ Drawn0 w w' := position_isCoord.calls n b w (by rw [isCoord_f, h])
theorem rsizeC (n : Int) (b : Bool) (h : sizeP n = b) (w : World) : Calls Try.prog 27 #[.int .i64 n] w fun e w' => e = .returned (.bool b) ∧ Drawn0 w w' := formeref22_size.calls n b w (by rw [rsize_f, h])
theorem rlenC (n : Int) (b : Bool) (h : lenP n = b) (w : World) : Calls Try.prog 23 #[.int .i64 n] w fun e w' => e = .returned (.bool b) ∧ Drawn0 w w' := formeref22_Length.calls n b w (by rw [rlen_f, h])
theorem rcoordC (n : Int) (b : Bool) (h : coordP n = b) (w : World) : Calls Try.prog 26 #[.int .i64 n] w fun e w' => e = .returned (.bool b) ∧ Drawn0 w w' := formeref22_Coord.calls n b w (by rw [rcoord_f, h])
def rightP (s : Nat → Int) : Bool := (sizeP (s 4) && sizeP (s 5) && sizeP (s 6) && sizeP (s 3)) && (offP (s 18) && offP (s 19))
set_option maxRecDepth 100000 in
set_option maxHeartbeats 8000000 in
theorem right_calls (s : Nat → Int) (w : World) : Calls Try.prog 20 #[sv s] w fun e w' => e = .returned (.bool (rightP s)) ∧ Below w.heap.size w w' := by
  have hmf : ∀ (fn : Fn) (first cap : Array Value) (w : World), (Instr.makeFunc fn first cap).run Try.prog w = .ok (.func fn first cap) w := fun _ _ _ _ => rfl
  have hs := allS_calls s
  have ho := allO_calls s
  unfold rightP
  obtain ⟨r1, hr1⟩ : ∃ r, (sizeP (s 4) && sizeP (s 5) && sizeP (s 6) && sizeP (s 3)) = r := ⟨_, rfl⟩
  obtain ⟨r2, hr2⟩ : ∃ r, (offP (s 18) && offP (s 19)) = r := ⟨_, rfl⟩
  rw [hr1] at hs ⊢
  rw [hr2] at ho ⊢
  have HS2 := Aside0.mk hs
  have HO2 := Aside0.mk ho
  clear ho hr2 hs hr1
  cases r1 <;> cases r2 <;>
  · go_enter Try.func20, Try.ntmps20
    go_wp2_with (first | ((with_reducible refine gate_dst (N := 1) rfl ?_); refine wp_box rfl (N := 1) rfl 45 _ rfl s rfl ?_; intro gb hg w1 hbox hb; have BX := Aside0.mk hbox; have HB := Aside0.mk hb; clear hbox hb; clear hg) | ((with_reducible refine gate_dst (N := 5) rfl ?_); refine wp_load rfl 45 _ u45 _ rfl _ rfl s BX.out ?_) | ((with_reducible refine gate_dst (N := 11) rfl ?_); refine wp_loadG (by rfl) 45 _ u45 _ rfl _ rfl s BX.out ?_) | ((with_reducible refine gate_dst (N := 7) rfl ?_); refine Kd.R_lit (Kd.int .i64) _ 3 ?hg (N := 7) ?hd (xs := ([4, 5, 6, 3] : List Int)) (inner := [.int .i64 4, .int .i64 5, .int .i64 6, .int .i64 3]) (ok := fun _ => True) (okp := fun _ => True) ?hr ?hp (fun _ hk => hk) trivial (Below.refl _ _) (Nat.le_refl _) (by simp) ?_; (case hd => rfl); (case hg => rfl); (case hr => first | (go_simp; done) | (go_simp; rfl)); (case hp => exact (Reps.one (show Kd.M (Kd.int .i64) _ _ _ (4 : Int) [.int .i64 4] from rfl) (Reps.one (show Kd.M (Kd.int .i64) _ _ _ (5 : Int) [.int .i64 5] from rfl) (Reps.one (show Kd.M (Kd.int .i64) _ _ _ (6 : Int) [.int .i64 6] from rfl) (Reps.one (show Kd.M (Kd.int .i64) _ _ _ (3 : Int) [.int .i64 3] from rfl) (Reps.none _ _)))))); intro v7 w7 ho hb hg _; have HO7 := Aside0.mk ho; have BX := Aside0.mk (blk_below BX.out hb); have HB := Aside0.mk (HB.out.trans (hb.mono HB.out.size)); clear ho hb hg; obtain ⟨A7, c7, e7⟩ := Kd.R_slice HO7.out; subst e7) | ((with_reducible refine gate_dst (N := 13) rfl ?_); refine wpList_step fun K hK => ?_; refine Kd.R_lit_step (Kd.int .i64) _ 3 (by rfl) (N := 13) ?hd (xs := ([18, 19] : List Int)) (inner := [.int .i64 18, .int .i64 19]) (ok := fun _ => True) (okp := fun _ => True) ?hr ?hp (fun _ hk => hk) trivial (Below.refl _ _) (Nat.le_refl _) (by simp) ?_; (case hd => rfl); (case hr => first | (go_simp; done) | (go_simp; rfl)); (case hp => exact (Reps.one (show Kd.M (Kd.int .i64) _ _ _ (18 : Int) [.int .i64 18] from rfl) (Reps.one (show Kd.M (Kd.int .i64) _ _ _ (19 : Int) [.int .i64 19] from rfl) (Reps.none _ _)))); intro v13 w13 ho hb hg _; have HO13 := Aside0.mk ho; have BX := Aside0.mk (blk_below BX.out hb); have HB := Aside0.mk (HB.out.trans (hb.mono HB.out.size)); clear ho hb hg; obtain ⟨A13, c13, e13⟩ := Kd.R_slice HO13.out; subst e13; refine hK _ _ ?_; clear hK) | (go_at_call 28; with_reducible refine (HS2.out _ _ _ (Kd.R_reads' HO7.out).2.2).mono ?_; rintro e wc ⟨rfl, hb⟩; have BX := Aside0.mk (blk_below BX.out hb); have HB := Aside0.mk (HB.out.trans (hb.mono HB.out.size)); clear hb) | (go_at_call 28; with_reducible refine (HO2.out _ _ _ (Kd.R_reads' HO13.out).2.2).mono ?_; rintro e wc ⟨rfl, hb⟩; have BX := Aside0.mk (blk_below BX.out hb); have HB := Aside0.mk (HB.out.trans (hb.mono HB.out.size)); clear hb))
    go_ret
    exact ⟨by first | rfl | simp, HB.out⟩
end Go.Proofs.Ytaclpkcoaifjfaa.P
