import Derived.Test.YtaclpkcoaifjfaaHPosD
set_option linter.unusedVariables false
set_option linter.unusedSimpArgs false
namespace Go.Proofs.Ytaclpkcoaifjfaa.P
open Go.RowKit Go.Proofs.YtaclpkcoaifjfaaW.PrintWords Go.Proofs.YtaclpkcoaifjfaaW.PrintLast Go.Proofs.YtaclpkcoaifjfaaW.PrintMore
attribute [local go_sem] Oper.semAt_some
theorem iz23 : (Try.prog.info? 23).map (fun i => i.zero) = some (some (sv (fun _ => 0))) := by kernel_rfl
theorem alloc_run (w : World) : (Instr.alloc 23 true (.tuple #[])).run Try.prog w = .ok (.pointer (some ⟨w.heap.size, 0, none⟩)) (w.alloc (.cells (cells fun _ => 0) 23 (0, 0))) := by
  obtain ⟨i, hi⟩ : ∃ i, Try.prog.info? 23 = some i := by
    cases h : Try.prog.info? 23 with
    | none => have := iz23; rw [h] at this; cases this
    | some i => exact ⟨i, rfl⟩
  have h1 := iz23
  rw [hi] at h1
  have hz : i.zero = some (sv (fun _ => 0)) := by simpa using h1
  simp [Instr.alloc, zeroValue, typeInfo, hi, hz, newVar, newRow, sv, Value.cells, newObj, Sem.run]
theorem wp_alloc {ops : Array Oper} {rest : List Oper} {o : Oper} {a : Act} {Q : Exit → Act → World → Prop} {W : World} (hgd : o.guard = none) {N : Tmp} (hd : o.dst = some N) (hop : o.op = .alloc 23)
    (h : ∀ g, g = W.heap.size → ∀ w1, w1.heap[g]? = some (.cells (cells fun _ => 0) 23 (0, 0)) → Below W.heap.size W w1 → wpList Try.prog ops Q rest (a.put o.dst (.pointer (some ⟨g, 0, none⟩))) w1) : wpList Try.prog ops Q (o :: rest) a W :=
  box_event hgd hd (by simp [execOp, hop, alloc_run, Result.andThen]) h
theorem wp_store {ops : Array Oper} {rest : List Oper} {o : Oper} {a : Act} {Q : Exit → Act → World → Prop} {W : World} (hgd : o.guard = none) (x y : Operand) (hop : o.op = .store 23 x y) (b : Nat) (hx : a.eval x = .pointer (some ⟨b, 0, none⟩)) (s s0 : Nat → Int) (hy : a.eval y = sv s)
    (hb : W.heap[b]? = some (.cells (cells s0) 23 (0, 0))) (h : ∀ w1, w1 = W.setRow b (cells s) → wpList Try.prog ops Q rest (a.put o.dst undef) w1) : wpList Try.prog ops Q (o :: rest) a W := by
  refine wpList_plain hgd fun K hK => ?_
  unfold Oper.wp
  have hr : (Instr.storeAt 23 (.pointer (some ⟨b, 0, none⟩)) (sv s)).run Try.prog W = .ok () (W.setRow b (cells s)) := by
    simp only [Instr.storeAt, Instr.sureAddr, Sem.run_bind, Sem.run_pure, Result.andThen]
    exact run_storeVar_row W b 23 23 (cells s0) (cells s) hb (by rw [u23.2]; simp [cells, cellsL]) (by simp [cells, cellsL]) (by simp [cells, cellsL, Value.oneCell'])
  rw [show (execOp a.eval o).run Try.prog W = .ok .skip (W.setRow b (cells s)) by simp [execOp, hop, hx, hy, hr, Result.andThen]]
  exact hK _ _ (h _ rfl)
theorem results_c23 {fn : Func} {p : Tmp} (h : fn.results = #[.cell p 23]) (tmps : Array Value) (w : World) (g : Nat) (t : TypeId) (s : Nat → Int)
    (hp : tmps.getD p undef = .pointer (some ⟨g, 0, none⟩)) (hg : w.heap[g]? = some (.cells (cells s) t (0, 0))) : (results fn tmps).run Try.prog w = .ok (sv s) w := by
  have hp' : tmps[p]?.getD undef = .pointer (some ⟨g, 0, none⟩) := by simpa using hp
  have hl := run_loadVar_row (P := Try.prog) w g t 23 (cells s) (0, 0) _ hg u23.1 rfl (by rw [u23.2]; simp [cells, cellsL])
  simp [results, h, hp', asAddr, hl, sv]
theorem setRow_grown (w : World) (g : Nat) (cs : Array Value) : w.grownBy (w.setRow g cs) (some g) :=
  ⟨rfl, rfl, rfl, by simp [World.setRow], fun i hi hne => setRow_other w g i cs (by simpa using hne)⟩
def upd (s : Nat → Int) (k : Nat) (v : Int) : Nat → Int := fun i => if i = k then v else s i
theorem cells_set (s : Nat → Int) (k : Nat) (v : Int) : (cells s).setIfInBounds k (.int .i64 v) = cells (upd s k v) := by
  apply Array.ext_getElem?
  intro i
  by_cases hi : i < 33
  · rw [cells_get _ i hi]
    by_cases e : k = i
    · subst e; simp [upd, cells, cellsL, hi]
    · rw [Array.getElem?_setIfInBounds_ne e, cells_get _ i hi]
      simp [upd, Ne.symm e]
  · simp [cells, cellsL, hi]
theorem blk_upd {w : World} {g : Nat} {s : Nat → Int} (h : w.heap[g]? = some (.cells (cells s) 23 (0, 0))) (k : Nat) (v : Int) : (w.setCell ⟨g, k, none⟩ (.int .i64 v)).heap[g]? = some (.cells (cells (upd s k v)) 23 (0, 0)) := blk_put h k _ (cells_set s k v)
def styleV (w low high pad left top : Int) : Nat → Int := upd (upd (upd (upd (upd (upd (fun _ => 0) 4 w) 5 low) 6 high) 3 pad) 19 left) 18 top
set_option maxRecDepth 100000 in
set_option maxHeartbeats 8000000 in
theorem style_calls (a b c d e f : Int) (w : World) : Calls Try.prog 19 #[.int .i64 a, .int .i64 b, .int .i64 c, .int .i64 d, .int .i64 e, .int .i64 f] w fun e_ w' => e_ = .returned (sv (styleV a b c d e f)) ∧ Below w.heap.size w w' := by
  go_enter Try.func19, Try.ntmps19
  go_upto_region 3 with (first | ((with_reducible refine gate_dst (N := 12) rfl ?_); refine wp_alloc rfl (N := 12) rfl rfl ?_; intro g1 hg w1 hbox hb; have BX := Aside0.mk hbox; have HB := Aside0.mk hb; have HG := Aside0.mk (Nat.le_of_eq hg.symm); clear hbox hb hg) | ((with_reducible refine gate_dst (N := 13) rfl ?_); refine wp_alloc rfl (N := 13) rfl rfl ?_; intro g2 hg w2 hbox hb; have hlt := blk_lt BX.out; have HNE : Aside0 (g1 ≠ g2) := ⟨by omega⟩; have BY := Aside0.mk hbox; have BX := Aside0.mk (blk_below BX.out hb); have HG2 : Aside0 (w.heap.size ≤ g2) := ⟨by have := HB.out.size; omega⟩; have HB := Aside0.mk (HB.out.trans (hb.mono HB.out.size)); have hc3 := cell_at BY.out 3 (by omega); have hf3 := blk_frozen BY.out 3; have hc4 := cell_at BY.out 4 (by omega); have hf4 := blk_frozen BY.out 4; have hc5 := cell_at BY.out 5 (by omega); have hf5 := blk_frozen BY.out 5; have hc6 := cell_at BY.out 6 (by omega); have hf6 := blk_frozen BY.out 6; have hc18 := cell_at BY.out 18 (by omega); have hf18 := blk_frozen BY.out 18; have hc19 := cell_at BY.out 19 (by omega); have hf19 := blk_frozen BY.out 19;  clear hbox hb hg hlt))
  obtain ⟨W, hW⟩ : ∃ W, ((((((w2.setCell ⟨g2, 4, none⟩ (.int .i64 a)).setCell ⟨g2, 5, none⟩ (.int .i64 b)).setCell ⟨g2, 6, none⟩ (.int .i64 c)).setCell ⟨g2, 3, none⟩ (.int .i64 d)).setCell ⟨g2, 19, none⟩ (.int .i64 e)).setCell ⟨g2, 18, none⟩ (.int .i64 f)) = W := ⟨_, rfl⟩
  have BY2 : Aside0 (W.heap[g2]? = some (.cells (cells (styleV a b c d e f)) 23 (0, 0))) := ⟨by rw [← hW]; exact (blk_upd (blk_upd (blk_upd (blk_upd (blk_upd (blk_upd BY.out 4 _) 5 _) 6 _) 3 _) 19 _) 18 _)⟩
  have BX2 : Aside0 (W.heap[g1]? = some (.cells (cells fun _ => 0) 23 (0, 0))) := ⟨by rw [← hW]; exact (blk_far (p := ⟨g2, 18, none⟩) (blk_far (p := ⟨g2, 19, none⟩) (blk_far (p := ⟨g2, 3, none⟩) (blk_far (p := ⟨g2, 6, none⟩) (blk_far (p := ⟨g2, 5, none⟩) (blk_far (p := ⟨g2, 4, none⟩) BX.out HNE.out _) HNE.out _) HNE.out _) HNE.out _) HNE.out _) HNE.out _)⟩
  have HB2 : Aside0 (Below w.heap.size w W) := ⟨by rw [← hW]; exact ((((((HB.out.setCell (p := ⟨g2, 4, none⟩) HG2.out _).setCell (p := ⟨g2, 5, none⟩) HG2.out _).setCell (p := ⟨g2, 6, none⟩) HG2.out _).setCell (p := ⟨g2, 3, none⟩) HG2.out _).setCell (p := ⟨g2, 19, none⟩) HG2.out _).setCell (p := ⟨g2, 18, none⟩) HG2.out _)⟩
  rw [hW]
  clear hW BY BX HB hc3 hc4 hc5 hc6 hc18 hc19 hf3 hf4 hf5 hf6 hf18 hf19
  go_wp2_with (first | ((with_reducible refine gate_dst (N := 26) rfl ?_); refine wp_load rfl 23 _ u23 _ rfl _ rfl (styleV a b c d e f) BY2.out ?_) | (refine wp_store rfl _ _ rfl _ rfl (styleV a b c d e f) _ rfl BX2.out ?_; intro w5 hw5; have BZ := Aside0.mk (by rw [hw5]; exact setRow_heap W g1 _ (cells (styleV a b c d e f)) 23 (0, 0) BX2.out : w5.heap[g1]? = some (.cells (cells (styleV a b c d e f)) 23 (0, 0))); have HB5 := Aside0.mk (by rw [hw5]; exact HB2.out.grown (setRow_grown W g1 _) HB2.out.size (fun k e => by cases e; exact HG.out) : Below w.heap.size w w5); clear hw5))
  refine bodyPost_ret (results_c23 rfl _ _ g1 23 (styleV a b c d e f) rfl BZ.out) rfl ?_
  exact ⟨rfl, HB5.out⟩
end Go.Proofs.Ytaclpkcoaifjfaa.P
