import Derived.Test.YtpimlejbdpipfaaHBetween
import Derived.Laws.EntriesVeiled
set_option linter.unusedVariables false
set_option linter.unusedSimpArgs false
namespace Go.Proofs.Ytpimlejbdpipfaa.P
open Go.RowKit Go.Proofs.YtpimlejbdpipfaaW.PrintWords Go.Proofs.YtpimlejbdpipfaaW.PrintLast Go.Proofs.YtpimlejbdpipfaaW.PrintMore Go.Proofs.Ytpimlejbdpipfaa.Rng
attribute [local go_sem] Oper.semAt_some

def isC (n : Int) : Bool := decide (-1000000000 ≤ n) && decide (n ≤ 1000000000)
theorem isC_calls (n : Int) (w : World) : Calls Try.prog 22 #[.int .i64 n] w fun e w' => e = .returned (.bool (isC n)) ∧ w = w' := by
  unfold isC
  by_cases h1 : -1000000000 ≤ n
  · have h2 : decide (-1000000000 ≤ n) = true := by simpa using h1
    rw [h2, Bool.true_and]
    clear h1
    go_enter Try.func22, Try.ntmps22
    go_wp2
    go_ret
    exact ⟨rfl, rfl⟩
  · have h2 : decide (-1000000000 ≤ n) = false := by simpa using h1
    rw [h2, Bool.false_and]
    clear h1
    go_enter Try.func22, Try.ntmps22
    go_wp2
    go_ret
    exact ⟨rfl, rfl⟩
theorem end_calls (a b h y : Int) (w : World) : Calls Try.prog 24 #[.agg #[.int .i64 a, .int .i64 b, .int .i64 h, .int .i64 y]] w fun e w' => e = .returned (.int .i64 (wrap64 (y + h))) ∧ w' = w.alloc (.cells #[.int .i64 a, .int .i64 b, .int .i64 h, .int .i64 y] 50) := by
  go_enter Try.func24, Try.ntmps24
  go_wp2
  go_ret
  exact ⟨rfl, rfl⟩

theorem own_typed' {w : World} {base : Nat} {e t : TypeId} {size n : Nat} {v : Value} {xs : List Value} {cs : Array Value} {k : Nat} (h : w.ownsRow base e size v n xs) (hb : w.heap[k]? = some (.cells cs t (0, 0))) (hk : some k = v.ownBlock) : e = t := by
  obtain ⟨cells, hc⟩ := own_typed h k hk.symm
  rw [hc] at hb
  cases hb
  rfl
set_option maxRecDepth 100000 in
set_option maxHeartbeats 4000000 in
theorem note_calls (a b h y : Int) (Bf Bo base : Nat) (fits : Bool) (v : Value) (out : List Int) (w : World) (hlen : out.length ≤ 5000) (hf : Boxed w Bf 4 (.bool fits)) (ho : Boxed w Bo 24 v)
    (hrow : w.ownsRow base 3 1 v out.length (nums .i64 out)) (h1 : Bo < Bf) (h2 : Bf < base) (h3 : base ≤ w.heap.size) :
    Calls Try.prog 23 #[.agg #[.int .i64 a, .int .i64 b, .int .i64 h, .int .i64 y], .pointer (some ⟨Bf, 0, none⟩), .pointer (some ⟨Bo, 0, none⟩)] w fun e w' =>
      e = .returned (.int .i64 (wrap64 (y + h))) ∧ Boxed w' Bf 4 (.bool (fits && isC y && isC (wrap64 (y + h)))) ∧ (∃ v', Boxed w' Bo 24 v' ∧ w'.ownsRow base 3 1 v' (out ++ [y]).length (nums .i64 (out ++ [y]))) ∧ Below Bo w w' := by
  obtain ⟨i0, hi0, hz0, hz1, hz2⟩ := info_parts info3
  have HF := Aside0.mk hf
  have HO := Aside0.mk ho
  have HR := Aside0.mk hrow
  have hfc := hf.cell
  have hff := hf.frozen
  have hoc := ho.cell
  have hof := ho.frozen
  have hlo := hf.lt
  have hlo2 := ho.lt
  clear hf ho hrow
  have hnf : v.ownBlock ≠ some Bf := fun e => by have := own_base HR.out _ e; omega
  have hno : v.ownBlock ≠ some Bo := fun e => by have := own_base HR.out _ e; omega
  have HNF := Aside0.mk hnf
  have HNO := Aside0.mk hno
  clear hnf hno
  cases fits
  · go_enter Try.func23, Try.ntmps23
    go_upto_region 2 with (fail)
    obtain ⟨W1, hW1⟩ : ∃ W1, ((w.setCell { block := Bf, off := 0 } (Value.bool false)).alloc (Obj.cells #[Value.int IntKind.i64 a, Value.int IntKind.i64 b, Value.int IntKind.i64 h, Value.int IntKind.i64 y] 50)) = W1 := ⟨_, rfl⟩
    have bf1 := Aside0.mk (by rw [← hW1]; exact (HF.out.set _).alloc _ : Boxed W1 Bf 4 (.bool false))
    have bo1 : Boxed W1 Bo 24 v := by rw [← hW1]; exact (HO.out.other (by omega) _).alloc _
    have row1 := Aside0.mk (by rw [← hW1]; exact (HR.out.kept (grownBy_setCell' w Bf (.bool false)) (.inr HNF.out)).alloc _ : W1.ownsRow base 3 1 v out.length (nums .i64 out))
    have bl1 := Aside0.mk (by rw [← hW1]; exact ((Below.refl Bo w).setCell (p := ⟨Bf, 0, none⟩) (by show Bo ≤ Bf; omega) _).alloc (by simp; omega) _ : Below Bo w W1)
    have bp1 : W1.heap[w.heap.size]? = some (.cells #[.int .i64 a, .int .i64 b, .int .i64 h, .int .i64 y] 50 (0, 0)) := by rw [← hW1]; exact by have := blk_new (w.setCell ⟨Bf, 0, none⟩ (.bool false)) (Obj.cells #[Value.int IntKind.i64 a, Value.int IntKind.i64 b, Value.int IntKind.i64 h, Value.int IntKind.i64 y] 50); rwa [World.size_setCell] at this
    rw [hW1]
    clear hW1 hfc hff hoc hof 
    have hvc := bo1.cell
    have hvf := bo1.frozen
    have q0 : W1.cell? ⟨w.heap.size, 0, none⟩ = some (.int .i64 a) := (blk_cell bp1 0).trans rfl
    have q1 : W1.cell? ⟨w.heap.size, 1, none⟩ = some (.int .i64 b) := (blk_cell bp1 1).trans rfl
    have q2 : W1.cell? ⟨w.heap.size, 2, none⟩ = some (.int .i64 h) := (blk_cell bp1 2).trans rfl
    have q3 : W1.cell? ⟨w.heap.size, 3, none⟩ = some (.int .i64 y) := (blk_cell bp1 3).trans rfl
    have BO1 := Aside0.mk bo1
    have BP1 := Aside0.mk bp1
    clear bo1 bp1
    go_wp2_with (first
      | (at_builtin; refine wpList_append_own _ rfl _ _ 24 rfl base 3 i0 (.int .i64 0) 1 8 Try.underlying24 hi0 hz0 hz1 hz2 rfl (by decide) _ _ _ rfl (row1.out.alloc _) ⟨W1.heap.size, 0, none⟩ 1 1 [.int .i64 y] rfl rfl (cell_one_new _ _ _) (fun x hx => by simp at hx; subst hx; first | done | rfl) (by unfold maxLen; omega) (by omega) (by have := bl1.out.size; simp only [World.size_alloc]; omega) ?_; intro v' w1 hown hgrow _; obtain ⟨g', cap', rfl⟩ := ownsRow_succ hown; have bo2 := (BO1.out.alloc (Obj.cells #[Value.int IntKind.i64 y] 3)).kept hgrow (Ne.symm HNO.out); have bf2 := (bf1.out.alloc (Obj.cells #[Value.int IntKind.i64 y] 3)).kept hgrow (Ne.symm HNF.out); have bp2 := Aside0.mk (blk_grown (blk_alloc BP1.out (Obj.cells #[Value.int IntKind.i64 y] 3)) hgrow (fun e => by have := own_typed' row1.out BP1.out e; exact absurd this (by decide))); have hvc2 := bo2.cell; have hvf2 := bo2.frozen; have BO2 := Aside0.mk bo2; have BF2 := Aside0.mk bf2; have q0 : w1.cell? ⟨w.heap.size, 0, none⟩ = some (.int .i64 a) := (blk_cell bp2.out 0).trans rfl; have q1 : w1.cell? ⟨w.heap.size, 1, none⟩ = some (.int .i64 b) := (blk_cell bp2.out 1).trans rfl; have q2 : w1.cell? ⟨w.heap.size, 2, none⟩ = some (.int .i64 h) := (blk_cell bp2.out 2).trans rfl; have q3 : w1.cell? ⟨w.heap.size, 3, none⟩ = some (.int .i64 y) := (blk_cell bp2.out 3).trans rfl; have HOWN := Aside0.mk hown; have HGR := Aside0.mk hgrow; have hne9 : w.heap.size ≠ Bo := (by omega); have BELL := Aside0.mk (bl1.out.alloc (by have := bl1.out.size; omega) (Obj.cells #[Value.int IntKind.i64 y] 3)); clear bo2 bf2 hown hgrow)
      | (go_at_call 24; refine (end_calls _ _ _ _ _).mono ?_; rintro e w' ⟨rfl, rfl⟩))
    go_ret
    refine ⟨rfl, ?_, ?_, ?_⟩
    · exact (BF2.out.other (by omega) _).alloc _
    · exact ⟨_, (BO2.out.set _).alloc _, by simpa [nums] using (HOWN.out.kept (grownBy_setCell' w1 Bo _) (.inr (fun e => by have := own_base HOWN.out _ e; omega))).alloc _⟩
    · exact (((BELL.out.grown HGR.out (by have := BELL.out.size; omega) (fun k e => by have := own_base row1.out k e; omega)).setCell (p := ⟨Bo, 0, none⟩) (Nat.le_refl _) _).alloc (by have := BELL.out.size; have := HGR.out.size; simp; omega) _)
  · cases hy : isC y
    · have hcy : ∀ w, Calls Try.prog 22 #[.int .i64 y] w fun e w' => e = .returned (.bool false) ∧ w = w' := fun w => by rw [← hy]; exact isC_calls y w
      go_enter Try.func23, Try.ntmps23
      go_upto_region 2 with (first | (go_at_call 22; refine (hcy _).mono ?_; rintro e w' ⟨rfl, rfl⟩))
      obtain ⟨W1, hW1⟩ : ∃ W1, ((w.setCell { block := Bf, off := 0 } (Value.bool false)).alloc (Obj.cells #[Value.int IntKind.i64 a, Value.int IntKind.i64 b, Value.int IntKind.i64 h, Value.int IntKind.i64 y] 50)) = W1 := ⟨_, rfl⟩
      have bf1 := Aside0.mk (by rw [← hW1]; exact (HF.out.set _).alloc _ : Boxed W1 Bf 4 (.bool false))
      have bo1 : Boxed W1 Bo 24 v := by rw [← hW1]; exact (HO.out.other (by omega) _).alloc _
      have row1 := Aside0.mk (by rw [← hW1]; exact (HR.out.kept (grownBy_setCell' w Bf (.bool false)) (.inr HNF.out)).alloc _ : W1.ownsRow base 3 1 v out.length (nums .i64 out))
      have bl1 := Aside0.mk (by rw [← hW1]; exact ((Below.refl Bo w).setCell (p := ⟨Bf, 0, none⟩) (by show Bo ≤ Bf; omega) _).alloc (by simp; omega) _ : Below Bo w W1)
      have bp1 : W1.heap[w.heap.size]? = some (.cells #[.int .i64 a, .int .i64 b, .int .i64 h, .int .i64 y] 50 (0, 0)) := by rw [← hW1]; exact by have := blk_new (w.setCell ⟨Bf, 0, none⟩ (.bool false)) (Obj.cells #[Value.int IntKind.i64 a, Value.int IntKind.i64 b, Value.int IntKind.i64 h, Value.int IntKind.i64 y] 50); rwa [World.size_setCell] at this
      rw [hW1]
      clear hW1 hfc hff hoc hof hcy
      have hvc := bo1.cell
      have hvf := bo1.frozen
      have q0 : W1.cell? ⟨w.heap.size, 0, none⟩ = some (.int .i64 a) := (blk_cell bp1 0).trans rfl
      have q1 : W1.cell? ⟨w.heap.size, 1, none⟩ = some (.int .i64 b) := (blk_cell bp1 1).trans rfl
      have q2 : W1.cell? ⟨w.heap.size, 2, none⟩ = some (.int .i64 h) := (blk_cell bp1 2).trans rfl
      have q3 : W1.cell? ⟨w.heap.size, 3, none⟩ = some (.int .i64 y) := (blk_cell bp1 3).trans rfl
      have BO1 := Aside0.mk bo1
      have BP1 := Aside0.mk bp1
      clear bo1 bp1
      go_wp2_with (first
        | (at_builtin; refine wpList_append_own _ rfl _ _ 24 rfl base 3 i0 (.int .i64 0) 1 8 Try.underlying24 hi0 hz0 hz1 hz2 rfl (by decide) _ _ _ rfl (row1.out.alloc _) ⟨W1.heap.size, 0, none⟩ 1 1 [.int .i64 y] rfl rfl (cell_one_new _ _ _) (fun x hx => by simp at hx; subst hx; first | done | rfl) (by unfold maxLen; omega) (by omega) (by have := bl1.out.size; simp only [World.size_alloc]; omega) ?_; intro v' w1 hown hgrow _; obtain ⟨g', cap', rfl⟩ := ownsRow_succ hown; have bo2 := (BO1.out.alloc (Obj.cells #[Value.int IntKind.i64 y] 3)).kept hgrow (Ne.symm HNO.out); have bf2 := (bf1.out.alloc (Obj.cells #[Value.int IntKind.i64 y] 3)).kept hgrow (Ne.symm HNF.out); have bp2 := Aside0.mk (blk_grown (blk_alloc BP1.out (Obj.cells #[Value.int IntKind.i64 y] 3)) hgrow (fun e => by have := own_typed' row1.out BP1.out e; exact absurd this (by decide))); have hvc2 := bo2.cell; have hvf2 := bo2.frozen; have BO2 := Aside0.mk bo2; have BF2 := Aside0.mk bf2; have q0 : w1.cell? ⟨w.heap.size, 0, none⟩ = some (.int .i64 a) := (blk_cell bp2.out 0).trans rfl; have q1 : w1.cell? ⟨w.heap.size, 1, none⟩ = some (.int .i64 b) := (blk_cell bp2.out 1).trans rfl; have q2 : w1.cell? ⟨w.heap.size, 2, none⟩ = some (.int .i64 h) := (blk_cell bp2.out 2).trans rfl; have q3 : w1.cell? ⟨w.heap.size, 3, none⟩ = some (.int .i64 y) := (blk_cell bp2.out 3).trans rfl; have HOWN := Aside0.mk hown; have HGR := Aside0.mk hgrow; have hne9 : w.heap.size ≠ Bo := (by omega); have BELL := Aside0.mk (bl1.out.alloc (by have := bl1.out.size; omega) (Obj.cells #[Value.int IntKind.i64 y] 3)); clear bo2 bf2 hown hgrow)
        | (go_at_call 24; refine (end_calls _ _ _ _ _).mono ?_; rintro e w' ⟨rfl, rfl⟩))
      go_ret
      refine ⟨rfl, ?_, ?_, ?_⟩
      · exact (BF2.out.other (by omega) _).alloc _
      · exact ⟨_, (BO2.out.set _).alloc _, by simpa [nums] using (HOWN.out.kept (grownBy_setCell' w1 Bo _) (.inr (fun e => by have := own_base HOWN.out _ e; omega))).alloc _⟩
      · exact (((BELL.out.grown HGR.out (by have := BELL.out.size; omega) (fun k e => by have := own_base row1.out k e; omega)).setCell (p := ⟨Bo, 0, none⟩) (Nat.le_refl _) _).alloc (by have := BELL.out.size; have := HGR.out.size; simp; omega) _)
    · have hcy : ∀ w, Calls Try.prog 22 #[.int .i64 y] w fun e w' => e = .returned (.bool true) ∧ w = w' := fun w => by rw [← hy]; exact isC_calls y w
      go_enter Try.func23, Try.ntmps23
      go_upto_region 2 with (first | (go_at_call 22; refine (hcy _).mono ?_; rintro e w' ⟨rfl, rfl⟩) | (go_at_call 24; refine (end_calls _ _ _ _ _).mono ?_; rintro e w' ⟨rfl, rfl⟩) | (go_at_call 22; refine (isC_calls _ _).mono ?_; rintro e w' ⟨rfl, rfl⟩))
      obtain ⟨W1, hW1⟩ : ∃ W1, (((w.setCell { block := Bf, off := 0 } (Value.bool (isC (wrap64 (y + h))))).alloc (Obj.cells #[Value.int IntKind.i64 a, Value.int IntKind.i64 b, Value.int IntKind.i64 h, Value.int IntKind.i64 y] 50)).alloc (Obj.cells #[Value.int IntKind.i64 a, Value.int IntKind.i64 b, Value.int IntKind.i64 h, Value.int IntKind.i64 y] 50)) = W1 := ⟨_, rfl⟩
      have bf1 := Aside0.mk (by rw [← hW1]; exact ((HF.out.set _).alloc _).alloc _ : Boxed W1 Bf 4 (.bool (isC (wrap64 (y + h)))))
      have bo1 : Boxed W1 Bo 24 v := by rw [← hW1]; exact ((HO.out.other (by omega) _).alloc _).alloc _
      have row1 := Aside0.mk (by rw [← hW1]; exact ((HR.out.kept (grownBy_setCell' w Bf (.bool (isC (wrap64 (y + h))))) (.inr HNF.out)).alloc _).alloc _ : W1.ownsRow base 3 1 v out.length (nums .i64 out))
      have bl1 := Aside0.mk (by rw [← hW1]; exact (((Below.refl Bo w).setCell (p := ⟨Bf, 0, none⟩) (by show Bo ≤ Bf; omega) _).alloc (by simp; omega) _).alloc (by simp; omega) _ : Below Bo w W1)
      have bp1 : W1.heap[w.heap.size]? = some (.cells #[.int .i64 a, .int .i64 b, .int .i64 h, .int .i64 y] 50 (0, 0)) := by rw [← hW1]; exact blk_alloc (by have := blk_new (w.setCell ⟨Bf, 0, none⟩ (.bool (isC (wrap64 (y + h))))) (Obj.cells #[Value.int IntKind.i64 a, Value.int IntKind.i64 b, Value.int IntKind.i64 h, Value.int IntKind.i64 y] 50); rwa [World.size_setCell] at this) _
      rw [hW1]
      clear hW1 hfc hff hoc hof hcy
      have hvc := bo1.cell
      have hvf := bo1.frozen
      have q0 : W1.cell? ⟨w.heap.size, 0, none⟩ = some (.int .i64 a) := (blk_cell bp1 0).trans rfl
      have q1 : W1.cell? ⟨w.heap.size, 1, none⟩ = some (.int .i64 b) := (blk_cell bp1 1).trans rfl
      have q2 : W1.cell? ⟨w.heap.size, 2, none⟩ = some (.int .i64 h) := (blk_cell bp1 2).trans rfl
      have q3 : W1.cell? ⟨w.heap.size, 3, none⟩ = some (.int .i64 y) := (blk_cell bp1 3).trans rfl
      have BO1 := Aside0.mk bo1
      have BP1 := Aside0.mk bp1
      clear bo1 bp1
      go_wp2_with (first
        | (at_builtin; refine wpList_append_own _ rfl _ _ 24 rfl base 3 i0 (.int .i64 0) 1 8 Try.underlying24 hi0 hz0 hz1 hz2 rfl (by decide) _ _ _ rfl (row1.out.alloc _) ⟨W1.heap.size, 0, none⟩ 1 1 [.int .i64 y] rfl rfl (cell_one_new _ _ _) (fun x hx => by simp at hx; subst hx; first | done | rfl) (by unfold maxLen; omega) (by omega) (by have := bl1.out.size; simp only [World.size_alloc]; omega) ?_; intro v' w1 hown hgrow _; obtain ⟨g', cap', rfl⟩ := ownsRow_succ hown; have bo2 := (BO1.out.alloc (Obj.cells #[Value.int IntKind.i64 y] 3)).kept hgrow (Ne.symm HNO.out); have bf2 := (bf1.out.alloc (Obj.cells #[Value.int IntKind.i64 y] 3)).kept hgrow (Ne.symm HNF.out); have bp2 := Aside0.mk (blk_grown (blk_alloc BP1.out (Obj.cells #[Value.int IntKind.i64 y] 3)) hgrow (fun e => by have := own_typed' row1.out BP1.out e; exact absurd this (by decide))); have hvc2 := bo2.cell; have hvf2 := bo2.frozen; have BO2 := Aside0.mk bo2; have BF2 := Aside0.mk bf2; have q0 : w1.cell? ⟨w.heap.size, 0, none⟩ = some (.int .i64 a) := (blk_cell bp2.out 0).trans rfl; have q1 : w1.cell? ⟨w.heap.size, 1, none⟩ = some (.int .i64 b) := (blk_cell bp2.out 1).trans rfl; have q2 : w1.cell? ⟨w.heap.size, 2, none⟩ = some (.int .i64 h) := (blk_cell bp2.out 2).trans rfl; have q3 : w1.cell? ⟨w.heap.size, 3, none⟩ = some (.int .i64 y) := (blk_cell bp2.out 3).trans rfl; have HOWN := Aside0.mk hown; have HGR := Aside0.mk hgrow; have hne9 : w.heap.size ≠ Bo := (by omega); have BELL := Aside0.mk (bl1.out.alloc (by have := bl1.out.size; omega) (Obj.cells #[Value.int IntKind.i64 y] 3)); clear bo2 bf2 hown hgrow)
        | (go_at_call 24; refine (end_calls _ _ _ _ _).mono ?_; rintro e w' ⟨rfl, rfl⟩))
      go_ret
      refine ⟨rfl, ?_, ?_, ?_⟩
      · exact (BF2.out.other (by omega) _).alloc _
      · exact ⟨_, (BO2.out.set _).alloc _, by simpa [nums] using (HOWN.out.kept (grownBy_setCell' w1 Bo _) (.inr (fun e => by have := own_base HOWN.out _ e; omega))).alloc _⟩
      · exact (((BELL.out.grown HGR.out (by have := BELL.out.size; omega) (fun k e => by have := own_base row1.out k e; omega)).setCell (p := ⟨Bo, 0, none⟩) (Nat.le_refl _) _).alloc (by have := BELL.out.size; have := HGR.out.size; simp; omega) _)

/-- What Place has after i items: where they begin, where the last one ends, whether all fits. -/
def plc (start : Int) (g : List Int) (l : List S39) : Nat → List Int × Int × Bool
  | 0 => ([], start, true)
  | i + 1 => let s := plc start g l i
    let y := wrap64 (s.2.1 + rd g (i : Int))
    let e := wrap64 (y + (rd_T39 l (i : Int)).f2)
    (s.1 ++ [y], e, s.2.2 && isC y && isC e)
theorem plc_length (start : Int) (g : List Int) (l : List S39) : ∀ i, (plc start g l i).1.length = i
  | 0 => rfl
  | i + 1 => by simp [plc, plc_length start g l i]
def stack_Place.f (a0 : Int) (l1 : List S39) : Option (List Int × Int × Int) :=
  (margins_Between.f l1).bind fun t => if t.2 = 0 then (if isC a0 = true ∧ t.1.length = l1.length + 1 ∧ l1.length ≤ 4000 then
    (let p := plc a0 t.1 l1 l1.length
     let at_ := wrap64 (p.2.1 + rd t.1 (l1.length : Int))
     if p.2.2 = true ∧ isC at_ = true then some (p.1, at_, 0) else some ([], 0, 3)) else if isC a0 = true ∧ 4000 < l1.length then none else some ([], 0, 1)) else some ([], 0, t.2)

set_option maxRecDepth 100000 in
set_option maxHeartbeats 8000000 in
theorem stack_Place.calls (a0 : Int) (A1 : Option Addr) (c1 : Nat) (l1 : List S39) (r1 : List Int) (r2 r3 : Int) (w : World) (hr1 : Kd.C k39 w A1 l1.length l1) (hc1 : l1.length ≤ c1) (h : stack_Place.f a0 l1 = some (r1, r2, r3)) :
    Calls Try.prog 10 #[.int .i64 a0, .slice A1 l1.length c1] w fun e w' => ∃ v0_ : Value, e = .returned (.tuple #[v0_, .int .i64 r2, .int .i64 r3]) ∧ Kd.R (Kd.int .i64) 3 w' w.heap.size (fun _ => True) v0_ r1 ∧ Below w.heap.size w w' := by
  have HB := Aside0.mk (Below.refl w.heap.size w)
  have HR1 := Aside0.mk hr1
  have HC1 := Aside0.mk hc1
  clear hr1 hc1
  unfold stack_Place.f at h
  obtain ⟨⟨g, er⟩, hF, H⟩ := Option.bind_eq_some_iff.1 h
  have HF := Aside0.mk hF
  clear h hF
  have hmf : ∀ (fn : Fn) (first cap : Array Value) (w : World), (Instr.makeFunc fn first cap).run Try.prog w = .ok (.func fn first cap) w := fun _ _ _ _ => rfl
  by_cases he : er = 0
  · subst he
    have H2 := Aside0.mk H
    clear H
    cases hc : isC a0
    · have hca : ∀ w, Calls Try.prog 22 #[.int .i64 a0] w fun e w' => e = .returned (.bool false) ∧ w = w' := fun w => by rw [← hc]; exact isC_calls a0 w
      have H3 := H2.out
      simp only [hc, Bool.false_eq_true, false_and, if_false, if_true] at H3
      obtain ⟨rfl, rfl, rfl⟩ : [] = r1 ∧ 0 = r2 ∧ 1 = r3 := by simpa using H3
      clear H3 H2
      go_enter Try.func10, Try.ntmps10
      go_wp2_with (first | (go_at_call 21; refine (margins_Between.calls A1 c1 l1 g 0 _ HR1.out HC1.out HF.out).mono ?_; rintro e w1 ⟨v1, rfl, ho0, hb⟩; have HL := Aside0.mk ho0; have HB1 := Aside0.mk hb; clear ho0 hb; obtain ⟨A2, c2, e2⟩ := Kd.R_slice HL.out; subst e2) | (go_at_call 22; refine (hca _).mono ?_; rintro e w' ⟨rfl, rfl⟩))
      refine bodyPost_ret (results_tmp3 rfl _ _ _) rfl ?_
      exact ⟨.slice none 0 0, rfl, Kd.R_nil _ _ _ _ _, HB1.out⟩
    · have hca : ∀ w, Calls Try.prog 22 #[.int .i64 a0] w fun e w' => e = .returned (.bool true) ∧ w = w' := fun w => by rw [← hc]; exact isC_calls a0 w
      have H3 := H2.out
      simp only [hc, true_and, if_true] at H3
      by_cases hbig : 4000 < l1.length
      · rw [if_neg (by omega), if_pos hbig] at H3
        cases H3
      have hadd : wrap64 ((l1.length : Int) + 1) = ((l1.length + 1 : Nat) : Int) := by unfold wrap64; omega
      by_cases hgl : g.length = l1.length + 1
      rotate_left
      · rw [if_neg (by omega), if_neg hbig] at H3
        obtain ⟨rfl, rfl, rfl⟩ : [] = r1 ∧ 0 = r2 ∧ 1 = r3 := by simpa using H3
        clear H3 H2
        have hgb : ((g.length : Int) != wrap64 ((l1.length : Int) + 1)) = true := by rw [hadd]; simp; omega
        have hgb2 : ((g.length : Int) == wrap64 ((l1.length : Int) + 1)) = false := by rw [hadd]; simp; omega
        clear hgl hadd hbig
        go_enter Try.func10, Try.ntmps10
        go_wp2_with (first | (go_at_call 21; refine (margins_Between.calls A1 c1 l1 g 0 _ HR1.out HC1.out HF.out).mono ?_; rintro e w1 ⟨v1, rfl, ho0, hb⟩; have HL := Aside0.mk ho0; have HB1 := Aside0.mk hb; clear ho0 hb; obtain ⟨A2, c2, e2⟩ := Kd.R_slice HL.out; subst e2) | (go_at_call 22; refine (hca _).mono ?_; rintro e w' ⟨rfl, rfl⟩))
        refine bodyPost_ret (results_tmp3 rfl _ _ _) rfl ?_
        exact ⟨.slice none 0 0, rfl, Kd.R_nil _ _ _ _ _, HB1.out⟩
      rw [if_pos ⟨hgl, by omega⟩] at H3
      have HH := Aside0.mk H3
      clear H3 H2
      have hgb : ((g.length : Int) != wrap64 ((l1.length : Int) + 1)) = false := by rw [hadd]; simp; omega
      have hgb2 : ((g.length : Int) == wrap64 ((l1.length : Int) + 1)) = true := by rw [hadd]; simp; omega
      have HGL := Aside0.mk hgl
      have HBG := Aside0.mk hbig
      clear hgl hadd hbig
      go_enter Try.func10, Try.ntmps10
      go_upto_region 6 with (first | (go_at_call 21; refine (margins_Between.calls A1 c1 l1 g 0 _ HR1.out HC1.out HF.out).mono ?_; rintro e w1 ⟨v1, rfl, ho0, hb⟩; have HL := Aside0.mk ho0; have HB1 := Aside0.mk hb; clear ho0 hb; obtain ⟨A2, c2, e2⟩ := Kd.R_slice HL.out; subst e2) | (go_at_call 22; refine (hca _).mono ?_; rintro e w' ⟨rfl, rfl⟩))
      have hcg := Aside0.mk (Kd.R_reads' HL.out).2.2
      have hcl := Aside0.mk (Kd.C_below HR1.out HB1.out)
      clear hgb hgb2
      go_upto_region 10 with (fail)
      obtain ⟨W0, hW0⟩ : ∃ W0, ((w1.alloc (Obj.cells #[Value.slice none 0 0] 24)).alloc (Obj.cells #[Value.bool true] 4)) = W0 := ⟨_, rfl⟩
      have bo0 : Aside0 (Boxed W0 w1.heap.size 24 (.slice none 0 0)) := ⟨by rw [← hW0]; exact (Boxed.new w1 24 _).alloc _⟩
      have bf0 : Aside0 (Boxed W0 (w1.heap.size + 1) 4 (.bool true)) := ⟨by rw [← hW0]; have := Boxed.new (w1.alloc (Obj.cells #[Value.slice none 0 0] 24)) 4 (.bool true); rwa [World.size_alloc] at this⟩
      have bl0 : Aside0 (Below w1.heap.size w1 W0) := ⟨by rw [← hW0]; exact ((Below.refl _ w1).alloc (Nat.le_refl _) _).alloc (by simp) _⟩
      have sz0 : Aside0 (w1.heap.size + 2 ≤ W0.heap.size) := ⟨by rw [← hW0]; simp⟩
      rw [hW0]
      clear hW0 HR1 hmf hca
      go_wp2
      go_loopg [12, 40] l1.length (fun kq v12 v40 w' => ∃ j : Nat, v12 = .int .i64 (plc a0 g l1 j).2.1 ∧ v40 = .int .i64 (j : Int) ∧ Aside0 (kq + j = l1.length) ∧ Aside0 (Boxed w' (w1.heap.size + 1) 4 (.bool (plc a0 g l1 j).2.2)) ∧ Aside0 (∃ v, Boxed w' w1.heap.size 24 v ∧ w'.ownsRow (w1.heap.size + 2) 3 1 v (plc a0 g l1 j).1.length (nums .i64 (plc a0 g l1 j).1)) ∧ Aside0 (Below w1.heap.size w1 w') ∧ Aside0 (w1.heap.size + 2 ≤ w'.heap.size))
      case atStart => exact ⟨0, rfl, rfl, ⟨rfl⟩, bf0, ⟨_, bo0.out, own_nil _ _ _ _⟩, bl0, sz0⟩
      case round =>
        clear bo0 bf0 bl0 sz0
        obtain ⟨j, rfl, rfl, HK, HBF, HBO, HBL, HSZ⟩ := hrel
        cases gk with
        | zero =>
          have hjl : j = l1.length := by have := HK.out; omega
          subst hjl
          have c1b : decide ((l1.length : Int) < (l1.length : Int)) = false := by simp
          obtain ⟨v, hbo, hrow⟩ := HBO.out
          have p1 : 0 ≤ (l1.length : Int) := by omega
          have q2 : (l1.length : Int) < (g.length : Int) := by have := HGL.out; omega
          obtain ⟨ag, eag, hg0⟩ := Kd.at_int (Kd.C_below hcg.out HBL.out) (l1.length : Int) p1 q2
          cases eag
          obtain ⟨gj, hgj⟩ : ∃ x, rd g (l1.length : Int) = x := ⟨_, rfl⟩
          rw [hgj] at hg0
          simp only [Int.toNat_natCast] at hg0
          have c2b : decide ((l1.length : Int) < (g.length : Int)) = true := decide_eq_true q2
          replace p1 := eq_true p1
          replace q2 := eq_true q2
          have hoc := hbo.cell
          have hfc := HBF.out.cell
          have H3 := HH.out
          simp only [hgj] at H3
          obtain ⟨P, hP⟩ : ∃ P, plc a0 g l1 l1.length = P := ⟨_, rfl⟩
          rw [hP] at H3 hrow hfc ⊢
          have HROW := Aside0.mk hrow
          clear hrow hgj hbo
          obtain ⟨o, at0, fits⟩ := P
          simp only at H3 hfc ⊢
          cases fits
          · simp only [Bool.false_eq_true, false_and, if_false] at H3
            obtain ⟨rfl, rfl, rfl⟩ : [] = r1 ∧ 0 = r2 ∧ 3 = r3 := by simpa using H3
            clear H3
            go_wp2
            refine bodyPost_ret (results_tmp3 rfl _ _ _) rfl ?_
            exact ⟨.slice none 0 0, rfl, Kd.R_nil _ _ _ _ _, HB1.out.trans (HBL.out.mono HB1.out.size)⟩
          · cases hci : isC (wrap64 (at0 + gj))
            · have hcb : ∀ w, Calls Try.prog 22 #[.int .i64 (wrap64 (at0 + gj))] w fun e w' => e = .returned (.bool false) ∧ w = w' := fun w => by rw [← hci]; exact isC_calls _ w
              simp only [hci, Bool.false_eq_true, and_false, if_false] at H3
              obtain ⟨rfl, rfl, rfl⟩ : [] = r1 ∧ 0 = r2 ∧ 3 = r3 := by simpa using H3
              clear H3 hci
              go_wp2_with (first | (go_at_call 22; refine (hcb _).mono ?_; rintro e w' ⟨rfl, rfl⟩))
              refine bodyPost_ret (results_tmp3 rfl _ _ _) rfl ?_
              exact ⟨.slice none 0 0, rfl, Kd.R_nil _ _ _ _ _, HB1.out.trans (HBL.out.mono HB1.out.size)⟩
            · have hcb : ∀ w, Calls Try.prog 22 #[.int .i64 (wrap64 (at0 + gj))] w fun e w' => e = .returned (.bool true) ∧ w = w' := fun w => by rw [← hci]; exact isC_calls _ w
              simp only [hci, and_self, if_true] at H3
              obtain ⟨rfl, rfl, rfl⟩ : o = r1 ∧ wrap64 (at0 + gj) = r2 ∧ 0 = r3 := by simpa using H3
              clear H3 hci
              go_wp2_with (first | (go_at_call 22; refine (hcb _).mono ?_; rintro e w' ⟨rfl, rfl⟩))
              refine bodyPost_ret (results_tmp3 rfl _ _ _) rfl ?_
              exact ⟨_, rfl, Kd.R_lower (Kd.R_of_own HROW.out (fun _ _ => trivial)) (by have := HB1.out.size; omega), HB1.out.trans (HBL.out.mono HB1.out.size)⟩
        | succ k1 =>
          have hj : j < l1.length := by have := HK.out; omega
          have p1 : 0 ≤ (j : Int) := by omega
          have q1 : (j : Int) < (l1.length : Int) := by omega
          have c1b : decide ((j : Int) < (l1.length : Int)) = true := decide_eq_true q1
          have hsum : IntKind.i64.wrap ((j : Int) + 1) = ((j + 1 : Nat) : Int) := by have := HBG.out; exact IntWalk.i64_in _ (by omega)
          have hsum2 : wrap64 ((j : Int) + 1) = ((j + 1 : Nat) : Int) := by have := HBG.out; unfold wrap64; omega
          obtain ⟨ad, ead, hx0, hx1, hx2⟩ := at_T39 (Kd.C_below hcl.out HBL.out) (j : Int) p1 q1
          cases ead
          have q2 : (j : Int) < (g.length : Int) := by have := HGL.out; omega
          obtain ⟨ag, eag, hg0⟩ := Kd.at_int (Kd.C_below hcg.out HBL.out) (j : Int) p1 q2
          cases eag
          obtain ⟨x, hx⟩ : ∃ x, rd_T39 l1 (j : Int) = x := ⟨_, rfl⟩
          obtain ⟨gj, hgj⟩ : ∃ x, rd g (j : Int) = x := ⟨_, rfl⟩
          rw [hx] at hx0 hx1 hx2
          rw [hgj] at hg0
          simp only [Int.toNat_natCast] at hx0 hx1 hx2 hg0
          have HX := Aside0.mk hx
          have HGJ := Aside0.mk hgj
          have HG0 := Aside0.mk hg0
          clear hx hgj hg0
          have c2b : decide ((j : Int) < (g.length : Int)) = true := decide_eq_true q2
          have HJ := Aside0.mk hj
          clear hj
          replace p1 := eq_true p1
          replace q1 := eq_true q1
          replace q2 := eq_true q2
          go_upto_region 13 with (first | ((with_reducible refine gate_dst (N := 14) rfl ?_); refine box_event ?hg (N := 14) ?hd (cs := #[.int .i64 0, .int .i64 0, .int .i64 0]) (t := 39) ?hr ?_; (case hd => rfl); (case hg => rfl); (case hr => first | (go_simp; done) | (go_simp; rfl)); intro gb hg w2 hbox hb; have BX := Aside0.mk hbox; have HB2 := Aside0.mk hb; have HG := Aside0.mk hg; clear hbox hb hg; have hz0 : w2.cell? ⟨gb, 0, none⟩ = some (.int .i64 0) := (blk_cell BX.out 0).trans rfl; have hz1 : w2.cell? ⟨gb, 1, none⟩ = some (.int .i64 0) := (blk_cell BX.out 1).trans rfl; have hz2 : w2.cell? ⟨gb, 2, none⟩ = some (.int .i64 0) := (blk_cell BX.out 2).trans rfl; have hf0 := blk_frozen BX.out 0; have hf1 := blk_frozen BX.out 1; have hf2 := blk_frozen BX.out 2))
          obtain ⟨W3, hW3⟩ : ∃ W3, (((w2.setCell ⟨gb, 0, none⟩ (.int .i64 x.f0)).setCell ⟨gb, 1, none⟩ (.int .i64 x.f1)).setCell ⟨gb, 2, none⟩ (.int .i64 x.f2)) = W3 := ⟨_, rfl⟩
          have hgw := HG.out
          have hwr : w1.heap.size ≤ wr.heap.size := HBL.out.size
          have hbl0 : Below wr.heap.size wr W3 := by rw [← hW3]; exact ((HB2.out.setCell (p := ⟨gb, 0, none⟩) (by show wr.heap.size ≤ gb; omega) _).setCell (p := ⟨gb, 1, none⟩) (by show wr.heap.size ≤ gb; omega) _).setCell (p := ⟨gb, 2, none⟩) (by show wr.heap.size ≤ gb; omega) _
          have BB := Aside0.mk (by rw [← hW3]; exact blk_put (blk_put (blk_put BX.out 0 _ rfl) 1 _ rfl) 2 _ rfl : W3.heap[gb]? = some (.cells #[.int .i64 x.f0, .int .i64 x.f1, .int .i64 x.f2] 39 (0, 0)))
          obtain ⟨v, hbo, hrow⟩ := HBO.out
          have BO3 := Aside0.mk (hbx hbo hbl0)
          have BF3 := Aside0.mk (hbx HBF.out hbl0)
          have RW3 := Aside0.mk (pw_own_below hrow hbl0)
          have BL3 := Aside0.mk (HBL.out.trans (hbl0.mono hwr))
          have SZ3 : Aside0 (w1.heap.size + 2 ≤ W3.heap.size) := ⟨by have := HSZ.out; have := hbl0.size; omega⟩
          have GA3 : Aside0 (W3.cell? (ag.add j) = some (.int .i64 gj)) := ⟨(hbl0.cell (World.block_lt_of_cell? _ _ HG0.out)).trans HG0.out⟩
          rw [hW3]
          clear hW3 HBO HBF HBL HSZ BX HB2 hbl0 hz0 hz1 hz2 hf0 hf1 hf2 hgw hbo hrow hwr HG0 hx0 hx1 hx2
          refine start_ (n := 11) (S := fun w' => w'.cell? ⟨gb, 0, none⟩ = some (.int .i64 x.f0) ∧ w'.cell? ⟨gb, 1, none⟩ = some (.int .i64 x.f1) ∧ w'.cell? ⟨gb, 2, none⟩ = some (.int .i64 x.f2) ∧ w'.cell? (ag.add j) = some (.int .i64 gj)) (ds := [9]) #[false, false, false, false, false, false, false, false, false, false, false] (by kernel_rfl) rfl rfl ⟨(blk_cell BB.out 0).trans rfl, (blk_cell BB.out 1).trans rfl, (blk_cell BB.out 2).trans rfl, GA3.out⟩ (fun hHeld => ?_)
          have BF := Aside0.mk (show Boxed W3.drew (w1.heap.size + 1) 4 (.bool (plc a0 g l1 j).2.2) from BF3.out)
          have BO := Aside0.mk (show Boxed W3.drew w1.heap.size 24 v from BO3.out)
          have RW := Aside0.mk (show W3.drew.ownsRow (w1.heap.size + 2) 3 1 v (plc a0 g l1 j).1.length (nums .i64 (plc a0 g l1 j).1) from RW3.out)
          have BL := Aside0.mk (below_drew BL3.out)
          have SZ : Aside0 (w1.heap.size + 2 ≤ W3.drew.heap.size) := ⟨SZ3.out⟩
          have BX := Aside0.mk (blk_drew BB.out)
          have GA : Aside0 (W3.drew.cell? (ag.add j) = some (.int .i64 gj)) := ⟨GA3.out⟩
          clear BF3 BO3 RW3 BL3 SZ3 BB GA3
          generalize W3.drew = w25 at BF BO RW BL SZ BX GA hHeld ⊢
          refine pure_ (i := 0) (N := some 45) (v := ?_) (a' := ?_) #[true, false, false, false, false, false, false, false, false, false, false] rfl rfl (by kernel_rfl) (fun _ _ _ h => h) (Or.inl ⟨by rfl, ?_⟩) ?_ ?_
          rotate_left
          · intro w'
            go_simp
            with_reducible rfl
          rotate_left
          · simp only [Act.put, List.setIfInBounds_toArray, List.set_cons_zero, List.set_cons_succ, i64_w, i32_w]
            rfl
          refine pure_ (i := 2) (N := some 47) (v := ?_) (a' := ?_) #[true, false, true, false, false, false, false, false, false, false, false] rfl rfl (by kernel_rfl) (fun _ _ _ h => h) (Or.inl ⟨by rfl, ?_⟩) ?_ ?_
          rotate_left
          · intro w'
            go_simp
            with_reducible rfl
          rotate_left
          · simp only [Act.put, List.setIfInBounds_toArray, List.set_cons_zero, List.set_cons_succ, i64_w, i32_w]
            rfl
          refine pure_ (i := 3) (N := some 48) (v := ?_) (a' := ?_) #[true, false, true, true, false, false, false, false, false, false, false] rfl rfl (by kernel_rfl) (fun _ _ _ h => h) (Or.inl ⟨by rfl, ?_⟩) ?_ ?_
          rotate_left
          · intro w'
            go_simp
            with_reducible rfl
          rotate_left
          · simp only [Act.put, List.setIfInBounds_toArray, List.set_cons_zero, List.set_cons_succ, i64_w, i32_w]
            rfl
          refine pure_ (i := 4) (N := some 49) (v := ?_) (a' := ?_) #[true, false, true, true, true, false, false, false, false, false, false] rfl rfl (by kernel_rfl) (fun _ _ _ h => h) (Or.inl ⟨by rfl, ?_⟩) ?_ ?_
          rotate_left
          · intro w'
            go_simp
            with_reducible rfl
          rotate_left
          · simp only [Act.put, List.setIfInBounds_toArray, List.set_cons_zero, List.set_cons_succ, i64_w, i32_w]
            rfl
          refine take_ (i := 1) (N := some 46) (v := ?_) (a' := ?_) #[true, true, true, true, true, false, false, false, false, false, false] rfl rfl (by kernel_rfl) (fun _ _ _ h => h) (Or.inl ⟨by rfl, ?_⟩) hHeld ?_ ?_
          rotate_left
          · rintro w' ⟨s0, s1, s2, s3⟩
            go_simp
            with_reducible rfl
          rotate_left
          · simp only [Act.put, List.setIfInBounds_toArray, List.set_cons_zero, List.set_cons_succ, i64_w, i32_w]
            rfl
          refine pure_ (i := 5) (N := some 50) (v := ?_) (a' := ?_) #[true, true, true, true, true, true, false, false, false, false, false] rfl rfl (by kernel_rfl) (fun _ _ _ h => h) (Or.inl ⟨by rfl, ?_⟩) ?_ ?_
          rotate_left
          · intro w'
            go_simp
            with_reducible rfl
          rotate_left
          · simp only [Act.put, List.setIfInBounds_toArray, List.set_cons_zero, List.set_cons_succ, i64_w, i32_w]
            rfl
          refine take_ (i := 6) (N := some 51) (v := ?_) (a' := ?_) #[true, true, true, true, true, true, true, false, false, false, false] rfl rfl (by kernel_rfl) (fun _ _ _ h => h) (Or.inl ⟨by rfl, ?_⟩) hHeld ?_ ?_
          rotate_left
          · rintro w' ⟨s0, s1, s2, s3⟩
            go_simp
            with_reducible rfl
          rotate_left
          · simp only [Act.put, List.setIfInBounds_toArray, List.set_cons_zero, List.set_cons_succ, i64_w, i32_w]
            rfl
          refine pure_ (i := 7) (N := some 52) (v := ?_) (a' := ?_) #[true, true, true, true, true, true, true, true, false, false, false] rfl rfl (by kernel_rfl) (fun _ _ _ h => h) (Or.inl ⟨by rfl, ?_⟩) ?_ ?_
          rotate_left
          · intro w'
            go_simp
            with_reducible rfl
          rotate_left
          · simp only [Act.put, List.setIfInBounds_toArray, List.set_cons_zero, List.set_cons_succ, i64_w, i32_w]
            rfl
          refine pure_ (i := 8) (N := some 53) (v := ?_) (a' := ?_) #[true, true, true, true, true, true, true, true, true, false, false] rfl rfl (by kernel_rfl) (fun _ _ _ h => h) (Or.inl ⟨by rfl, ?_⟩) ?_ ?_
          rotate_left
          · intro w'
            go_simp
            with_reducible rfl
          rotate_left
          · simp only [Act.put, List.setIfInBounds_toArray, List.set_cons_zero, List.set_cons_succ, i64_w, i32_w]
            rfl
          refine last_ (i := 9) (N := some 54) #[true, true, true, true, true, true, true, true, true, true, false] rfl rfl (by kernel_rfl) (by decide) (fun K hK => ?_)
          refine call_ 23 #[.agg #[.int .i64 x.f0, .int .i64 x.f1, .int .i64 x.f2, .int .i64 (wrap64 ((plc a0 g l1 j).2.1 + gj))], .pointer (some ⟨w1.heap.size + 1, 0, none⟩), .pointer (some ⟨w1.heap.size, 0, none⟩)] (by rfl) rfl (by go_simp) ?_
          refine (note_calls x.f0 x.f1 x.f2 (wrap64 ((plc a0 g l1 j).2.1 + gj)) (w1.heap.size + 1) w1.heap.size (w1.heap.size + 2) _ v _ w25 (by rw [plc_length]; have := HJ.out; have := HBG.out; omega) BF.out BO.out RW.out (by omega) (by omega) SZ.out).mono ?_
          rintro e w26 ⟨rfl, hbf, ⟨v', hbo, hrow⟩, hbl⟩
          refine ⟨_, rfl, ?_⟩
          refine hK.out _ _ ?_
          clear hK K
          refine norm_ (a' := ?_) ?_ ?_
          rotate_left
          · show Act.put _ (some 54) _ = _
            simp only [Act.put, List.setIfInBounds_toArray, List.set_cons_zero, List.set_cons_succ, i64_w, i32_w]
            rfl
          refine pure_ (i := 10) (N := some 12) (v := ?_) (a' := ?_) #[true, true, true, true, true, true, true, true, true, true, true] rfl rfl (by kernel_rfl) (fun _ _ _ h => h) (Or.inl ⟨by rfl, ?_⟩) ?_ ?_
          rotate_left
          · intro w'
            go_simp
            with_reducible rfl
          rotate_left
          · simp only [Act.put, List.setIfInBounds_toArray, List.set_cons_zero, List.set_cons_succ, i64_w, i32_w]
            rfl
          refine done_ (by kernel_rfl) ?_
          go_wp2
          go_roundg k1
          case measure => omega
          case rel =>
            have hp : plc a0 g l1 (j + 1) = ((plc a0 g l1 j).1 ++ [wrap64 ((plc a0 g l1 j).2.1 + gj)], wrap64 (wrap64 ((plc a0 g l1 j).2.1 + gj) + x.f2), (plc a0 g l1 j).2.2 && isC (wrap64 ((plc a0 g l1 j).2.1 + gj)) && isC (wrap64 (wrap64 ((plc a0 g l1 j).2.1 + gj) + x.f2))) := by simp only [plc, HX.out, HGJ.out]
            refine ⟨j + 1, by rw [hp], by simp [hsum, hsum2], ⟨by have := HK.out; omega⟩, ⟨by rw [hp]; exact hbf⟩, ⟨v', hbo, by rw [hp]; exact hrow⟩, ⟨BL.out.trans hbl⟩, ⟨by have := SZ.out; have := hbl.size; omega⟩⟩
  · have H3 := H
    rw [if_neg he] at H3
    have he' : (er == 0) = false := by simpa using he
    have he2 : (er != 0) = true := by simpa using he
    obtain ⟨rfl, rfl, rfl⟩ : [] = r1 ∧ 0 = r2 ∧ er = r3 := by simpa using H3
    clear H3 H he
    go_enter Try.func10, Try.ntmps10
    go_wp2_with (first | (go_at_call 21; refine (margins_Between.calls A1 c1 l1 g er _ HR1.out HC1.out HF.out).mono ?_; rintro e w1 ⟨v1, rfl, ho0, hb⟩; have HL := Aside0.mk ho0; have HB1 := Aside0.mk hb; clear ho0 hb; obtain ⟨A2, c2, e2⟩ := Kd.R_slice HL.out; subst e2))
    refine bodyPost_ret (results_tmp3 rfl _ _ _) rfl ?_
    exact ⟨.slice none 0 0, rfl, Kd.R_nil _ _ _ _ _, HB1.out⟩
end Go.Proofs.Ytpimlejbdpipfaa.P
