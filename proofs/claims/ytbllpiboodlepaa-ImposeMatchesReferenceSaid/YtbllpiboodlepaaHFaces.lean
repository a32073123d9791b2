import Derived.Test.YtbllpiboodlepaaHSheets
set_option linter.unusedVariables false
set_option linter.unusedSimpArgs false
namespace Go.Proofs.Ytbllpiboodlepaa.P
open Go.RowKit Go.Proofs.YtbllpiboodlepaaW.PrintWords Go.Proofs.YtbllpiboodlepaaW.PrintLast Go.Proofs.YtbllpiboodlepaaW.PrintMore Go.Proofs.Ytbllpiboodlepaa.Rng
attribute [local go_sem] Oper.semAt_some

theorem reps_flat {α : Type} {R : α → List Value → Prop} {size : Nat} (f : α → List Value) (hf : ∀ p, (f p).length = size ∧ R p (f p)) : ∀ (ps qs : List α), Reps R size qs (qs.flatMap f) → Reps R size (qs ++ ps) ((qs ++ ps).flatMap f)
  | [], qs, h => by simpa using h
  | p :: ps, qs, h => by
    have h1 := Reps.snoc h (hf p).2 (hf p).1
    have h2 := reps_flat f hf ps (qs ++ [p]) (by simpa using h1)
    simpa using h2
def cells29 (x : S29) : List Value := [.int .i64 x.f0, .bool x.f1, .int .i64 x.f2, .int .i64 x.f3]
theorem R29_of {W : World} {base : Nat} {v : Value} {xs : List S29} (h : W.ownsRow base 29 4 v xs.length (xs.flatMap cells29)) : Kd.R k29 29 W base (fun _ => True) v xs := by
  refine ⟨fun _ _ => trivial, xs.flatMap cells29, h, ?_⟩
  have := reps_flat (size := k29.sz) (R := k29.M W base (fun k => True ∧ some k ≠ v.ownBlock)) cells29 (fun p => ⟨(rfl : (cells29 p).length = k29.sz), k29_mkM W base _ p⟩) xs [] (Reps.none _ _)
  simpa using this

/-- The faces of the first m sheets. -/
def flat (l : List (S29 × S29)) : List S29 := l.flatMap fun x => [x.1, x.2]
def impose_Faces.f (n : Int) : Option (List S29 × Int) :=
  if n < 0 ∨ 500 < n then some ([], 1) else some (flat (pairs n ((n + 3) / 4) ((n + 3) / 4).toNat), 0)

theorem flat_snoc (l : List (S29 × S29)) (x : S29 × S29) : flat (l ++ [x]) = flat l ++ [x.1, x.2] := by simp [flat]
theorem pairs_length (n K : Int) (m : Nat) : (pairs n K m).length = m := by simp [pairs]
theorem flat_length (l : List (S29 × S29)) : (flat l).length = 2 * l.length := by
  induction l with
  | nil => rfl
  | cons x l ih => rw [show flat (x :: l) = [x.1, x.2] ++ flat l from by simp [flat], List.length_append, ih, List.length_cons, List.length_cons, List.length_cons, List.length_nil]; omega
theorem _root_.Go.Boxed.of_below' {W W' : World} {B : Nat} {t : TypeId} {v : Value} (h : Boxed W B t v) (hb : Below W.heap.size W W') : Boxed W' B t v := (hb.block _ h.lt).trans h

set_option maxRecDepth 100000 in
set_option maxHeartbeats 4000000 in
theorem impose_Faces.calls (a0 : Int) (r1 : List S29) (r2 : Int) (w : World) (h : impose_Faces.f a0 = some (r1, r2)) :
    Calls Try.prog 11 #[.int .i64 a0] w fun e w' => ∃ v0_ : Value, e = .returned (.tuple #[v0_, .int .i64 r2]) ∧ Kd.R k29 29 w' w.heap.size (fun _ => True) v0_ r1 ∧ Below w.heap.size w w' := by
  unfold impose_Faces.f at h
  have HB0 := Aside0.mk (Below.refl w.heap.size w)
  refine (callsIn_wide (n := 3)).1 ?_
  refine callsIn_of_wp_marks Try.func11 rfl trivial ?_ rfl
  simp only [Try.ntmps11, List.size_toArray, List.length_cons, List.length_nil, Nat.reduceAdd, Nat.reduceSub, Array.replicate_succ, Array.replicate_zero, List.push_toArray, List.append_toArray, List.nil_append, List.cons_append]
  by_cases h0 : a0 < 0
  · rw [if_pos (.inl h0)] at h
    obtain ⟨rfl, rfl⟩ : [] = r1 ∧ 1 = r2 := by simpa using h
    have h0' : decide (a0 < 0) = true := by simpa using h0
    gi_wp2
    exact ⟨_, results_tmp2 rfl _ _ _, .slice none 0 0, rfl, Kd.R_nil _ _ _ _ _, HB0.out⟩
  · by_cases h1 : 500 < a0
    · rw [if_pos (.inr h1)] at h
      obtain ⟨rfl, rfl⟩ : [] = r1 ∧ 1 = r2 := by simpa using h
      have h0' : decide (a0 < 0) = false := by simpa using h0
      have h1' : decide (500 < a0) = true := by simpa using h1
      gi_wp2
      exact ⟨_, results_tmp2 rfl _ _ _, .slice none 0 0, rfl, Kd.R_nil _ _ _ _ _, HB0.out⟩
    · rw [if_neg (by omega)] at h
      have H := Aside0.mk h
      clear h
      have h0' : decide (a0 < 0) = false := by simpa using h0
      have h1' : decide (500 < a0) = false := by simpa using h1
      gi_wp2_with (refine ⟨trivial, ?_⟩; gi_at_call 21; refine (callsIn_wide.2 (sheets_calls _ _)).mono ?_; rintro e w' ⟨rfl, rfl⟩)
      obtain ⟨K, hK⟩ : ∃ K : Nat, (a0 + 3) / 4 = (K : Int) := ⟨((a0 + 3) / 4).toNat, by omega⟩
      have HH := H.out
      rw [hK, Int.toNat_natCast] at HH
      obtain ⟨rfl, rfl⟩ : flat (pairs a0 K K) = r1 ∧ 0 = r2 := by simpa using HH
      have hK3 : K ≤ 126 := by omega
      clear HH H
      obtain ⟨W0, hW0⟩ : ∃ W0, ((w.alloc (Obj.cells #[Value.slice none 0 0] 22)).alloc (Obj.cells #[Value.int IntKind.i64 a0] 3)).alloc (Obj.cells #[Value.func (Fn.func 24) #[] #[Value.pointer (some { block := w.heap.size + 1, off := 0 })]] 52) = W0 := ⟨_, rfl⟩
      have hs0 : W0.heap.size = w.heap.size + 3 := by rw [← hW0]; simp
      have bl0 : Below w.heap.size w W0 := by rw [← hW0]; exact ((HB0.out.alloc (Nat.le_refl _) _).alloc (by simp) _).alloc (by simp; omega) _
      have bo : Boxed W0 w.heap.size 22 (.slice none 0 0) := by rw [← hW0]; exact ((Boxed.new w 22 _).alloc _).alloc _
      have bn : Boxed W0 (w.heap.size + 1) 3 (.int .i64 a0) := by
        rw [← hW0]; have := (Boxed.new (w.alloc (Obj.cells #[Value.slice none 0 0] 22)) 3 (.int .i64 a0)).alloc (Obj.cells #[Value.func (Fn.func 24) #[] #[Value.pointer (some { block := w.heap.size + 1, off := 0 })]] 52); rwa [World.size_alloc] at this
      have bc : Boxed W0 (w.heap.size + 1 + 1) 52 (.func (.func 24) #[] #[.pointer (some ⟨w.heap.size + 1, 0, none⟩)]) := by
        rw [← hW0]; have := Boxed.new ((w.alloc (Obj.cells #[Value.slice none 0 0] 22)).alloc (Obj.cells #[Value.int IntKind.i64 a0] 3)) 52 (Value.func (Fn.func 24) #[] #[Value.pointer (some { block := w.heap.size + 1, off := 0 })]); rwa [World.size_alloc, World.size_alloc] at this
      rw [hW0]
      have hiter := sheets_iter a0 K (by omega) (by omega) hK.symm (w.heap.size + 1) (w.heap.size + 1 + 1) (fun k => k = w.heap.size + 1 ∨ k = w.heap.size + 1 + 1) W0 (.inl rfl) (.inr rfl) bn bc
      refine rangeFuncB (lb := #[.pointer (some ⟨w.heap.size + 1, 0, none⟩), .pointer (some ⟨w.heap.size + 1 + 1, 0, none⟩)]) (gf := 25) rfl (enters_of Try.func25 (by kernel_rfl) rfl) hiter (fun _ => rfl) (fun k hk => by rcases hk with hk | hk <;> omega) (fun _ _ _ _ _ _ h _ _ => h)
        (fun pre W => (∃ v, Boxed W w.heap.size 22 v ∧ W.ownsRow (w.heap.size + 3) 29 4 v (flat pre).length ((flat pre).flatMap cells29) ∧ True) ∧ Below w.heap.size w W)
        (fun _ _ _ => False)
        (OwnFrom.and (Own.from (holdsRow_own _ _ _ _ _ _ _ (fun _ _ => True)) _) (ownFrom_below (Nat.le_refl _) bl0.size))
        (fun _ _ _ _ _ hs _ _ => hs) ⟨⟨_, bo, own_nil _ _ _ _, trivial⟩, bl0⟩
        (fun x a' W => ∃ B5 B6 : Nat, W.heap[B5]? = some (.cells #[.int .i64 x.1.f0, .bool x.1.f1, .int .i64 x.1.f2, .int .i64 x.1.f3] 29 (0, 0)) ∧ W.heap[B6]? = some (.cells #[.int .i64 x.2.f0, .bool x.2.f1, .int .i64 x.2.f2, .int .i64 x.2.f3] 29 (0, 0)) ∧
          a' = { tmps := #[Value.int IntKind.i64 a0, undef, Value.slice none 0 0, Value.int IntKind.i64 0, Value.pointer (some { block := w.heap.size, off := 0 }), .pointer (some ⟨B5, 0, none⟩), .pointer (some ⟨B6, 0, none⟩), Value.int IntKind.i64 a0,
            Value.bool false, Value.bool false, Value.int IntKind.i64 a0, Value.bool false, Value.bool false, Value.int IntKind.i64 a0,
            Value.func (Fn.func 25) #[] #[Value.pointer (some { block := w.heap.size + 1, off := 0 }), Value.pointer (some { block := w.heap.size + 1 + 1, off := 0 })],
            enc29 x.1, enc29 x.2, undef, undef, undef, undef, undef, undef], defers := [] })
        ?hAx ?hVb ?assign ?body ?done ?stop
      case hAx =>
        rintro x a' W l o o' ⟨B5, B6, h5, h6, rfl⟩ hl ho
        refine ⟨B5, B6, (World.putObj_heap_other ?_).trans h5, (World.putObj_heap_other ?_).trans h6, rfl⟩
        · rintro rfl; rw [h5] at hl; cases hl; cases ho
        · rintro rfl; rw [h6] at hl; cases hl; cases ho
      case hVb => exact fun _ _ _ _ h _ => h
      case assign =>
        intro l x W K' hK'
        simp only [enc29]
        gi_wp2
        refine hK' _ _ ?_ ⟨W.heap.size, W.heap.size + 1, ?_, ?_, rfl⟩
        · exact ((Below.refl _ W).alloc (Nat.le_refl _) _).alloc (by simp) _
        · exact (Below.heap_alloc _ _ _ (by simp)).trans (heap_alloc_new W _)
        · have := heap_alloc_new (W.alloc (.cells #[.int .i64 x.1.f0, .bool x.1.f1, .int .i64 x.1.f2, .int .i64 x.1.f3] 29)) (.cells #[.int .i64 x.2.f0, .bool x.2.f1, .int .i64 x.2.f2, .int .i64 x.2.f3] 29); rwa [World.size_alloc] at this
      case body =>
        rintro l pre x a' Wa Wb hlt ⟨⟨v, hv, hrow, _⟩, hbl⟩ hab hpf ⟨B5, B6, h5, h6, rfl⟩
        have hpl : pre.length ≤ 126 := by have := hpf.length_le; rw [pairs_length] at this; simp at this; omega
        have f0 := (blk_cell h5 0).trans rfl
        have f1 := (blk_cell h5 1).trans rfl
        have f2 := (blk_cell h5 2).trans rfl
        have f3 := (blk_cell h5 3).trans rfl
        have g0 := (blk_cell h6 0).trans rfl
        have g1 := (blk_cell h6 1).trans rfl
        have g2 := (blk_cell h6 2).trans rfl
        have g3 := (blk_cell h6 3).trans rfl
        obtain ⟨i0, hi0, hz0, hz1, hz2⟩ := info_parts info29
        have hvb := hv.of_below' hab
        have hvc := hvb.cell
        have hvf := hvb.frozen
        have HV := Aside0.mk hvb
        have HLT := Aside0.mk hv.lt
        have HRA := Aside0.mk hrow
        have HRB := Aside0.mk (pw_own_below hrow hab)
        have HB := Aside0.mk hbl
        have HAB := Aside0.mk hab
        have hfl : (flat pre).length ≤ 252 := by rw [flat_length]; omega
        clear hv hrow hbl hab hvb h5 h6 hiter hW0 bo bn bc hpf
        gi_wp2_with (gi_at_builtin; refine wpListIn_append_own _ rfl _ _ 22 rfl (w.heap.size + 3) 29 i0 _ 4 32 Try.underlying22 hi0 hz0 hz1 hz2 rfl (by decide) _ _ _ rfl (HRB.out.alloc _) ⟨Wb.heap.size, 0, none⟩ 2 2 (cells29 x.1 ++ cells29 x.2) rfl rfl ?c1 ?c2 ?c3 ?c4 ?c5 ?_)
        case c1 => simpa [cells29] using World.news_of_block (heap_alloc_new Wb (.cells (cells29 x.1 ++ cells29 x.2).toArray 29))
        case c2 => simp [cells29, Value.oneCell']
        case c3 => simp [maxLen]; omega
        case c4 => omega
        case c5 => have := HAB.out.size; have := HLT.out; simp; omega
        intro v' w1 hown hgrow _
        obtain ⟨g', cap', rfl⟩ := ownsRow_succ hown
        have hnr := HV.out.not_row (by decide) HRB.out
        have hv1 : Boxed w1 w.heap.size 22 v := (HV.out.alloc _).kept hgrow hnr
        have hc1 := hv1.cell
        have hf1 := hv1.frozen
        have HV1 := Aside0.mk hv1
        have HG := Aside0.mk hgrow
        have HO := Aside0.mk hown
        clear hv1 hgrow hown hnr
        gi_wp2
        have hsz1 := HAB.out.size
        have hlt0 := HLT.out
        have hrow : ∀ k, v.ownBlock = some k → w.heap.size + 3 ≤ k ∧ k < Wa.heap.size := fun k hk => ⟨own_base HRA.out k hk, own_lt HRA.out k hk⟩
        refine ⟨((((Lets.refl _ Wa Wb).alloc _).grown HG.out (fun k hk => ⟨.inr ⟨(hrow k hk).2, ?_⟩, ?_⟩)).setCell _ (.inr ⟨hlt0, ?_⟩)), ⟨_, HV1.out.set _, ?_, trivial⟩, ?_⟩
        · have := hrow k hk; omega
        · intro o ho
          obtain ⟨cells, hcc⟩ := own_typed (HRB.out.alloc _) k hk
          rw [hcc] at ho
          cases ho
          rfl
        · show ¬ (w.heap.size = w.heap.size + 1 ∨ w.heap.size = w.heap.size + 1 + 1)
          omega
        · have hh := HO.out
          have h2 := hh.kept (grownBy_setCell' w1 w.heap.size (.slice (some ⟨g', 0, none⟩) ((flat pre).length + 1 + 1) cap')) (.inr (HV1.out.not_row (by decide) hh).symm)
          rw [flat_snoc, List.flatMap_append]
          simpa using h2
        · exact ((((HB.out.trans (HAB.out.mono HB.out.size)).alloc (by have := HB.out.size; omega) _).grown HG.out (by simp; have := HB.out.size; omega) (fun k hk => by have := hrow k hk; omega)).setCell (p := ⟨w.heap.size, 0, none⟩) (Nat.le_refl _) _)
      case done =>
        rintro D ys W hD rfl ⟨⟨v, hv, hrow, _⟩, hbl⟩ hK
        obtain ⟨Ar, cr, rfl⟩ := own_slice hrow
        have HV := Aside0.mk hv
        have HR := Aside0.mk hrow
        have hvc := hv.cell
        clear hiter hW0
        gi_wp2
        refine ⟨by simp, .inl ⟨_, _, rfl, run_takeDeferred hK, ?_⟩⟩
        exact ⟨_, results_tmp2 rfl _ _ _, _, rfl, Kd.R_lower (R29_of (ownsRow_putObj HR.out _ hK rfl)) (by omega), hbl.grown (grownBy_putObj' W D _) hbl.size (fun k e => by cases e; omega)⟩
      case stop =>
        intro D c pre W _ _ h _
        exact h.elim
end Go.Proofs.Ytbllpiboodlepaa.P
