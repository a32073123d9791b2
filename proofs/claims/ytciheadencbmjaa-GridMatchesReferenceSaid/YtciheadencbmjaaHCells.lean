import Derived.Test.YtciheadencbmjaaHWalk
import Derived.Test.YtciheadencbmjaaPx2
set_option linter.unusedVariables false
set_option linter.unusedSimpArgs false
namespace Go.Proofs.Ytciheadencbmjaa.P
open Go.RowKit Go.Proofs.YtciheadencbmjaaW.PrintWords Go.Proofs.YtciheadencbmjaaW.PrintLast Go.Proofs.YtciheadencbmjaaW.PrintMore Go.Proofs.Ytciheadencbmjaa.Rng
attribute [local go_sem] Oper.semAt_some

theorem reps_flat {α : Type} {R : α → List Value → Prop} {size : Nat} (f : α → List Value) (hf : ∀ p, (f p).length = size ∧ R p (f p)) : ∀ (ps qs : List α), Reps R size qs (qs.flatMap f) → Reps R size (qs ++ ps) ((qs ++ ps).flatMap f)
  | [], qs, h => by simpa using h
  | p :: ps, qs, h => by
    have h1 := Reps.snoc h (hf p).2 (hf p).1
    have h2 := reps_flat f hf ps (qs ++ [p]) (by simpa using h1)
    simpa using h2
def cells39 (x : S39) : List Value := [.int .i64 x.f0, .int .i64 x.f1]
theorem R39_of {W : World} {base : Nat} {v : Value} {xs : List S39} (h : W.ownsRow base 39 2 v xs.length (xs.flatMap cells39)) : Kd.R k39 39 W base (fun _ => True) v xs := by
  refine ⟨fun _ _ => trivial, xs.flatMap cells39, h, ?_⟩
  have := reps_flat (size := k39.sz) (R := k39.M W base (fun k => True ∧ some k ≠ v.ownBlock)) cells39 (fun p => ⟨(rfl : (cells39 p).length = k39.sz), k39_mkM W base _ p⟩) xs [] (Reps.none _ _)
  simpa using this
theorem _root_.Go.Boxed.of_below' {W W' : World} {B : Nat} {t : TypeId} {v : Value} (h : Boxed W B t v) (hb : Below W.heap.size W W') : Boxed W' B t v := (hb.block _ h.lt).trans h
/-- What the iterator's own variable leaves alone. -/
theorem grown_of {O : Nat → Prop} {b : Nat} {A B : World} (h : BelowO O A B) (hO : ∀ k, O k → k = b) : A.grownBy B (some b) :=
  ⟨h.os, h.tape, h.output, h.size, fun i hi hne => h.block i hi (fun ho => hne (congrArg some (hO i ho)))⟩
theorem below_of {O : Nat → Prop} {n : Nat} {w A B : World} (h : Below n w A) (hb : BelowO O A B) (hn : n ≤ A.heap.size) (hO : ∀ k, O k → n ≤ k) : Below n w B :=
  ⟨hb.os.trans h.os, hb.tape.trans h.tape, hb.output.trans h.output, Nat.le_trans h.size hb.size, fun i hi => (hb.block i (Nat.lt_of_lt_of_le hi hn) (fun ho => by have := hO i ho; omega)).trans (h.block i hi)⟩
theorem box_of {O : Nat → Prop} {A B : World} {b : Nat} {t : TypeId} {v : Value} (h : Boxed A b t v) (hb : BelowO O A B) (hO : ¬ O b) : Boxed B b t v := (hb.block _ h.lt hO).trans h
theorem walkG_length (cols : Int) : ∀ (i : Nat) (r c : Int) (l : List Int), (walkG cols i r c l).length = l.length
  | _, _, _, [] => rfl
  | i, r, c, n :: l => by
    unfold walkG
    split
    · rw [List.length_cons, walkG_length, List.length_cons]
    · rw [List.length_cons, walkG_length, List.length_cons]
theorem walkL_length (cols : Int) (l : List Int) : (walkL cols l).length = l.length := walkG_length cols 0 0 0 l
theorem row_block {w : World} {A : Option Addr} {l : List Int} (h : Kd.C (Kd.int .i64) w A l.length l) : ∀ ad, A = some ad → 0 < l.length → ad.block < w.heap.size := by
  intro ad he hn
  obtain ⟨ad', e', hx0⟩ := Kd.at_int h 0 (by omega) (by omega)
  rw [he] at e'
  cases e'
  have := World.block_lt_of_cell? w _ hx0
  rwa [addr_block] at this
theorem checkE_zero {cols : Int} {l : List Int} (h : checkE cols l = 0) : l.length ≤ 4000 ∧ (1 ≤ cols ∧ cols ≤ 64) ∧ ∀ x ∈ l, 1 ≤ x ∧ x ≤ 64 := by
  unfold checkE at h
  split at h
  · cases h
  · split at h
    · cases h
    · split at h
      · cases h
      · rename_i h1 h2 h3
        refine ⟨by omega, ?_, fun x hx => ?_⟩
        · unfold badS at h2; simp at h2; omega
        · have h4 : l.any badS = false := Bool.eq_false_iff.2 h3
          have := List.any_eq_false.1 h4 x hx
          unfold badS at this; simp at this; omega
def cellsL (cols : Int) (l : List Int) : List S39 := (walkL cols l).map (·.2)
def grid_Cells.f (cols : Int) (l : List Int) : Option (List S39 × Int) := some (if checkE cols l = 0 then (cellsL cols l, 0) else ([], checkE cols l))
set_option maxRecDepth 100000 in
set_option maxHeartbeats 4000000 in
theorem grid_Cells.calls (a0 : Int) (A1 : Option Addr) (c1 : Nat) (l1 : List Int) (r1 : List S39) (r2 : Int) (w : World) (hr1 : Kd.C (Kd.int .i64) w A1 l1.length l1) (hc1 : l1.length ≤ c1) (h : grid_Cells.f a0 l1 = some (r1, r2)) :
    Calls Try.prog 10 #[.int .i64 a0, .slice A1 l1.length c1] w fun e w' => ∃ v0_ : Value, e = .returned (.tuple #[v0_, .int .i64 r2]) ∧ Kd.R k39 39 w' w.heap.size (fun _ => True) v0_ r1 ∧ Below w.heap.size w w' := by
  unfold grid_Cells.f at h
  have HB0 := Aside0.mk (Below.refl w.heap.size w)
  have HR := Aside0.mk hr1
  clear hr1 hc1
  refine (callsIn_wide (n := 3)).1 ?_
  refine callsIn_of_wp_marks Try.func10 rfl trivial ?_ rfl
  simp only [Try.ntmps10, List.size_toArray, List.length_cons, List.length_nil, Nat.reduceAdd, Nat.reduceSub, Array.replicate_succ, Array.replicate_zero, List.push_toArray, List.append_toArray, List.nil_append, List.cons_append]
  by_cases h0 : checkE a0 l1 = 0
  · rw [if_pos h0] at h
    obtain ⟨rfl, rfl⟩ : cellsL a0 l1 = r1 ∧ 0 = r2 := by simpa using h
    have hch : ∀ w, Kd.C (Kd.int .i64) w A1 l1.length l1 → Calls Try.prog 21 #[.int .i64 a0, .slice A1 l1.length c1] w fun e w' => e = .returned (.int .i64 0) ∧ w = w' := fun w hr => by rw [← h0]; exact check_calls a0 A1 c1 l1 w hr
    obtain ⟨hn, hcols, hl⟩ := checkE_zero h0
    clear h h0
    gi_wp2_with (first | (refine ⟨trivial, ?_⟩; gi_at_call 21; refine (callsIn_wide.2 (hch _ HR.out)).mono ?_; rintro e w' ⟨rfl, rfl⟩) | (refine ⟨trivial, ?_⟩; gi_at_call 22; refine (callsIn_wide.2 (walk_calls _ _ _ _ _)).mono ?_; rintro e w' ⟨rfl, rfl⟩))
    obtain ⟨W0, hW0⟩ : ∃ W0, ((w.alloc (Obj.cells #[Value.slice none 0 0] 24)).alloc (Obj.cells #[Value.int IntKind.i64 a0] 3)).alloc (Obj.cells #[Value.slice A1 l1.length c1] 22) = W0 := ⟨_, rfl⟩
    have hs0 : W0.heap.size = w.heap.size + 3 := by rw [← hW0]; simp
    have bl0 : Below w.heap.size w W0 := by rw [← hW0]; exact ((HB0.out.alloc (Nat.le_refl _) _).alloc (by simp) _).alloc (by simp; omega) _
    have bo : Boxed W0 w.heap.size 24 (.slice none 0 0) := by rw [← hW0]; exact ((Boxed.new w 24 _).alloc _).alloc _
    have bn : Boxed W0 (w.heap.size + 1) 3 (.int .i64 a0) := by
      rw [← hW0]; have := (Boxed.new (w.alloc (Obj.cells #[Value.slice none 0 0] 24)) 3 (.int .i64 a0)).alloc (Obj.cells #[Value.slice A1 l1.length c1] 22); rwa [World.size_alloc] at this
    have bc : Boxed W0 (w.heap.size + 1 + 1) 22 (.slice A1 l1.length c1) := by
      rw [← hW0]; have := Boxed.new ((w.alloc (Obj.cells #[Value.slice none 0 0] 24)).alloc (Obj.cells #[Value.int IntKind.i64 a0] 3)) 22 (Value.slice A1 l1.length c1); rwa [World.size_alloc, World.size_alloc] at this
    rw [hW0]
    have hiter := walk_iter a0 l1 A1 c1 (w.heap.size + 1) (fun k => k < w.heap.size ∨ k = w.heap.size + 1 ∨ k = w.heap.size + 1 + 1 ∨ k = W0.heap.size + 2) W0 hcols hl hn (.inr (.inl rfl)) (.inr (.inr (.inl rfl))) (.inr (.inr (.inr rfl))) bn bc (Kd.C_below HR.out bl0)
      (fun ad h1 h2 => ⟨.inl (row_block HR.out ad h1 h2), by have := row_block HR.out ad h1 h2; omega⟩)
    refine rangeFuncN (O := fun k => k = W0.heap.size + 2) (lb := #[.pointer (some ⟨w.heap.size + 1 + 1, 0, none⟩), .pointer (some ⟨w.heap.size + 1, 0, none⟩)]) (gf := 30) rfl (enters_of Try.func30 (by kernel_rfl) rfl) hiter (fun _ => rfl) (fun k hk => by omega) (fun k hk => by omega) (fun _ _ _ _ _ _ h _ _ => ⟨h.1, by rw [World.putObj_size]; exact h.2⟩)
      (fun pre W => (∃ v, Boxed W w.heap.size 24 v ∧ W.ownsRow (w.heap.size + 6) 39 2 v pre.length ((pre.map (·.2)).flatMap cells39) ∧ True) ∧ Below w.heap.size w W)
      (fun _ _ _ => False)
      (OwnFrom.and (Own.from (holdsRow_own _ _ _ _ _ _ _ (fun _ _ => True)) _) (ownFrom_below (Nat.le_refl _) bl0.size))
      (fun _ _ _ _ _ hs _ _ => hs) ?hIO (fun _ _ _ _ h _ => h) ⟨⟨_, bo, own_nil _ _ _ _, trivial⟩, bl0⟩
      (fun x a' W => ∃ B9 : Nat, W.heap[B9]? = some (.cells #[.int .i64 x.2.f0, .int .i64 x.2.f1] 39 (0, 0)) ∧
          a' = { tmps := #[Value.int IntKind.i64 a0, Value.slice A1 l1.length c1, undef, undef, Value.slice none 0 0,
          Value.int IntKind.i64 0, Value.int IntKind.i64 0, Value.pointer (some { block := w.heap.size, off := 0 }),
          undef, Value.pointer (some { block := B9, off := 0 }), Value.int IntKind.i64 a0,
          Value.slice A1 l1.length c1, Value.int IntKind.i64 0, Value.int IntKind.i64 0, Value.bool false, undef,
          Value.int IntKind.i64 a0, Value.slice A1 l1.length c1,
          Value.func (Fn.func 30) #[] #[Value.pointer (some { block := w.heap.size + 1 + 1, off := 0 }), Value.pointer (some { block := w.heap.size + 1, off := 0 })],
          Value.int IntKind.i64 x.1, Value.agg #[Value.int IntKind.i64 x.2.f0, Value.int IntKind.i64 x.2.f1],
          undef, undef, undef, undef, undef], defers := [] })
      ?hAx ?hVb ?assign ?body ?done ?stop
    case assign =>
      intro l x W K' hK'
      simp only [encW]
      gi_wp2
      exact hK' _ _ ((Below.refl _ W).alloc (Nat.le_refl _) _) ⟨W.heap.size, heap_alloc_new W _, rfl⟩
    case hIO =>
      rintro pre A B ⟨⟨v, hv, hrow, _⟩, hbl⟩ hb
      have hlt := hbl.size
      refine ⟨⟨v, box_of hv hb (by omega), hrow.kept (grown_of hb (b := W0.heap.size + 2) (fun k hk => hk)) (.inr (fun e => by have := own_base hrow _ e; omega)), trivial⟩, below_of hbl hb hlt (fun k hk => by omega)⟩
    case hAx =>
      rintro x a' W l o o' ⟨B9, h9, rfl⟩ hl ho
      exact ⟨B9, (World.putObj_heap_other (by rintro rfl; rw [h9] at hl; cases hl; cases ho)).trans h9, rfl⟩
    case hVb => exact fun _ _ _ _ h hb => ⟨h.1, Nat.lt_of_lt_of_le h.2 hb.size⟩
    case body =>
      rintro l pre x a' Wa Wb hlt ⟨⟨v, hv, hrow, _⟩, hbl⟩ hab ⟨hpf, hsz⟩ ⟨B9, h9, rfl⟩
      have hpl : pre.length ≤ 4000 := by have := hpf.length_le; rw [walkL_length] at this; simp at this; omega
      have f0 := (blk_cell h9 0).trans rfl
      have f1 := (blk_cell h9 1).trans rfl
      obtain ⟨i0, hi0, hz0, hz1, hz2⟩ := info_parts info39
      have hvb := box_of hv hab (show ¬ w.heap.size = W0.heap.size + 2 by omega)
      have hvc := hvb.cell
      have hvf := hvb.frozen
      have hrb := hrow.kept (grown_of hab (b := W0.heap.size + 2) (fun k hk => hk)) (.inr (fun e => by have := own_base hrow _ e; omega))
      have HV := Aside0.mk hvb
      have HLT := Aside0.mk hv.lt
      have HRA := Aside0.mk hrow
      have HRB := Aside0.mk hrb
      have HBB := Aside0.mk (below_of hbl hab hbl.size (fun k hk => by omega))
      have HAB := Aside0.mk hab.size
      have HSZ := Aside0.mk hsz
      clear hv hrow hbl hab hvb hrb h9 hiter hW0 bo bn bc hpf hsz
      gi_wp2_with (gi_at_builtin; refine wpListIn_append_own _ rfl _ _ 24 rfl (w.heap.size + 6) 39 i0 _ 2 16 Try.underlying24 hi0 hz0 hz1 hz2 rfl (by decide) _ _ _ rfl (HRB.out.alloc _) ⟨Wb.heap.size, 0, none⟩ 1 1 (cells39 x.2) rfl rfl ?c1 ?c2 ?c3 ?c4 ?c5 ?_)
      case c1 => simpa [cells39] using World.news_of_block (heap_alloc_new Wb (.cells (cells39 x.2).toArray 39))
      case c2 => simp [cells39, Value.oneCell']
      case c3 => simp [maxLen]; omega
      case c4 => omega
      case c5 => have := HSZ.out; simp; omega
      intro v' w1 hown hgrow _
      obtain ⟨g', cap', rfl⟩ := ownsRow_succ hown
      have hnr := HV.out.not_row (by decide) HRB.out
      have hv1 : Boxed w1 w.heap.size 24 v := (HV.out.alloc _).kept hgrow hnr
      have hc1 := hv1.cell
      have hf1 := hv1.frozen
      have HV1 := Aside0.mk hv1
      have HG := Aside0.mk hgrow
      have HO := Aside0.mk hown
      clear hv1 hgrow hown hnr
      gi_wp2
      have hsz1 := HAB.out
      have hlt0 := HLT.out
      have hrow : ∀ k, v.ownBlock = some k → w.heap.size + 6 ≤ k ∧ k < Wa.heap.size := fun k hk => ⟨own_base HRA.out k hk, own_lt HRA.out k hk⟩
      refine ⟨((((Lets.refl _ Wa Wb).alloc _).grown HG.out (fun k hk => ⟨.inr ⟨(hrow k hk).2, ?_⟩, ?_⟩)).setCell _ (.inr ⟨hlt0, ?_⟩)), ⟨_, HV1.out.set _, ?_, trivial⟩, ?_⟩
      · have := hrow k hk; omega
      · intro o ho
        obtain ⟨cells, hcc⟩ := own_typed (HRB.out.alloc _) k hk
        rw [hcc] at ho
        cases ho
        rfl
      · show ¬ (w.heap.size < w.heap.size ∨ w.heap.size = w.heap.size + 1 ∨ w.heap.size = w.heap.size + 1 + 1 ∨ w.heap.size = W0.heap.size + 2)
        omega
      · have hh := HO.out
        have h2 := hh.kept (grownBy_setCell' w1 w.heap.size (.slice (some ⟨g', 0, none⟩) (pre.length + 1) cap')) (.inr (HV1.out.not_row (by decide) hh).symm)
        rw [List.map_append, List.flatMap_append]
        simpa using h2
      · exact ((HBB.out.alloc (by have := HBB.out.size; omega) _).grown HG.out (by simp; have := HBB.out.size; omega) (fun k hk => by have := hrow k hk; omega)).setCell (p := ⟨w.heap.size, 0, none⟩) (Nat.le_refl _) _
    case done =>
      rintro D ys W hD rfl ⟨⟨v, hv, hrow, _⟩, hbl⟩ hK
      obtain ⟨Ar, cr, rfl⟩ := own_slice hrow
      have HV := Aside0.mk hv
      have HR' := Aside0.mk hrow
      have hvc := hv.cell
      clear hiter hW0
      gi_wp2
      refine ⟨by simp, .inl ⟨_, _, rfl, run_takeDeferred hK, ?_⟩⟩
      have h1 := ownsRow_putObj HR'.out (.deferred none) hK rfl
      have h2 : (W.putObj D (.deferred none)).ownsRow (w.heap.size + 6) 39 2 (.slice Ar (walkL a0 l1).length cr) (cellsL a0 l1).length ((cellsL a0 l1).flatMap cells39) := by unfold cellsL; rw [List.length_map]; exact h1
      exact ⟨_, results_tmp2 rfl _ _ _, _, rfl, Kd.R_lower (R39_of h2) (by omega), hbl.grown (grownBy_putObj' W D _) hbl.size (fun k e => by cases e; omega)⟩
    case stop =>
      intro D c pre W _ _ h _
      exact h.elim
  · have hch : ∀ w, Kd.C (Kd.int .i64) w A1 l1.length l1 → Calls Try.prog 21 #[.int .i64 a0, .slice A1 l1.length c1] w fun e w' => e = .returned (.int .i64 (checkE a0 l1)) ∧ w = w' := fun w hr => check_calls a0 A1 c1 l1 w hr
    rw [if_neg h0] at h
    obtain ⟨rfl, rfl⟩ : [] = r1 ∧ checkE a0 l1 = r2 := by simpa using h
    generalize checkE a0 l1 = e at h0 hch
    have h0b : (e != 0) = true := bne_iff_ne.2 h0
    have h0c : (e == 0) = false := beq_eq_false_iff_ne.2 h0
    clear h0 h
    gi_wp2_with (refine ⟨trivial, ?_⟩; gi_at_call 21; refine (callsIn_wide.2 (hch _ HR.out)).mono ?_; rintro e w' ⟨rfl, rfl⟩)
    exact ⟨_, results_tmp2 rfl _ _ _, .slice none 0 0, rfl, Kd.R_nil _ _ _ _ _, HB0.out⟩
end Go.Proofs.Ytciheadencbmjaa.P
