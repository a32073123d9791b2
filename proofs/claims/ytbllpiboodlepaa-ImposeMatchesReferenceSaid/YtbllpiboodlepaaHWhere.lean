import Derived.Test.YtbllpiboodlepaaHFaces
import Derived.Maps.OwnOps
import Derived.Maps.Views
set_option linter.unusedVariables false
set_option linter.unusedSimpArgs false
namespace Go.Proofs.Ytbllpiboodlepaa.P
open Go.RowKit Go.Proofs.YtbllpiboodlepaaW.PrintWords Go.Proofs.YtbllpiboodlepaaW.PrintLast Go.Proofs.YtbllpiboodlepaaW.PrintMore
open Go.Maps (Keyed int_keyed keyOf_int_mk)
attribute [local go_sem] Oper.semAt_some

def encP (x : S29 × Bool) : Value := .agg #[.int .i64 x.1.f0, .bool x.1.f1, .int .i64 x.1.f2, .int .i64 x.1.f3, .bool x.2]
theorem encP_inj {x y : S29 × Bool} (h : encP x = encP y) : x = y := by
  obtain ⟨⟨a, b, c, d⟩, r⟩ := x
  obtain ⟨⟨a', b', c', d'⟩, r'⟩ := y
  simpa [encP, and_assoc] using h
open Classical in
/-- How a 'place' reads. -/
noncomputable def placeR (v : Value) : Option (DataW (S29 × Bool) × List MemPlace) := if h : ∃ x, v = encP x then some (.held h.choose, []) else none
theorem placeR_enc (x : S29 × Bool) : placeR (encP x) = some (.held x, []) := by
  have h : ∃ y, encP x = encP y := ⟨x, rfl⟩
  rw [placeR, dif_pos h, ← encP_inj h.choose_spec]
theorem placeR_inv {v : Value} {z : DataW (S29 × Bool) × List MemPlace} (h : placeR v = some z) : ∃ x, v = encP x ∧ z = (.held x, []) := by
  unfold placeR at h
  split at h
  · rename_i hx
    exact ⟨_, hx.choose_spec, (Option.some.inj h).symm⟩
  · cases h
theorem u47 : Try.prog.underlying 47 = some (.map 3 49) := by kernel_rfl
theorem i49 : (Try.prog.info? 49).map (fun i => (i.zero, i.size, i.bytes)) = some (some (.agg #[.int .i64 0, .bool false, .int .i64 0, .int .i64 0, .bool false]), 5, 40) := by kernel_rfl
theorem z49 (w : World) : (zeroValue 49).run Try.prog w = .ok (encP (z29, false)) w := by
  obtain ⟨i, hi, h1, _, _⟩ := info_parts i49
  simp [zeroValue, typeInfo, hi, h1, encP, z29]
theorem keyed3 : Keyed Try.prog 3 := int_keyed Try.underlying3

/-- The last place of a page among the faces. -/
def lastAt (p : Int) : List S29 → Option (S29 × Bool)
  | [] => none
  | f :: l => match lastAt p l with
    | some x => some x
    | none => if f.f3 = p then some (f, true) else if f.f2 = p then some (f, false) else none
theorem lastAt_snoc (p : Int) (f : S29) : ∀ l, lastAt p (l ++ [f]) = if f.f3 = p then some (f, true) else if f.f2 = p then some (f, false) else lastAt p l
  | [] => by simp [lastAt]
  | g :: l => by
    rw [List.cons_append, lastAt, lastAt_snoc p f l]
    by_cases h3 : f.f3 = p
    · simp [h3]
    · by_cases h2 : f.f2 = p
      · simp [h3, h2]
      · simp [h3, h2, lastAt]
def dat : Option (S29 × Bool) → DataW (S29 × Bool)
  | none => .nil
  | some x => .held x
/-- The map of the faces. -/
def Says (D : DataW (S29 × Bool)) (l : List S29) : Prop := Go.Maps.IsMap D ∧ ∀ p : Int, D.atKey (.int .i64 p) .nil = dat (lastAt p l)
theorem Says.made : Says (.map []) [] := ⟨⟨_, rfl⟩, fun p => rfl⟩
theorem Says.put {D : DataW (S29 × Bool)} {l : List S29} (h : Says D l) (f : S29) : Says ((D.put (.int .i64 f.f2) (.held (f, false))).put (.int .i64 f.f3) (.held (f, true))) (l ++ [f]) := by
  have m1 : Go.Maps.IsMap (D.put (.int .i64 f.f2) (.held (f, false))) := by obtain ⟨es, rfl⟩ := h.1; exact ⟨_, rfl⟩
  refine ⟨by obtain ⟨es, hes⟩ := m1; rw [hes]; exact ⟨_, rfl⟩, fun p => ?_⟩
  rw [lastAt_snoc]
  by_cases h3 : f.f3 = p
  · rw [if_pos h3, h3, Go.Maps.atKey_put_same m1 (show WideAt.IsKeyLit (.int .i64 p) from trivial)]; rfl
  · rw [if_neg h3, Go.Maps.atKey_put_other (by simpa using Ne.symm h3)]
    by_cases h2 : f.f2 = p
    · rw [if_pos h2, h2, Go.Maps.atKey_put_same h.1 (show WideAt.IsKeyLit (.int .i64 p) from trivial)]; rfl
    · rw [if_neg h2, Go.Maps.atKey_put_other (by simpa using Ne.symm h2), h.2]
/-- The look-up. -/
theorem lookup_place {w : World} {b n : Nat} {D : DataW (S29 × Bool)} {l : List S29} (h : w.ownsMap Try.prog 3 placeR b n D) (hs : Says D l) {p : Int} (hp : (Lit.int .i64 p).wf = true) :
    (Instr.lookup 47 (.map (some b)) (.int .i64 p) true).run Try.prog w = .ok (.tuple #[encP ((lastAt p l).getD (z29, false)), .bool (lastAt p l).isSome]) w := by
  obtain ⟨es, clock, hb, F, _, rfl⟩ := h
  rcases Maps.fit_look true keyed3 u47 (z49 w) hb F (keyOf_int_mk Try.underlying3 hp) with ⟨hrun, _, hat⟩ | ⟨e0, y, _, _, hrun, hRv, hat, _⟩
  · have := hat .nil
    rw [hs.2] at this
    cases hl : lastAt p l with
    | none => rw [hrun]; rfl
    | some x => rw [hl] at this; cases this
  · obtain ⟨x, hx, rfl⟩ := placeR_inv hRv
    have := hat .nil
    rw [hs.2] at this
    cases hl : lastAt p l with
    | none => rw [hl] at this; cases this
    | some x' => rw [hl] at this; cases this; rw [hrun, hx]; rfl

def impose_Where.f (a0 a1 : Int) : Option (Int × Bool × Int × Int × Bool × Int) :=
  if (Lit.int .i64 a1).wf = true then (impose_Faces.f a0).bind fun t => if t.2 = 0 then (match lastAt a1 t.1 with
    | none => some (0, false, 0, 0, false, 4)
    | some x => if a1 = 0 then some (0, false, 0, 0, false, 4) else some (x.1.f0, x.1.f1, x.1.f2, x.1.f3, x.2, 0)) else some (0, false, 0, 0, false, t.2) else none

theorem wf_pairs (n : Int) (hn : n ≤ 500) (K m : Nat) (hm : m ≤ K) (hK : K ≤ 126) : ∀ f ∈ flat (pairs n K m), (Lit.int .i64 f.f2).wf = true ∧ (Lit.int .i64 f.f3).wf = true := by
  intro f hf
  simp only [flat, pairs, List.mem_flatMap, List.mem_map, List.mem_range] at hf
  obtain ⟨x, ⟨j, hj, rfl⟩, hx⟩ := hf
  have m1 : IntKind.i64.min = -9223372036854775808 := by decide +kernel
  have m2 : IntKind.i64.max = 9223372036854775807 := by decide +kernel
  have hw : ∀ a : Int, -1000 ≤ a → a ≤ 1000 → (Lit.int .i64 a).wf = true := fun a h1 h2 => by simp [Lit.wf, m1, m2]; omega
  simp at hx
  rcases hx with rfl | rfl <;> simp only [front, backf, clip] <;> constructor <;> apply hw <;> (first | omega | (split <;> omega))

theorem four {w : World} {g : Nat} {t : TypeId} {a b c d : Value} (h : w.heap[g]? = some (.cells #[a, b, c, d] t (0, 0))) (a' b' c' d' : Value) :
    ((((w.setCell ⟨g, 0, none⟩ a').setCell ⟨g, 1, none⟩ b').setCell ⟨g, 2, none⟩ c').setCell ⟨g, 3, none⟩ d').heap[g]? = some (.cells #[a', b', c', d'] t (0, 0)) :=
  blk_put (blk_put (blk_put (blk_put h 0 a' rfl) 1 b' rfl) 2 c' rfl) 3 d' rfl
theorem below4 {w W : World} {g n : Nat} (h : Below n w W) (hg : n ≤ g) (a' b' c' d' : Value) :
    Below n w ((((W.setCell ⟨g, 0, none⟩ a').setCell ⟨g, 1, none⟩ b').setCell ⟨g, 2, none⟩ c').setCell ⟨g, 3, none⟩ d') := (((h.setCell hg _).setCell hg _).setCell hg _).setCell hg _
theorem ownsMap_heap {H : Type} {P : Program} {k : TypeId} {R : Value → Option (DataW H × List MemPlace)} {w w' : World} {b n : Nat} {D : DataW H} (h : w.ownsMap P k R b n D) (e : w'.heap[b]? = w.heap[b]?) : w'.ownsMap P k R b n D := by
  obtain ⟨es, clock, hb, rest⟩ := h
  exact ⟨es, clock, e.trans hb, rest⟩

theorem map_step {P : Program} {ops : Array Oper} {o : Oper} {a : Act} {W W1 : World} {Kc : Act → World → Prop} {Q : Exit → Act → World → Prop} {N : Option Tmp} (hw : Region.wanted o (yielded ops a.tmps) = true) (m x v : Operand) (t : TypeId) (hop : o.op = Op.mapUpdate t m x v)
    (mv key val : Value) (hm : a.eval m = mv) (hx : a.eval x = key) (hv : a.eval v = val) (hrun : (Instr.mapUpdate t mv key val).run P W = .ok () W1) (hd : o.dst = N) (h : Kc (a.put N undef) W1) : if Region.wanted o (yielded ops a.tmps) = true then Oper.wp P o a W Kc Q else Kc (a.put N undef) W := by
  subst hd
  rw [if_pos hw]
  unfold Oper.wp
  simp [execOp, hop, hm, hx, hv, hrun, Result.andThen]
  exact h
theorem far4 {w : World} {g g' : Nat} {t : TypeId} {cs : Array Value} (h : w.heap[g]? = some (.cells cs t (0, 0))) (hne : g ≠ g') (a' b' c' d' : Value) :
    ((((w.setCell ⟨g', 0, none⟩ a').setCell ⟨g', 1, none⟩ b').setCell ⟨g', 2, none⟩ c').setCell ⟨g', 3, none⟩ d').heap[g]? = some (.cells cs t (0, 0)) :=
  blk_far (p := ⟨g', 3, none⟩) (blk_far (p := ⟨g', 2, none⟩) (blk_far (p := ⟨g', 1, none⟩) (blk_far (p := ⟨g', 0, none⟩) h hne _) hne _) hne _) hne _
theorem four5 {w : World} {g : Nat} {t : TypeId} {a b c d e : Value} (h : w.heap[g]? = some (.cells #[a, b, c, d, e] t (0, 0))) (a' b' c' d' : Value) :
    ((((w.setCell ⟨g, 0, none⟩ a').setCell ⟨g, 1, none⟩ b').setCell ⟨g, 2, none⟩ c').setCell ⟨g, 3, none⟩ d').heap[g]? = some (.cells #[a', b', c', d', e] t (0, 0)) :=
  blk_put (blk_put (blk_put (blk_put h 0 a' rfl) 1 b' rfl) 2 c' rfl) 3 d' rfl
theorem r_map {α : Type} {d : Kd α} {e : TypeId} {w w1 : World} {base b : Nat} {ok : Nat → Prop} {v : Value} {xs : List α} (h : d.R e w base ok v xs) (hg : w.grownBy w1 (some b)) (hok : ∀ k, ok k → k ≠ b) : d.R e w1 base ok v xs :=
  Kd.R_step h (fun k ho hk => hg.block k hk (by simpa using hok k ho))
theorem skip_step {P : Program} {ops : Array Oper} {o : Oper} {a : Act} {W W1 : World} {Kc : Act → World → Prop} {Q : Exit → Act → World → Prop} {N : Option Tmp} (hw : Region.wanted o (yielded ops a.tmps) = true) (hrun : (execOp a.eval o).run P W = .ok .skip W1) (hd : o.dst = N) (h : Kc (a.put N undef) W1) : if Region.wanted o (yielded ops a.tmps) = true then Oper.wp P o a W Kc Q else Kc (a.put N undef) W := by
  subst hd
  rw [if_pos hw]
  unfold Oper.wp
  rw [hrun]
  exact h
theorem grown_cell {w w1 : World} {b g : Nat} {o : Obj} (h : w.heap[g]? = some o) (hg : w.grownBy w1 (some b)) (hne : g ≠ b) : w1.heap[g]? = some o := blk_grown h hg (by simpa using hne)

set_option maxRecDepth 100000 in
set_option maxHeartbeats 4000000 in
theorem impose_Where.calls (a0 a1 : Int) (r1 : Int) (r2 : Bool) (r3 : Int) (r4 : Int) (r5 : Bool) (r6 : Int) (w : World) (h : impose_Where.f a0 a1 = some (r1, r2, r3, r4, r5, r6)) :
    Calls Try.prog 14 #[.int .i64 a0, .int .i64 a1] w fun e w' => e = .returned (.tuple #[.agg #[.int .i64 r1, .bool r2, .int .i64 r3, .int .i64 r4], .bool r5, .int .i64 r6]) ∧ Below w.heap.size w w' := by
  have HB := Aside0.mk (Below.refl w.heap.size w)
  unfold impose_Where.f at h
  by_cases hwf : (Lit.int .i64 a1).wf = true
  · rw [if_pos hwf] at h
    obtain ⟨⟨l, er⟩, hF, H⟩ := Option.bind_eq_some_iff.1 h
    have HF := Aside0.mk hF
    have HH := Aside0.mk H
    clear h hF H
    have HH1 := HH.out
    by_cases he : er = 0
    · subst he
      rw [if_pos rfl] at HH1
      have H := Aside0.mk HH1
      clear HH1 HH
      have hmm : ∀ w, (Instr.makeMap 47 none).run Try.prog w = .ok (.map (some w.heap.size)) (w.alloc (.map #[] 0)) := fun w => run_makeMap 47 w
      go_enter Try.func14, Try.ntmps14
      go_wp2_with (first | ((with_reducible refine gate_callee (f := 11) rfl ?_); refine goesL_ (some 16) rfl rfl Try.func11 (by kernel_rfl) rfl #[.int .i64 a0] rfl (by (try simp only [List.map_toArray, List.map_cons, List.map_nil]); first | done | rfl | (simp only [List.length_drop, List.length_take]; rfl)) ?_; (with_reducible refine (impose_Faces.calls a0 l 0 _ HF.out).mono ?_); rintro e w1 ⟨v1, rfl, ho0, hb⟩; refine ⟨_, rfl, ?_⟩; have HL := Aside0.mk ho0; have HB1 := Aside0.mk hb; clear ho0 hb; obtain ⟨A1, c1, e1⟩ := Kd.R_slice HL.out; subst e1; have BK := Aside0.mk ((HB1.out.block _ (by simp)).trans (heap_alloc_new w _)); have HB2 := Aside0.mk ((HB.out.alloc (Nat.le_refl _) _).trans (HB1.out.mono (by simp))); have hcz0 : w1.cell? ⟨w.heap.size, 0, none⟩ = some (.int .i64 0) := (blk_cell BK.out 0).trans rfl; have hcz1 : w1.cell? ⟨w.heap.size, 1, none⟩ = some (.bool false) := (blk_cell BK.out 1).trans rfl; have hcz2 : w1.cell? ⟨w.heap.size, 2, none⟩ = some (.int .i64 0) := (blk_cell BK.out 2).trans rfl; have hcz3 : w1.cell? ⟨w.heap.size, 3, none⟩ = some (.int .i64 0) := (blk_cell BK.out 3).trans rfl; have hfz0 := blk_frozen BK.out 0; have hfz1 := blk_frozen BK.out 1; have hfz2 := blk_frozen BK.out 2; have hfz3 := blk_frozen BK.out 3))
      have HF2 := HF.out
      simp only [impose_Faces.f] at HF2
      have hln : l.length ≤ 252 ∧ ∀ f ∈ l, (Lit.int .i64 f.f2).wf = true ∧ (Lit.int .i64 f.f3).wf = true := by
        split at HF2
        · simp at HF2
        · rename_i hc
          obtain ⟨rfl, _⟩ : _ = l ∧ True := by simpa using HF2
          obtain ⟨K, hK⟩ : ∃ K : Nat, (a0 + 3) / 4 = (K : Int) := ⟨((a0 + 3) / 4).toNat, by omega⟩
          rw [hK, Int.toNat_natCast]
          exact ⟨by rw [flat_length, pairs_length]; omega, wf_pairs a0 (by omega) K K (Nat.le_refl _) (by omega)⟩
      clear HF2 HF
      have HLN := Aside0.mk hln
      clear hln
      have HR : Aside0 (Kd.R k29 29 (w1.alloc (.map #[] 0)) w.heap.size (fun k => True ∧ k ≠ w1.heap.size) (.slice A1 l.length c1) l) := ⟨Kd.R_alloc (Kd.R_elderB (Kd.R_lower HL.out (by simp)) _ (Nat.le_refl _)) _⟩
      have HBm : Aside0 (Below w.heap.size w (w1.alloc (.map #[] 0))) := ⟨HB2.out.alloc HB2.out.size _⟩
      have BKm : Aside0 ((w1.alloc (.map #[] 0)).heap[w.heap.size]? = some (.cells #[.int .i64 0, .bool false, .int .i64 0, .int .i64 0] 29 (0, 0))) := ⟨blk_alloc BK.out _⟩
      have HM : Aside0 ((w1.alloc (.map #[] 0)).ownsMap Try.prog 3 placeR w1.heap.size 0 (.map [])) := ⟨World.ownsMap_made w1 _ _ _⟩
      have HW1 : Aside0 (w.heap.size < w1.heap.size) := ⟨blk_lt BK.out⟩
      clear HL HB2 BK HB1 HB hcz0 hcz1 hcz2 hcz3 hfz0 hfz1 hfz2 hfz3
      go_wp2
      go_loopg [26] l.length (fun kq v26 w' => ∃ (j : Nat) (D : DataW (S29 × Bool)), v26 = .int .i64 j ∧ Aside0 (kq + j = l.length) ∧ Aside0 (Says D (l.take j)) ∧ Aside0 (w'.ownsMap Try.prog 3 placeR w1.heap.size (2 * j) D) ∧ Aside0 (Kd.R k29 29 w' w.heap.size (fun k => True ∧ k ≠ w1.heap.size) (.slice A1 l.length c1) l) ∧ Aside0 (Below w.heap.size w w') ∧ Aside0 (w'.heap[w.heap.size]? = some (.cells #[.int .i64 0, .bool false, .int .i64 0, .int .i64 0] 29 (0, 0))))
      case atStart => exact ⟨0, _, rfl, ⟨rfl⟩, ⟨Says.made⟩, HM, HR, HBm, BKm⟩
      case round =>
        clear HM HR HBm BKm
        obtain ⟨j, D, rfl, HK, HS, HM, HR, HB, BK⟩ := hrel
        cases gk with
        | zero =>
          have hjl : j = l.length := by have := HK.out; omega
          subst hjl
          have c1b : decide ((l.length : Int) < (l.length : Int)) = false := by simp
          have hS := HS.out
          rw [List.take_length] at hS
          have hlk := lookup_place HM.out hS hwf
          clear hS HS HM HR HK
          have HH := H.out
          clear H
          cases hla : lastAt a1 l with
          | none =>
            rw [hla] at HH hlk
            obtain ⟨rfl, rfl, rfl, rfl, rfl, rfl⟩ : 0 = r1 ∧ false = r2 ∧ 0 = r3 ∧ 0 = r4 ∧ false = r5 ∧ 4 = r6 := by simpa using HH
            clear HH
            simp only [Option.getD_none, Option.isSome_none, encP, z29] at hlk
            go_upto_region 11 with (first | ((with_reducible refine gate_dst (N := 12) rfl ?_); refine box_event ?hg (N := 12) ?hd (cs := #[.int .i64 0, .bool false, .int .i64 0, .int .i64 0, .bool false]) (t := 49) ?hr ?_; (case hd => rfl); (case hg => rfl); (case hr => first | (go_simp; done) | (go_simp; rfl)); intro gb hg w2 hbox hb; have BX := Aside0.mk hbox; have HB2 := Aside0.mk (HB.out.trans (hb.mono HB.out.size)); have BKb := Aside0.mk (blk_below BK.out hb); have HG : Aside0 (w.heap.size ≤ gb) := ⟨by have := HB.out.size; omega⟩; have HNE : Aside0 (w.heap.size ≠ gb) := ⟨by have := blk_lt BK.out; omega⟩; clear hbox hb hg BK HB; have hz0 : w2.cell? ⟨gb, 0, none⟩ = some (.int .i64 0) := (blk_cell BX.out 0).trans rfl; have hz1 : w2.cell? ⟨gb, 1, none⟩ = some (.bool false) := (blk_cell BX.out 1).trans rfl; have hz2 : w2.cell? ⟨gb, 2, none⟩ = some (.int .i64 0) := (blk_cell BX.out 2).trans rfl; have hz3 : w2.cell? ⟨gb, 3, none⟩ = some (.int .i64 0) := (blk_cell BX.out 3).trans rfl; have hz4 : w2.cell? ⟨gb, 4, none⟩ = some (.bool false) := (blk_cell BX.out 4).trans rfl; have hf0 := blk_frozen BX.out 0; have hf1 := blk_frozen BX.out 1; have hf2 := blk_frozen BX.out 2; have hf3 := blk_frozen BX.out 3; have hf4 := blk_frozen BX.out 4))
            obtain ⟨W5, hW5⟩ : ∃ W5, (((((w2.setCell ⟨gb, 0, none⟩ (.int .i64 0)).setCell ⟨gb, 1, none⟩ (.bool false)).setCell ⟨gb, 2, none⟩ (.int .i64 0)).setCell ⟨gb, 3, none⟩ (.int .i64 0)).setCell ⟨gb, 4, none⟩ (.bool false)) = W5 := ⟨_, rfl⟩
            have hge := HG.out
            have BKc := Aside0.mk (by rw [← hW5]; exact blk_far (p := ⟨gb, 4, none⟩) (far4 BKb.out HNE.out _ _ _ _) HNE.out _ : W5.heap[w.heap.size]? = some (.cells #[.int .i64 0, .bool false, .int .i64 0, .int .i64 0] 29 (0, 0)))
            have HB5 := Aside0.mk (by rw [← hW5]; exact (below4 HB2.out hge _ _ _ _).setCell hge _ : Below w.heap.size w W5)
            have BXc := Aside0.mk (by rw [← hW5]; exact blk_put (four5 BX.out _ _ _ _) 4 _ rfl : W5.heap[gb]? = some (.cells #[.int .i64 0, .bool false, .int .i64 0, .int .i64 0, .bool false] 49 (0, 0)))
            have hy0 : W5.cell? ⟨w.heap.size, 0, none⟩ = some (.int .i64 0) := (blk_cell BKc.out 0).trans rfl
            have hy1 : W5.cell? ⟨w.heap.size, 1, none⟩ = some (.bool false) := (blk_cell BKc.out 1).trans rfl
            have hy2 : W5.cell? ⟨w.heap.size, 2, none⟩ = some (.int .i64 0) := (blk_cell BKc.out 2).trans rfl
            have hy3 : W5.cell? ⟨w.heap.size, 3, none⟩ = some (.int .i64 0) := (blk_cell BKc.out 3).trans rfl
            have hk0 := blk_frozen BKc.out 0
            have hk1 := blk_frozen BKc.out 1
            have hk2 := blk_frozen BKc.out 2
            have hk3 := blk_frozen BKc.out 3
            rw [hW5]
            clear hW5 hge BKb HB2 BX hz0 hz1 hz2 hz3 hz4 hf0 hf1 hf2 hf3 hf4 hlk
            go_wp2
            refine bodyPost_ret (results_ctt rfl _ _ w.heap.size 29 #[.int .i64 0, .bool false, .int .i64 0, .int .i64 0] (0, 0) _ rfl (four BKc.out _ _ _ _) Try.underlying29 rfl (by kernel_rfl)) rfl ?_
            exact ⟨rfl, below4 HB5.out (Nat.le_refl _) _ _ _ _⟩
          | some x =>
            rw [hla] at HH hlk
            simp only [Option.getD_some, Option.isSome_some, encP] at hlk
            have HH2 := Aside0.mk HH
            clear HH
            go_upto_region 11 with (first | ((with_reducible refine gate_dst (N := 12) rfl ?_); refine box_event ?hg (N := 12) ?hd (cs := #[.int .i64 0, .bool false, .int .i64 0, .int .i64 0, .bool false]) (t := 49) ?hr ?_; (case hd => rfl); (case hg => rfl); (case hr => first | (go_simp; done) | (go_simp; rfl)); intro gb hg w2 hbox hb; have BX := Aside0.mk hbox; have HB2 := Aside0.mk (HB.out.trans (hb.mono HB.out.size)); have BKb := Aside0.mk (blk_below BK.out hb); have HG : Aside0 (w.heap.size ≤ gb) := ⟨by have := HB.out.size; omega⟩; have HNE : Aside0 (w.heap.size ≠ gb) := ⟨by have := blk_lt BK.out; omega⟩; clear hbox hb hg BK HB; have hz0 : w2.cell? ⟨gb, 0, none⟩ = some (.int .i64 0) := (blk_cell BX.out 0).trans rfl; have hz1 : w2.cell? ⟨gb, 1, none⟩ = some (.bool false) := (blk_cell BX.out 1).trans rfl; have hz2 : w2.cell? ⟨gb, 2, none⟩ = some (.int .i64 0) := (blk_cell BX.out 2).trans rfl; have hz3 : w2.cell? ⟨gb, 3, none⟩ = some (.int .i64 0) := (blk_cell BX.out 3).trans rfl; have hz4 : w2.cell? ⟨gb, 4, none⟩ = some (.bool false) := (blk_cell BX.out 4).trans rfl; have hf0 := blk_frozen BX.out 0; have hf1 := blk_frozen BX.out 1; have hf2 := blk_frozen BX.out 2; have hf3 := blk_frozen BX.out 3; have hf4 := blk_frozen BX.out 4))
            obtain ⟨W5, hW5⟩ : ∃ W5, (((((w2.setCell ⟨gb, 0, none⟩ (.int .i64 x.1.f0)).setCell ⟨gb, 1, none⟩ (.bool x.1.f1)).setCell ⟨gb, 2, none⟩ (.int .i64 x.1.f2)).setCell ⟨gb, 3, none⟩ (.int .i64 x.1.f3)).setCell ⟨gb, 4, none⟩ (.bool x.2)) = W5 := ⟨_, rfl⟩
            have hge := HG.out
            have BKc := Aside0.mk (by rw [← hW5]; exact blk_far (p := ⟨gb, 4, none⟩) (far4 BKb.out HNE.out _ _ _ _) HNE.out _ : W5.heap[w.heap.size]? = some (.cells #[.int .i64 0, .bool false, .int .i64 0, .int .i64 0] 29 (0, 0)))
            have HB5 := Aside0.mk (by rw [← hW5]; exact (below4 HB2.out hge _ _ _ _).setCell hge _ : Below w.heap.size w W5)
            have BXc := Aside0.mk (by rw [← hW5]; exact blk_put (four5 BX.out _ _ _ _) 4 _ rfl : W5.heap[gb]? = some (.cells #[.int .i64 x.1.f0, .bool x.1.f1, .int .i64 x.1.f2, .int .i64 x.1.f3, .bool x.2] 49 (0, 0)))
            have hy0 : W5.cell? ⟨w.heap.size, 0, none⟩ = some (.int .i64 0) := (blk_cell BKc.out 0).trans rfl
            have hy1 : W5.cell? ⟨w.heap.size, 1, none⟩ = some (.bool false) := (blk_cell BKc.out 1).trans rfl
            have hy2 : W5.cell? ⟨w.heap.size, 2, none⟩ = some (.int .i64 0) := (blk_cell BKc.out 2).trans rfl
            have hy3 : W5.cell? ⟨w.heap.size, 3, none⟩ = some (.int .i64 0) := (blk_cell BKc.out 3).trans rfl
            have hk0 := blk_frozen BKc.out 0
            have hk1 := blk_frozen BKc.out 1
            have hk2 := blk_frozen BKc.out 2
            have hk3 := blk_frozen BKc.out 3
            rw [hW5]
            clear hW5 hge BKb HB2 BX hz0 hz1 hz2 hz3 hz4 hf0 hf1 hf2 hf3 hf4 hlk
            have HH3 := HH2.out
            clear HH2
            by_cases ha : a1 = 0
            · simp only [ha, if_true] at HH3
              obtain ⟨rfl, rfl, rfl, rfl, rfl, rfl⟩ : 0 = r1 ∧ false = r2 ∧ 0 = r3 ∧ 0 = r4 ∧ false = r5 ∧ 4 = r6 := by simpa using HH3
              clear HH3
              have hab : (a1 == 0) = true := by simpa using ha
              clear ha
              go_wp2
              refine bodyPost_ret (results_ctt rfl _ _ w.heap.size 29 #[.int .i64 0, .bool false, .int .i64 0, .int .i64 0] (0, 0) _ rfl (four BKc.out _ _ _ _) Try.underlying29 rfl (by kernel_rfl)) rfl ?_
              exact ⟨rfl, below4 HB5.out (Nat.le_refl _) _ _ _ _⟩
            · simp only [ha, if_false] at HH3
              obtain ⟨rfl, rfl, rfl, rfl, rfl, rfl⟩ : x.1.f0 = r1 ∧ x.1.f1 = r2 ∧ x.1.f2 = r3 ∧ x.1.f3 = r4 ∧ x.2 = r5 ∧ 0 = r6 := by simpa using HH3
              clear HH3
              have hab : (a1 == 0) = false := by simpa using ha
              clear ha
              go_upto_region 13 with (fail)
              clear hy0 hy1 hy2 hy3 hk0 hk1 hk2 hk3
              refine start_ (n := 7) (S := fun w' => w'.cell? ⟨gb, 0, none⟩ = some (.int .i64 x.1.f0) ∧ w'.cell? ⟨gb, 1, none⟩ = some (.bool x.1.f1) ∧ w'.cell? ⟨gb, 2, none⟩ = some (.int .i64 x.1.f2) ∧ w'.cell? ⟨gb, 3, none⟩ = some (.int .i64 x.1.f3) ∧ w'.cell? ⟨gb, 4, none⟩ = some (.bool x.2)) (ds := []) #[false, false, false, false, false, false, false] (by kernel_rfl) rfl rfl ⟨(blk_cell BXc.out 0).trans rfl, (blk_cell BXc.out 1).trans rfl, (blk_cell BXc.out 2).trans rfl, (blk_cell BXc.out 3).trans rfl, (blk_cell BXc.out 4).trans rfl⟩ (fun hHeld => ?_)
              have HB := Aside0.mk (below_drew HB5.out)
              have BK := Aside0.mk (blk_drew BKc.out)
              have BX := Aside0.mk (blk_drew BXc.out)
              clear HB5 BKc BXc
              generalize W5.drew = w25 at HB BK BX hHeld ⊢
              refine pure_ (i := 0) (N := some 54) (v := ?_) (a' := ?_) #[true, false, false, false, false, false, false] rfl rfl (by kernel_rfl) (fun _ _ _ h => h) (Or.inl ⟨by rfl, ?_⟩) ?_ ?_
              rotate_left
              · intro w'
                go_simp
                with_reducible rfl
              rotate_left
              · simp only [Act.put, List.setIfInBounds_toArray, List.set_cons_zero, List.set_cons_succ, i64_w, i32_w]
                rfl
              refine pure_ (i := 2) (N := some 56) (v := ?_) (a' := ?_) #[true, false, true, false, false, false, false] rfl rfl (by kernel_rfl) (fun _ _ _ h => h) (Or.inl ⟨by rfl, ?_⟩) ?_ ?_
              rotate_left
              · intro w'
                go_simp
                with_reducible rfl
              rotate_left
              · simp only [Act.put, List.setIfInBounds_toArray, List.set_cons_zero, List.set_cons_succ, i64_w, i32_w]
                rfl
              refine take_ (i := 1) (N := some 55) (v := ?_) (a' := ?_) #[true, true, true, false, false, false, false] rfl rfl (by kernel_rfl) (fun _ _ _ h => h) (Or.inl ⟨by rfl, ?_⟩) hHeld ?_ ?_
              rotate_left
              · rintro w' ⟨s0, s1, s2, s3, s4⟩
                go_simp
                with_reducible rfl
              rotate_left
              · simp only [Act.put, List.setIfInBounds_toArray, List.set_cons_zero, List.set_cons_succ, i64_w, i32_w]
                rfl
              refine take_ (i := 3) (N := some 57) (v := ?_) (a' := ?_) #[true, true, true, true, false, false, false] rfl rfl (by kernel_rfl) (fun _ _ _ h => h) (Or.inl ⟨by rfl, ?_⟩) hHeld ?_ ?_
              rotate_left
              · rintro w' ⟨s0, s1, s2, s3, s4⟩
                go_simp
                with_reducible rfl
              rotate_left
              · simp only [Act.put, List.setIfInBounds_toArray, List.set_cons_zero, List.set_cons_succ, i64_w, i32_w]
                rfl
              have hy0 : w25.cell? ⟨w.heap.size, 0, none⟩ = some (.int .i64 0) := (blk_cell BK.out 0).trans rfl
              have hy1 : w25.cell? ⟨w.heap.size, 1, none⟩ = some (.bool false) := (blk_cell BK.out 1).trans rfl
              have hy2 : w25.cell? ⟨w.heap.size, 2, none⟩ = some (.int .i64 0) := (blk_cell BK.out 2).trans rfl
              have hy3 : w25.cell? ⟨w.heap.size, 3, none⟩ = some (.int .i64 0) := (blk_cell BK.out 3).trans rfl
              have hk0 := blk_frozen BK.out 0
              have hk1 := blk_frozen BK.out 1
              have hk2 := blk_frozen BK.out 2
              have hk3 := blk_frozen BK.out 3
              have BX2 := far4 (g' := w.heap.size) BX.out (Ne.symm HNE.out) (.int .i64 x.1.f0) (.bool x.1.f1) (.int .i64 x.1.f2) (.int .i64 x.1.f3)
              refine one_ (i := 4) (N := none) #[true, true, true, true, true, false, false] rfl rfl (by kernel_rfl) (by decide) (fun K hK => ?_)
              refine skip_step (W1 := ((((w25.setCell ⟨w.heap.size, 0, none⟩ (.int .i64 x.1.f0)).setCell ⟨w.heap.size, 1, none⟩ (.bool x.1.f1)).setCell ⟨w.heap.size, 2, none⟩ (.int .i64 x.1.f2)).setCell ⟨w.heap.size, 3, none⟩ (.int .i64 x.1.f3))) (by rfl) (by go_simp) rfl ?_
              refine hK.out _ _ ⟨(blk_cell BX2 0).trans rfl, (blk_cell BX2 1).trans rfl, (blk_cell BX2 2).trans rfl, (blk_cell BX2 3).trans rfl, (blk_cell BX2 4).trans rfl⟩ (fun hHeld1 => ?_)
              clear hK K hHeld
              have hHeld := hHeld1
              clear hHeld1 hy0 hy1 hy2 hy3 hk0 hk1 hk2 hk3
              refine pure_ (i := 5) (N := some 5) (v := ?_) (a' := ?_) #[true, true, true, true, true, true, false] rfl rfl (by kernel_rfl) (fun _ _ _ h => h) (Or.inl ⟨by rfl, ?_⟩) ?_ ?_
              rotate_left
              · intro w'
                go_simp
                with_reducible rfl
              rotate_left
              · simp only [Act.put, List.setIfInBounds_toArray, List.set_cons_zero, List.set_cons_succ, i64_w, i32_w]
                rfl
              refine pure_ (i := 6) (N := some 6) (v := ?_) (a' := ?_) #[true, true, true, true, true, true, true] rfl rfl (by kernel_rfl) (fun _ _ _ h => h) (Or.inl ⟨by rfl, ?_⟩) ?_ ?_
              rotate_left
              · intro w'
                go_simp
                with_reducible rfl
              rotate_left
              · simp only [Act.put, List.setIfInBounds_toArray, List.set_cons_zero, List.set_cons_succ, i64_w, i32_w]
                rfl
              refine done_ (by kernel_rfl) ?_
              go_wp2
              refine bodyPost_ret (results_ctt rfl _ _ w.heap.size 29 #[.int .i64 x.1.f0, .bool x.1.f1, .int .i64 x.1.f2, .int .i64 x.1.f3] (0, 0) _ rfl (four BK.out _ _ _ _) Try.underlying29 rfl (by kernel_rfl)) rfl ?_
              exact ⟨rfl, below4 HB.out (Nat.le_refl _) _ _ _ _⟩
        | succ k1 =>
          have hj : j < l.length := by have := HK.out; omega
          have p1 : 0 ≤ (j : Int) := by omega
          have q1 : (j : Int) < (l.length : Int) := by omega
          have c1b : decide ((j : Int) < (l.length : Int)) = true := decide_eq_true q1
          have hsum : IntKind.i64.wrap ((j : Int) + 1) = ((j + 1 : Nat) : Int) := by have := HLN.out.1; exact IntWalk.i64_in _ (by omega)
          obtain ⟨ad, ead, hx0, hx1, hx2, hx3⟩ := at_T29 (Kd.R_reads' HR.out).2.2 (j : Int) p1 q1
          cases ead
          obtain ⟨f, hf⟩ : ∃ f, rd_T29 l (j : Int) = f := ⟨_, rfl⟩
          rw [hf] at hx0 hx1 hx2 hx3
          simp only [Int.toNat_natCast] at hx0 hx1 hx2 hx3
          have HFF := Aside0.mk hf
          clear hf
          replace p1 := eq_true p1
          replace q1 := eq_true q1
          go_wp2_with (first | ((with_reducible refine gate_dst (N := 11) rfl ?_); refine box_event ?hg (N := 11) ?hd (cs := #[.int .i64 0, .bool false, .int .i64 0, .int .i64 0]) (t := 29) ?hr ?_; (case hd => rfl); (case hg => rfl); (case hr => first | (go_simp; done) | (go_simp; rfl)); intro gb hg w2 hbox hb; have BX := Aside0.mk hbox; have HB2 := Aside0.mk hb; have HG := Aside0.mk hg; clear hbox hb hg; have hz0 : w2.cell? ⟨gb, 0, none⟩ = some (.int .i64 0) := (blk_cell BX.out 0).trans rfl; have hz1 : w2.cell? ⟨gb, 1, none⟩ = some (.bool false) := (blk_cell BX.out 1).trans rfl; have hz2 : w2.cell? ⟨gb, 2, none⟩ = some (.int .i64 0) := (blk_cell BX.out 2).trans rfl; have hz3 : w2.cell? ⟨gb, 3, none⟩ = some (.int .i64 0) := (blk_cell BX.out 3).trans rfl; have hf0 := blk_frozen BX.out 0; have hf1 := blk_frozen BX.out 1; have hf2 := blk_frozen BX.out 2; have hf3 := blk_frozen BX.out 3))
          obtain ⟨W3, hW3⟩ : ∃ W3, ((((w2.setCell ⟨gb, 0, none⟩ (.int .i64 f.f0)).setCell ⟨gb, 1, none⟩ (.bool f.f1)).setCell ⟨gb, 2, none⟩ (.int .i64 f.f2)).setCell ⟨gb, 3, none⟩ (.int .i64 f.f3)) = W3 := ⟨_, rfl⟩
          have hgw := HG.out
          have hbl0 : Below wr.heap.size wr W3 := by rw [← hW3]; exact below4 HB2.out (by omega) _ _ _ _
          have hwr : w.heap.size ≤ wr.heap.size := HB.out.size
          have BB := Aside0.mk (by rw [← hW3]; exact four BX.out _ _ _ _ : W3.heap[gb]? = some (.cells #[.int .i64 f.f0, .bool f.f1, .int .i64 f.f2, .int .i64 f.f3] 29 (0, 0)))
          have HM3 := Aside0.mk (ownsMap_heap HM.out (hbl0.block _ HM.out.lt))
          have HR3 := Aside0.mk (Kd.R_below HR.out hbl0)
          have HB3 := Aside0.mk (HB.out.trans (hbl0.mono hwr))
          have BK3 := Aside0.mk (blk_below BK.out hbl0)
          have HNE : Aside0 (w1.heap.size ≠ gb) := ⟨by have := HM.out.lt; omega⟩
          have HNE2 : Aside0 (w.heap.size ≠ w1.heap.size) := ⟨by have := HW1.out; omega⟩
          rw [hW3]
          clear hW3 HM HR HB BK BX HB2 hbl0 hz0 hz1 hz2 hz3 hf0 hf1 hf2 hf3 hgw
          refine start_ (n := 12) (S := fun w' => w'.cell? ⟨gb, 0, none⟩ = some (.int .i64 f.f0) ∧ w'.cell? ⟨gb, 1, none⟩ = some (.bool f.f1) ∧ w'.cell? ⟨gb, 2, none⟩ = some (.int .i64 f.f2) ∧ w'.cell? ⟨gb, 3, none⟩ = some (.int .i64 f.f3)) (ds := []) #[false, false, false, false, false, false, false, false, false, false, false, false] (by kernel_rfl) rfl rfl ⟨(blk_cell BB.out 0).trans rfl, (blk_cell BB.out 1).trans rfl, (blk_cell BB.out 2).trans rfl, (blk_cell BB.out 3).trans rfl⟩ (fun hHeld => ?_)
          have HM := Aside0.mk (ownsMap_heap (w' := W3.drew) HM3.out rfl)
          have HR := Aside0.mk (Kd.R_drew HR3.out)
          have HB := Aside0.mk (below_drew HB3.out)
          have BK := Aside0.mk (blk_drew BK3.out)
          have BX := Aside0.mk (blk_drew BB.out)
          clear HM3 HR3 HB3 BK3 BB
          generalize W3.drew = w25 at HM HR HB BK BX hHeld ⊢
          refine pure_ (i := 0) (N := some 30) (v := ?_) (a' := ?_) #[true, false, false, false, false, false, false, false, false, false, false, false] rfl rfl (by kernel_rfl) (fun _ _ _ h => h) (Or.inl ⟨by rfl, ?_⟩) ?_ ?_
          rotate_left
          · intro w'
            go_simp
            with_reducible rfl
          rotate_left
          · simp only [Act.put, List.setIfInBounds_toArray, List.set_cons_zero, List.set_cons_succ, i64_w, i32_w]
            rfl
          refine pure_ (i := 1) (N := some 31) (v := ?_) (a' := ?_) #[true, true, false, false, false, false, false, false, false, false, false, false] rfl rfl (by kernel_rfl) (fun _ _ _ h => h) (Or.inl ⟨by rfl, ?_⟩) ?_ ?_
          rotate_left
          · intro w'
            go_simp
            with_reducible rfl
          rotate_left
          · simp only [Act.put, List.setIfInBounds_toArray, List.set_cons_zero, List.set_cons_succ, i64_w, i32_w]
            rfl
          refine pure_ (i := 3) (N := some 33) (v := ?_) (a' := ?_) #[true, true, false, true, false, false, false, false, false, false, false, false] rfl rfl (by kernel_rfl) (fun _ _ _ h => h) (Or.inl ⟨by rfl, ?_⟩) ?_ ?_
          rotate_left
          · intro w'
            go_simp
            with_reducible rfl
          rotate_left
          · simp only [Act.put, List.setIfInBounds_toArray, List.set_cons_zero, List.set_cons_succ, i64_w, i32_w]
            rfl
          refine pure_ (i := 4) (N := some 34) (v := ?_) (a' := ?_) #[true, true, false, true, true, false, false, false, false, false, false, false] rfl rfl (by kernel_rfl) (fun _ _ _ h => h) (Or.inl ⟨by rfl, ?_⟩) ?_ ?_
          rotate_left
          · intro w'
            go_simp
            with_reducible rfl
          rotate_left
          · simp only [Act.put, List.setIfInBounds_toArray, List.set_cons_zero, List.set_cons_succ, i64_w, i32_w]
            rfl
          refine take_ (i := 2) (N := some 32) (v := ?_) (a' := ?_) #[true, true, true, true, true, false, false, false, false, false, false, false] rfl rfl (by kernel_rfl) (fun _ _ _ h => h) (Or.inl ⟨by rfl, ?_⟩) hHeld ?_ ?_
          rotate_left
          · rintro w' ⟨s0, s1, s2, s3⟩
            go_simp
            with_reducible rfl
          rotate_left
          · simp only [Act.put, List.setIfInBounds_toArray, List.set_cons_zero, List.set_cons_succ, i64_w, i32_w]
            rfl
          refine take_ (i := 5) (N := some 35) (v := ?_) (a' := ?_) #[true, true, true, true, true, true, false, false, false, false, false, false] rfl rfl (by kernel_rfl) (fun _ _ _ h => h) (Or.inl ⟨by rfl, ?_⟩) hHeld ?_ ?_
          rotate_left
          · rintro w' ⟨s0, s1, s2, s3⟩
            go_simp
            with_reducible rfl
          rotate_left
          · simp only [Act.put, List.setIfInBounds_toArray, List.set_cons_zero, List.set_cons_succ, i64_w, i32_w]
            rfl
          refine take_ (i := 6) (N := some 36) (v := ?_) (a' := ?_) #[true, true, true, true, true, true, true, false, false, false, false, false] rfl rfl (by kernel_rfl) (fun _ _ _ h => h) (Or.inl ⟨by rfl, ?_⟩) hHeld ?_ ?_
          rotate_left
          · rintro w' ⟨s0, s1, s2, s3⟩
            go_simp
            with_reducible rfl
          rotate_left
          · simp only [Act.put, List.setIfInBounds_toArray, List.set_cons_zero, List.set_cons_succ, i64_w, i32_w]
            rfl
          refine take_ (i := 8) (N := some 38) (v := ?_) (a' := ?_) #[true, true, true, true, true, true, true, false, true, false, false, false] rfl rfl (by kernel_rfl) (fun _ _ _ h => h) (Or.inl ⟨by rfl, ?_⟩) hHeld ?_ ?_
          rotate_left
          · rintro w' ⟨s0, s1, s2, s3⟩
            go_simp
            with_reducible rfl
          rotate_left
          · simp only [Act.put, List.setIfInBounds_toArray, List.set_cons_zero, List.set_cons_succ, i64_w, i32_w]
            rfl
          refine pure_ (i := 7) (N := some 37) (v := ?_) (a' := ?_) #[true, true, true, true, true, true, true, true, true, false, false, false] rfl rfl (by kernel_rfl) (fun _ _ _ h => h) (Or.inl ⟨by rfl, ?_⟩) ?_ ?_
          rotate_left
          · intro w'
            go_simp
            with_reducible rfl
          rotate_left
          · simp only [Act.put, List.setIfInBounds_toArray, List.set_cons_zero, List.set_cons_succ, i64_w, i32_w]
            rfl
          refine pure_ (i := 9) (N := some 39) (v := ?_) (a' := ?_) #[true, true, true, true, true, true, true, true, true, true, false, false] rfl rfl (by kernel_rfl) (fun _ _ _ h => h) (Or.inl ⟨by rfl, ?_⟩) ?_ ?_
          rotate_left
          · intro w'
            go_simp
            with_reducible rfl
          rotate_left
          · simp only [Act.put, List.setIfInBounds_toArray, List.set_cons_zero, List.set_cons_succ, i64_w, i32_w]
            rfl
          obtain ⟨w26, hrun1, hM1, hg1⟩ := HM.out.update keyed3 u47 (by have := HLN.out.1; simp [maxLen]; omega) (keyOf_int_mk Try.underlying3 (a := f.f2) (by rw [← HFF.out]; exact (HLN.out.2 _ (by simp [rd_T29, List.getD_eq_getElem?_getD, List.getElem?_eq_getElem hj])).1)) (placeR_enc (f, false))
          obtain ⟨w27, hrun2, hM2, hg2⟩ := hM1.update keyed3 u47 (by have := HLN.out.1; simp [maxLen]; omega) (keyOf_int_mk Try.underlying3 (a := f.f3) (by rw [← HFF.out]; exact (HLN.out.2 _ (by simp [rd_T29, List.getD_eq_getElem?_getD, List.getElem?_eq_getElem hj])).2)) (placeR_enc (f, true))
          have BX1 := grown_cell BX.out hg1 (Ne.symm HNE.out)
          have BX2 := grown_cell BX1 hg2 (Ne.symm HNE.out)
          refine one_ (i := 10) (N := none) #[true, true, true, true, true, true, true, true, true, true, true, false] rfl rfl (by kernel_rfl) (by decide) (fun K hK => ?_)
          refine map_step (by rfl) _ _ _ _ rfl _ _ _ rfl rfl rfl hrun1 rfl ?_
          refine hK.out _ _ ⟨(blk_cell BX1 0).trans rfl, (blk_cell BX1 1).trans rfl, (blk_cell BX1 2).trans rfl, (blk_cell BX1 3).trans rfl⟩ (fun hHeld1 => ?_)
          clear hK K
          refine one_ (i := 11) (N := none) #[true, true, true, true, true, true, true, true, true, true, true, true] rfl rfl (by kernel_rfl) (by decide) (fun K hK => ?_)
          refine map_step (by rfl) _ _ _ _ rfl _ _ _ rfl rfl rfl hrun2 rfl ?_
          refine hK.out _ _ ⟨(blk_cell BX2 0).trans rfl, (blk_cell BX2 1).trans rfl, (blk_cell BX2 2).trans rfl, (blk_cell BX2 3).trans rfl⟩ (fun hHeld2 => ?_)
          clear hK K
          refine done_ (by kernel_rfl) ?_
          go_wp2
          go_roundg k1
          case measure => omega
          case rel =>
            refine ⟨j + 1, _, by first | rfl | simp [hsum], ⟨by have := HK.out; omega⟩, ⟨?_⟩, ⟨World.ownsMap.mono hM2 (by omega)⟩, ⟨?_⟩, ⟨?_⟩, ⟨?_⟩⟩
            · have hs := HS.out.put f
              rwa [List.take_succ_eq_append_getElem hj, show l[j] = f by rw [← HFF.out]; simp [rd_T29, List.getD_eq_getElem?_getD, List.getElem?_eq_getElem hj]]
            · have st : ∀ k, (True ∧ k ≠ w1.heap.size) → w27.heap[k]? = w25.heap[k]? ∨ True := fun _ _ => .inr trivial
              exact r_map (r_map HR.out hg1 (fun k hk => hk.2)) hg2 (fun k hk => hk.2)
            · exact (HB.out.grown hg1 HB.out.size (fun k e => by cases e; have := HW1.out; omega)).grown hg2 (by have := HB.out.size; have := hg1.size; omega) (fun k e => by cases e; have := HW1.out; omega)
            · exact grown_cell (grown_cell BK.out hg1 HNE2.out) hg2 HNE2.out
    · rw [if_neg he] at HH1
      have he' : (er == 0) = false := by simpa using he
      have he2 : (er != 0) = true := by simpa using he
      obtain ⟨rfl, rfl, rfl, rfl, rfl, rfl⟩ : 0 = r1 ∧ false = r2 ∧ 0 = r3 ∧ 0 = r4 ∧ false = r5 ∧ er = r6 := by simpa using HH1
      clear HH1 HH
      go_enter Try.func14, Try.ntmps14
      go_wp2_with (first | ((with_reducible refine gate_callee (f := 11) rfl ?_); refine goesL_ (some 16) rfl rfl Try.func11 (by kernel_rfl) rfl #[.int .i64 a0] rfl (by (try simp only [List.map_toArray, List.map_cons, List.map_nil]); first | done | rfl | (simp only [List.length_drop, List.length_take]; rfl)) ?_; (with_reducible refine (impose_Faces.calls a0 l er _ HF.out).mono ?_); rintro e w1 ⟨v1, rfl, ho0, hb⟩; refine ⟨_, rfl, ?_⟩; have HL := Aside0.mk ho0; have HB1 := Aside0.mk hb; clear ho0 hb; obtain ⟨A1, c1, e1⟩ := Kd.R_slice HL.out; subst e1; have BK := Aside0.mk ((HB1.out.block _ (by simp)).trans (heap_alloc_new w _)); have HB2 := Aside0.mk ((HB.out.alloc (Nat.le_refl _) _).trans (HB1.out.mono (by simp))); have hcz0 : w1.cell? ⟨w.heap.size, 0, none⟩ = some (.int .i64 0) := (blk_cell BK.out 0).trans rfl; have hcz1 : w1.cell? ⟨w.heap.size, 1, none⟩ = some (.bool false) := (blk_cell BK.out 1).trans rfl; have hcz2 : w1.cell? ⟨w.heap.size, 2, none⟩ = some (.int .i64 0) := (blk_cell BK.out 2).trans rfl; have hcz3 : w1.cell? ⟨w.heap.size, 3, none⟩ = some (.int .i64 0) := (blk_cell BK.out 3).trans rfl; have hfz0 := blk_frozen BK.out 0; have hfz1 := blk_frozen BK.out 1; have hfz2 := blk_frozen BK.out 2; have hfz3 := blk_frozen BK.out 3))
      refine bodyPost_ret (results_ctt rfl _ _ w.heap.size 29 #[.int .i64 0, .bool false, .int .i64 0, .int .i64 0] (0, 0) _ rfl (four BK.out _ _ _ _) Try.underlying29 rfl (by kernel_rfl)) rfl ?_
      exact ⟨rfl, below4 HB2.out (Nat.le_refl _) _ _ _ _⟩
  · rw [if_neg hwf] at h
    cases h
end Go.Proofs.Ytbllpiboodlepaa.P
