import Derived.Test.YtphdjlfnlcapcaaHJoints
set_option linter.unusedVariables false
set_option linter.unusedSimpArgs false
namespace Go.Proofs.Ytphdjlfnlcapcaa.P
open Go.RowKit Go.Proofs.YtphdjlfnlcapcaaW.PrintWords Go.Proofs.YtphdjlfnlcapcaaW.PrintLast Go.Proofs.YtphdjlfnlcapcaaW.PrintMore Go.Proofs.Ytphdjlfnlcapcaa.Rng
attribute [local go_sem] Oper.semAt_some


def okItem (x : S39) : Bool := inM x.f0 && inM x.f1 && decide (0 ≤ x.f2) && decide (x.f2 ≤ 1000000000)
def gaps (l : List S39) : List Int := (jl [] l).map fun b => hi b + lo b
def margins_Between.f (l : List S39) : Option (List Int × Int) :=
  if 4000 < l.length then some ([], 2) else if l.all okItem then some (gaps l, 0) else some ([], 1)

theorem C_putObj {W : World} {A : Option Addr} {n : Nat} {xs : List Int} (h : Kd.C (Kd.int .i64) W A n xs) {l : Nat} {o o' : Obj} (hl : W.heap[l]? = some o) (ho : o.isCells = false) : Kd.C (Kd.int .i64) (W.putObj l o') A n xs := by
  obtain ⟨h1, h2, h3⟩ := h
  refine ⟨h1, h2, fun hn => ?_⟩
  obtain ⟨ad, e, hc⟩ := h3 hn
  refine ⟨ad, e, fun j p hp => ?_⟩
  obtain ⟨cs, hs, hr, hcc⟩ := hc j p hp
  refine ⟨cs, hs, hr, fun i u hu => ?_⟩
  have := hcc i u hu
  obtain ⟨o2, ho2, hc2⟩ := cells_of_cell this
  refine (World.cell?_of_block (World.putObj_heap_other (fun e => ?_))).trans this
  rw [e, hl] at ho2
  cases ho2
  rw [ho] at hc2
  cases hc2
theorem jl_length : ∀ (b : List Int) (l : List S39), (jl b l).length = l.length + 1
  | _, [] => rfl
  | b, x :: r => by simp [jl, jl_length [x.f1] r]
theorem jl_ok : ∀ (b : List Int) (l : List S39), b.length ≤ 1 → b.all inM = true → l.all okItem = true → ∀ m ∈ jl b l, m.all inM = true ∧ m.length ≤ 2
  | b, [], hb, ha, _, m, hm => by
    simp only [jl, List.mem_singleton] at hm
    subst hm
    exact ⟨ha, by omega⟩
  | b, x :: r, hb, ha, hl, m, hm => by
    simp only [List.all_cons, Bool.and_eq_true] at hl
    have hx := hl.1
    unfold okItem at hx
    simp only [Bool.and_eq_true] at hx
    simp only [jl, List.mem_cons] at hm
    rcases hm with rfl | hm
    · rw [List.all_append, ha]
      refine ⟨by simp [hx.1.1.1], by simp; omega⟩
    · exact jl_ok [x.f1] r (by simp) (by simp [hx.1.1.2]) hl.2 m hm
theorem join_ok (m : List Int) (h1 : m.all inM = true) (h2 : m.length ≤ 2) : margins_Join.f m = some (hi m + lo m, 0) := by
  unfold margins_Join.f
  rw [if_neg (by omega), if_pos h1]
theorem hbx {W W' : World} {B : Nat} {t : TypeId} {v : Value} (h : Boxed W B t v) (hb : Below W.heap.size W W') : Boxed W' B t v := (hb.block _ h.lt).trans h
theorem _root_.Go.Boxed.of_below {W W' : World} {B : Nat} {t : TypeId} {v : Value} (h : Boxed W B t v) (hb : Below W.heap.size W W') : Boxed W' B t v := (hb.block _ h.lt).trans h
theorem rd_nat39 (l : List S39) (i : Nat) (h : i < l.length) : rd_T39 l (i : Int) = l[i] := by unfold rd_T39; simp [List.getD_eq_getElem?_getD, h]
theorem item_miss (l : List S39) (i : Nat) (h : i < l.length) (hm : ¬ okItem (rd_T39 l (i : Int)) = true) : l.all okItem = false := by
  rw [rd_nat39 l i h] at hm
  rw [List.all_eq_false]
  exact ⟨l[i], List.getElem_mem h, hm⟩
theorem item_snoc (l : List S39) (i : Nat) (h : i < l.length) : (l.take (i + 1)).all okItem = ((l.take i).all okItem && okItem (rd_T39 l (i : Int))) := by
  rw [rd_nat39 l i h, List.take_succ_eq_append_getElem h, List.all_append]; simp

set_option maxRecDepth 100000 in
set_option maxHeartbeats 4000000 in
theorem margins_Between.calls (A0 : Option Addr) (c0 : Nat) (l0 : List S39) (r1 : List Int) (r2 : Int) (w : World) (hr0 : Kd.C k39 w A0 l0.length l0) (hc0 : l0.length ≤ c0) (h : margins_Between.f l0 = some (r1, r2)) :
    Calls Try.prog 12 #[.slice A0 l0.length c0] w fun e w' => ∃ v0_ : Value, e = .returned (.tuple #[v0_, .int .i64 r2]) ∧ Kd.R (Kd.int .i64) 3 w' w.heap.size (fun _ => True) v0_ r1 ∧ Below w.heap.size w w' := by
  have HR0 := Aside0.mk hr0
  clear hr0 hc0
  unfold margins_Between.f at h
  have b2 := Boxed.new w 22 (.slice none 0 0)
  have b3 := Boxed.new (w.alloc (.cells #[.slice none 0 0] 22)) 25 (.int .i64 0)
  rw [World.size_alloc] at b3
  replace b2 := b2.alloc (.cells #[.int .i64 0] 25)
  have HB0 : Below w.heap.size w ((w.alloc (.cells #[.slice none 0 0] 22)).alloc (.cells #[.int .i64 0] 25)) := ((Below.refl _ w).alloc (Nat.le_refl _) _).alloc (by simp) _
  refine (callsIn_wide (n := 3)).1 ?_
  refine callsIn_of_wp_marks Try.func12 rfl trivial ?_ rfl
  simp only [Try.ntmps12, List.size_toArray, List.length_cons, List.length_nil, Nat.reduceAdd, Nat.reduceSub, Array.replicate_succ, Array.replicate_zero, List.push_toArray, List.append_toArray, List.nil_append, List.cons_append]
  by_cases hl : 4000 < l0.length
  · rw [if_pos hl] at h
    obtain ⟨rfl, rfl⟩ : [] = r1 ∧ 2 = r2 := by simpa using h
    clear h
    have hl' : decide (4000 < (l0.length : Int)) = true := by rw [decide_eq_true_eq]; omega
    gi_wp2
    refine ⟨.tuple #[.slice none 0 0, .int .i64 2], by simp [results, Try.results12, go_sem], .slice none 0 0, rfl, Kd.R_nil _ _ _ _ _, ?_⟩
    exact ((Below.refl _ w).alloc (Nat.le_refl _) _).alloc (by simp) _
  · rw [if_neg hl] at h
    have H := Aside0.mk h
    clear h
    have hl' : decide (4000 < (l0.length : Int)) = false := by rw [decide_eq_false_iff_not]; omega
    have hl2 : decide (4000 < l0.length) = false := by rw [decide_eq_false_iff_not]; omega
    gi_wp2
    have hlen : l0.length ≤ 4000 := by omega
    clear hl hl' hl2
    have B2 := Aside0.mk b2
    have B3 := Aside0.mk b3
    have BL := Aside0.mk HB0
    clear b2 b3 HB0
    gi_loopw [15] (fun v15 wr => ∃ i : Nat, v15 = .int .i64 (i : Int) ∧ Aside0 (i ≤ l0.length) ∧ Aside0 ((l0.take i).all okItem = true) ∧ Aside0 (Boxed wr w.heap.size 22 (.slice none 0 0)) ∧ Aside0 (Boxed wr (w.heap.size + 1) 25 (.int .i64 0)) ∧ Aside0 (Below w.heap.size w wr))
      (fun v15 _ => l0.length - (intOf v15).toNat)
    case atStart => exact ⟨0, rfl, ⟨Nat.zero_le _⟩, ⟨by simp⟩, B2, B3, BL⟩
    case round =>
      clear B2 B3 BL
      obtain ⟨i, rfl, HI, HA, B2, B3, BL⟩ := hrel
      by_cases hlt : i < l0.length
      · have hd : decide ((i : Int) < (l0.length : Int)) = true := by simpa using hlt
        obtain ⟨ad, e, hx0, hx1, hx2⟩ := at_T39 HR0.out (i : Int) (by omega) (by omega)
        cases e
        replace hx0 := (BL.out.cell (World.block_lt_of_cell? w _ hx0)).trans hx0
        replace hx1 := (BL.out.cell (World.block_lt_of_cell? w _ hx1)).trans hx1
        replace hx2 := (BL.out.cell (World.block_lt_of_cell? w _ hx2)).trans hx2
        rw [Int.toNat_natCast] at hx0 hx1 hx2
        have C2 := B2.out.cell
        have C3 := B3.out.cell
        have F2 := B2.out.frozen
        have F3 := B3.out.frozen
        have C2' : ∀ o, (wr.alloc o).cell? ⟨w.heap.size, 0, none⟩ = some (.slice none 0 0) := fun o => (B2.out.alloc o).cell
        have C3' : ∀ o, (wr.alloc o).cell? ⟨w.heap.size + 1, 0, none⟩ = some (.int .i64 0) := fun o => (B3.out.alloc o).cell
        have F2' : ∀ o, (wr.alloc o).frozen? ⟨w.heap.size, 0, none⟩ = false := fun o => (B2.out.alloc o).frozen
        have F3' : ∀ o, (wr.alloc o).frozen? ⟨w.heap.size + 1, 0, none⟩ = false := fun o => (B3.out.alloc o).frozen
        by_cases h0 : inM (rd_T39 l0 (i : Int)).f0 = true
        · by_cases h1 : inM (rd_T39 l0 (i : Int)).f1 = true
          · by_cases h2 : (rd_T39 l0 (i : Int)).f2 < 0
            · have h2b : decide ((rd_T39 l0 (i : Int)).f2 < 0) = true := by simpa using h2
              gi_wp2_with (first | (refine ⟨trivial, ?_⟩; gi_at_call 17; refine (callsIn_wide.2 (isMargin_yes _ _ h0)).mono ?_; rintro e w' ⟨rfl, rfl⟩) | (refine ⟨trivial, ?_⟩; gi_at_call 17; refine (callsIn_wide.2 (isMargin_yes _ _ h1)).mono ?_; rintro e w' ⟨rfl, rfl⟩))
              have HH := H.out
              rw [if_neg (by rw [item_miss l0 i hlt (by unfold okItem; simp [*] <;> omega)]; simp)] at HH
              obtain ⟨rfl, rfl⟩ : [] = r1 ∧ 1 = r2 := by simpa using HH
              refine ⟨.tuple #[.slice none 0 0, .int .i64 1], by simp [results, Try.results12, go_sem, C2', C3', World.cell?_setCell_other, World.cell?_setCell_same', World.cell?_setCell_same], .slice none 0 0, rfl, Kd.R_nil _ _ _ _ _, ?_⟩
              exact ((BL.out.alloc BL.out.size _).setCell (p := ⟨w.heap.size, 0, none⟩) (Nat.le_refl _) _).setCell (p := ⟨w.heap.size + 1, 0, none⟩) (by simp) _
            · have h2b : decide ((rd_T39 l0 (i : Int)).f2 < 0) = false := by simpa using h2
              by_cases h3 : 1000000000 < (rd_T39 l0 (i : Int)).f2
              · have h3b : decide (1000000000 < (rd_T39 l0 (i : Int)).f2) = true := by simpa using h3
                gi_wp2_with (first | (refine ⟨trivial, ?_⟩; gi_at_call 17; refine (callsIn_wide.2 (isMargin_yes _ _ h0)).mono ?_; rintro e w' ⟨rfl, rfl⟩) | (refine ⟨trivial, ?_⟩; gi_at_call 17; refine (callsIn_wide.2 (isMargin_yes _ _ h1)).mono ?_; rintro e w' ⟨rfl, rfl⟩))
                have HH := H.out
                rw [if_neg (by rw [item_miss l0 i hlt (by unfold okItem; simp [*] <;> omega)]; simp)] at HH
                obtain ⟨rfl, rfl⟩ : [] = r1 ∧ 1 = r2 := by simpa using HH
                refine ⟨.tuple #[.slice none 0 0, .int .i64 1], by simp [results, Try.results12, go_sem, C2', C3', World.cell?_setCell_other, World.cell?_setCell_same', World.cell?_setCell_same], .slice none 0 0, rfl, Kd.R_nil _ _ _ _ _, ?_⟩
                exact ((BL.out.alloc BL.out.size _).setCell (p := ⟨w.heap.size, 0, none⟩) (Nat.le_refl _) _).setCell (p := ⟨w.heap.size + 1, 0, none⟩) (by simp) _
              · have h3b : decide (1000000000 < (rd_T39 l0 (i : Int)).f2) = false := by simpa using h3
                gi_wp2_with (first | (refine ⟨trivial, ?_⟩; gi_at_call 17; refine (callsIn_wide.2 (isMargin_yes _ _ h0)).mono ?_; rintro e w' ⟨rfl, rfl⟩) | (refine ⟨trivial, ?_⟩; gi_at_call 17; refine (callsIn_wide.2 (isMargin_yes _ _ h1)).mono ?_; rintro e w' ⟨rfl, rfl⟩))
                go_roundw
                case rel => exact ⟨i + 1, by go_num, ⟨by omega⟩, ⟨by rw [item_snoc l0 i hlt, HA.out]; unfold okItem; simp [*] <;> omega⟩, ⟨B2.out.alloc _⟩, ⟨B3.out.alloc _⟩, ⟨BL.out.alloc BL.out.size _⟩⟩
                case measure => simp [intOf]; omega
          · have h1' : inM (rd_T39 l0 (i : Int)).f1 = false := by simpa using h1
            gi_wp2_with (first | (refine ⟨trivial, ?_⟩; gi_at_call 17; refine (callsIn_wide.2 (isMargin_yes _ _ h0)).mono ?_; rintro e w' ⟨rfl, rfl⟩) | (refine ⟨trivial, ?_⟩; gi_at_call 17; refine (callsIn_wide.2 (isMargin_no _ _ h1')).mono ?_; rintro e w' ⟨rfl, rfl⟩))
            have HH := H.out
            rw [if_neg (by rw [item_miss l0 i hlt (by unfold okItem; simp [*] <;> omega)]; simp)] at HH
            obtain ⟨rfl, rfl⟩ : [] = r1 ∧ 1 = r2 := by simpa using HH
            refine ⟨.tuple #[.slice none 0 0, .int .i64 1], by simp [results, Try.results12, go_sem, C2', C3', World.cell?_setCell_other, World.cell?_setCell_same', World.cell?_setCell_same], .slice none 0 0, rfl, Kd.R_nil _ _ _ _ _, ?_⟩
            exact ((BL.out.alloc BL.out.size _).setCell (p := ⟨w.heap.size, 0, none⟩) (Nat.le_refl _) _).setCell (p := ⟨w.heap.size + 1, 0, none⟩) (by simp) _
        · have h0' : inM (rd_T39 l0 (i : Int)).f0 = false := by simpa using h0
          gi_wp2_with (first | (refine ⟨trivial, ?_⟩; gi_at_call 17; refine (callsIn_wide.2 (isMargin_no _ _ h0')).mono ?_; rintro e w' ⟨rfl, rfl⟩) | (refine ⟨trivial, ?_⟩))
          have HH := H.out
          rw [if_neg (by rw [item_miss l0 i hlt (by unfold okItem; simp [*] <;> omega)]; simp)] at HH
          obtain ⟨rfl, rfl⟩ : [] = r1 ∧ 1 = r2 := by simpa using HH
          refine ⟨.tuple #[.slice none 0 0, .int .i64 1], by simp [results, Try.results12, go_sem, C2', C3', World.cell?_setCell_other, World.cell?_setCell_same', World.cell?_setCell_same], .slice none 0 0, rfl, Kd.R_nil _ _ _ _ _, ?_⟩
          exact ((BL.out.alloc BL.out.size _).setCell (p := ⟨w.heap.size, 0, none⟩) (Nat.le_refl _) _).setCell (p := ⟨w.heap.size + 1, 0, none⟩) (by simp) _
      · obtain rfl : i = l0.length := by have := HI.out; omega
        have hd : decide ((l0.length : Int) < (l0.length : Int)) = false := by simp
        have hA := HA.out
        rw [List.take_of_length_le (Nat.le_refl _)] at hA
        have HH := H.out
        rw [if_pos hA] at HH
        obtain ⟨rfl, rfl⟩ : gaps l0 = r1 ∧ 0 = r2 := by simpa using HH
        clear HH H
        have C2 := B2.out.cell
        have C3 := B3.out.cell
        have F2 := B2.out.frozen
        have F3 := B3.out.frozen
        gi_wp2_with (refine ⟨trivial, ?_⟩; gi_at_call 20; refine (callsIn_wide.2 (joints_calls _ _ _ _)).mono ?_; rintro e w' ⟨rfl, rfl⟩)
        obtain ⟨W0, hW0⟩ : ∃ W0, (wr.alloc (Obj.cells #[Value.slice none 0 0] 22)).alloc (Obj.cells #[Value.slice A0 l0.length c0] 23) = W0 := ⟨_, rfl⟩
        have hs0 : W0.heap.size = wr.heap.size + 2 := by rw [← hW0]; simp
        have bl0 : Below w.heap.size w W0 := by rw [← hW0]; exact (BL.out.alloc BL.out.size _).alloc (by simp; have := BL.out.size; omega) _
        have bo : Boxed W0 wr.heap.size 22 (.slice none 0 0) := by rw [← hW0]; exact (Boxed.new wr 22 _).alloc _
        have bj : Boxed W0 (wr.heap.size + 1) 23 (.slice A0 l0.length c0) := by
          rw [← hW0]; have := Boxed.new (wr.alloc (Obj.cells #[Value.slice none 0 0] 22)) 23 (.slice A0 l0.length c0); rwa [World.size_alloc] at this
        have b2 : Boxed W0 w.heap.size 22 (.slice none 0 0) := by rw [← hW0]; exact (B2.out.alloc _).alloc _
        have b3 : Boxed W0 (w.heap.size + 1) 25 (.int .i64 0) := by rw [← hW0]; exact (B3.out.alloc _).alloc _
        have h2r : w.heap.size + 1 < wr.heap.size := B3.out.lt
        rw [hW0]
        have hsl : ∀ ad, A0 = some ad → 0 < l0.length → ad.block < w.heap.size := by
          intro ad he hn
          obtain ⟨ad', e', hx0, _⟩ := at_T39 HR0.out 0 (by omega) (by omega)
          rw [he] at e'
          cases e'
          have := World.block_lt_of_cell? w _ hx0
          rwa [add_block] at this
        have hiter := joints_iter l0 A0 c0 (wr.heap.size + 1) (fun k => k < w.heap.size ∨ k = wr.heap.size + 1) W0 hlen bj (Kd.C_below HR0.out bl0) (.inr rfl) (fun ad he hn => ⟨.inl (hsl ad he hn), by have := hsl ad he hn; omega⟩)
        refine rangeFunc (lb := #[.pointer (some ⟨wr.heap.size + 1, 0, none⟩)]) (gf := 22) rfl (enters_of Try.func22 (by kernel_rfl) rfl) hiter (fun _ => rfl) (fun k hk => by rcases hk with hk | hk <;> omega) ?hV
          (fun pre W => (∃ v, Boxed W wr.heap.size 22 v ∧ W.ownsRow (wr.heap.size + 2) 3 1 v (pre.map fun x : Value × List Int => hi x.2 + lo x.2).length (nums .i64 (pre.map fun x => hi x.2 + lo x.2)) ∧ True) ∧ Below w.heap.size w W ∧ Boxed W w.heap.size 22 (.slice none 0 0) ∧ Boxed W (w.heap.size + 1) 25 (.int .i64 0))
          (fun _ _ _ => False)
          (OwnFrom.and (Own.from (holdsRow_own _ _ _ _ _ _ _ (fun _ _ => True)) _) (OwnFrom.and (ownFrom_below (Nat.le_refl _) bl0.size) (OwnFrom.and (Own.from (boxed_own _ _ (fun _ => .slice none 0 0)) _) (Own.from (boxed_own _ _ (fun _ => .int .i64 0)) _))))
          (fun _ _ _ _ _ hs _ _ => hs) ⟨⟨_, bo, own_nil _ _ _ _, trivial⟩, bl0, b2, b3⟩ ?a1 ?assign ?body ?done ?stop
        case assign =>
          intro l x W K hK
          gi_wp2
          exact hK
        case hV =>
          rintro pre x W l o o' ⟨hm, A, c, h1, h2, h3⟩ hl ho
          exact ⟨hm, A, c, h1, h2, C_putObj h3 hl ho⟩
        case body =>
          rintro l pre ⟨xv, xs⟩ Wa Wb hlt ⟨⟨v, hv, hrow, _⟩, hbl, hb2, hb3⟩ hab ⟨hm, A, c, hx, hc, hC⟩
          dsimp only at hm hx hc hC
          subst hx
          obtain ⟨tl, htl⟩ := hm
          have hxm : xs ∈ jl [] l0 := by rw [← htl]; simp
          obtain ⟨hx1, hx2⟩ := jl_ok [] l0 (by simp) (by simp) hA xs hxm
          have hpl : pre.length ≤ 4000 := by
            have := congrArg List.length htl
            rw [jl_length] at this
            simp at this
            omega
          have HF := Aside0.mk (join_ok xs hx1 hx2)
          obtain ⟨i0, hi0, hz0, hz1, hz2⟩ := info_parts info3
          have HV := Aside0.mk (show Boxed Wb wr.heap.size 22 v from (hab.block _ hv.lt).trans hv)
          have HROW := Aside0.mk (pw_own_below hrow hab)
          have HLT := Aside0.mk hv.lt
          have HB := Aside0.mk hbl
          have HAB := Aside0.mk hab
          have H2 := Aside0.mk hb2
          have H3 := Aside0.mk hb3
          have HRA := Aside0.mk hrow
          clear hv hrow hbl hab hb2 hb3 htl hxm hlt hx1 hx2 hiter hW0 bo bj b2 b3
          dsimp only
          gi_wp2_with (first | (refine ⟨trivial, rfl, ?_⟩; gi_at_call 10; refine (CallsIn.inRound l (callsIn_wide.2 (margins_Join.calls _ _ _ _ _ _ hC hc HF.out))).mono ?_; rintro e w' ⟨rfl, hb⟩; have hvb : Boxed w' wr.heap.size 22 v := (hb.block _ HV.out.lt).trans HV.out; have hvc := hvb.cell; have hvf := hvb.frozen; have HVB := Aside0.mk hvb; have HRB := Aside0.mk (pw_own_below HROW.out hb); have HBB := Aside0.mk hb; clear hvb hb) | (gi_at_builtin; refine wpListIn_append_own _ rfl _ _ 22 rfl (wr.heap.size + 2) 3 i0 (.int .i64 0) 1 8 Try.underlying22 hi0 hz0 hz1 hz2 rfl (by decide) _ _ _ rfl (HRB.out.alloc _) ⟨w'.heap.size, 0, none⟩ 1 1 [.int .i64 (hi xs + lo xs)] rfl rfl (cell_one_new _ _ _) (by simp [Value.oneCell']) ?c3 ?c4 ?c5 ?_))
          case c3 => simp [maxLen]; omega
          case c4 => simp; omega
          case c5 => have := HBB.out.size; have := HAB.out.size; have := HLT.out; simp; omega
          intro v' w1 hown hgrow _
          obtain ⟨g', cap', rfl⟩ := ownsRow_succ hown
          have hnr := HVB.out.not_row (by decide) HRB.out
          have hv1 : Boxed w1 wr.heap.size 22 v := (HVB.out.alloc _).kept hgrow hnr
          have hc1 := hv1.cell
          have hf1 := hv1.frozen
          have HV1 := Aside0.mk hv1
          have HG := Aside0.mk hgrow
          have HO := Aside0.mk hown
          clear hv1 hgrow hown hnr
          gi_wp2
          have hsz1 := HAB.out.size
          have hsz2 := HBB.out.size
          have hlt := HLT.out
          have hrow : ∀ k, v.ownBlock = some k → wr.heap.size + 2 ≤ k ∧ k < Wa.heap.size := fun k hk => ⟨own_base HRA.out k hk, own_lt HRA.out k hk⟩
          refine ⟨(((((Lets.refl _ Wa Wb).below HBB.out).alloc _).grown HG.out (fun k hk => ⟨.inr ⟨(hrow k hk).2, ?_⟩, ?_⟩)).setCell _ (.inr ⟨hlt, ?_⟩)), ⟨_, HV1.out.set _, ?_, trivial⟩, ?_, ?_, ?_⟩
          · have := hrow k hk; omega
          · intro o ho
            obtain ⟨cells, hcc⟩ := own_typed (HRB.out.alloc _) k hk
            rw [hcc] at ho
            cases ho
            rfl
          · show ¬ (wr.heap.size < w.heap.size ∨ wr.heap.size = wr.heap.size + 1)
            omega
          · have hh := HO.out
            rw [nums_snoc] at hh
            have h2 := hh.kept (grownBy_setCell' w1 wr.heap.size (.slice (some ⟨g', 0, none⟩) (pre.length + 1) cap')) (.inr (HV1.out.not_row (by decide) hh).symm)
            simpa using h2
          · refine ((((HB.out.trans (HAB.out.mono HB.out.size)).trans (HBB.out.mono (by omega))).alloc (by omega) _).grown HG.out (by simp; omega) (fun k hk => by have := hrow k hk; omega)).setCell (p := ⟨wr.heap.size, 0, none⟩) (by show w.heap.size ≤ wr.heap.size; omega) _
          · have h1 : Boxed w1 w.heap.size 22 (.slice none 0 0) := (((hbx H2.out HAB.out).of_below HBB.out).alloc _).kept HG.out (fun e => by have := hrow _ e.symm; omega)
            exact h1.other (by omega) _
          · have h1 : Boxed w1 (w.heap.size + 1) 25 (.int .i64 0) := (((hbx H3.out HAB.out).of_below HBB.out).alloc _).kept HG.out (fun e => by have := hrow _ e.symm; omega)
            exact h1.other (by omega) _
        case done =>
          rintro D ys W hD hS ⟨⟨v, hv, hrow, _⟩, hbl, hb2, hb3⟩ hK
          obtain ⟨Ar, cr, rfl⟩ := own_slice hrow
          rw [List.length_map] at hrow hv
          have HV := Aside0.mk hv
          have HR := Aside0.mk hrow
          have hvc := hv.cell
          have C2 := hb2.cell
          have C3 := hb3.cell
          have F2 := hb2.frozen
          have F3 := hb3.frozen
          clear hiter hW0
          gi_wp2
          generalize hWz : (W.setCell ⟨w.heap.size, 0, none⟩ (.slice Ar ys.length cr)).setCell ⟨w.heap.size + 1, 0, none⟩ (.int .i64 0) = Wz
          have e2 : Boxed Wz w.heap.size 22 (.slice Ar ys.length cr) := by rw [← hWz]; exact (hb2.set _).other (by omega) _
          have e3 : Boxed Wz (w.heap.size + 1) 25 (.int .i64 0) := by rw [← hWz]; exact (hb3.other (by omega) _).set _
          have hKz : Wz.heap[D]? = some (.deferred (some [])) := by rw [← hWz]; exact (KeepsOthers.setCell _ _ _).same D _ ((KeepsOthers.setCell _ _ _).same D _ hK rfl) rfl
          have hRz : Wz.ownsRow (wr.heap.size + 2) 3 1 (.slice Ar ys.length cr) ys.length (nums .i64 (List.map (fun x : Value × List Int => hi x.2 + lo x.2) ys)) := by
            rw [← hWz]
            have h1 := HR.out.kept (grownBy_setCell' W w.heap.size (.slice Ar ys.length cr)) (.inr (hb2.not_row (by decide) HR.out).symm)
            exact h1.kept (grownBy_setCell' _ (w.heap.size + 1) (.int .i64 0)) (.inr ((hb3.other (by omega) _).not_row (by decide) h1).symm)
          have hBz : Below w.heap.size w Wz := by rw [← hWz]; exact (hbl.setCell (p := ⟨w.heap.size, 0, none⟩) (Nat.le_refl _) _).setCell (p := ⟨w.heap.size + 1, 0, none⟩) (by show w.heap.size ≤ w.heap.size + 1; omega) _
          refine ⟨by simp, .inl ⟨_, _, rfl, run_takeDeferred (by first | exact hKz | simpa using hKz), ?_⟩⟩
          have e2' : (Wz.putObj D (.deferred none)).cell? ⟨w.heap.size, 0, none⟩ = some (.slice Ar ys.length cr) := (e2.kept (grownBy_putObj' Wz D _) (by intro e; cases e; omega)).cell
          have e3' : (Wz.putObj D (.deferred none)).cell? ⟨w.heap.size + 1, 0, none⟩ = some (.int .i64 0) := (e3.kept (grownBy_putObj' Wz D _) (by intro e; cases e; omega)).cell
          refine ⟨.tuple #[.slice Ar ys.length cr, .int .i64 0], by simp [results, Try.results12, go_sem, e2', e3'], _, rfl, ?_, ?_⟩
          · have h1 := ownsRow_putObj hRz (.deferred none) hKz rfl
            have e : gaps l0 = List.map (fun x : Value × List Int => hi x.2 + lo x.2) ys := by
              unfold gaps
              rw [← hS, List.map_map]
              rfl
            rw [e]
            refine Kd.R_of_own (own_weaken (by rw [List.length_map]; exact h1) (by omega)) (fun _ _ => trivial)
          · exact hBz.grown (grownBy_putObj' Wz D _) hBz.size (fun k e => by cases e; omega)
        case stop =>
          intro D c pre W _ _ h _
          exact h.elim
end Go.Proofs.Ytphdjlfnlcapcaa.P
