import Derived.Test.YtciheadencbmjaaHIdx
import Derived.Test.YtciheadencbmjaaHRangeN
set_option linter.unusedVariables false
set_option linter.unusedSimpArgs false
namespace Go.Proofs.Ytciheadencbmjaa.P
open Go.RowKit Go.Proofs.YtciheadencbmjaaW.PrintWords Go.Proofs.YtciheadencbmjaaW.PrintLast Go.Proofs.YtciheadencbmjaaW.PrintMore Go.Proofs.Ytciheadencbmjaa.Rng
attribute [local go_sem] Oper.semAt_some max2_int min2_int max_two min_two

/-- The cells of items, with their numbers. -/
def walkG (cols : Int) : Nat → Int → Int → List Int → List (Int × S39)
  | _, _, _, [] => []
  | i, r, c, n :: l => if c + mn n cols > cols then ((i : Int), ⟨r + 1, 0⟩) :: walkG cols (i + 1) (r + 1) (mn n cols) l else ((i : Int), ⟨r, c⟩) :: walkG cols (i + 1) r (c + mn n cols) l
def walkL (cols : Int) (l : List Int) : List (Int × S39) := walkG cols 0 0 0 l
theorem walk_calls (cols : Int) (A : Option Addr) (n c : Nat) (w : World) :
    Calls Try.prog 22 #[.int .i64 cols, .slice A n c] w fun e w' => e = .returned (.func (.func 30) #[] #[.pointer (some ⟨w.heap.size + 1, 0, none⟩), .pointer (some ⟨w.heap.size, 0, none⟩)]) ∧ w' = (w.alloc (.cells #[.int .i64 cols] 3)).alloc (.cells #[.slice A n c] 22) := by
  go_enter Try.func22, Try.ntmps22
  go_wp2
  go_ret
  exact ⟨rfl, rfl⟩
theorem rd_nat (l : List Int) (i : Nat) (h : i < l.length) : rd l (i : Int) = l[i] := by simp [rd, List.getD_eq_getElem?_getD, List.getElem?_eq_getElem h]
theorem addr_block (a : Addr) (k : Nat) : (a.add k).block = a.block := by unfold Addr.add; split <;> rfl
theorem cell_of_blk {W wr : World} {a : Addr} {v : Value} (h : W.cell? a = some v) (hb : wr.heap[a.block]? = W.heap[a.block]?) : wr.cell? a = some v := (World.cell?_of_block hb).trans h
theorem two {w : World} {g : Nat} {t : TypeId} {a b : Value} (h : w.heap[g]? = some (.cells #[a, b] t (0, 0))) (b' : Value) :
    (w.setCell ⟨g, 1, none⟩ b').heap[g]? = some (.cells #[a, b'] t (0, 0)) := by
  exact blk_put h 1 b' rfl
theorem sz_set (w : World) (a : Addr) (v : Value) : (w.setCell a v).heap.size = w.heap.size := by show (w.heap.modify _ _).size = _; rw [Array.size_modify]
theorem two0 {w : World} {g : Nat} {t : TypeId} {a b : Value} (h : w.heap[g]? = some (.cells #[a, b] t (0, 0))) (a' : Value) :
    (w.setCell ⟨g, 0, none⟩ a').heap[g]? = some (.cells #[a', b] t (0, 0)) := by
  exact blk_put h 0 a' rfl
def encW (x : Int × S39) : Array Value := #[.int .i64 x.1, .agg #[.int .i64 x.2.f0, .int .i64 x.2.f1]]
set_option maxRecDepth 100000 in
set_option maxHeartbeats 4000000 in
theorem walk_iter (cols : Int) (l : List Int) (A : Option Addr) (c0 : Nat) (Bx : Nat) (M : Nat → Prop) (w : World) (hcols : 1 ≤ cols ∧ cols ≤ 64) (hl : ∀ x ∈ l, 1 ≤ x ∧ x ≤ 64) (hn : l.length ≤ 4000)
    (hM0 : M Bx) (hM1 : M (Bx + 1)) (hMW : M (w.heap.size + 2)) (hb0 : Boxed w Bx 3 (.int .i64 cols)) (hb1 : Boxed w (Bx + 1) 22 (.slice A l.length c0))
    (hrA : Kd.C (Kd.int .i64) w A l.length l) (hA : ∀ ad, A = some ad → 0 < l.length → M ad.block ∧ ad.block < w.heap.size) :
    IterN (fun k => k = w.heap.size + 2) Try.prog 30 #[.pointer (some ⟨Bx + 1, 0, none⟩), .pointer (some ⟨Bx, 0, none⟩)] encW (fun pre x W => pre ++ [x] <+: walkL cols l ∧ w.heap.size + 2 < W.heap.size) M
      (fun xs => xs = walkL cols l) (fun _ => True) w := by
  intro lb J Jx W hW hsz hJ hJx hY h0
  have kW : ∀ k, k < w.heap.size → W.heap[k]? = w.heap[k]? := fun k hk => hW.block k hk
  have b0 : Boxed W Bx 3 (.int .i64 cols) := (kW _ hb0.lt).trans hb0
  have b1 : Boxed W (Bx + 1) 22 (.slice A l.length c0) := (kW _ hb1.lt).trans hb1
  have rA := Kd.C_below hrA hW
  have lt0 : Bx + 1 < W.heap.size := b1.lt
  rw [← hsz] at hY hJ hJx hMW
  have hc1 := b1.cell
  have HL : Aside0 (∀ x ∈ l, 1 ≤ x ∧ x ≤ 64) := ⟨hl⟩
  have HA : Aside0 (∀ ad, A = some ad → 0 < l.length → M ad.block ∧ ad.block < W.heap.size) := ⟨fun ad h1 h2 => ⟨(hA ad h1 h2).1, by have := (hA ad h1 h2).2; omega⟩⟩
  have HSZ := Aside0.mk hsz
  clear kW hb0 hb1 hrA hl hA hsz hW
  refine (callsIn_wide (n := 1)).1 ?_
  refine callsIn_of_wp Try.func30 rfl trivial ?_ rfl
  simp only [Try.ntmps30, List.size_toArray, List.length_cons, List.length_nil, Nat.reduceAdd, Nat.reduceSub, Array.replicate_succ, Array.replicate_zero, List.push_toArray, List.append_toArray, List.nil_append, List.cons_append]
  gi_wp2
  have hB0 : BelowO (fun k => k = W.heap.size) W (W.alloc (Obj.cells #[Value.int IntKind.i64 0, Value.int IntKind.i64 0] 39)) := BelowO.of ((Below.refl _ W).alloc (Nat.le_refl _) _)
  have hN0 : (W.alloc (Obj.cells #[Value.int IntKind.i64 0, Value.int IntKind.i64 0] 39)).heap[W.heap.size]? = some (Obj.cells #[Value.int IntKind.i64 0, Value.int IntKind.i64 0] 39) := heap_alloc_new W _
  have hK0 : ∀ k, M k → k ≠ W.heap.size → k < W.heap.size → (W.alloc (Obj.cells #[Value.int IntKind.i64 0, Value.int IntKind.i64 0] 39)).heap[k]? = W.heap[k]? := fun k _ _ hk => Below.heap_alloc W _ k hk
  have hS0 : W.heap.size + 1 ≤ (W.alloc (Obj.cells #[Value.int IntKind.i64 0, Value.int IntKind.i64 0] 39)).heap.size := by simp
  gi_loopw [9] (fun v9 wr => ∃ (i : Nat) (pre : List (Int × S39)) (r c : Int), v9 = .int .i64 (i : Int) ∧ Aside0 (i ≤ l.length) ∧ Aside0 (pre ++ walkG cols i r c (l.drop i) = walkL cols l) ∧ Aside0 (0 ≤ r ∧ r ≤ i ∧ 0 ≤ c ∧ c ≤ 64) ∧
      Aside0 (J pre wr) ∧ Aside0 (wr.heap[W.heap.size]? = some (Obj.cells #[Value.int IntKind.i64 r, Value.int IntKind.i64 c] 39)) ∧ Aside0 (∀ k, M k → k ≠ W.heap.size → k < W.heap.size → wr.heap[k]? = W.heap[k]?) ∧ Aside0 (W.heap.size + 1 ≤ wr.heap.size))
    (fun v9 _ => l.length - (intOf v9).toNat)
  case atStart => exact ⟨0, [], 0, 0, rfl, ⟨Nat.zero_le _⟩, ⟨rfl⟩, ⟨by decide⟩, ⟨hJ _ _ _ h0 hB0⟩, ⟨hN0⟩, ⟨hK0⟩, ⟨hS0⟩⟩
  case round =>
    obtain ⟨i, pre, r, c, rfl, HI, HP, HR, HJ, HX, HK, HS⟩ := hrel
    clear hB0 hN0 hK0 hS0
    by_cases hlt : i < l.length
    · have hd : decide ((i : Int) < (l.length : Int)) = true := by simpa using hlt
      obtain ⟨ad, e, hx0⟩ := Kd.at_int rA (i : Int) (by omega) (by omega)
      cases e
      obtain ⟨hm1, hm2⟩ := HA.out ad rfl (by omega)
      replace hx0 := cell_of_blk (wr := wr) hx0 (by rw [addr_block]; exact HK.out ad.block hm1 (by omega) hm2)
      rw [Int.toNat_natCast, rd_nat l i hlt] at hx0
      have hdr : l.drop i = l[i] :: l.drop (i + 1) := List.drop_eq_getElem_cons hlt
      have hb := HL.out _ (List.getElem_mem hlt)
      obtain ⟨x, hx⟩ : ∃ x, l[i] = x := ⟨_, rfl⟩
      rw [hx] at hx0 hdr hb
      have hP := HP.out
      rw [hdr, walkG] at hP
      have hcb : wr.cell? ⟨Bx, 0, none⟩ = some (.int .i64 cols) := (World.cell?_of_block (HK.out Bx hM0 (by omega) (by omega))).trans b0.cell
      have hc0 : wr.cell? ⟨W.heap.size, 0, none⟩ = some (.int .i64 r) := (blk_cell HX.out 0).trans rfl
      have hc1' : wr.cell? ⟨W.heap.size, 1, none⟩ = some (.int .i64 c) := (blk_cell HX.out 1).trans rfl
      have hf0 := blk_frozen HX.out 0
      have hf1 := blk_frozen HX.out 1
      obtain ⟨m, hm⟩ : ∃ m, mn x cols = m := ⟨_, rfl⟩
      have hmb : 1 ≤ m ∧ m ≤ 64 := by rw [← hm]; unfold mn; split <;> omega
      obtain ⟨hr0, hr1, hcc0, hcc1⟩ := HR.out
      have p1 : 0 ≤ (i : Int) := by omega
      have q1 : (i : Int) < (l.length : Int) := by omega
      have hmM := Aside0.mk hm
      rw [hm] at hP
      have HLT := Aside0.mk hlt
      clear hdr hx hm1 hm2
      replace p1 := eq_true p1
      replace q1 := eq_true q1
      have hsz1 : ∀ v v', ((wr.setCell ⟨W.heap.size, 0, none⟩ v).setCell ⟨W.heap.size, 1, none⟩ v').heap.size = wr.heap.size := fun v v' => by rw [sz_set, sz_set]
      by_cases hxc : cols < x
      · obtain rfl : cols = m := by rw [← hm]; unfold mn; split <;> omega
        clear hm hmM
        by_cases ht : c + cols > cols
        · rw [if_pos ht] at hP
          have HP2 := Aside0.mk hP
          clear hP
          obtain ⟨fn, tmps, assign, body, hy, hR⟩ := hY pre ((i : Int), ⟨(r + 1), 0⟩) wr ((wr.setCell ⟨W.heap.size, 0, none⟩ (.int .i64 (r + 1))).setCell ⟨W.heap.size, 1, none⟩ (.int .i64 0)) HJ.out (((BelowO.refl (fun k => k = W.heap.size) wr).setCell (p := ⟨W.heap.size, 0, none⟩) rfl _).setCell (p := ⟨W.heap.size, 1, none⟩) rfl _) ⟨⟨_, by rw [List.append_assoc, List.singleton_append]; exact HP2.out⟩, by have := HS.out; rw [hsz1]; omega⟩
          simp only [encW] at hy
          have HW1 : Aside0 (((wr.setCell ⟨W.heap.size, 0, none⟩ (.int .i64 (r + 1))).setCell ⟨W.heap.size, 1, none⟩ (.int .i64 0)).heap[W.heap.size]? = some (Obj.cells #[Value.int IntKind.i64 (r + 1), Value.int IntKind.i64 0] 39)) := ⟨two (two0 HX.out _) _⟩
          have HY := Aside0.mk hR
          clear hR hY
          gi_wp2
          refine HY.out.mono ?_
          rintro e W3 (⟨rfl, hJ3, hk3⟩ | ⟨rfl, hJx3⟩)
          · have hh : W3.heap[W.heap.size]? = some (Obj.cells #[Value.int IntKind.i64 (r + 1), Value.int IntKind.i64 0] 39) := (hk3.same W.heap.size (by have := HS.out; rw [hsz1]; omega) (.inl hMW)).trans HW1.out
            have z1 : W3.cell? ⟨W.heap.size, 1, none⟩ = some (.int .i64 0) := (blk_cell hh 1).trans rfl
            have zf := blk_frozen hh 1
            have HH := Aside0.mk hh
            have HK3 := Aside0.mk hk3
            clear hh hk3 hc0 hc1' hf0 hf1 hcb hx0
            gi_wp2
            go_roundw
            case rel =>
              refine ⟨i + 1, pre ++ [((i : Int), ⟨(r + 1), 0⟩)], (r + 1), cols, by go_num, ⟨HLT.out⟩, ⟨by rw [List.append_assoc, List.singleton_append]; exact HP2.out⟩, ⟨by omega⟩, ⟨hJ _ W3 _ hJ3 ((BelowO.refl (fun k => k = W.heap.size) W3).setCell (p := ⟨W.heap.size, 1, none⟩) rfl _)⟩, ⟨two HH.out _⟩, ⟨fun k hk hne hk2 => ?_⟩, ⟨?_⟩⟩
              · refine (Below.heap_setCell W3 ⟨W.heap.size, 1, none⟩ _ k hne).trans ?_
                refine (HK3.out.same k (by have := HS.out; rw [hsz1]; omega) (.inl hk)).trans ?_
                exact (Below.heap_setCell _ _ _ k hne).trans ((Below.heap_setCell _ _ _ k hne).trans (HK.out k hk hne hk2))
              · have h1 := HK3.out.size
                have h2 := HS.out
                have h3 : ∀ v, (W3.setCell ⟨W.heap.size, 1, none⟩ v).heap.size = W3.heap.size := fun v => by show (W3.heap.modify _ _).size = _; rw [Array.size_modify]
                rw [h3]
                rw [hsz1] at h1; omega
            case measure => have := HLT.out; simp [intOf]; omega
          · gi_wp2
            refine bodyPost_ret (results_none rfl _ _ _) rfl ?_
            exact ⟨⟨_, rfl⟩, .inr ⟨_, trivial, hJx3⟩⟩
        · rw [if_neg ht] at hP
          have HP2 := Aside0.mk hP
          clear hP
          obtain ⟨fn, tmps, assign, body, hy, hR⟩ := hY pre ((i : Int), ⟨r, c⟩) wr wr HJ.out (BelowO.refl _ wr) ⟨⟨_, by rw [List.append_assoc, List.singleton_append]; exact HP2.out⟩, by have := HS.out; omega⟩
          simp only [encW] at hy
          have HW1 : Aside0 (wr.heap[W.heap.size]? = some (Obj.cells #[Value.int IntKind.i64 r, Value.int IntKind.i64 c] 39)) := ⟨HX.out⟩
          have HY := Aside0.mk hR
          clear hR hY
          gi_wp2
          refine HY.out.mono ?_
          rintro e W3 (⟨rfl, hJ3, hk3⟩ | ⟨rfl, hJx3⟩)
          · have hh : W3.heap[W.heap.size]? = some (Obj.cells #[Value.int IntKind.i64 r, Value.int IntKind.i64 c] 39) := (hk3.same W.heap.size (by have := HS.out; omega) (.inl hMW)).trans HW1.out
            have z1 : W3.cell? ⟨W.heap.size, 1, none⟩ = some (.int .i64 c) := (blk_cell hh 1).trans rfl
            have zf := blk_frozen hh 1
            have HH := Aside0.mk hh
            have HK3 := Aside0.mk hk3
            clear hh hk3 hc0 hc1' hf0 hf1 hcb hx0
            gi_wp2
            go_roundw
            case rel =>
              refine ⟨i + 1, pre ++ [((i : Int), ⟨r, c⟩)], r, (c + cols), by go_num, ⟨HLT.out⟩, ⟨by rw [List.append_assoc, List.singleton_append]; exact HP2.out⟩, ⟨by omega⟩, ⟨hJ _ W3 _ hJ3 ((BelowO.refl (fun k => k = W.heap.size) W3).setCell (p := ⟨W.heap.size, 1, none⟩) rfl _)⟩, ⟨two HH.out _⟩, ⟨fun k hk hne hk2 => ?_⟩, ⟨?_⟩⟩
              · refine (Below.heap_setCell W3 ⟨W.heap.size, 1, none⟩ _ k hne).trans ?_
                refine (HK3.out.same k (by have := HS.out; omega) (.inl hk)).trans ?_
                exact HK.out k hk hne hk2
              · have h1 := HK3.out.size
                have h2 := HS.out
                have h3 : ∀ v, (W3.setCell ⟨W.heap.size, 1, none⟩ v).heap.size = W3.heap.size := fun v => by show (W3.heap.modify _ _).size = _; rw [Array.size_modify]
                rw [h3]
                omega
            case measure => have := HLT.out; simp [intOf]; omega
          · gi_wp2
            refine bodyPost_ret (results_none rfl _ _ _) rfl ?_
            exact ⟨⟨_, rfl⟩, .inr ⟨_, trivial, hJx3⟩⟩
      · obtain rfl : x = m := by rw [← hm]; unfold mn; split <;> omega
        have hxc' : x ≤ cols := by omega
        clear hm hmM
        by_cases ht : c + x > cols
        · rw [if_pos ht] at hP
          have HP2 := Aside0.mk hP
          clear hP
          obtain ⟨fn, tmps, assign, body, hy, hR⟩ := hY pre ((i : Int), ⟨(r + 1), 0⟩) wr ((wr.setCell ⟨W.heap.size, 0, none⟩ (.int .i64 (r + 1))).setCell ⟨W.heap.size, 1, none⟩ (.int .i64 0)) HJ.out (((BelowO.refl (fun k => k = W.heap.size) wr).setCell (p := ⟨W.heap.size, 0, none⟩) rfl _).setCell (p := ⟨W.heap.size, 1, none⟩) rfl _) ⟨⟨_, by rw [List.append_assoc, List.singleton_append]; exact HP2.out⟩, by have := HS.out; rw [hsz1]; omega⟩
          simp only [encW] at hy
          have HW1 : Aside0 (((wr.setCell ⟨W.heap.size, 0, none⟩ (.int .i64 (r + 1))).setCell ⟨W.heap.size, 1, none⟩ (.int .i64 0)).heap[W.heap.size]? = some (Obj.cells #[Value.int IntKind.i64 (r + 1), Value.int IntKind.i64 0] 39)) := ⟨two (two0 HX.out _) _⟩
          have HY := Aside0.mk hR
          clear hR hY
          gi_wp2
          refine HY.out.mono ?_
          rintro e W3 (⟨rfl, hJ3, hk3⟩ | ⟨rfl, hJx3⟩)
          · have hh : W3.heap[W.heap.size]? = some (Obj.cells #[Value.int IntKind.i64 (r + 1), Value.int IntKind.i64 0] 39) := (hk3.same W.heap.size (by have := HS.out; rw [hsz1]; omega) (.inl hMW)).trans HW1.out
            have z1 : W3.cell? ⟨W.heap.size, 1, none⟩ = some (.int .i64 0) := (blk_cell hh 1).trans rfl
            have zf := blk_frozen hh 1
            have HH := Aside0.mk hh
            have HK3 := Aside0.mk hk3
            clear hh hk3 hc0 hc1' hf0 hf1 hcb hx0
            gi_wp2
            go_roundw
            case rel =>
              refine ⟨i + 1, pre ++ [((i : Int), ⟨(r + 1), 0⟩)], (r + 1), x, by go_num, ⟨HLT.out⟩, ⟨by rw [List.append_assoc, List.singleton_append]; exact HP2.out⟩, ⟨by omega⟩, ⟨hJ _ W3 _ hJ3 ((BelowO.refl (fun k => k = W.heap.size) W3).setCell (p := ⟨W.heap.size, 1, none⟩) rfl _)⟩, ⟨two HH.out _⟩, ⟨fun k hk hne hk2 => ?_⟩, ⟨?_⟩⟩
              · refine (Below.heap_setCell W3 ⟨W.heap.size, 1, none⟩ _ k hne).trans ?_
                refine (HK3.out.same k (by have := HS.out; rw [hsz1]; omega) (.inl hk)).trans ?_
                exact (Below.heap_setCell _ _ _ k hne).trans ((Below.heap_setCell _ _ _ k hne).trans (HK.out k hk hne hk2))
              · have h1 := HK3.out.size
                have h2 := HS.out
                have h3 : ∀ v, (W3.setCell ⟨W.heap.size, 1, none⟩ v).heap.size = W3.heap.size := fun v => by show (W3.heap.modify _ _).size = _; rw [Array.size_modify]
                rw [h3]
                rw [hsz1] at h1; omega
            case measure => have := HLT.out; simp [intOf]; omega
          · gi_wp2
            refine bodyPost_ret (results_none rfl _ _ _) rfl ?_
            exact ⟨⟨_, rfl⟩, .inr ⟨_, trivial, hJx3⟩⟩
        · rw [if_neg ht] at hP
          have HP2 := Aside0.mk hP
          clear hP
          obtain ⟨fn, tmps, assign, body, hy, hR⟩ := hY pre ((i : Int), ⟨r, c⟩) wr wr HJ.out (BelowO.refl _ wr) ⟨⟨_, by rw [List.append_assoc, List.singleton_append]; exact HP2.out⟩, by have := HS.out; omega⟩
          simp only [encW] at hy
          have HW1 : Aside0 (wr.heap[W.heap.size]? = some (Obj.cells #[Value.int IntKind.i64 r, Value.int IntKind.i64 c] 39)) := ⟨HX.out⟩
          have HY := Aside0.mk hR
          clear hR hY
          gi_wp2
          refine HY.out.mono ?_
          rintro e W3 (⟨rfl, hJ3, hk3⟩ | ⟨rfl, hJx3⟩)
          · have hh : W3.heap[W.heap.size]? = some (Obj.cells #[Value.int IntKind.i64 r, Value.int IntKind.i64 c] 39) := (hk3.same W.heap.size (by have := HS.out; omega) (.inl hMW)).trans HW1.out
            have z1 : W3.cell? ⟨W.heap.size, 1, none⟩ = some (.int .i64 c) := (blk_cell hh 1).trans rfl
            have zf := blk_frozen hh 1
            have HH := Aside0.mk hh
            have HK3 := Aside0.mk hk3
            clear hh hk3 hc0 hc1' hf0 hf1 hcb hx0
            gi_wp2
            go_roundw
            case rel =>
              refine ⟨i + 1, pre ++ [((i : Int), ⟨r, c⟩)], r, (c + x), by go_num, ⟨HLT.out⟩, ⟨by rw [List.append_assoc, List.singleton_append]; exact HP2.out⟩, ⟨by omega⟩, ⟨hJ _ W3 _ hJ3 ((BelowO.refl (fun k => k = W.heap.size) W3).setCell (p := ⟨W.heap.size, 1, none⟩) rfl _)⟩, ⟨two HH.out _⟩, ⟨fun k hk hne hk2 => ?_⟩, ⟨?_⟩⟩
              · refine (Below.heap_setCell W3 ⟨W.heap.size, 1, none⟩ _ k hne).trans ?_
                refine (HK3.out.same k (by have := HS.out; omega) (.inl hk)).trans ?_
                exact HK.out k hk hne hk2
              · have h1 := HK3.out.size
                have h2 := HS.out
                have h3 : ∀ v, (W3.setCell ⟨W.heap.size, 1, none⟩ v).heap.size = W3.heap.size := fun v => by show (W3.heap.modify _ _).size = _; rw [Array.size_modify]
                rw [h3]
                omega
            case measure => have := HLT.out; simp [intOf]; omega
          · gi_wp2
            refine bodyPost_ret (results_none rfl _ _ _) rfl ?_
            exact ⟨⟨_, rfl⟩, .inr ⟨_, trivial, hJx3⟩⟩
    · obtain rfl : i = l.length := by have := HI.out; omega
      have hd : decide ((l.length : Int) < (l.length : Int)) = false := by simp
      have hP := HP.out
      rw [List.drop_length, walkG, List.append_nil] at hP
      have HP2 := Aside0.mk hP
      clear hP
      gi_wp2
      go_end0
      exact ⟨⟨_, rfl⟩, .inl ⟨_, HP2.out, HJ.out⟩⟩
end Go.Proofs.Ytciheadencbmjaa.P
