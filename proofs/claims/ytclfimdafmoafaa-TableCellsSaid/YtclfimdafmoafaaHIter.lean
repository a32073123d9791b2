import Derived.Test.YtclfimdafmoafaaHIdx
import Derived.Test.YtclfimdafmoafaaHRange
set_option linter.unusedVariables false
set_option linter.unusedSimpArgs false
namespace Go.Proofs.Ytclfimdafmoafaa.P
open Go.RowKit Go.Proofs.YtclfimdafmoafaaW.PrintWords Go.Proofs.YtclfimdafmoafaaW.PrintLast Go.Proofs.YtclfimdafmoafaaW.PrintMore Go.Proofs.Ytclfimdafmoafaa.Rng
attribute [local go_sem] Oper.semAt_some

theorem cell_from (W wr : World) {a : Addr} {v : Value} (h : W.cell? a = some v) (hb : wr.heap[a.block]? = W.heap[a.block]?) : wr.cell? a = some v := (World.cell?_of_block hb).trans h
theorem values24_calls (A : Option Addr) (n c : Nat) (w : World) :
    Calls Try.prog 24 #[.slice A n c] w fun e w' => e = .returned (.func (.func 49) #[] #[.pointer (some ⟨w.heap.size, 0, none⟩)]) ∧ w' = w.alloc (.cells #[.slice A n c] 22) := by
  go_enter Try.func24, Try.ntmps24
  go_wp2
  go_ret
  exact ⟨rfl, rfl⟩
theorem values43_calls (A : Option Addr) (n c : Nat) (w : World) :
    Calls Try.prog 43 #[.slice A n c] w fun e w' => e = .returned (.func (.func 55) #[] #[.pointer (some ⟨w.heap.size, 0, none⟩)]) ∧ w' = w.alloc (.cells #[.slice A n c] 24) := by
  go_enter Try.func43, Try.ntmps43
  go_wp2
  go_ret
  exact ⟨rfl, rfl⟩
theorem column34_calls (A : Option Addr) (n c : Nat) (k : Int) (w : World) :
    Calls Try.prog 34 #[.slice A n c, .int .i64 k] w fun e w' => e = .returned (.func (.func 52) #[] #[.pointer (some ⟨w.heap.size, 0, none⟩), .pointer (some ⟨w.heap.size + 1, 0, none⟩)]) ∧ w' = (w.alloc (.cells #[.slice A n c] 22)).alloc (.cells #[.int .i64 k] 3) := by
  go_enter Try.func34, Try.ntmps34
  go_wp2
  go_ret
  exact ⟨rfl, rfl⟩
/-- What a slice's value tells. -/
abbrev Sl := Option Addr × Nat × Nat
set_option maxRecDepth 100000 in
set_option maxHeartbeats 2000000 in
theorem values49_iter (rows : List (List S29)) (A : Option Addr) (c : Nat) (Bl : Nat) (M : Nat → Prop) (w : World)
    (hB : Boxed w Bl 22 (.slice A rows.length c)) (hr : Kd.C (Kd.slice 29 k29) w A rows.length rows) (hM1 : M Bl) (hM2 : ∀ ad, A = some ad → 0 < rows.length → M ad.block ∧ ad.block < w.heap.size) :
    Iter Try.prog 49 #[.pointer (some ⟨Bl, 0, none⟩)] (fun x : Sl => #[.slice x.1 x.2.1 x.2.2]) (fun pre x W => True) M
      (fun xs => xs.map (·.2.1) = rows.map List.length) (fun _ => True) w := by
  intro l J Jx W hW hJ hJx hY h0
  have hBW : Boxed W Bl 22 (.slice A rows.length c) := (hW.block _ hB.lt).trans hB
  have hrW := Kd.C_below hr hW
  have hcell := hBW.cell
  have HMX : Aside0 (rows.length ≤ 9223372036854775807) := ⟨Kd.C_max hr⟩
  have HS0 : Aside0 (w.heap.size ≤ W.heap.size) := ⟨hW.size⟩
  refine (callsIn_wide (n := 1)).1 ?_
  refine callsIn_of_wp Try.func49 rfl trivial ?_ rfl
  simp only [Try.ntmps49, List.size_toArray, List.length_cons, List.length_nil, Nat.reduceAdd, Nat.reduceSub, Array.replicate_succ, Array.replicate_zero, List.push_toArray, List.append_toArray, List.nil_append, List.cons_append]
  gi_wp2
  gi_loopw [7] (fun v7 wr => ∃ (i : Nat) (pre : List Sl), v7 = .int .i64 (i : Int) ∧ Aside0 (i ≤ rows.length) ∧ Aside0 (pre.map (·.2.1) = (rows.take i).map List.length) ∧
      Aside0 (J pre wr) ∧ Aside0 (∀ k, M k → k < w.heap.size → wr.heap[k]? = W.heap[k]?) ∧ Aside0 (w.heap.size ≤ wr.heap.size))
    (fun v7 _ => rows.length - (intOf v7).toNat)
  case atStart => exact ⟨0, [], rfl, ⟨Nat.zero_le _⟩, ⟨rfl⟩, ⟨h0⟩, ⟨fun _ _ _ => rfl⟩, HS0⟩
  case round =>
    obtain ⟨i, pre, rfl, HI, HP, HJ, HM, HS⟩ := hrel
    by_cases hlt : i < rows.length
    · have hd : decide ((i : Int) < (rows.length : Int)) = true := by simpa using hlt
      obtain ⟨ad, A0, c0, e, hx0, hc0, hC0⟩ := at_L2 hrW (i : Int) (by omega) (by omega)
      cases e
      obtain ⟨hm1, hm2⟩ := hM2 ad rfl (by omega)
      have hblk := HM.out ad.block hm1 hm2
      replace hx0 := cell_from W wr hx0 (by rw [add_block]; exact hblk)
      rw [Int.toNat_natCast] at hx0
      obtain ⟨x, hx⟩ : ∃ x, rd_L2 rows (i : Int) = x := ⟨_, rfl⟩
      rw [hx] at hx0
      have HX : Aside0 (rows[i]? = some x) := ⟨by rw [← hx]; simp [rd_L2, List.getD_eq_getElem?_getD, List.getElem?_eq_getElem hlt]⟩
      clear hblk hm1 hm2 hc0 hC0 hx
      obtain ⟨fn, tmps, assign, body, hy, hR⟩ := hY pre (A0, x.length, c0) wr wr HJ.out (Below.refl _ _) trivial
      try dsimp only at hy
      have p1 : (0 ≤ (i : Int)) = True := eq_true (by omega)
      have q1 : ((i : Int) < (rows.length : Int)) = True := eq_true (by omega)
      have hsum : IntKind.i64.wrap ((i : Int) + 1) = ((i + 1 : Nat) : Int) := IntWalk.i64_in _ (by have := HMX.out; omega)
      have hsum2 : wrap64 ((i : Int) + 1) = ((i + 1 : Nat) : Int) := by have := HMX.out; unfold wrap64; omega
      have HLT := Aside0.mk hlt
      clear hlt
      gi_wp2
      refine hR.mono ?_
      rintro e W3 (⟨rfl, hJ3, hk3⟩ | ⟨rfl, hJx3⟩)
      · have HK := Aside0.mk hk3
        clear hk3
        gi_wp2
        go_roundw
        case rel =>
          refine ⟨i + 1, pre ++ [(A0, x.length, c0)], by simp [hsum, hsum2], ⟨HLT.out⟩, ⟨?_⟩, ⟨hJ3⟩, ⟨fun k hk hk2 => ?_⟩, ⟨?_⟩⟩
          · rw [List.map_append, HP.out, List.take_add_one, List.map_append, HX.out]; rfl
          · exact (HK.out.same k (by have := HS.out; omega) (.inl hk)).trans (HM.out k hk hk2)
          · have := HK.out.size; have := HS.out; omega
        case measure => have := HLT.out; simp [intOf]; omega
      · gi_wp2
        refine bodyPost_ret (results_none rfl _ _ _) rfl ?_
        exact ⟨⟨_, rfl⟩, .inr ⟨_, trivial, hJx3⟩⟩
    · obtain rfl : i = rows.length := by have := HI.out; omega
      have hd : decide ((rows.length : Int) < (rows.length : Int)) = false := by simp
      have hP := HP.out
      rw [List.take_length] at hP
      gi_wp2
      go_end0
      exact ⟨⟨_, rfl⟩, .inl ⟨_, hP, HJ.out⟩⟩
set_option maxRecDepth 100000 in
set_option maxHeartbeats 2000000 in
theorem values55_iter (xs : List Int) (A : Option Addr) (c : Nat) (Bl : Nat) (M : Nat → Prop) (w : World)
    (hB : Boxed w Bl 24 (.slice A xs.length c)) (hr : Kd.C (Kd.int .i64) w A xs.length xs) (hM1 : M Bl) (hM2 : ∀ ad, A = some ad → 0 < xs.length → M ad.block ∧ ad.block < w.heap.size) :
    Iter Try.prog 55 #[.pointer (some ⟨Bl, 0, none⟩)] (fun x : Int => #[.int .i64 x]) (fun pre x W => True) M
      (fun ys => ys = xs) (fun _ => True) w := by
  intro l J Jx W hW hJ hJx hY h0
  have hBW : Boxed W Bl 24 (.slice A xs.length c) := (hW.block _ hB.lt).trans hB
  have hrW := Kd.C_below hr hW
  have hcell := hBW.cell
  have HMX : Aside0 (xs.length ≤ 9223372036854775807) := ⟨Kd.C_max hr⟩
  have HS0 : Aside0 (w.heap.size ≤ W.heap.size) := ⟨hW.size⟩
  refine (callsIn_wide (n := 1)).1 ?_
  refine callsIn_of_wp Try.func55 rfl trivial ?_ rfl
  simp only [Try.ntmps55, List.size_toArray, List.length_cons, List.length_nil, Nat.reduceAdd, Nat.reduceSub, Array.replicate_succ, Array.replicate_zero, List.push_toArray, List.append_toArray, List.nil_append, List.cons_append]
  gi_wp2
  gi_loopw [7] (fun v7 wr => ∃ (i : Nat), v7 = .int .i64 (i : Int) ∧ Aside0 (i ≤ xs.length) ∧
      Aside0 (J (xs.take i) wr) ∧ Aside0 (∀ k, M k → k < w.heap.size → wr.heap[k]? = W.heap[k]?) ∧ Aside0 (w.heap.size ≤ wr.heap.size))
    (fun v7 _ => xs.length - (intOf v7).toNat)
  case atStart => exact ⟨0, rfl, ⟨Nat.zero_le _⟩, ⟨h0⟩, ⟨fun _ _ _ => rfl⟩, HS0⟩
  case round =>
    obtain ⟨i, rfl, HI, HJ, HM, HS⟩ := hrel
    by_cases hlt : i < xs.length
    · have hd : decide ((i : Int) < (xs.length : Int)) = true := by simpa using hlt
      obtain ⟨ad, e, hx0⟩ := Kd.at_int hrW (i : Int) (by omega) (by omega)
      cases e
      obtain ⟨hm1, hm2⟩ := hM2 ad rfl (by omega)
      have hblk := HM.out ad.block hm1 hm2
      replace hx0 := cell_from W wr hx0 (by rw [add_block]; exact hblk)
      rw [Int.toNat_natCast] at hx0
      obtain ⟨x, hx⟩ : ∃ x, rd xs (i : Int) = x := ⟨_, rfl⟩
      rw [hx] at hx0
      have HX : Aside0 (xs[i]? = some x) := ⟨by rw [← hx]; simp [rd, List.getD_eq_getElem?_getD, List.getElem?_eq_getElem hlt]⟩
      clear hblk hm1 hm2 hx
      obtain ⟨fn, tmps, assign, body, hy, hR⟩ := hY (xs.take i) x wr wr HJ.out (Below.refl _ _) trivial
      try dsimp only at hy
      have p1 : (0 ≤ (i : Int)) = True := eq_true (by omega)
      have q1 : ((i : Int) < (xs.length : Int)) = True := eq_true (by omega)
      have hsum : IntKind.i64.wrap ((i : Int) + 1) = ((i + 1 : Nat) : Int) := IntWalk.i64_in _ (by have := HMX.out; omega)
      have hsum2 : wrap64 ((i : Int) + 1) = ((i + 1 : Nat) : Int) := by have := HMX.out; unfold wrap64; omega
      have HLT := Aside0.mk hlt
      clear hlt
      gi_wp2
      refine hR.mono ?_
      rintro e W3 (⟨rfl, hJ3, hk3⟩ | ⟨rfl, hJx3⟩)
      · have HK := Aside0.mk hk3
        clear hk3
        gi_wp2
        go_roundw
        case rel =>
          refine ⟨i + 1, by simp [hsum, hsum2], ⟨HLT.out⟩, ⟨?_⟩, ⟨fun k hk hk2 => ?_⟩, ⟨?_⟩⟩
          · rw [List.take_add_one, HX.out]; exact hJ3
          · exact (HK.out.same k (by have := HS.out; omega) (.inl hk)).trans (HM.out k hk hk2)
          · have := HK.out.size; have := HS.out; omega
        case measure => have := HLT.out; simp [intOf]; omega
      · gi_wp2
        refine bodyPost_ret (results_none rfl _ _ _) rfl ?_
        exact ⟨⟨_, rfl⟩, .inr ⟨_, trivial, hJx3⟩⟩
    · obtain rfl : i = xs.length := by have := HI.out; omega
      have hd : decide ((xs.length : Int) < (xs.length : Int)) = false := by simp
      have hJ2 := HJ.out
      rw [List.take_length] at hJ2
      gi_wp2
      go_end0
      exact ⟨⟨_, rfl⟩, .inl ⟨_, rfl, hJ2⟩⟩
/-- The cells of a column. -/
def col (rows : List (List S29)) (k : Nat) : List S29 := rows.filterMap (fun r => r[k]?)
theorem col_snoc (rows : List (List S29)) (k i : Nat) (x : List S29) (h : rows[i]? = some x) : col (rows.take (i + 1)) k = col (rows.take i) k ++ x[k]?.toList := by
  unfold col
  rw [List.take_add_one, List.filterMap_append, h]
  congr 1
set_option maxRecDepth 100000 in
set_option maxHeartbeats 2000000 in
theorem column52_iter (rows : List (List S29)) (k : Nat) (A : Option Addr) (c : Nat) (Bl Bk : Nat) (M : Nat → Prop) (w : World) (hk64 : k ≤ 1000)
    (hB : Boxed w Bl 22 (.slice A rows.length c)) (hBk : Boxed w Bk 3 (.int .i64 (k : Int))) (hr : Kd.C (Kd.slice 29 k29) w A rows.length rows) (hM1 : M Bl) (hM3 : M Bk) (hMw : ∀ b, b < w.heap.size → M b) :
    Iter Try.prog 52 #[.pointer (some ⟨Bl, 0, none⟩), .pointer (some ⟨Bk, 0, none⟩)] (fun x : S29 => #[.agg #[.int .i64 x.f0, .int .i64 x.f1]]) (fun pre x W => True) M
      (fun ys => ys = col rows k) (fun _ => True) w := by
  intro l J Jx W hW hJ hJx hY h0
  have hBW : Boxed W Bl 22 (.slice A rows.length c) := (hW.block _ hB.lt).trans hB
  have hrW := Kd.C_below hr hW
  have HRW := Aside0.mk hr
  have HBK : Aside0 (Boxed w Bk 3 (.int .i64 (k : Int))) := ⟨hBk⟩
  have HWB := Aside0.mk hW
  have hcell := hBW.cell
  have HMX : Aside0 (rows.length ≤ 9223372036854775807) := ⟨Kd.C_max hr⟩
  have HS0 : Aside0 (w.heap.size ≤ W.heap.size) := ⟨hW.size⟩
  clear hr hBk hW
  refine (callsIn_wide (n := 1)).1 ?_
  refine callsIn_of_wp Try.func52 rfl trivial ?_ rfl
  simp only [Try.ntmps52, List.size_toArray, List.length_cons, List.length_nil, Nat.reduceAdd, Nat.reduceSub, Array.replicate_succ, Array.replicate_zero, List.push_toArray, List.append_toArray, List.nil_append, List.cons_append]
  gi_wp2
  gi_loopw [8] (fun v8 wr => ∃ (i : Nat), v8 = .int .i64 (i : Int) ∧ Aside0 (i ≤ rows.length) ∧
      Aside0 (J (col (rows.take i) k) wr) ∧ Aside0 (∀ b, b < w.heap.size → wr.heap[b]? = w.heap[b]?) ∧ Aside0 (w.heap.size ≤ wr.heap.size))
    (fun v8 _ => rows.length - (intOf v8).toNat)
  case atStart => exact ⟨0, rfl, ⟨Nat.zero_le _⟩, ⟨h0⟩, ⟨fun b hb => HWB.out.block b hb⟩, HS0⟩
  case round =>
    obtain ⟨i, rfl, HI, HJ, HM, HS⟩ := hrel
    by_cases hlt : i < rows.length
    · have hd : decide ((i : Int) < (rows.length : Int)) = true := by simpa using hlt
      have hbw : ∀ {a : Addr} {v : Value}, w.cell? a = some v → wr.cell? a = some v := fun {a v} h => cell_from w wr h (HM.out _ (World.block_lt_of_cell? _ _ h))
      obtain ⟨ad, A0, c0, e, hx0, hc0, hC0⟩ := at_L2 HRW.out (i : Int) (by omega) (by omega)
      cases e
      replace hx0 := hbw hx0
      rw [Int.toNat_natCast] at hx0
      obtain ⟨x, hx⟩ : ∃ x, rd_L2 rows (i : Int) = x := ⟨_, rfl⟩
      rw [hx] at hx0 hC0
      have HX : Aside0 (rows[i]? = some x) := ⟨by rw [← hx]; simp [rd_L2, List.getD_eq_getElem?_getD, List.getElem?_eq_getElem hlt]⟩
      have hkc : wr.cell? ⟨Bk, 0, none⟩ = some (.int .i64 (k : Int)) := hbw HBK.out.cell
      have p1 : (0 ≤ (i : Int)) = True := eq_true (by omega)
      have q1 : ((i : Int) < (rows.length : Int)) = True := eq_true (by omega)
      have hsum : IntKind.i64.wrap ((i : Int) + 1) = ((i + 1 : Nat) : Int) := IntWalk.i64_in _ (by have := HMX.out; omega)
      have hsum2 : wrap64 ((i : Int) + 1) = ((i + 1 : Nat) : Int) := by have := HMX.out; unfold wrap64; omega
      have HLT := Aside0.mk hlt
      clear hx hc0
      by_cases hk : k < x.length
      · obtain ⟨ad2, e2, hy0, hy1⟩ := at_T29 hC0 (k : Int) (by omega) (by omega)
        cases e2
        replace hy0 := hbw hy0
        replace hy1 := hbw hy1
        rw [Int.toNat_natCast] at hy0 hy1
        obtain ⟨t, ht⟩ : ∃ t, rd_T29 x (k : Int) = t := ⟨_, rfl⟩
        rw [ht] at hy0 hy1
        have HT : Aside0 (col (rows.take (i + 1)) k = col (rows.take i) k ++ [t]) := ⟨by
          rw [col_snoc rows k i x HX.out]
          have e1 : x[k]? = some t := by
            rw [← ht]
            simp [rd_T29, List.getD_eq_getElem?_getD, List.getElem?_eq_getElem hk]
          rw [e1]; rfl⟩
        have hkl : decide (k < x.length) = true := decide_eq_true hk
        have hkl2 : decide ((k : Int) < (x.length : Int)) = true := decide_eq_true (by omega)
        have q2 : ((k : Int) < (x.length : Int)) = True := eq_true (by omega)
        have p2 : (0 ≤ (k : Int)) = True := eq_true (by omega)
        obtain ⟨fn, tmps, assign, body, hy, hR⟩ := hY (col (rows.take i) k) t wr wr HJ.out (Below.refl _ _) trivial
        try dsimp only at hy
        clear hlt ht hC0 hbw hk
        gi_wp2
        refine hR.mono ?_
        rintro e W3 (⟨rfl, hJ3, hk3⟩ | ⟨rfl, hJx3⟩)
        · have HK := Aside0.mk hk3
          clear hk3
          gi_wp2
          go_roundw
          case rel =>
            refine ⟨i + 1, by simp [hsum, hsum2], ⟨HLT.out⟩, ⟨?_⟩, ⟨fun b hb => ?_⟩, ⟨?_⟩⟩
            · rw [HT.out]; exact hJ3
            · exact (HK.out.same b (by have := HS.out; omega) (.inl (hMw b hb))).trans (HM.out b hb)
            · have := HK.out.size; have := HS.out; omega
          case measure => have := HLT.out; simp [intOf]; omega
        · gi_wp2
          refine bodyPost_ret (results_none rfl _ _ _) rfl ?_
          exact ⟨⟨_, rfl⟩, .inr ⟨_, trivial, hJx3⟩⟩
      · have HT : Aside0 (col (rows.take (i + 1)) k = col (rows.take i) k) := ⟨by
          rw [col_snoc rows k i x HX.out, List.getElem?_eq_none (by omega)]
          simp⟩
        have hkl : decide (k < x.length) = false := decide_eq_false hk
        have hkl2 : decide ((k : Int) < (x.length : Int)) = false := decide_eq_false (by omega)
        clear hlt hC0 hbw hk
        gi_wp2
        refine ⟨(fun f h => by cases h), ?_⟩
        gi_wp2
        go_roundw
        case rel =>
          refine ⟨i + 1, by simp [hsum, hsum2], ⟨HLT.out⟩, ⟨?_⟩, HM, HS⟩
          rw [HT.out]; exact HJ.out
        case measure => have := HLT.out; simp [intOf]; omega
    · obtain rfl : i = rows.length := by have := HI.out; omega
      have hd : decide ((rows.length : Int) < (rows.length : Int)) = false := by simp
      have hJ2 := HJ.out
      rw [List.take_length] at hJ2
      gi_wp2
      go_end0
      exact ⟨⟨_, rfl⟩, .inl ⟨_, rfl, hJ2⟩⟩
end Go.Proofs.Ytclfimdafmoafaa.P
