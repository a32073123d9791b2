import Derived.Test.YtciheadencbmjaaPx2
import Derived.Test.YtciheadencbmjaaHWalk
import Derived.Laws.CopyOwn
import Derived.Laws.MakeOwn
import Derived.Deep.RegionLaw
set_option linter.unusedVariables false
set_option linter.unusedSimpArgs false
namespace Go.Proofs.Ytciheadencbmjaa.P
open Go.RowKit Go.Proofs.YtciheadencbmjaaW.PrintWords Go.Proofs.YtciheadencbmjaaW.PrintLast Go.Proofs.YtciheadencbmjaaW.PrintMore
attribute [local go_sem] Oper.semAt_some

/-- A copy of rows whose elements take sz cells. -/
theorem run_copy_rows (P : Program) (w : World) (dT sT ty elem sz : TypeId) (g o dLen dCap : Nat) (a : Addr) (sLen sCap : Nat) (cur : Array Value) (t : TypeId) (cs : List Value)
    (hu : P.underlying dT = some (.slice elem)) (hs : (P.info? elem).map (·.size) = some sz)
    (hg : w.heap[g]? = some (.cells cur t (0, 0))) (hn : cs.length = Nat.min sLen dLen * sz)
    (hsrc : ∀ j v, cs[j]? = some v → w.cell? (a.add j) = some v) (hfit : o + cs.length ≤ cur.size) (h1 : ∀ v ∈ cs, v.oneCell' = true) :
    (Builtin.copy_ #[dT, sT] ty #[.slice (some ⟨g, o, none⟩) dLen dCap, .slice (some a) sLen sCap]).run P w =
      .ok (goInt (Nat.min sLen dLen)) (w.setRow g (cur.toList.take o ++ cs ++ cur.toList.drop (o + cs.length)).toArray) := by
  have hl := run_loadCells_list (P := P) w a cs hsrc
  have hst := run_storeCells_at P g o t cs 0 cur w hg (by simpa using hfit) h1
  cases hq : P.info? elem with
  | none => simp [hq] at hs
  | some i =>
    have hi : i.size = sz := by simpa [hq] using hs
    rw [hn] at hl
    simp [Builtin.copy_, run_underlying hu, Builtin.lenOf, Builtin.firstCells, sizeOf, typeInfo, hq, hi, hl, hst]
def rowV (n m : Nat) (k : Nat) : Value := .int .i64 (if k < 3 * m ∧ k % 3 = 1 then 1 else 0)
/-- A row of n tracks of which the first m have been written. -/
def rowA (n m : Nat) : List Value := (List.range (3 * n)).map (rowV n m)
theorem rowA_length (n m : Nat) : (rowA n m).length = 3 * n := by simp [rowA]
theorem rowA_get (n m k : Nat) (h : k < 3 * n) : (rowA n m)[k]? = some (rowV n m k) := by simp [rowA, h]
theorem rowA_one (n m : Nat) : ∀ v ∈ rowA n m, v.oneCell' = true := by
  intro v hv
  obtain ⟨k, _, rfl⟩ := List.mem_map.1 hv
  rfl
theorem made_rowA (n : Nat) : madeCells #[.int .i64 0, .int .i64 0, .int .i64 0] (3 * n) = (rowA n 0).toArray := by
  apply Array.ext'
  simp only [madeCells, rowA, Array.toList_map, Array.toList_range]
  refine List.map_congr_left fun k _ => ?_
  have h3 : k % 3 = 0 ∨ k % 3 = 1 ∨ k % 3 = 2 := by omega
  show (#[Value.int .i64 0, .int .i64 0, .int .i64 0] : Array Value)[k % 3]! = rowV n 0 k
  rcases h3 with h | h | h <;> rw [h] <;> simp [rowV]
/-- c elements more are copied out of the first ones. -/
theorem rowA_copy (n m c : Nat) (hc : c ≤ m) (hn : m + c ≤ n) : (rowA n m).take (3 * m) ++ (rowA n m).take (3 * c) ++ (rowA n m).drop (3 * m + 3 * c) = rowA n (m + c) := by
  refine List.ext_getElem? fun k => ?_
  by_cases hk : k < 3 * n
  · rw [rowA_get n (m + c) k hk]
    by_cases h1 : k < 3 * m
    · rw [List.append_assoc, List.getElem?_append_left (by rw [List.length_take, rowA_length]; omega), List.getElem?_take, if_pos h1, rowA_get n m k hk]
      simp only [rowV, h1, show k < 3 * (m + c) by omega]
    · by_cases h2 : k < 3 * m + 3 * c
      · rw [List.append_assoc, List.getElem?_append_right (by rw [List.length_take, rowA_length]; omega), List.getElem?_append_left (by simp only [List.length_take, rowA_length]; omega)]
        have e : (List.take (3 * m) (rowA n m)).length = 3 * m := by rw [List.length_take, rowA_length]; omega
        rw [e, List.getElem?_take, if_pos (by omega), rowA_get n m _ (by omega)]
        simp only [rowV, show k < 3 * (m + c) by omega, show k - 3 * m < 3 * m by omega, show (k - 3 * m) % 3 = k % 3 by omega]
      · rw [List.getElem?_append_right (by simp only [List.length_append, List.length_take, rowA_length]; omega), List.getElem?_drop]
        have e : ((rowA n m).take (3 * m) ++ (rowA n m).take (3 * c)).length = 3 * m + 3 * c := by simp only [List.length_append, List.length_take, rowA_length]; omega
        rw [e, show 3 * m + 3 * c + (k - (3 * m + 3 * c)) = k by omega, rowA_get n m k hk]
        simp only [rowV, show ¬ k < 3 * m by omega, show ¬ k < 3 * (m + c) by omega]
  · rw [List.getElem?_eq_none (by simp only [List.length_append, List.length_take, List.length_drop, rowA_length]; omega), List.getElem?_eq_none (by rw [rowA_length]; omega)]
theorem rowA_first (n : Nat) (hn : 1 ≤ n) : (rowA n 0).take 0 ++ [.int .i64 0, .int .i64 1, .int .i64 0] ++ (rowA n 0).drop (0 + 3) = rowA n 1 := by
  refine List.ext_getElem? fun k => ?_
  rw [List.take_zero, List.nil_append]
  by_cases hk : k < 3
  · rw [List.getElem?_append_left (by simp; omega), rowA_get n 1 k (by omega)]
    have h3 : k = 0 ∨ k = 1 ∨ k = 2 := by omega
    rcases h3 with rfl | rfl | rfl <;> simp [rowV]
  · rw [List.getElem?_append_right (by simp; omega), List.getElem?_drop]
    have e : ([.int .i64 0, .int .i64 1, .int .i64 0] : List Value).length = 3 := rfl
    rw [e, show 0 + 3 + (k - 3) = k by omega]
    by_cases hk3 : k < 3 * n
    · rw [rowA_get n 0 k hk3, rowA_get n 1 k hk3]
      simp only [rowV, show ¬ k < 3 * 0 by omega, show ¬ k < 3 * 1 by omega]
    · rw [List.getElem?_eq_none (by rw [rowA_length]; omega), List.getElem?_eq_none (by rw [rowA_length]; omega)]
theorem mul_f : ∀ n : Fin 65, bits_Mul.f 1 (n.val : Int) = some (0, (n.val : Int)) := by decide +kernel
set_option maxRecDepth 100000 in
set_option maxHeartbeats 4000000 in
theorem repeat_calls (p : Addr) (c n : Nat) (hn : 1 ≤ n ∧ n ≤ 64) (w : World) (h0 : w.cell? p = some (.int .i64 0)) (h1 : w.cell? (p.add 1) = some (.int .i64 1)) (h2 : w.cell? (p.add 2) = some (.int .i64 0)) :
    Calls Try.prog 32 #[.slice (some p) 1 c, .int .i64 (n : Int)] w fun e w' => ∃ g, e = .returned (.slice (some ⟨g, 0, none⟩) n n) ∧ w.heap.size ≤ g ∧ w'.heap[g]? = some (.cells (rowA n n).toArray 64 (0, 0)) ∧ Below w.heap.size w w' := by
  obtain ⟨n1, n2⟩ := hn
  have HM : Aside0 (bits_Mul.f 1 (n : Int) = some (0, (n : Int))) := ⟨mul_f ⟨n, by omega⟩⟩
  have c0 : decide ((n : Int) < 0) = false := decide_eq_false (by omega)
  have hw1 : IntKind.u64.wrap (n : Int) = (n : Int) := by rw [IntKind.wrap_u64]; omega
  have hw2 : wrap64 (n : Int) = (n : Int) := by unfold wrap64; omega
  have hw3 : IntKind.i64.wrap (n : Int) = (n : Int) := IntWalk.i64_in _ (by omega)
  have c1 : decide ((n : Int) > 9223372036854775807) = false := decide_eq_false (by omega)
  have c2 : decide (9223372036854775807 < (n : Int)) = false := decide_eq_false (by omega)
  obtain ⟨i0, hi0, hz0, hz1, hz2⟩ := info_parts info64
  have hmk : ∀ w : World, (Instr.makeSlice 61 (.int .i64 (n : Int)) (.int .i64 (n : Int))).run Try.prog w = .ok (.slice (some ⟨w.heap.size, 0, none⟩) n n) (w.alloc (.cells (rowA n 0).toArray 64)) := fun w => by
    have := run_makeSlice (P := Try.prog) w 61 64 i0 _ Try.underlying61 hi0 hz0 .i64 .i64 (n : Int) (n : Int) (by omega) (by omega) (by rw [hz1]; omega) (by rw [hz2]; omega) (by omega)
    rw [this, hz1, Int.toNat_natCast]
    show Result.ok _ (w.alloc (.cells (madeCells #[.int .i64 0, .int .i64 0, .int .i64 0] (n * 3)) 64)) = _
    rw [Nat.mul_comm, made_rowA]
  have HN1 := Aside0.mk n1
  have HN2 := Aside0.mk n2
  have HZ1 := Aside0.mk hz1
  have HI0 := Aside0.mk hi0
  clear n1 n2 hz0 hz1 hz2 hi0
  have hcp : ∀ nd, (Builtin.copy_ #[61, 61] 3 #[.slice (some ⟨w.heap.size, 0, none⟩) n n, .slice (some p) 1 c]).run Try.prog ((w.drewN nd).alloc (.cells (rowA n 0).toArray 64)) = .ok (.int .i64 1) (((w.drewN nd).alloc (.cells (rowA n 0).toArray 64)).setRow w.heap.size (rowA n 1).toArray) := fun nd => by
    have hpb : ∀ {q : Addr} {v : Value}, w.cell? q = some v → ((w.drewN nd).alloc (.cells (rowA n 0).toArray 64)).cell? q = some v := fun {q v} hq => by
      have hb := World.block_lt_of_cell? w _ hq
      exact (World.cell?_of_block (Below.heap_alloc (w.drewN nd) _ q.block hb)).trans hq
    have hn1 := HN1.out
    have := run_copy_rows Try.prog ((w.drewN nd).alloc (.cells (rowA n 0).toArray 64)) 61 61 3 64 3 w.heap.size 0 n n p 1 c (rowA n 0).toArray 64 [.int .i64 0, .int .i64 1, .int .i64 0] Try.underlying61 (by rw [HI0.out]; simp [HZ1.out]) (heap_alloc_new (w.drewN nd) _)
      (by show 3 = min 1 n * 3; omega) (fun j v hj => by
        match j, hj with
        | 0, hj => cases hj; exact hpb (by rw [show p.add 0 = p from by simp [Addr.add]]; exact h0)
        | 1, hj => cases hj; exact hpb h1
        | 2, hj => cases hj; exact hpb h2) (by simp [rowA_length]; omega) (by intro v hv; simp at hv; rcases hv with rfl | rfl | rfl <;> rfl)
    rw [this, List.toList_toArray, show Nat.min 1 n = 1 from Nat.min_eq_left hn1]
    have e := rowA_first n hn1
    rw [show ([.int .i64 0, .int .i64 1, .int .i64 0] : List Value).length = 3 from rfl, e]
    rfl
  go_enter Try.func32, Try.ntmps32
  go_wp2_with (first | (go_at_call 41; with_reducible refine (bits_Mul.calls 1 _ 0 _ _ HM.out).mono ?_; rintro e w' ⟨rfl, hd⟩; obtain ⟨nd, rfl⟩ := hd))
  have hG0 : (((w.drewN nd).alloc (.cells (rowA n 0).toArray 64)).setRow w.heap.size (rowA n 1).toArray).heap[w.heap.size]? = some (.cells (rowA n 1).toArray 64 (0, 0)) := setRow_heap _ w.heap.size _ _ 64 _ (heap_alloc_new (w.drewN nd) _)
  have hB0 : Below w.heap.size w (((w.drewN nd).alloc (.cells (rowA n 0).toArray 64)).setRow w.heap.size (rowA n 1).toArray) := below_setRow ((pw_below_drewN (Below.refl _ w) nd).alloc (Nat.le_refl _) _) (Nat.le_refl _) _
  go_loopw [8] (fun v8 wr => ∃ m : Nat, v8 = .int .i64 (m : Int) ∧ Aside0 (1 ≤ m ∧ m ≤ n) ∧ Aside0 (wr.heap[w.heap.size]? = some (.cells (rowA n m).toArray 64 (0, 0))) ∧ Aside0 (Below w.heap.size w wr))
    (fun v8 _ => n - (intOf v8).toNat)
  case atStart => exact ⟨1, rfl, ⟨⟨Nat.le_refl _, HN1.out⟩⟩, ⟨hG0⟩, ⟨hB0⟩⟩
  case round =>
    obtain ⟨m, rfl, HMN, HG, HB⟩ := hrel
    clear hcp hmk hG0 hB0 hw1 hw2 hw3 c0 c1 c2
    have hmn := HMN.out.2
    have hm1 := HMN.out.1
    by_cases hlt : m < n
    · have hcb : decide ((m : Int) < (n : Int)) = true := decide_eq_true (by omega)
      have hcb2 : decide (m < n) = true := decide_eq_true hlt
      have p1 : 0 ≤ (m : Int) := by omega
      have p2 : (m : Int) ≤ (n : Int) := by omega
      have hne : (n = m) = False := eq_false (by omega)
      obtain ⟨k, hk⟩ : ∃ k, Nat.min m (n - m) = k := ⟨_, rfl⟩
      have hkb : 1 ≤ k ∧ k ≤ m ∧ m + k ≤ n := by
        have h1 : k ≤ m := by rw [← hk]; exact Nat.min_le_left _ _
        have h2 : k ≤ n - m := by rw [← hk]; exact Nat.min_le_right _ _
        have h3 : 1 ≤ k := by rw [← hk]; exact Nat.le_min.2 ⟨hm1, by omega⟩
        omega
      have hcp2 : (Builtin.copy_ #[61, 61] 3 #[.slice (some ⟨w.heap.size, m * 3, none⟩) (n - m) (n - m), .slice (some ⟨w.heap.size, 0, none⟩) m n]).run Try.prog wr.drew = .ok (.int .i64 (k : Int)) (wr.drew.setRow w.heap.size (rowA n (m + k)).toArray) := by
        have := run_copy_rows Try.prog wr.drew 61 61 3 64 3 w.heap.size (m * 3) (n - m) (n - m) ⟨w.heap.size, 0, none⟩ m n (rowA n m).toArray 64 ((rowA n m).take (3 * k)) Try.underlying61 (by rw [HI0.out]; simp [HZ1.out]) HG.out
          (by rw [List.length_take, rowA_length, hk]; omega) (fun j v hj => by
            have hjk : j < 3 * k := by
              rw [List.getElem?_take] at hj
              split at hj
              · assumption
              · cases hj
            rw [List.getElem?_take, if_pos hjk] at hj
            have ha : (⟨w.heap.size, 0, none⟩ : Addr).add j = ⟨w.heap.size, j, none⟩ := by unfold Addr.add; split <;> simp_all
            show wr.cell? _ = _
            rw [ha]
            exact (blk_cell HG.out j).trans (by rw [List.getElem?_toArray]; exact hj)) (by rw [List.size_toArray, List.length_take, rowA_length]; omega) (fun v hv => rowA_one n m v (List.take_subset _ _ hv))
        have hlen : ((rowA n m).take (3 * k)).length = 3 * k := by rw [List.length_take, rowA_length]; omega
        rw [this, List.toList_toArray, hk, hlen, Nat.mul_comm m 3, rowA_copy n m k hkb.2.1 hkb.2.2]
        rfl
      have HKB := Aside0.mk hkb
      clear hkb hk
      go_wp2
      go_region
      go_roundw
      case rel =>
        have := HKB.out
        have := HN2.out
        rw [show wrap64 ((m : Int) + (k : Int)) = ((m + k : Nat) : Int) by unfold wrap64; omega]
        (repeat apply Exists.intro)
        exact ⟨⟨m + k, rfl, ⟨by omega⟩, ⟨setRow_heap _ w.heap.size _ _ 64 _ HG.out⟩, ⟨below_setRow (below_drew1 HB.out) (Nat.le_refl _) _⟩⟩, rfl⟩
      case measure =>
        have := HKB.out
        have := HN2.out
        rw [show wrap64 ((m : Int) + (k : Int)) = ((m + k : Nat) : Int) by unfold wrap64; omega]
        simp [intOf]; omega
    · obtain rfl : m = n := by omega
      have hcb : decide ((m : Int) < (m : Int)) = false := by simp
      go_wp2
      go_ret
      exact ⟨w.heap.size, rfl, Nat.le_refl _, HG.out, HB.out⟩
end Go.Proofs.Ytciheadencbmjaa.P
