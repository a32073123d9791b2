import Derived.Test.YtphdjlfnlcapcaaPx1
import Derived.BigRegion
set_option linter.unusedVariables false
set_option linter.unusedSimpArgs false
namespace Go.Proofs.Ytphdjlfnlcapcaa.P
open Go.RowKit Go.Proofs.YtphdjlfnlcapcaaW.PrintWords Go.Proofs.YtphdjlfnlcapcaaW.PrintLast Go.Proofs.YtphdjlfnlcapcaaW.PrintMore
attribute [local go_sem] max2_int min2_int max_two min_two max_three min_three max_four min_four
set_option maxHeartbeats 1000000 in
theorem take_calls (g : Nat) (a b n : Int) (w : World) (hb : w.heap[g]? = some (.cells #[.int .i64 a, .int .i64 b] 44 (0, 0))) :
    Calls Try.prog 18 #[.pointer (some ⟨g, 0, none⟩), .int .i64 n] w fun e w' => e = .returned (.tuple #[]) ∧ w'.heap[g]? = some (.cells #[.int .i64 (mx a n), .int .i64 (mn b n)] 44 (0, 0)) ∧ Below g w w' := by
  have c0 : w.cell? ⟨g, 0, none⟩ = some (.int .i64 a) := (blk_cell hb 0).trans rfl
  have c1 : w.cell? ⟨g, 1, none⟩ = some (.int .i64 b) := (blk_cell hb 1).trans rfl
  have f0 := blk_frozen hb 0
  have f1 := blk_frozen hb 1
  have HB := Aside0.mk hb
  clear hb
  go_enter Try.func18, Try.ntmps18
  go_region
  go_end0
  refine ⟨rfl, ?_, ?_⟩
  · have h1 := blk_set HB.out 0 (.int .i64 (mx a n))
    have h2 := blk_set h1 1 (.int .i64 (mn b n))
    unfold mx mn at h2
    unfold mx mn
    exact h2
  · exact below_drew (((Below.refl g w).setCell (p := ⟨g, 0, none⟩) (Nat.le_refl _) _).setCell (p := ⟨g, 1, none⟩) (Nat.le_refl _) _)

theorem sum_calls (g : Nat) (a b : Int) (w : World) (hb : w.heap[g]? = some (.cells #[.int .i64 a, .int .i64 b] 44 (0, 0))) :
    Calls Try.prog 19 #[.pointer (some ⟨g, 0, none⟩)] w fun e w' => e = .returned (.int .i64 (wrap64 (a + b))) ∧ Drawn0 w w' := by
  have c0 : w.cell? ⟨g, 0, none⟩ = some (.int .i64 a) := (blk_cell hb 0).trans rfl
  have c1 : w.cell? ⟨g, 1, none⟩ = some (.int .i64 b) := (blk_cell hb 1).trans rfl
  clear hb
  go_enter Try.func19, Try.ntmps19
  go_wp2
  go_quiet (fail)
  go_wp2
  go_ret
  exact ⟨rfl, by repeat (first | exact Drawn0.refl _ | apply Drawn0.step)⟩

def inM (n : Int) : Bool := decide (-1000000000 ≤ n) && decide (n ≤ 1000000000)
def hi (l : List Int) : Int := l.foldl mx 0
def lo (l : List Int) : Int := l.foldl mn 0
def margins_Join.f (l : List Int) : Option (Int × Int) :=
  if 4000 < l.length then some (0, 2) else if l.all inM then some (hi l + lo l, 0) else some (0, 1)

theorem inM_iff (n : Int) : inM n = true ↔ -1000000000 ≤ n ∧ n ≤ 1000000000 := by unfold inM; simp
theorem hi_bd : ∀ (l : List Int) (a : Int), 0 ≤ a → a ≤ 1000000000 → l.all inM = true → 0 ≤ l.foldl mx a ∧ l.foldl mx a ≤ 1000000000
  | [], a, h0, h1, _ => ⟨h0, h1⟩
  | x :: l, a, h0, h1, h => by
    simp only [List.all_cons, Bool.and_eq_true, inM_iff] at h
    have : 0 ≤ mx a x ∧ mx a x ≤ 1000000000 := by unfold mx; split <;> omega
    exact hi_bd l _ this.1 this.2 h.2
theorem lo_bd : ∀ (l : List Int) (a : Int), -1000000000 ≤ a → a ≤ 0 → l.all inM = true → -1000000000 ≤ l.foldl mn a ∧ l.foldl mn a ≤ 0
  | [], a, h0, h1, _ => ⟨h0, h1⟩
  | x :: l, a, h0, h1, h => by
    simp only [List.all_cons, Bool.and_eq_true, inM_iff] at h
    have : -1000000000 ≤ mn a x ∧ mn a x ≤ 0 := by unfold mn; split <;> omega
    exact lo_bd l _ this.1 this.2 h.2

theorem rd_nat (l : List Int) (i : Nat) (h : i < l.length) : rd l (i : Int) = l[i] := by unfold rd; simp [List.getD_eq_getElem?_getD, h]
theorem hi_snoc (l : List Int) (i : Nat) (h : i < l.length) : hi (l.take (i + 1)) = mx (hi (l.take i)) (rd l (i : Int)) := by
  rw [rd_nat l i h, List.take_succ_eq_append_getElem h]; unfold hi; rw [List.foldl_append]; rfl
theorem lo_snoc (l : List Int) (i : Nat) (h : i < l.length) : lo (l.take (i + 1)) = mn (lo (l.take i)) (rd l (i : Int)) := by
  rw [rd_nat l i h, List.take_succ_eq_append_getElem h]; unfold lo; rw [List.foldl_append]; rfl
theorem all_snoc (l : List Int) (i : Nat) (h : i < l.length) : (l.take (i + 1)).all inM = ((l.take i).all inM && inM (rd l (i : Int))) := by
  rw [rd_nat l i h, List.take_succ_eq_append_getElem h, List.all_append]; simp
theorem all_miss (l : List Int) (i : Nat) (h : i < l.length) (hm : ¬ inM (rd l (i : Int)) = true) : l.all inM = false := by
  rw [rd_nat l i h] at hm
  rw [List.all_eq_false]
  exact ⟨l[i], List.getElem_mem h, hm⟩
theorem join_end (l : List Int) (r1 r2 : Int) (ha : l.all inM = true) (h : (if l.all inM = true then some (hi l + lo l, 0) else some (0, 1)) = some (r1, r2)) : r1 = wrap64 (hi l + lo l) ∧ r2 = 0 := by
  rw [if_pos ha] at h
  have h1 := hi_bd l 0 (by omega) (by omega) ha
  have h2 := lo_bd l 0 (by omega) (by omega) ha
  have e : wrap64 (hi l + lo l) = hi l + lo l := by unfold wrap64; unfold hi lo; omega
  rw [e]
  have h' := Option.some.inj h
  simp only [Prod.mk.injEq] at h'
  exact ⟨h'.1.symm, h'.2.symm⟩
theorem isMargin_yes (n : Int) (w : World) (h : inM n = true) : Calls Try.prog 17 #[.int .i64 n] w fun e w' => e = .returned (.bool true) ∧ w = w' := by
  unfold inM at h
  simp only [Bool.and_eq_true, decide_eq_true_eq] at h
  obtain ⟨h1, h2⟩ := h
  go_enter Try.func17, Try.ntmps17
  go_wp2
  go_ret
  exact ⟨rfl, rfl⟩
theorem isMargin_no (n : Int) (w : World) (h : inM n = false) : Calls Try.prog 17 #[.int .i64 n] w fun e w' => e = .returned (.bool false) ∧ w = w' := by
  unfold inM at h
  by_cases h1 : -1000000000 ≤ n
  · have h2 : decide (n ≤ 1000000000) = false := by simpa [h1] using h
    go_enter Try.func17, Try.ntmps17
    go_wp2
    go_ret
    exact ⟨rfl, rfl⟩
  · have h2 : decide (-1000000000 ≤ n) = false := by simpa using h1
    clear h1 h
    go_enter Try.func17, Try.ntmps17
    go_wp2
    go_ret
    exact ⟨rfl, rfl⟩

set_option maxHeartbeats 1000000 in
theorem margins_Join.calls (A0 : Option Addr) (c0 : Nat) (l0 : List Int) (r1 : Int) (r2 : Int) (w : World) (hr0 : Kd.C (Kd.int .i64) w A0 l0.length l0) (hc0 : l0.length ≤ c0) (h : margins_Join.f l0 = some (r1, r2)) :
    Calls Try.prog 10 #[.slice A0 l0.length c0] w fun e w' => e = .returned (.tuple #[.int .i64 r1, .int .i64 r2]) ∧ Below w.heap.size w w' := by
  have HR0 := Aside0.mk hr0
  clear hr0 hc0
  unfold margins_Join.f at h
  by_cases hl : 4000 < l0.length
  · rw [if_pos hl] at h
    obtain ⟨rfl, rfl⟩ : 0 = r1 ∧ 2 = r2 := by simpa using h
    clear h
    have hl' : decide (4000 < (l0.length : Int)) = true := by rw [decide_eq_true_eq]; omega
    go_enter Try.func10, Try.ntmps10
    go_wp2
    go_ret2
    exact ⟨rfl, Below.refl _ _⟩
  · rw [if_neg hl] at h
    have H := Aside0.mk h
    clear h
    have hl' : decide (4000 < (l0.length : Int)) = false := by rw [decide_eq_false_iff_not]; omega
    have hl2 : decide (4000 < l0.length) = false := by simpa using hl
    go_enter Try.func10, Try.ntmps10
    go_wp2
    have hlen : l0.length ≤ 4000 := by omega
    clear hl hl' hl2
    have HB0 : Below w.heap.size w (w.alloc (Obj.cells #[Value.int IntKind.i64 0, Value.int IntKind.i64 0] 44)) := (Below.refl _ _).alloc (Nat.le_refl _) _
    have HN0 : (w.alloc (Obj.cells #[Value.int IntKind.i64 0, Value.int IntKind.i64 0] 44)).heap[w.heap.size]? = some (Obj.cells #[Value.int IntKind.i64 (hi (l0.take 0)), Value.int IntKind.i64 (lo (l0.take 0))] 44) := heap_alloc_new w _
    go_loopg [12] (l0.length) (fun kq v12 w' => ∃ i : Nat, v12 = .int .i64 (i : Int) ∧ Aside0 (i + kq = l0.length) ∧ Aside0 ((l0.take i).all inM = true) ∧ Aside0 (Below w.heap.size w w') ∧ Aside0 (w'.heap[w.heap.size]? = some (Obj.cells #[Value.int IntKind.i64 (hi (l0.take i)), Value.int IntKind.i64 (lo (l0.take i))] 44 (0, 0))))
    case atStart => exact ⟨0, rfl, ⟨by omega⟩, ⟨by simp⟩, ⟨HB0⟩, ⟨HN0⟩⟩
    case round =>
      clear HB0 HN0
      obtain ⟨i, rfl, HI, HA, HB, HN⟩ := hrel
      cases gk with
      | zero =>
        obtain rfl : i = l0.length := by have := HI.out; omega
        have hlt : decide ((l0.length : Int) < (l0.length : Int)) = false := by simp
        go_wp2_with (go_at_call 19; refine (sum_calls w.heap.size _ _ _ HN.out).mono ?_; rintro e w' ⟨rfl, ⟨nd, rfl⟩⟩)
        have HA' := HA.out
        rw [List.take_of_length_le (Nat.le_refl _)] at HA'
        obtain ⟨rfl, rfl⟩ := join_end l0 r1 r2 HA' H.out
        go_ret2
        exact ⟨rfl, pw_below_drewN HB.out nd⟩
      | succ k1 =>
        have hik : i < l0.length := by have := HI.out; omega
        have hlt : decide ((i : Int) < (l0.length : Int)) = true := by simpa using hik
        obtain ⟨ad, e, hx⟩ := Kd.at_int HR0.out (i : Int) (by omega) (by omega)
        cases e
        replace hx := (HB.out.cell (World.block_lt_of_cell? w _ hx)).trans hx
        rw [Int.toNat_natCast] at hx
        by_cases hm : inM (rd l0 i) = true
        · go_wp2_with (first | (go_at_call 17; refine (isMargin_yes _ _ hm).mono ?_; rintro e w' ⟨rfl, rfl⟩) | (go_at_call 18; refine (take_calls w.heap.size _ _ _ _ HN.out).mono ?_; rintro e w' ⟨rfl, hn', hb'⟩))
          go_roundg k1
          case measure => omega
          case rel => exact ⟨i + 1, by go_num, ⟨by have := HI.out; omega⟩, ⟨by rw [all_snoc l0 i hik, HA.out, hm]; rfl⟩, ⟨HB.out.trans hb'⟩, ⟨by rw [hi_snoc l0 i hik, lo_snoc l0 i hik]; exact hn'⟩⟩
        · go_wp2_with (first | (go_at_call 17; refine (isMargin_no _ _ (by simpa using hm)).mono ?_; rintro e w' ⟨rfl, rfl⟩))
          have h2 := H.out
          rw [if_neg (by rw [all_miss l0 i hik hm]; simp)] at h2
          obtain ⟨rfl, rfl⟩ : 0 = r1 ∧ 1 = r2 := by simpa using h2
          go_ret2
          exact ⟨rfl, HB.out⟩
end Go.Proofs.Ytphdjlfnlcapcaa.P
