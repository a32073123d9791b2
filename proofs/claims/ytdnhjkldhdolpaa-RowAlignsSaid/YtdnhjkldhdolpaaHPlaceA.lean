import Derived.Test.YtdnhjkldhdolpaaHStarts
import Derived.Test.YtdnhjkldhdolpaaHRangeO
import Derived.Maps.AppendAt
import Derived.StillTailTactics
import Derived.IntWalk
import Derived.Deep.RegionHeld3
set_option linter.unusedVariables false
set_option linter.unusedSimpArgs false
namespace Go.Proofs.Ytdnhjkldhdolpaa.P
open Go.RowKit Go.Proofs.YtdnhjkldhdolpaaW.PrintWords Go.Proofs.YtdnhjkldhdolpaaW.PrintLast Go.Proofs.YtdnhjkldhdolpaaW.PrintMore
attribute [local go_sem] Oper.semAt_some
def outW (n most : Int) : Bool := decide (n < 0) || decide (most < n)
theorem outW_calls (n most : Int) (w : World) : Calls Try.prog 21 #[.int .i64 n, .int .i64 most] w fun e w' => e = .returned (.bool (outW n most)) ∧ w = w' := by
  unfold outW
  cases h1 : decide (n < 0)
  · rw [Bool.false_or]
    go_enter Try.func21, Try.ntmps21
    go_wp2
    go_ret
    exact ⟨rfl, rfl⟩
  · rw [Bool.true_or]
    go_enter Try.func21, Try.ntmps21
    go_wp2
    go_ret
    exact ⟨rfl, rfl⟩
def highW (n : Int) : Bool := outW n 1000000000
theorem high_calls (n : Int) (w : World) : Calls Try.prog 20 #[.int .i64 n] w fun e w' => e = .returned (.bool (highW n)) ∧ w = w' := by
  unfold highW
  go_enter Try.func20, Try.ntmps20
  go_wp2_with (first | (go_at_call 21; refine (outW_calls _ _ _).mono ?_; rintro e w' ⟨rfl, rfl⟩))
  go_ret
  exact ⟨rfl, rfl⟩
set_option maxRecDepth 100000 in
set_option maxHeartbeats 4000000 in
theorem idxHigh_calls (A : Option Addr) (c : Nat) (l : List Int) (w : World) (hr : Kd.C (Kd.int .i64) w A l.length l) (hl : l.length ≤ 1000000) :
    Calls Try.prog 36 #[.slice A l.length c, .func (.func 20) #[] #[]] w fun e w' => (∃ r : Int, e = .returned (.int .i64 r) ∧ decide (0 ≤ r) = l.any highW) ∧ w = w' := by
  have HR := Aside0.mk hr
  have HL := Aside0.mk hl
  clear hr hl
  go_enter Try.func36, Try.ntmps36
  go_wp2
  go_loopg [8] l.length (fun kq v8 w' => ∃ j : Nat, v8 = .int .i64 (j : Int) ∧ Aside0 (kq + j = l.length) ∧ Aside0 ((l.take j).any highW = false) ∧ Aside0 (w = w'))
  case atStart => exact ⟨0, rfl, ⟨rfl⟩, ⟨rfl⟩, ⟨rfl⟩⟩
  case round =>
    obtain ⟨j, rfl, HK, HF, ⟨rfl⟩⟩ := hrel
    cases gk with
    | zero =>
      have hjl : j = l.length := by have := HK.out; omega
      subst hjl
      have c1b : decide ((l.length : Int) < (l.length : Int)) = false := by simp
      have hf := HF.out
      rw [List.take_length] at hf
      go_wp2
      go_ret
      exact ⟨⟨-1, rfl, by rw [hf]; decide⟩, rfl⟩
    | succ k1 =>
      have hj : j < l.length := by have := HK.out; omega
      have p1 : 0 ≤ (j : Int) := by omega
      have q1 : (j : Int) < (l.length : Int) := by omega
      have c1b : decide ((j : Int) < (l.length : Int)) = true := decide_eq_true q1
      have hsum : IntKind.i64.wrap ((j : Int) + 1) = ((j + 1 : Nat) : Int) := by have := HL.out; exact IntWalk.i64_in _ (by omega)
      have hsum2 : wrap64 ((j : Int) + 1) = ((j + 1 : Nat) : Int) := by have := HL.out; unfold wrap64; omega
      obtain ⟨ad, ead, hx0⟩ := Kd.at_int HR.out (j : Int) p1 q1
      cases ead
      have hel : rd l (j : Int) = l[j] := by simp [rd, List.getD_eq_getElem?_getD, List.getElem?_eq_getElem hj]
      rw [hel] at hx0
      simp only [Int.toNat_natCast] at hx0
      obtain ⟨x, hx⟩ : ∃ x, l[j] = x := ⟨_, rfl⟩
      rw [hx] at hx0
      have HJ := Aside0.mk hj
      clear hel
      replace p1 := eq_true p1
      replace q1 := eq_true q1
      cases hfar : highW x
      · have hfc : ∀ w, Calls Try.prog 20 #[.int .i64 x] w fun e w' => e = .returned (.bool false) ∧ w = w' := fun w => by rw [← hfar]; exact high_calls _ w
        have hnext : (l.take (j + 1)).any highW = false := by rw [List.take_succ_eq_append_getElem hj, List.any_append, HF.out]; simp [hx, hfar]
        have HN := Aside0.mk hnext
        clear hnext hfar hx hj
        go_wp2_with (first | (go_at_call 20; refine (hfc _).mono ?_; rintro e w' ⟨rfl, rfl⟩))
        go_roundg k1
        case measure => omega
        case rel => exact ⟨j + 1, by simp [hsum, hsum2], ⟨by have := HK.out; omega⟩, HN, ⟨rfl⟩⟩
      · have hfc : ∀ w, Calls Try.prog 20 #[.int .i64 x] w fun e w' => e = .returned (.bool true) ∧ w = w' := fun w => by rw [← hfar]; exact high_calls _ w
        have hany : l.any highW = true := List.any_eq_true.2 ⟨l[j], List.getElem_mem hj, by rw [hx]; exact hfar⟩
        have HN := Aside0.mk hany
        clear hany hfar hx hj
        go_wp2_with (first | (go_at_call 20; refine (hfc _).mono ?_; rintro e w' ⟨rfl, rfl⟩))
        go_ret
        exact ⟨⟨j, rfl, by rw [HN.out]; simp⟩, rfl⟩
theorem anyHigh_calls (A : Option Addr) (c : Nat) (l : List Int) (w : World) (hr : Kd.C (Kd.int .i64) w A l.length l) (hl : l.length ≤ 1000000) :
    Calls Try.prog 19 #[.slice A l.length c, .func (.func 20) #[] #[]] w fun e w' => e = .returned (.bool (l.any highW)) ∧ w = w' := by
  go_enter Try.func19, Try.ntmps19
  go_wp2_with (first | (go_at_call 36; refine (idxHigh_calls A c l _ hr hl).mono ?_; rintro e w' ⟨⟨r, rfl, hr1⟩, rfl⟩; have hr2 : decide (r ≥ 0) = l.any highW := hr1))
  go_ret
  exact ⟨by first | rfl | rw [hr1] | rw [hr2], rfl⟩


/-- The greatest of a list that is not empty. -/
def maxTo (l : List Int) : Nat → Int
  | 0 => rd l 0
  | i + 1 => mx (maxTo l i) (rd l ((i + 1 : Nat) : Int))
set_option maxRecDepth 100000 in
set_option maxHeartbeats 4000000 in
theorem max_calls (A : Option Addr) (c : Nat) (l : List Int) (w : World) (hr : Kd.C (Kd.int .i64) w A l.length l) (hl : l.length ≤ 1000000) (h0 : 0 < l.length) :
    Calls Try.prog 25 #[.slice A l.length c] w fun e w' => e = .returned (.int .i64 (maxTo l (l.length - 1))) ∧ w = w' := by
  have HR := Aside0.mk hr
  have HL := Aside0.mk hl
  have HP := Aside0.mk h0
  have c0 : decide ((l.length : Int) < 1) = false := decide_eq_false (by omega)
  have z0 : (0 : Int) < (l.length : Int) := by omega
  obtain ⟨a0, e0, hx0⟩ := Kd.at_int hr 0 (by omega) z0
  cases e0
  simp only [Int.toNat_zero] at hx0
  have zn := eq_true h0
  clear hr hl h0
  replace z0 := eq_true z0
  rw [show a0.add 0 = a0 by unfold Addr.add; split <;> (cases a0; simp_all)] at hx0
  go_enter Try.func25, Try.ntmps25
  go_wp2
  go_loopg [3, 4] (l.length - 1) (fun kq v3 v4 w' => ∃ j : Nat, v3 = .int .i64 (maxTo l j) ∧ v4 = .int .i64 ((j + 1 : Nat) : Int) ∧ Aside0 (kq + j + 1 = l.length) ∧ Aside0 (w = w'))
  case atStart => exact ⟨0, rfl, rfl, ⟨by have := HP.out; omega⟩, ⟨rfl⟩⟩
  case round =>
    obtain ⟨j, rfl, rfl, HK, ⟨rfl⟩⟩ := hrel
    cases gk with
    | zero =>
      have hj : j + 1 = l.length := by have := HK.out; omega
      have c1 : decide (((j + 1 : Nat) : Int) < (l.length : Int)) = false := decide_eq_false (by omega)
      have HE : Aside0 (maxTo l (l.length - 1) = maxTo l j) := ⟨by rw [show l.length - 1 = j by omega]⟩
      go_wp2
      go_ret
      exact ⟨by rw [HE.out]; rfl, rfl⟩
    | succ k1 =>
      have hj : j + 1 < l.length := by have := HK.out; omega
      have p1 : 0 ≤ ((j + 1 : Nat) : Int) := by omega
      have q1 : ((j + 1 : Nat) : Int) < (l.length : Int) := by omega
      have c1 : decide (((j + 1 : Nat) : Int) < (l.length : Int)) = true := decide_eq_true q1
      have hsum : IntKind.i64.wrap (((j + 1 : Nat) : Int) + 1) = ((j + 1 + 1 : Nat) : Int) := by have := HL.out; exact IntWalk.i64_in _ (by omega)
      have hsum2 : wrap64 (((j + 1 : Nat) : Int) + 1) = ((j + 1 + 1 : Nat) : Int) := by have := HL.out; unfold wrap64; omega
      obtain ⟨ad, ead, hx1⟩ := Kd.at_int HR.out ((j + 1 : Nat) : Int) p1 q1
      cases ead
      simp only [Int.toNat_natCast] at hx1
      obtain ⟨M, hM⟩ : ∃ M, mx (maxTo l j) (rd l ((j + 1 : Nat) : Int)) = M := ⟨_, rfl⟩
      have hM1 : (if maxTo l j < rd l ((j + 1 : Nat) : Int) then rd l ((j + 1 : Nat) : Int) else maxTo l j) = M := hM
      have HM : Aside0 (maxTo l (j + 1) = M) := ⟨hM⟩
      obtain ⟨J, hJ⟩ : ∃ J : Nat, j + 1 = J := ⟨_, rfl⟩
      have HJ := Aside0.mk hJ
      rw [hJ] at p1 q1 c1 hsum hsum2 hx1 hM1 ⊢
      clear hM hJ hj
      replace p1 := eq_true p1
      replace q1 := eq_true q1
      go_wp2
      go_roundg k1
      case measure => omega
      case rel => exact ⟨J, by rw [← HJ.out, HM.out], by simp [hsum, hsum2], ⟨by have := HK.out; have := HJ.out; omega⟩, ⟨rfl⟩⟩
theorem aligners_calls (w : World) : Calls Try.prog 24 #[] w fun e w' => e = .returned (.agg #[.func (.func 39) #[] #[], .func (.func 40) #[] #[], .func (.func 41) #[] #[]]) ∧ Below w.heap.size w w' := by
  go_enter Try.func24, Try.ntmps24
  go_wp2
  have hl := run_loadVar_row (P := Try.prog) (w.alloc (.cells #[.func (.func 39) #[] #[], .func (.func 40) #[] #[], .func (.func 41) #[] #[]] 59)) w.heap.size 59 59 #[.func (.func 39) #[] #[], .func (.func 40) #[] #[], .func (.func 41) #[] #[]] (0, 0) _ (heap_alloc_new w _) Try.underlying59 rfl (by kernel_rfl)
  refine bodyPost_ret (v := .agg #[.func (.func 39) #[] #[], .func (.func 40) #[] #[], .func (.func 41) #[] #[]]) (by simp [results, Try.f24, asAddr, hl]) rfl ?_
  exact ⟨rfl, (Below.refl _ _).alloc (Nat.le_refl _) _⟩
theorem al0_calls (n : Int) (w : World) : Calls Try.prog 39 #[.int .i64 n] w fun e w' => e = .returned (.int .i64 0) ∧ w = w' := by
  go_enter Try.func39, Try.ntmps39
  go_wp2
  go_ret
  exact ⟨rfl, rfl⟩
theorem al1_calls (n : Int) (w : World) : Calls Try.prog 40 #[.int .i64 n] w fun e w' => e = .returned (.int .i64 (wrap64 (n.tdiv 2))) ∧ w = w' := by
  go_enter Try.func40, Try.ntmps40
  go_wp2
  go_ret
  exact ⟨rfl, rfl⟩
theorem al2_calls (n : Int) (w : World) : Calls Try.prog 41 #[.int .i64 n] w fun e w' => e = .returned (.int .i64 n) ∧ w = w' := by
  go_enter Try.func41, Try.ntmps41
  go_wp2
  go_ret
  exact ⟨rfl, rfl⟩
theorem boxes_calls (x : Int) (A B : Option Addr) (n m c d : Nat) (gap : Int) (w : World) :
    Calls Try.prog 23 #[.int .i64 x, .slice A n c, .slice B m d, .int .i64 gap] w fun e w' => e = .returned (.func (.func 38) #[] #[.pointer (some ⟨w.heap.size + 1, 0, none⟩), .pointer (some ⟨w.heap.size, 0, none⟩), .pointer (some ⟨w.heap.size + 2, 0, none⟩), .pointer (some ⟨w.heap.size + 3, 0, none⟩)]) ∧
      w' = (((w.alloc (.cells #[.int .i64 x] 3)).alloc (.cells #[.slice A n c] 22)).alloc (.cells #[.slice B m d] 22)).alloc (.cells #[.int .i64 gap] 3) := by
  have hmf : ∀ (fn : Fn) (first cap : Array Value) (w : World), (Instr.makeFunc fn first cap).run Try.prog w = .ok (.func fn first cap) w := fun _ _ _ _ => rfl
  go_enter Try.func23, Try.ntmps23
  go_wp2
  go_ret
  exact ⟨rfl, rfl⟩
end Go.Proofs.Ytdnhjkldhdolpaa.P
