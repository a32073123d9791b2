import Derived.Test.YtclfimdafmoafaaHStarts
import Derived.OneCell
set_option linter.unusedVariables false
set_option linter.unusedSimpArgs false
namespace Go.Proofs.Ytclfimdafmoafaa.P
open Go.RowKit Go.Proofs.YtclfimdafmoafaaW.PrintWords Go.Proofs.YtclfimdafmoafaaW.PrintLast Go.Proofs.YtclfimdafmoafaaW.PrintMore
attribute [local go_sem] Oper.semAt_some

theorem within29_calls (n lo hi : Int) (w : World) : Calls Try.prog 29 #[.int .i64 n, .int .i64 lo, .int .i64 hi] w fun e w' => e = .returned (.bool (inside n lo hi)) ∧ w = w' := by
  unfold inside
  by_cases h1 : lo ≤ n
  · have h2 : decide (lo ≤ n) = true := by simpa using h1
    rw [h2, Bool.true_and]
    clear h1
    go_enter Try.func29, Try.ntmps29
    go_wp2
    go_ret
    exact ⟨rfl, rfl⟩
  · have h2 : decide (lo ≤ n) = false := by simpa using h1
    rw [h2, Bool.false_and]
    clear h1
    go_enter Try.func29, Try.ntmps29
    go_wp2
    go_ret
    exact ⟨rfl, rfl⟩
theorem far37_calls (n : Int) (w : World) : Calls Try.prog 37 #[.int .i64 n] w fun e w' => e = .returned (.bool (farW n)) ∧ w = w' := by
  unfold farW
  go_enter Try.func37, Try.ntmps37
  go_wp2_with (first | (go_at_call 29; refine (within29_calls _ _ _ _).mono ?_; rintro e w' ⟨rfl, rfl⟩))
  go_ret
  exact ⟨rfl, rfl⟩
def wrongR (t : S29) : Bool := !inside t.f0 0 1000000 || !inside t.f1 t.f0 1000000
theorem within_f (n lo hi : Int) : table_within.f n lo hi = some (inside n lo hi) := by
  unfold table_within.f inside
  by_cases h : lo ≤ n
  · rw [if_pos h, decide_eq_true h]; rfl
  · rw [if_neg h, decide_eq_false h]; rfl
theorem wrong_f (a b : Int) : table_wrong.f a b = some (wrongR ⟨a, b⟩) := by
  unfold table_wrong.f wrongR
  simp only [within_f, Option.bind_some]
  cases inside a 0 1000000 <;> cases inside b a 1000000 <;> rfl
theorem below_of_eq {w w' : World} (h : w = w') : Below w.heap.size w w' := by subst h; exact Below.refl _ _

set_option maxRecDepth 100000 in
set_option maxHeartbeats 4000000 in
theorem idxFarT_calls (A : Option Addr) (c : Nat) (l : List (Int)) (w : World) (hr : Kd.C (Kd.int .i64) w A l.length l) :
    Calls Try.prog 53 #[.slice A l.length c, .func (.func 37) #[] #[]] w fun e w' => (∃ r : Int, e = .returned (.int .i64 r) ∧ decide (0 ≤ r) = l.any (farW)) ∧ Below w.heap.size w w' := by
  have HL : Aside0 (l.length ≤ 9223372036854775807) := ⟨Kd.C_max hr⟩
  have HR := Aside0.mk hr
  clear hr
  go_enter Try.func53, Try.ntmps53
  go_wp2
  go_loopg [8] l.length (fun kq v8 w' => ∃ j : Nat, v8 = .int .i64 (j : Int) ∧ Aside0 (kq + j = l.length) ∧ Aside0 ((l.take j).any (farW) = false) ∧ Aside0 (Below w.heap.size w w'))
  case atStart => exact ⟨0, rfl, ⟨rfl⟩, ⟨rfl⟩, ⟨Below.refl _ _⟩⟩
  case round =>
    obtain ⟨j, rfl, HK, HF, HB⟩ := hrel
    cases gk with
    | zero =>
      have hjl : j = l.length := by have := HK.out; omega
      subst hjl
      have c1b : decide ((l.length : Int) < (l.length : Int)) = false := by simp
      have hf := HF.out
      rw [List.take_length] at hf
      go_wp2
      go_ret
      exact ⟨⟨-1, rfl, by rw [hf]; decide⟩, HB.out⟩
    | succ k1 =>
      have hj : j < l.length := by have := HK.out; omega
      have p1 : 0 ≤ (j : Int) := by omega
      have q1 : (j : Int) < (l.length : Int) := by omega
      have c1b : decide ((j : Int) < (l.length : Int)) = true := decide_eq_true q1
      have hsum : IntKind.i64.wrap ((j : Int) + 1) = ((j + 1 : Nat) : Int) := by have := HL.out; exact IntWalk.i64_in _ (by omega)
      have hsum2 : wrap64 ((j : Int) + 1) = ((j + 1 : Nat) : Int) := by have := HL.out; unfold wrap64; omega
      obtain ⟨ad, ead, hx0⟩ := Kd.at_int (Kd.C_below HR.out HB.out) (j : Int) p1 q1
      cases ead
      have hel : rd l (j : Int) = l[j] := by simp [rd, List.getD_eq_getElem?_getD, List.getElem?_eq_getElem hj]
      rw [hel] at hx0
      simp only [Int.toNat_natCast] at hx0
      obtain ⟨x, hx⟩ : ∃ x, l[j] = x := ⟨_, rfl⟩
      rw [hx] at hx0
      clear hel
      have HJ := Aside0.mk hj
      replace p1 := eq_true p1
      replace q1 := eq_true q1
      have hfc : ∀ b, farW x = b → Calls Try.prog 37 #[.int .i64 x] wr fun e w' => e = .returned (.bool b) ∧ Below wr.heap.size wr w' := fun b hb => (far37_calls x wr).mono (by rintro e w' ⟨rfl, h⟩; exact ⟨by rw [hb], below_of_eq h⟩)
      cases hfar : (farW) x
      · have hfc := hfc _ hfar
        have hnext : (l.take (j + 1)).any (farW) = false := by rw [List.take_succ_eq_append_getElem hj, List.any_append, HF.out]; simp [hx] at hfar ⊢; simp [hfar]
        have HN := Aside0.mk hnext
        clear hnext hfar hx hj
        go_wp2_with (first | (go_at_call 37; with_reducible refine hfc.mono ?_; rintro e w2 ⟨rfl, hb⟩; have HB2 := Aside0.mk hb; clear hb))
        go_roundg k1
        case measure => omega
        case rel => exact ⟨j + 1, by simp [hsum, hsum2], ⟨by have := HK.out; omega⟩, HN, ⟨HB.out.trans (HB2.out.mono HB.out.size)⟩⟩
      · have hfc := hfc _ hfar
        have hany : l.any (farW) = true := List.any_eq_true.2 ⟨l[j], List.getElem_mem hj, by rw [hx]; exact hfar⟩
        have HN := Aside0.mk hany
        clear hany hfar hx hj
        go_wp2_with (first | (go_at_call 37; with_reducible refine hfc.mono ?_; rintro e w2 ⟨rfl, hb⟩; have HB2 := Aside0.mk hb; clear hb))
        go_ret
        exact ⟨⟨j, rfl, by rw [HN.out]; simp⟩, HB.out.trans (HB2.out.mono HB.out.size)⟩
theorem anyFarT_calls (A : Option Addr) (c : Nat) (l : List (Int)) (w : World) (hr : Kd.C (Kd.int .i64) w A l.length l) :
    Calls Try.prog 39 #[.slice A l.length c, .func (.func 37) #[] #[]] w fun e w' => e = .returned (.bool (l.any (farW))) ∧ Below w.heap.size w w' := by
  go_enter Try.func39, Try.ntmps39
  go_wp2_with (first | (go_at_call 53; refine (idxFarT_calls A c l _ hr).mono ?_; rintro e w' ⟨⟨r, rfl, hr1⟩, hb⟩; have hr2 : decide (r ≥ 0) = l.any (farW) := hr1; have HB := Aside0.mk hb; clear hb))
  go_ret
  exact ⟨by first | rfl | rw [hr1] | rw [hr2], HB.out⟩

set_option maxRecDepth 100000 in
set_option maxHeartbeats 4000000 in
theorem idxWrong_calls (A : Option Addr) (c : Nat) (l : List (S29)) (w : World) (hr : Kd.C k29 w A l.length l) :
    Calls Try.prog 50 #[.slice A l.length c, .func (.func 28) #[] #[]] w fun e w' => (∃ r : Int, e = .returned (.int .i64 r) ∧ decide (0 ≤ r) = l.any (wrongR)) ∧ Below w.heap.size w w' := by
  have HL : Aside0 (l.length ≤ 9223372036854775807) := ⟨Kd.C_max hr⟩
  have HR := Aside0.mk hr
  clear hr
  go_enter Try.func50, Try.ntmps50
  go_wp2
  go_loopg [8] l.length (fun kq v8 w' => ∃ j : Nat, v8 = .int .i64 (j : Int) ∧ Aside0 (kq + j = l.length) ∧ Aside0 ((l.take j).any (wrongR) = false) ∧ Aside0 (Below w.heap.size w w'))
  case atStart => exact ⟨0, rfl, ⟨rfl⟩, ⟨rfl⟩, ⟨Below.refl _ _⟩⟩
  case round =>
    obtain ⟨j, rfl, HK, HF, HB⟩ := hrel
    cases gk with
    | zero =>
      have hjl : j = l.length := by have := HK.out; omega
      subst hjl
      have c1b : decide ((l.length : Int) < (l.length : Int)) = false := by simp
      have hf := HF.out
      rw [List.take_length] at hf
      go_wp2
      go_ret
      exact ⟨⟨-1, rfl, by rw [hf]; decide⟩, HB.out⟩
    | succ k1 =>
      have hj : j < l.length := by have := HK.out; omega
      have p1 : 0 ≤ (j : Int) := by omega
      have q1 : (j : Int) < (l.length : Int) := by omega
      have c1b : decide ((j : Int) < (l.length : Int)) = true := decide_eq_true q1
      have hsum : IntKind.i64.wrap ((j : Int) + 1) = ((j + 1 : Nat) : Int) := by have := HL.out; exact IntWalk.i64_in _ (by omega)
      have hsum2 : wrap64 ((j : Int) + 1) = ((j + 1 : Nat) : Int) := by have := HL.out; unfold wrap64; omega
      obtain ⟨ad, ead, hx0, hx1⟩ := at_T29 (Kd.C_below HR.out HB.out) (j : Int) p1 q1
      cases ead
      have hel : rd_T29 l (j : Int) = l[j] := by simp [rd_T29, List.getD_eq_getElem?_getD, List.getElem?_eq_getElem hj]
      rw [hel] at hx0 hx1
      simp only [Int.toNat_natCast] at hx0 hx1
      obtain ⟨x, hx⟩ : ∃ x, l[j] = x := ⟨_, rfl⟩
      rw [hx] at hx0 hx1
      clear hel
      have HJ := Aside0.mk hj
      replace p1 := eq_true p1
      replace q1 := eq_true q1
      have hfc : ∀ b, wrongR x = b → Calls Try.prog 28 #[.agg #[.int .i64 x.f0, .int .i64 x.f1]] wr fun e w' => e = .returned (.bool b) ∧ Below wr.heap.size wr w' := fun b hb => table_wrong.calls _ _ _ _ (by rw [wrong_f]; exact congrArg some hb)
      cases hfar : (wrongR) x
      · have hfc := hfc _ hfar
        have hnext : (l.take (j + 1)).any (wrongR) = false := by rw [List.take_succ_eq_append_getElem hj, List.any_append, HF.out]; simp [hx] at hfar ⊢; simp [hfar]
        have HN := Aside0.mk hnext
        clear hnext hfar hx hj
        go_wp2_with (first | (go_at_call 28; with_reducible refine hfc.mono ?_; rintro e w2 ⟨rfl, hb⟩; have HB2 := Aside0.mk hb; clear hb))
        go_roundg k1
        case measure => omega
        case rel => exact ⟨j + 1, by simp [hsum, hsum2], ⟨by have := HK.out; omega⟩, HN, ⟨HB.out.trans (HB2.out.mono HB.out.size)⟩⟩
      · have hfc := hfc _ hfar
        have hany : l.any (wrongR) = true := List.any_eq_true.2 ⟨l[j], List.getElem_mem hj, by rw [hx]; exact hfar⟩
        have HN := Aside0.mk hany
        clear hany hfar hx hj
        go_wp2_with (first | (go_at_call 28; with_reducible refine hfc.mono ?_; rintro e w2 ⟨rfl, hb⟩; have HB2 := Aside0.mk hb; clear hb))
        go_ret
        exact ⟨⟨j, rfl, by rw [HN.out]; simp⟩, HB.out.trans (HB2.out.mono HB.out.size)⟩
theorem anyWrong_calls (A : Option Addr) (c : Nat) (l : List (S29)) (w : World) (hr : Kd.C k29 w A l.length l) :
    Calls Try.prog 27 #[.slice A l.length c, .func (.func 28) #[] #[]] w fun e w' => e = .returned (.bool (l.any (wrongR))) ∧ Below w.heap.size w w' := by
  go_enter Try.func27, Try.ntmps27
  go_wp2_with (first | (go_at_call 50; refine (idxWrong_calls A c l _ hr).mono ?_; rintro e w' ⟨⟨r, rfl, hr1⟩, hb⟩; have hr2 : decide (r ≥ 0) = l.any (wrongR) := hr1; have HB := Aside0.mk hb; clear hb))
  go_ret
  exact ⟨by first | rfl | rw [hr1] | rw [hr2], HB.out⟩

def badR (row : List S29) : Bool := row.any wrongR
theorem bad26_calls (A : Option Addr) (c : Nat) (row : List S29) (w : World) (hr : Kd.C k29 w A row.length row) :
    Calls Try.prog 26 #[.slice A row.length c] w fun e w' => e = .returned (.bool (badR row)) ∧ Below w.heap.size w w' := by
  unfold badR
  go_enter Try.func26, Try.ntmps26
  go_wp2_with (first | (go_at_call 27; refine (anyWrong_calls A c row _ hr).mono ?_; rintro e w' ⟨rfl, hb⟩; have HB := Aside0.mk hb; clear hb))
  go_ret
  exact ⟨rfl, HB.out⟩

set_option maxRecDepth 100000 in
set_option maxHeartbeats 4000000 in
theorem idxBadR_calls (A : Option Addr) (c : Nat) (l : List (List S29)) (w : World) (hr : Kd.C (Kd.slice 29 k29) w A l.length l) :
    Calls Try.prog 51 #[.slice A l.length c, .func (.func 26) #[] #[]] w fun e w' => (∃ r : Int, e = .returned (.int .i64 r) ∧ decide (0 ≤ r) = l.any (badR)) ∧ Below w.heap.size w w' := by
  have HL : Aside0 (l.length ≤ 9223372036854775807) := ⟨Kd.C_max hr⟩
  have HR := Aside0.mk hr
  clear hr
  go_enter Try.func51, Try.ntmps51
  go_wp2
  go_loopg [8] l.length (fun kq v8 w' => ∃ j : Nat, v8 = .int .i64 (j : Int) ∧ Aside0 (kq + j = l.length) ∧ Aside0 ((l.take j).any (badR) = false) ∧ Aside0 (Below w.heap.size w w'))
  case atStart => exact ⟨0, rfl, ⟨rfl⟩, ⟨rfl⟩, ⟨Below.refl _ _⟩⟩
  case round =>
    obtain ⟨j, rfl, HK, HF, HB⟩ := hrel
    cases gk with
    | zero =>
      have hjl : j = l.length := by have := HK.out; omega
      subst hjl
      have c1b : decide ((l.length : Int) < (l.length : Int)) = false := by simp
      have hf := HF.out
      rw [List.take_length] at hf
      go_wp2
      go_ret
      exact ⟨⟨-1, rfl, by rw [hf]; decide⟩, HB.out⟩
    | succ k1 =>
      have hj : j < l.length := by have := HK.out; omega
      have p1 : 0 ≤ (j : Int) := by omega
      have q1 : (j : Int) < (l.length : Int) := by omega
      have c1b : decide ((j : Int) < (l.length : Int)) = true := decide_eq_true q1
      have hsum : IntKind.i64.wrap ((j : Int) + 1) = ((j + 1 : Nat) : Int) := by have := HL.out; exact IntWalk.i64_in _ (by omega)
      have hsum2 : wrap64 ((j : Int) + 1) = ((j + 1 : Nat) : Int) := by have := HL.out; unfold wrap64; omega
      obtain ⟨ad, A0, c0, ead, hx0, hc0, hC0⟩ := at_L2 (Kd.C_below HR.out HB.out) (j : Int) p1 q1
      cases ead
      have hel : rd_L2 l (j : Int) = l[j] := by simp [rd_L2, List.getD_eq_getElem?_getD, List.getElem?_eq_getElem hj]
      rw [hel] at hx0 hc0 hC0
      simp only [Int.toNat_natCast] at hx0 hc0 hC0
      obtain ⟨x, hx⟩ : ∃ x, l[j] = x := ⟨_, rfl⟩
      rw [hx] at hx0 hc0 hC0
      clear hel
      have HJ := Aside0.mk hj
      replace p1 := eq_true p1
      replace q1 := eq_true q1
      have hfc : ∀ b, badR x = b → Calls Try.prog 26 #[.slice A0 x.length c0] wr fun e w' => e = .returned (.bool b) ∧ Below wr.heap.size wr w' := fun b hb => by rw [← hb]; exact bad26_calls A0 c0 x wr hC0
      clear hC0 hc0
      cases hfar : (badR) x
      · have hfc := hfc _ hfar
        have hnext : (l.take (j + 1)).any (badR) = false := by rw [List.take_succ_eq_append_getElem hj, List.any_append, HF.out]; simp [hx] at hfar ⊢; simp [hfar]
        have HN := Aside0.mk hnext
        clear hnext hfar hx hj
        go_wp2_with (first | (go_at_call 26; with_reducible refine hfc.mono ?_; rintro e w2 ⟨rfl, hb⟩; have HB2 := Aside0.mk hb; clear hb))
        go_roundg k1
        case measure => omega
        case rel => exact ⟨j + 1, by simp [hsum, hsum2], ⟨by have := HK.out; omega⟩, HN, ⟨HB.out.trans (HB2.out.mono HB.out.size)⟩⟩
      · have hfc := hfc _ hfar
        have hany : l.any (badR) = true := List.any_eq_true.2 ⟨l[j], List.getElem_mem hj, by rw [hx]; exact hfar⟩
        have HN := Aside0.mk hany
        clear hany hfar hx hj
        go_wp2_with (first | (go_at_call 26; with_reducible refine hfc.mono ?_; rintro e w2 ⟨rfl, hb⟩; have HB2 := Aside0.mk hb; clear hb))
        go_ret
        exact ⟨⟨j, rfl, by rw [HN.out]; simp⟩, HB.out.trans (HB2.out.mono HB.out.size)⟩
theorem anyBadR_calls (A : Option Addr) (c : Nat) (l : List (List S29)) (w : World) (hr : Kd.C (Kd.slice 29 k29) w A l.length l) :
    Calls Try.prog 30 #[.slice A l.length c, .func (.func 26) #[] #[]] w fun e w' => e = .returned (.bool (l.any (badR))) ∧ Below w.heap.size w w' := by
  go_enter Try.func30, Try.ntmps30
  go_wp2_with (first | (go_at_call 51; refine (idxBadR_calls A c l _ hr).mono ?_; rintro e w' ⟨⟨r, rfl, hr1⟩, hb⟩; have hr2 : decide (r ≥ 0) = l.any (badR) := hr1; have HB := Aside0.mk hb; clear hb))
  go_ret
  exact ⟨by first | rfl | rw [hr1] | rw [hr2], HB.out⟩

def badI (n : Nat) (row : List Int) : Bool := decide (n < row.length) || row.any farW
theorem bad38_calls (A : Option Addr) (c : Nat) (row : List Int) (A1 : Option Addr) (n c1 : Nat) (p q : Nat) (w : World) (hr : Kd.C (Kd.int .i64) w A row.length row) (hp : Boxed w p 24 (.slice A1 n c1)) (hq : Boxed w q 68 (.func (.func 37) #[] #[])) :
    Calls Try.prog 38 #[.slice A row.length c, .pointer (some ⟨p, 0, none⟩), .pointer (some ⟨q, 0, none⟩)] w fun e w' => e = .returned (.bool (badI n row)) ∧ Below w.heap.size w w' := by
  unfold badI
  have hpc := hp.cell
  have hqc := hq.cell
  clear hp hq
  by_cases h1 : n < row.length
  · have h2 : decide (n < row.length) = true := by simpa using h1
    have h3 : decide ((row.length : Int) > (n : Int)) = true := by simpa using h1
    rw [h2, Bool.true_or]
    clear h1
    go_enter Try.func38, Try.ntmps38
    go_wp2
    go_ret
    exact ⟨by first | rfl | simp, Below.refl _ _⟩
  · have h2 : decide (n < row.length) = false := by simpa using h1
    have h3 : decide ((row.length : Int) > (n : Int)) = false := by simpa using h1
    rw [h2, Bool.false_or]
    clear h1
    go_enter Try.func38, Try.ntmps38
    go_wp2_with (first | (go_at_call 39; refine (anyFarT_calls A c row _ hr).mono ?_; rintro e w' ⟨rfl, hb⟩; have HB := Aside0.mk hb; clear hb))
    go_ret
    exact ⟨by first | rfl | simp, HB.out⟩

set_option maxRecDepth 100000 in
set_option maxHeartbeats 4000000 in
theorem idxBadI_calls (A : Option Addr) (c : Nat) (l : List (List Int)) (w : World) (hr : Kd.C (Kd.slice 3 (Kd.int .i64)) w A l.length l) (A1 : Option Addr) (n c1 p q : Nat) (hp : Boxed w p 24 (.slice A1 n c1)) (hq : Boxed w q 68 (.func (.func 37) #[] #[])) :
    Calls Try.prog 54 #[.slice A l.length c, .func (.func 38) #[] #[.pointer (some ⟨p, 0, none⟩), .pointer (some ⟨q, 0, none⟩)]] w fun e w' => (∃ r : Int, e = .returned (.int .i64 r) ∧ decide (0 ≤ r) = l.any (badI n)) ∧ Below w.heap.size w w' := by
  have HL : Aside0 (l.length ≤ 9223372036854775807) := ⟨Kd.C_max hr⟩
  have HR := Aside0.mk hr
  have HP := Aside0.mk hp
  have HQ := Aside0.mk hq
  clear hp hq
  clear hr
  go_enter Try.func54, Try.ntmps54
  go_wp2
  go_loopg [8] l.length (fun kq v8 w' => ∃ j : Nat, v8 = .int .i64 (j : Int) ∧ Aside0 (kq + j = l.length) ∧ Aside0 ((l.take j).any (badI n) = false) ∧ Aside0 (Below w.heap.size w w'))
  case atStart => exact ⟨0, rfl, ⟨rfl⟩, ⟨rfl⟩, ⟨Below.refl _ _⟩⟩
  case round =>
    obtain ⟨j, rfl, HK, HF, HB⟩ := hrel
    cases gk with
    | zero =>
      have hjl : j = l.length := by have := HK.out; omega
      subst hjl
      have c1b : decide ((l.length : Int) < (l.length : Int)) = false := by simp
      have hf := HF.out
      rw [List.take_length] at hf
      go_wp2
      go_ret
      exact ⟨⟨-1, rfl, by rw [hf]; decide⟩, HB.out⟩
    | succ k1 =>
      have hj : j < l.length := by have := HK.out; omega
      have p1 : 0 ≤ (j : Int) := by omega
      have q1 : (j : Int) < (l.length : Int) := by omega
      have c1b : decide ((j : Int) < (l.length : Int)) = true := decide_eq_true q1
      have hsum : IntKind.i64.wrap ((j : Int) + 1) = ((j + 1 : Nat) : Int) := by have := HL.out; exact IntWalk.i64_in _ (by omega)
      have hsum2 : wrap64 ((j : Int) + 1) = ((j + 1 : Nat) : Int) := by have := HL.out; unfold wrap64; omega
      obtain ⟨ad, A0, c0, ead, hx0, hc0, hC0⟩ := at_L4 (Kd.C_below HR.out HB.out) (j : Int) p1 q1
      cases ead
      have hel : rd_L4 l (j : Int) = l[j] := by simp [rd_L4, List.getD_eq_getElem?_getD, List.getElem?_eq_getElem hj]
      rw [hel] at hx0 hc0 hC0
      simp only [Int.toNat_natCast] at hx0 hc0 hC0
      obtain ⟨x, hx⟩ : ∃ x, l[j] = x := ⟨_, rfl⟩
      rw [hx] at hx0 hc0 hC0
      clear hel
      have HJ := Aside0.mk hj
      replace p1 := eq_true p1
      replace q1 := eq_true q1
      have hfc : ∀ b, badI n x = b → Calls Try.prog 38 #[.slice A0 x.length c0, .pointer (some ⟨p, 0, none⟩), .pointer (some ⟨q, 0, none⟩)] wr fun e w' => e = .returned (.bool b) ∧ Below wr.heap.size wr w' := fun b hb => by rw [← hb]; exact bad38_calls A0 c0 x A1 n c1 p q wr hC0 ((HB.out.block _ HP.out.lt).trans HP.out) ((HB.out.block _ HQ.out.lt).trans HQ.out)
      clear hC0 hc0
      cases hfar : (badI n) x
      · have hfc := hfc _ hfar
        have hnext : (l.take (j + 1)).any (badI n) = false := by rw [List.take_succ_eq_append_getElem hj, List.any_append, HF.out]; simp [hx] at hfar ⊢; simp [hfar]
        have HN := Aside0.mk hnext
        clear hnext hfar hx hj
        go_wp2_with (first | (go_at_call 38; with_reducible refine hfc.mono ?_; rintro e w2 ⟨rfl, hb⟩; have HB2 := Aside0.mk hb; clear hb))
        go_roundg k1
        case measure => omega
        case rel => exact ⟨j + 1, by simp [hsum, hsum2], ⟨by have := HK.out; omega⟩, HN, ⟨HB.out.trans (HB2.out.mono HB.out.size)⟩⟩
      · have hfc := hfc _ hfar
        have hany : l.any (badI n) = true := List.any_eq_true.2 ⟨l[j], List.getElem_mem hj, by rw [hx]; exact hfar⟩
        have HN := Aside0.mk hany
        clear hany hfar hx hj
        go_wp2_with (first | (go_at_call 38; with_reducible refine hfc.mono ?_; rintro e w2 ⟨rfl, hb⟩; have HB2 := Aside0.mk hb; clear hb))
        go_ret
        exact ⟨⟨j, rfl, by rw [HN.out]; simp⟩, HB.out.trans (HB2.out.mono HB.out.size)⟩
theorem anyBadI_calls (A : Option Addr) (c : Nat) (l : List (List Int)) (w : World) (hr : Kd.C (Kd.slice 3 (Kd.int .i64)) w A l.length l) (A1 : Option Addr) (n c1 p q : Nat) (hp : Boxed w p 24 (.slice A1 n c1)) (hq : Boxed w q 68 (.func (.func 37) #[] #[])) :
    Calls Try.prog 40 #[.slice A l.length c, .func (.func 38) #[] #[.pointer (some ⟨p, 0, none⟩), .pointer (some ⟨q, 0, none⟩)]] w fun e w' => e = .returned (.bool (l.any (badI n))) ∧ Below w.heap.size w w' := by
  go_enter Try.func40, Try.ntmps40
  go_wp2_with (first | (go_at_call 54; refine (idxBadI_calls A c l _ hr A1 n c1 p q hp hq).mono ?_; rintro e w' ⟨⟨r, rfl, hr1⟩, hb⟩; have hr2 : decide (r ≥ 0) = l.any (badI n) := hr1; have HB := Aside0.mk hb; clear hb))
  go_ret
  exact ⟨by first | rfl | rw [hr1] | rw [hr2], HB.out⟩
end Go.Proofs.Ytclfimdafmoafaa.P
