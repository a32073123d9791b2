import Derived.Test.YtciheadencbmjaaPx1
import Derived.Laws.EntriesVeiled
import Derived.RangeFuncBox
set_option linter.unusedVariables false
set_option linter.unusedSimpArgs false
namespace Go.Proofs.Ytciheadencbmjaa.P
open Go.RowKit Go.Proofs.YtciheadencbmjaaW.PrintWords Go.Proofs.YtciheadencbmjaaW.PrintLast Go.Proofs.YtciheadencbmjaaW.PrintMore
attribute [local go_sem] Oper.semAt_some

def badS (n : Int) : Bool := decide (n < 1) || decide (n > 64)
theorem badS_calls (n : Int) (w : World) : Calls Try.prog 29 #[.int .i64 n] w fun e w' => e = .returned (.bool (badS n)) ∧ w = w' := by
  unfold badS
  by_cases h1 : n < 1
  · have h2 : decide (n < 1) = true := by simpa using h1
    rw [h2, Bool.true_or]
    clear h1
    go_enter Try.func29, Try.ntmps29
    go_wp2
    go_ret
    exact ⟨rfl, rfl⟩
  · have h2 : decide (n < 1) = false := by simpa using h1
    rw [h2, Bool.false_or]
    clear h1
    go_enter Try.func29, Try.ntmps29
    go_wp2
    go_ret
    exact ⟨rfl, rfl⟩
set_option maxRecDepth 100000 in
set_option maxHeartbeats 4000000 in
theorem idxS_calls (A : Option Addr) (c : Nat) (l : List Int) (w : World) (hr : Kd.C (Kd.int .i64) w A l.length l) (hl : l.length ≤ 1000000) :
    Calls Try.prog 36 #[.slice A l.length c, .func (.func 29) #[] #[]] w fun e w' => (∃ r : Int, e = .returned (.int .i64 r) ∧ decide (0 ≤ r) = l.any badS) ∧ w = w' := by
  have HR := Aside0.mk hr
  have HL := Aside0.mk hl
  clear hr hl
  go_enter Try.func36, Try.ntmps36
  go_wp2
  go_loopg [8] l.length (fun kq v8 w' => ∃ j : Nat, v8 = .int .i64 (j : Int) ∧ Aside0 (kq + j = l.length) ∧ Aside0 ((l.take j).any badS = false) ∧ Aside0 (w = w'))
  case atStart => exact ⟨0, rfl, ⟨rfl⟩, ⟨rfl⟩, ⟨rfl⟩⟩
  case round =>
    obtain ⟨j, rfl, HK, HF, ⟨rfl⟩⟩ := hrel
    cases gk with
    | zero =>
      have hjl : j = l.length := by have := HK.out; omega
      subst hjl
      have c1b : decide ((l.length : Int) < (l.length : Int)) = false := by simp
      have hf := HF.out
      rw [List.take_length] at hf
      go_wp2
      go_ret
      exact ⟨⟨-1, rfl, by rw [hf]; decide⟩, rfl⟩
    | succ k1 =>
      have hj : j < l.length := by have := HK.out; omega
      have p1 : 0 ≤ (j : Int) := by omega
      have q1 : (j : Int) < (l.length : Int) := by omega
      have c1b : decide ((j : Int) < (l.length : Int)) = true := decide_eq_true q1
      have hsum : IntKind.i64.wrap ((j : Int) + 1) = ((j + 1 : Nat) : Int) := by have := HL.out; exact IntWalk.i64_in _ (by omega)
      have hsum2 : wrap64 ((j : Int) + 1) = ((j + 1 : Nat) : Int) := by have := HL.out; unfold wrap64; omega
      obtain ⟨ad, ead, hx0⟩ := Kd.at_int HR.out (j : Int) p1 q1
      cases ead
      have hel : rd l (j : Int) = l[j] := by simp [rd, List.getD_eq_getElem?_getD, List.getElem?_eq_getElem hj]
      rw [hel] at hx0
      simp only [Int.toNat_natCast] at hx0
      obtain ⟨x, hx⟩ : ∃ x, l[j] = x := ⟨_, rfl⟩
      rw [hx] at hx0
      have HJ := Aside0.mk hj
      clear hel
      replace p1 := eq_true p1
      replace q1 := eq_true q1
      cases hfar : badS x
      · have hfc : ∀ w, Calls Try.prog 29 #[.int .i64 x] w fun e w' => e = .returned (.bool false) ∧ w = w' := fun w => by rw [← hfar]; exact badS_calls _ w
        have hnext : (l.take (j + 1)).any badS = false := by rw [List.take_succ_eq_append_getElem hj, List.any_append, HF.out]; simp [hx, hfar]
        have HN := Aside0.mk hnext
        clear hnext hfar hx hj
        go_wp2_with (first | (go_at_call 29; refine (hfc _).mono ?_; rintro e w' ⟨rfl, rfl⟩))
        go_roundg k1
        case measure => omega
        case rel => exact ⟨j + 1, by simp [hsum, hsum2], ⟨by have := HK.out; omega⟩, HN, ⟨rfl⟩⟩
      · have hfc : ∀ w, Calls Try.prog 29 #[.int .i64 x] w fun e w' => e = .returned (.bool true) ∧ w = w' := fun w => by rw [← hfar]; exact badS_calls _ w
        have hany : l.any badS = true := List.any_eq_true.2 ⟨l[j], List.getElem_mem hj, by rw [hx]; exact hfar⟩
        have HN := Aside0.mk hany
        clear hany hfar hx hj
        go_wp2_with (first | (go_at_call 29; refine (hfc _).mono ?_; rintro e w' ⟨rfl, rfl⟩))
        go_ret
        exact ⟨⟨j, rfl, by rw [HN.out]; simp⟩, rfl⟩
theorem anyS_calls (A : Option Addr) (c : Nat) (l : List Int) (w : World) (hr : Kd.C (Kd.int .i64) w A l.length l) (hl : l.length ≤ 1000000) :
    Calls Try.prog 27 #[.slice A l.length c, .func (.func 29) #[] #[]] w fun e w' => e = .returned (.bool (l.any badS)) ∧ w = w' := by
  go_enter Try.func27, Try.ntmps27
  go_wp2_with (first | (go_at_call 36; refine (idxS_calls A c l _ hr hl).mono ?_; rintro e w' ⟨⟨r, rfl, hr1⟩, rfl⟩; have hr2 : decide (r ≥ 0) = l.any badS := hr1))
  go_ret
  exact ⟨by first | rfl | rw [hr1] | rw [hr2], rfl⟩


def badH (n : Int) : Bool := decide (n < 0) || decide (n > 1000000)
theorem badH_calls (n : Int) (w : World) : Calls Try.prog 26 #[.int .i64 n] w fun e w' => e = .returned (.bool (badH n)) ∧ w = w' := by
  unfold badH
  by_cases h1 : n < 0
  · have h2 : decide (n < 0) = true := by simpa using h1
    rw [h2, Bool.true_or]
    clear h1
    go_enter Try.func26, Try.ntmps26
    go_wp2
    go_ret
    exact ⟨rfl, rfl⟩
  · have h2 : decide (n < 0) = false := by simpa using h1
    rw [h2, Bool.false_or]
    clear h1
    go_enter Try.func26, Try.ntmps26
    go_wp2
    go_ret
    exact ⟨rfl, rfl⟩
set_option maxRecDepth 100000 in
set_option maxHeartbeats 4000000 in
theorem idxH_calls (A : Option Addr) (c : Nat) (l : List Int) (w : World) (hr : Kd.C (Kd.int .i64) w A l.length l) (hl : l.length ≤ 1000000) :
    Calls Try.prog 36 #[.slice A l.length c, .func (.func 26) #[] #[]] w fun e w' => (∃ r : Int, e = .returned (.int .i64 r) ∧ decide (0 ≤ r) = l.any badH) ∧ w = w' := by
  have HR := Aside0.mk hr
  have HL := Aside0.mk hl
  clear hr hl
  go_enter Try.func36, Try.ntmps36
  go_wp2
  go_loopg [8] l.length (fun kq v8 w' => ∃ j : Nat, v8 = .int .i64 (j : Int) ∧ Aside0 (kq + j = l.length) ∧ Aside0 ((l.take j).any badH = false) ∧ Aside0 (w = w'))
  case atStart => exact ⟨0, rfl, ⟨rfl⟩, ⟨rfl⟩, ⟨rfl⟩⟩
  case round =>
    obtain ⟨j, rfl, HK, HF, ⟨rfl⟩⟩ := hrel
    cases gk with
    | zero =>
      have hjl : j = l.length := by have := HK.out; omega
      subst hjl
      have c1b : decide ((l.length : Int) < (l.length : Int)) = false := by simp
      have hf := HF.out
      rw [List.take_length] at hf
      go_wp2
      go_ret
      exact ⟨⟨-1, rfl, by rw [hf]; decide⟩, rfl⟩
    | succ k1 =>
      have hj : j < l.length := by have := HK.out; omega
      have p1 : 0 ≤ (j : Int) := by omega
      have q1 : (j : Int) < (l.length : Int) := by omega
      have c1b : decide ((j : Int) < (l.length : Int)) = true := decide_eq_true q1
      have hsum : IntKind.i64.wrap ((j : Int) + 1) = ((j + 1 : Nat) : Int) := by have := HL.out; exact IntWalk.i64_in _ (by omega)
      have hsum2 : wrap64 ((j : Int) + 1) = ((j + 1 : Nat) : Int) := by have := HL.out; unfold wrap64; omega
      obtain ⟨ad, ead, hx0⟩ := Kd.at_int HR.out (j : Int) p1 q1
      cases ead
      have hel : rd l (j : Int) = l[j] := by simp [rd, List.getD_eq_getElem?_getD, List.getElem?_eq_getElem hj]
      rw [hel] at hx0
      simp only [Int.toNat_natCast] at hx0
      obtain ⟨x, hx⟩ : ∃ x, l[j] = x := ⟨_, rfl⟩
      rw [hx] at hx0
      have HJ := Aside0.mk hj
      clear hel
      replace p1 := eq_true p1
      replace q1 := eq_true q1
      cases hfar : badH x
      · have hfc : ∀ w, Calls Try.prog 26 #[.int .i64 x] w fun e w' => e = .returned (.bool false) ∧ w = w' := fun w => by rw [← hfar]; exact badH_calls _ w
        have hnext : (l.take (j + 1)).any badH = false := by rw [List.take_succ_eq_append_getElem hj, List.any_append, HF.out]; simp [hx, hfar]
        have HN := Aside0.mk hnext
        clear hnext hfar hx hj
        go_wp2_with (first | (go_at_call 26; refine (hfc _).mono ?_; rintro e w' ⟨rfl, rfl⟩))
        go_roundg k1
        case measure => omega
        case rel => exact ⟨j + 1, by simp [hsum, hsum2], ⟨by have := HK.out; omega⟩, HN, ⟨rfl⟩⟩
      · have hfc : ∀ w, Calls Try.prog 26 #[.int .i64 x] w fun e w' => e = .returned (.bool true) ∧ w = w' := fun w => by rw [← hfar]; exact badH_calls _ w
        have hany : l.any badH = true := List.any_eq_true.2 ⟨l[j], List.getElem_mem hj, by rw [hx]; exact hfar⟩
        have HN := Aside0.mk hany
        clear hany hfar hx hj
        go_wp2_with (first | (go_at_call 26; refine (hfc _).mono ?_; rintro e w' ⟨rfl, rfl⟩))
        go_ret
        exact ⟨⟨j, rfl, by rw [HN.out]; simp⟩, rfl⟩
theorem anyH_calls (A : Option Addr) (c : Nat) (l : List Int) (w : World) (hr : Kd.C (Kd.int .i64) w A l.length l) (hl : l.length ≤ 1000000) :
    Calls Try.prog 27 #[.slice A l.length c, .func (.func 26) #[] #[]] w fun e w' => e = .returned (.bool (l.any badH)) ∧ w = w' := by
  go_enter Try.func27, Try.ntmps27
  go_wp2_with (first | (go_at_call 36; refine (idxH_calls A c l _ hr hl).mono ?_; rintro e w' ⟨⟨r, rfl, hr1⟩, rfl⟩; have hr2 : decide (r ≥ 0) = l.any badH := hr1))
  go_ret
  exact ⟨by first | rfl | rw [hr1] | rw [hr2], rfl⟩


/-- What is wrong with columns and spans. -/
def checkE (cols : Int) (l : List Int) : Int := if 4000 < l.length then 2 else if badS cols = true then 1 else if l.any badS = true then 1 else 0
set_option maxHeartbeats 2000000 in
theorem check_calls (cols : Int) (A : Option Addr) (c : Nat) (l : List Int) (w : World) (hr : Kd.C (Kd.int .i64) w A l.length l) :
    Calls Try.prog 21 #[.int .i64 cols, .slice A l.length c] w fun e w' => e = .returned (.int .i64 (checkE cols l)) ∧ w = w' := by
  have HR := Aside0.mk hr
  clear hr
  unfold checkE
  by_cases h1 : 4000 < l.length
  · rw [if_pos h1]
    have h2 : decide (4000 < (l.length : Int)) = true := by rw [decide_eq_true_eq]; omega
    have h3 : decide (4000 < l.length) = true := by rw [decide_eq_true_eq]; omega
    clear h1
    go_enter Try.func21, Try.ntmps21
    go_wp2
    go_ret
    exact ⟨rfl, rfl⟩
  · rw [if_neg h1]
    have h2 : decide (4000 < (l.length : Int)) = false := by rw [decide_eq_false_iff_not]; omega
    have h3 : decide (4000 < l.length) = false := by rw [decide_eq_false_iff_not]; omega
    have HL := Aside0.mk (show l.length ≤ 1000000 by omega)
    clear h1
    cases hc : badS cols with
    | true =>
      have hb : ∀ w, Calls Try.prog 29 #[.int .i64 cols] w fun e w' => e = .returned (.bool true) ∧ w = w' := fun w => by rw [← hc]; exact badS_calls _ w
      rw [if_pos rfl]
      clear hc
      go_enter Try.func21, Try.ntmps21
      go_wp2_with (first | (go_at_call 29; refine (hb _).mono ?_; rintro e w' ⟨rfl, rfl⟩))
      go_ret
      exact ⟨rfl, rfl⟩
    | false =>
      have hb : ∀ w, Calls Try.prog 29 #[.int .i64 cols] w fun e w' => e = .returned (.bool false) ∧ w = w' := fun w => by rw [← hc]; exact badS_calls _ w
      rw [if_neg (by decide)]
      clear hc
      cases ha : l.any badS with
      | true =>
        have hb2 : ∀ w, Kd.C (Kd.int .i64) w A l.length l → Calls Try.prog 27 #[.slice A l.length c, .func (.func 29) #[] #[]] w fun e w' => e = .returned (.bool true) ∧ w = w' := fun w h => by rw [← ha]; exact anyS_calls A c l w h HL.out
        rw [if_pos rfl]
        clear ha
        go_enter Try.func21, Try.ntmps21
        go_wp2_with (first | (go_at_call 29; refine (hb _).mono ?_; rintro e w' ⟨rfl, rfl⟩) | (go_at_call 27; refine (hb2 _ HR.out).mono ?_; rintro e w' ⟨rfl, rfl⟩))
        go_ret
        exact ⟨rfl, rfl⟩
      | false =>
        have hb2 : ∀ w, Kd.C (Kd.int .i64) w A l.length l → Calls Try.prog 27 #[.slice A l.length c, .func (.func 29) #[] #[]] w fun e w' => e = .returned (.bool false) ∧ w = w' := fun w h => by rw [← ha]; exact anyS_calls A c l w h HL.out
        rw [if_neg (by decide)]
        clear ha
        go_enter Try.func21, Try.ntmps21
        go_wp2_with (first | (go_at_call 29; refine (hb _).mono ?_; rintro e w' ⟨rfl, rfl⟩) | (go_at_call 27; refine (hb2 _ HR.out).mono ?_; rintro e w' ⟨rfl, rfl⟩))
        go_ret
        exact ⟨rfl, rfl⟩
end Go.Proofs.Ytciheadencbmjaa.P
