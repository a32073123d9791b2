import Derived.Test.YtciheadencbmjaaPx2
import Derived.Laws.EntriesVeiled
import Derived.RangeFuncBox
set_option linter.unusedVariables false
set_option linter.unusedSimpArgs false
namespace Go.Proofs.Ytciheadencbmjaa.P
open Go.RowKit Go.Proofs.YtciheadencbmjaaW.PrintWords Go.Proofs.YtciheadencbmjaaW.PrintLast Go.Proofs.YtciheadencbmjaaW.PrintMore
attribute [local go_sem] Oper.semAt_some

def inside (n lo hi : Int) : Bool := decide (lo ≤ n) && decide (n ≤ hi)
theorem within_calls (n lo hi : Int) (w : World) : Calls Try.prog 38 #[.int .i64 n, .int .i64 lo, .int .i64 hi] w fun e w' => e = .returned (.bool (inside n lo hi)) ∧ w = w' := by
  unfold inside
  by_cases h1 : lo ≤ n
  · have h2 : decide (lo ≤ n) = true := by simpa using h1
    rw [h2, Bool.true_and]
    clear h1
    go_enter Try.func38, Try.ntmps38
    go_wp2
    go_ret
    exact ⟨rfl, rfl⟩
  · have h2 : decide (lo ≤ n) = false := by simpa using h1
    rw [h2, Bool.false_and]
    clear h1
    go_enter Try.func38, Try.ntmps38
    go_wp2
    go_ret
    exact ⟨rfl, rfl⟩
def farW (n : Int) : Bool := !inside n 0 1000000
theorem far_calls (n : Int) (w : World) : Calls Try.prog 42 #[.int .i64 n] w fun e w' => e = .returned (.bool (farW n)) ∧ w = w' := by
  unfold farW
  go_enter Try.func42, Try.ntmps42
  go_wp2_with (first | (go_at_call 38; refine (within_calls _ _ _ _).mono ?_; rintro e w' ⟨rfl, rfl⟩))
  go_ret
  exact ⟨rfl, rfl⟩

set_option maxRecDepth 100000 in
set_option maxHeartbeats 4000000 in
theorem idxFar_calls (A : Option Addr) (c : Nat) (l : List Int) (w : World) (hr : Kd.C (Kd.int .i64) w A l.length l) (hl : l.length ≤ 1000000) :
    Calls Try.prog 36 #[.slice A l.length c, .func (.func 42) #[] #[]] w fun e w' => (∃ r : Int, e = .returned (.int .i64 r) ∧ decide (0 ≤ r) = l.any farW) ∧ w = w' := by
  have HR := Aside0.mk hr
  have HL := Aside0.mk hl
  clear hr hl
  go_enter Try.func36, Try.ntmps36
  go_wp2
  go_loopg [8] l.length (fun kq v8 w' => ∃ j : Nat, v8 = .int .i64 (j : Int) ∧ Aside0 (kq + j = l.length) ∧ Aside0 ((l.take j).any farW = false) ∧ Aside0 (w = w'))
  case atStart => exact ⟨0, rfl, ⟨rfl⟩, ⟨rfl⟩, ⟨rfl⟩⟩
  case round =>
    obtain ⟨j, rfl, HK, HF, ⟨rfl⟩⟩ := hrel
    cases gk with
    | zero =>
      have hjl : j = l.length := by have := HK.out; omega
      subst hjl
      have c1b : decide ((l.length : Int) < (l.length : Int)) = false := by simp
      have hf := HF.out
      rw [List.take_length] at hf
      go_wp2
      go_ret
      exact ⟨⟨-1, rfl, by rw [hf]; decide⟩, rfl⟩
    | succ k1 =>
      have hj : j < l.length := by have := HK.out; omega
      have p1 : 0 ≤ (j : Int) := by omega
      have q1 : (j : Int) < (l.length : Int) := by omega
      have c1b : decide ((j : Int) < (l.length : Int)) = true := decide_eq_true q1
      have hsum : IntKind.i64.wrap ((j : Int) + 1) = ((j + 1 : Nat) : Int) := by have := HL.out; exact IntWalk.i64_in _ (by omega)
      have hsum2 : wrap64 ((j : Int) + 1) = ((j + 1 : Nat) : Int) := by have := HL.out; unfold wrap64; omega
      obtain ⟨ad, ead, hx0⟩ := Kd.at_int HR.out (j : Int) p1 q1
      cases ead
      have hel : rd l (j : Int) = l[j] := by simp [rd, List.getD_eq_getElem?_getD, List.getElem?_eq_getElem hj]
      rw [hel] at hx0
      simp only [Int.toNat_natCast] at hx0
      obtain ⟨x, hx⟩ : ∃ x, l[j] = x := ⟨_, rfl⟩
      rw [hx] at hx0
      have HJ := Aside0.mk hj
      clear hel
      replace p1 := eq_true p1
      replace q1 := eq_true q1
      cases hfar : farW x
      · have hfc : ∀ w, Calls Try.prog 42 #[.int .i64 x] w fun e w' => e = .returned (.bool false) ∧ w = w' := fun w => by rw [← hfar]; exact far_calls _ w
        have hnext : (l.take (j + 1)).any farW = false := by rw [List.take_succ_eq_append_getElem hj, List.any_append, HF.out]; simp [hx, hfar]
        have HN := Aside0.mk hnext
        clear hnext hfar hx hj
        go_wp2_with (first | (go_at_call 42; refine (hfc _).mono ?_; rintro e w' ⟨rfl, rfl⟩))
        go_roundg k1
        case measure => omega
        case rel => exact ⟨j + 1, by simp [hsum, hsum2], ⟨by have := HK.out; omega⟩, HN, ⟨rfl⟩⟩
      · have hfc : ∀ w, Calls Try.prog 42 #[.int .i64 x] w fun e w' => e = .returned (.bool true) ∧ w = w' := fun w => by rw [← hfar]; exact far_calls _ w
        have hany : l.any farW = true := List.any_eq_true.2 ⟨l[j], List.getElem_mem hj, by rw [hx]; exact hfar⟩
        have HN := Aside0.mk hany
        clear hany hfar hx hj
        go_wp2_with (first | (go_at_call 42; refine (hfc _).mono ?_; rintro e w' ⟨rfl, rfl⟩))
        go_ret
        exact ⟨⟨j, rfl, by rw [HN.out]; simp⟩, rfl⟩
theorem anyFar_calls (A : Option Addr) (c : Nat) (l : List Int) (w : World) (hr : Kd.C (Kd.int .i64) w A l.length l) (hl : l.length ≤ 1000000) :
    Calls Try.prog 27 #[.slice A l.length c, .func (.func 42) #[] #[]] w fun e w' => e = .returned (.bool (l.any farW)) ∧ w = w' := by
  go_enter Try.func27, Try.ntmps27
  go_wp2_with (first | (go_at_call 36; refine (idxFar_calls A c l _ hr hl).mono ?_; rintro e w' ⟨⟨r, rfl, hr1⟩, rfl⟩; have hr2 : decide (r ≥ 0) = l.any farW := hr1))
  go_ret
  exact ⟨by first | rfl | rw [hr1] | rw [hr2], rfl⟩

/-- What Starts has after i widths. -/
def outS (l : List Int) (gap : Int) : Nat → List Int
  | 0 => List.replicate l.length 0
  | i + 1 => (outS l gap i).set (i + 1) (wrap64 (wrap64 (rd (outS l gap i) (i : Int) + rd l (i : Int)) + gap))
theorem outS_length (l : List Int) (gap : Int) : ∀ i, (outS l gap i).length = l.length
  | 0 => by simp [outS]
  | i + 1 => by simp [outS, outS_length l gap i]
def tracks_Starts.f (l0 : List Int) (a1 : Int) : Option (List Int × Int) :=
  if l0.length ≤ 1000000 then (if inside (l0.length : Int) 1 64 = true ∧ inside a1 0 100000 = true ∧ l0.any farW = false then some (outS l0 a1 (l0.length - 1), 0) else some ([], 1)) else some ([], 1)

set_option maxRecDepth 100000 in
set_option maxHeartbeats 8000000 in
theorem tracks_Starts.calls (A0 : Option Addr) (c0 : Nat) (l0 : List Int) (a1 : Int) (r1 : List Int) (r2 : Int) (w : World) (hr0 : Kd.C (Kd.int .i64) w A0 l0.length l0) (hc0 : l0.length ≤ c0) (h : tracks_Starts.f l0 a1 = some (r1, r2)) :
    Calls Try.prog 33 #[.slice A0 l0.length c0, .int .i64 a1] w fun e w' => ∃ v0_ : Value, e = .returned (.tuple #[v0_, .int .i64 r2]) ∧ Kd.R (Kd.int .i64) 3 w' w.heap.size (fun _ => True) v0_ r1 ∧ Below w.heap.size w w' := by
  have HB := Aside0.mk (Below.refl w.heap.size w)
  have HR := Aside0.mk hr0
  have HC := Aside0.mk hc0
  clear hr0 hc0
  unfold tracks_Starts.f at h
  have hw : ∀ (n lo hi : Int) (b : Bool), inside n lo hi = b → ∀ w, Calls Try.prog 38 #[.int .i64 n, .int .i64 lo, .int .i64 hi] w fun e w' => e = .returned (.bool b) ∧ w = w' := fun n lo hi b hb w => by rw [← hb]; exact within_calls n lo hi w
  cases h1 : inside (l0.length : Int) 1 64
  · have hr : [] = r1 ∧ 1 = r2 := by
      simp only [h1, Bool.false_eq_true, false_and, if_false] at h
      split at h <;> simpa using h
    obtain ⟨rfl, rfl⟩ := hr
    clear h
    have hw1 := hw _ _ _ _ h1
    clear h1 hw
    go_enter Try.func33, Try.ntmps33
    go_wp2_with (first | (go_at_call 38; with_reducible refine (hw1 _).mono ?_; rintro e w' ⟨rfl, rfl⟩))
    refine bodyPost_ret (results_tmp2 rfl _ _ _) rfl ?_
    exact ⟨.slice none 0 0, rfl, Kd.R_nil _ _ _ _ _, HB.out⟩
  · have hn : 1 ≤ l0.length ∧ l0.length ≤ 64 := by simp [inside] at h1; omega
    rw [if_pos (by omega)] at h
    have hw1 := hw _ _ _ _ h1
    cases h2 : inside a1 0 100000
    · have hr : [] = r1 ∧ 1 = r2 := by
        simp only [h1, h2, Bool.false_eq_true, false_and, and_false, if_false] at h
        simpa using h
      obtain ⟨rfl, rfl⟩ := hr
      clear h
      have hw2 := hw _ _ _ _ h2
      clear h1 h2 hw
      go_enter Try.func33, Try.ntmps33
      go_wp2_with (first | (go_at_call 38; with_reducible refine (hw1 _).mono ?_; rintro e w' ⟨rfl, rfl⟩) | (go_at_call 38; with_reducible refine (hw2 _).mono ?_; rintro e w' ⟨rfl, rfl⟩))
      refine bodyPost_ret (results_tmp2 rfl _ _ _) rfl ?_
      exact ⟨.slice none 0 0, rfl, Kd.R_nil _ _ _ _ _, HB.out⟩
    · have hw2 := hw _ _ _ _ h2
      cases h3 : l0.any farW
      · have hr : outS l0 a1 (l0.length - 1) = r1 ∧ 0 = r2 := by
          simp only [h1, h2, h3, and_self, if_true] at h
          simpa using h
        obtain ⟨rfl, rfl⟩ := hr
        clear h
        have hany : ∀ w1, w = w1 → Calls Try.prog 27 #[.slice A0 l0.length c0, .func (.func 42) #[] #[]] w1 fun e w' => e = .returned (.bool false) ∧ w1 = w' := fun w1 hw => by subst hw; rw [← h3]; exact anyFar_calls A0 c0 l0 w HR.out (by omega)
        clear h1 h2 h3 hw
        have HN := Aside0.mk hn
        obtain ⟨ad, ead, hx00⟩ := Kd.at_int HR.out 0 (by omega) (by omega)
        cases ead
        clear hn hx00
        go_enter Try.func33, Try.ntmps33
        go_upto_region 4 with (first | (go_at_call 38; with_reducible refine (hw1 _).mono ?_; rintro e w' ⟨rfl, rfl⟩) | (go_at_call 38; with_reducible refine (hw2 _).mono ?_; rintro e w' ⟨rfl, rfl⟩) | (go_at_call 27; with_reducible refine (hany _ rfl).mono ?_; rintro e w' ⟨rfl, rfl⟩))
        clear hw1 hw2 hany
        have hsub : wrap64 ((l0.length : Int) - 1) = ((l0.length - 1 : Nat) : Int) := by have := HN.out; rw [show ((l0.length : Int) - 1) = ((l0.length - 1 : Nat) : Int) by omega]; unfold wrap64; omega
        have hsub2 : IntKind.i64.wrap ((l0.length : Int) - 1) = ((l0.length - 1 : Nat) : Int) := by have := HN.out; rw [show ((l0.length : Int) - 1) = ((l0.length - 1 : Nat) : Int) by omega]; exact IntWalk.i64_in _ (by omega)
        have hle1 : decide (((l0.length - 1 : Nat) : Int) ≤ (c0 : Int)) = true := by have := HN.out; have := HC.out; simp; omega
        go_upto_region 5 with (first | ((with_reducible refine gate_dst (N := 26) rfl ?_); refine Kd.R_make (Kd.int .i64) _ 3 rfl (N := 26) rfl 22 _ _ rfl (l0.length : Int) rfl rfl Try.underlying22 (.int .i64 0) 8 info3 rfl (by decide) (by omega) 0 (ok := fun _ => True) (okp := fun _ => True) rfl (fun _ hk => hk) trivial (by omega) (by have := HN.out; omega) (Below.refl _ _) (Nat.le_refl _) ?_; intro v1 w1 ho hb hg _))
        have HO := Aside0.mk ho
        have HB1 := Aside0.mk hb
        clear ho hb hg
        obtain ⟨g, cap, eg⟩ : ∃ g cap, v1 = .slice (some ⟨g, 0, none⟩) l0.length cap := by
          have hrow := Kd.own_of_R HO.out
          have hlen : (List.replicate (l0.length : Int).toNat (0 : Int)).length = (l0.length - 1) + 1 := by have := HN.out; simp; omega
          rw [hlen] at hrow
          obtain ⟨g, cap, e⟩ := ownsRow_succ hrow
          exact ⟨g, cap, by rw [e, show l0.length - 1 + 1 = l0.length by have := HN.out; omega]⟩
        subst eg
        have hle2 : (l0.length - 1 ≤ c0) = True := eq_true (by have := HC.out; omega)
        have hle3 : (((l0.length - 1 : Nat) : Int) ≤ (c0 : Int)) = True := eq_true (by have := HC.out; omega)
        have hle4 : (c0 < l0.length - 1) = False := eq_false (by have := HC.out; omega)
        have hle5 : ((c0 : Int) < ((l0.length - 1 : Nat) : Int)) = False := eq_false (by have := HC.out; omega)
        have hle6 : (l0.length ≤ c0 + 1) = True := eq_true (by have := HC.out; omega)
        go_upto_region 6 with (fail)
        have HO2 : Aside0 (Kd.R (Kd.int .i64) 3 w1 w.heap.size (fun _ => True) (.slice (some ⟨g, 0, none⟩) l0.length cap) (outS l0 a1 0)) := ⟨by have := HO.out; simpa [outS] using this⟩
        clear HO hsub hsub2 hle1 hle2 hle3 hle4 hle5 hle6
        go_loopg [33] (l0.length - 1) (fun kq v33 w' => ∃ j : Nat, v33 = .int .i64 (j : Int) ∧ Aside0 (kq + j = l0.length - 1) ∧ Aside0 (Kd.R (Kd.int .i64) 3 w' w.heap.size (fun _ => True) (.slice (some ⟨g, 0, none⟩) l0.length cap) (outS l0 a1 j)) ∧ Aside0 (Below w.heap.size w w'))
        case atStart => exact ⟨0, rfl, ⟨by omega⟩, HO2, HB1⟩
        case round =>
          clear HO2 HB1
          obtain ⟨j, rfl, HK, HO, HBL⟩ := hrel
          cases gk with
          | zero =>
            have hjl : j = l0.length - 1 := by have := HK.out; omega
            subst hjl
            have c1b : decide (((l0.length - 1 : Nat) : Int) < ((l0.length - 1 : Nat) : Int)) = false := by simp
            go_wp2
            refine bodyPost_ret (results_tmp2 rfl _ _ _) rfl ?_
            exact ⟨_, rfl, HO.out, HBL.out⟩
          | succ k1 =>
            have hj : j + 1 < l0.length := by have := HK.out; omega
            have hlen := outS_length l0 a1 j
            have c1b : decide ((j : Int) < ((l0.length - 1 : Nat) : Int)) = true := decide_eq_true (by omega)
            have hsum : IntKind.i64.wrap ((j : Int) + 1) = ((j + 1 : Nat) : Int) := by have := HN.out; exact IntWalk.i64_in _ (by omega)
            have hsum2 : wrap64 ((j : Int) + 1) = ((j + 1 : Nat) : Int) := by have := HN.out; unfold wrap64; omega
            have hC := (Kd.R_reads' HO.out).2.2
            obtain ⟨b1, eb1, hx1⟩ := Kd.at_int hC (j : Int) (by omega) (by omega)
            cases eb1
            obtain ⟨b2, eb2, hx2⟩ := Kd.at_int hC ((j + 1 : Nat) : Int) (by omega) (by omega)
            cases eb2
            obtain ⟨b3, eb3, hx3⟩ := Kd.at_int (Kd.C_below HR.out HBL.out) (j : Int) (by omega) (by omega)
            cases eb3
            simp only [Int.toNat_natCast] at hx1 hx2 hx3
            have ea : ∀ k : Nat, (⟨g, 0, none⟩ : Addr).add k = ⟨g, k, none⟩ := fun k => by simp [Addr.add]; exact fun h => h.symm
            rw [ea] at hx1 hx2
            clear ea
            obtain ⟨cs, hcs⟩ := own_typed (Kd.own_of_R HO.out) g rfl
            have hfz := blk_frozen hcs (j + 1)
            have q1 : ((j : Int) < (l0.length : Int)) = True := eq_true (by omega)
            have q2 : (((j + 1 : Nat) : Int) < (l0.length : Int)) = True := eq_true (by omega)
            have q3 : ((j : Int) < ((l0.length - 1 : Nat) : Int)) = True := eq_true (by omega)
            have q4 : (0 ≤ (j : Int)) = True := eq_true (by omega)
            have q6 : ((j : Int) + 1 < (l0.length : Int)) = True := eq_true (by omega)
            have q7 : ((j : Int) + 1).toNat = j + 1 := by omega
            have q8 : (0 ≤ (j : Int) + 1) = True := eq_true (by omega)
            have q5 : (0 ≤ ((j + 1 : Nat) : Int)) = True := eq_true (by omega)
            obtain ⟨x, hxx⟩ : ∃ x, rd (outS l0 a1 j) (j : Int) = x := ⟨_, rfl⟩
            obtain ⟨y, hyy⟩ : ∃ x, rd l0 (j : Int) = x := ⟨_, rfl⟩
            obtain ⟨z, hzz⟩ : ∃ x, rd (outS l0 a1 j) ((j + 1 : Nat) : Int) = x := ⟨_, rfl⟩
            rw [hxx] at hx1
            rw [hyy] at hx3
            rw [hzz] at hx2
            have HX := Aside0.mk hxx
            have HY := Aside0.mk hyy
            have HLN := Aside0.mk hlen
            have HCS := Aside0.mk hcs
            clear hxx hyy hzz hC hcs hlen hj
            go_wp2
            go_roundg k1
            case measure => omega
            case rel =>
              have hp := (Kd.R_put (xs := outS l0 a1 j) (g := g) (cap := cap) (by rw [HLN.out]; exact HO.out) ((j + 1 : Nat) : Int) (wrap64 (wrap64 (x + y) + a1))).1
              rw [HLN.out, Int.toNat_natCast] at hp
              have hout : outS l0 a1 (j + 1) = (outS l0 a1 j).set (j + 1) (wrap64 (wrap64 (x + y) + a1)) := by simp only [outS, HX.out, HY.out]
              refine ⟨j + 1, by simp [hsum, hsum2], ⟨by have := HK.out; omega⟩, ⟨by rw [hout]; exact hp⟩, ⟨HBL.out.setCell (p := ⟨g, j + 1, none⟩) (own_base (Kd.own_of_R HO.out) g rfl) _⟩⟩
      · have hr : [] = r1 ∧ 1 = r2 := by
          simp only [h1, h2, h3, Bool.true_eq_false, and_false, if_false] at h
          simpa using h
        obtain ⟨rfl, rfl⟩ := hr
        clear h
        have hany : ∀ w1, w = w1 → Calls Try.prog 27 #[.slice A0 l0.length c0, .func (.func 42) #[] #[]] w1 fun e w' => e = .returned (.bool true) ∧ w1 = w' := fun w1 hw => by subst hw; rw [← h3]; exact anyFar_calls A0 c0 l0 w HR.out (by omega)
        clear h1 h2 h3 hw
        go_enter Try.func33, Try.ntmps33
        go_wp2_with (first | (go_at_call 38; with_reducible refine (hw1 _).mono ?_; rintro e w' ⟨rfl, rfl⟩) | (go_at_call 38; with_reducible refine (hw2 _).mono ?_; rintro e w' ⟨rfl, rfl⟩) | (go_at_call 27; with_reducible refine (hany _ rfl).mono ?_; rintro e w' ⟨rfl, rfl⟩))
        refine bodyPost_ret (results_tmp2 rfl _ _ _) rfl ?_
        exact ⟨.slice none 0 0, rfl, Kd.R_nil _ _ _ _ _, HB.out⟩
end Go.Proofs.Ytciheadencbmjaa.P
