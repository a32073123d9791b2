import Derived.Test.YtdmfhabhcagioaaPx1
import Derived.Laws.RangeAny
set_option linter.unusedVariables false
set_option linter.unusedSimpArgs false
namespace Go.Proofs.Ytdmfhabhcagioaa.P
open Go.RowKit Go.Proofs.YtdmfhabhcagioaaW.PrintWords Go.Proofs.YtdmfhabhcagioaaW.PrintLast Go.Proofs.YtdmfhabhcagioaaW.PrintMore
attribute [local go_sem] Oper.semAt_some
/-- The class of a byte. -/
def cls (c : Int) : Int := if c = 32 then 4 else if c = 126 then 6 else if c < 32 ∨ 126 < c then 0 else if 97 ≤ c ∧ c ≤ 122 then 1 else if 65 ≤ c ∧ c ≤ 90 then 2 else if 48 ≤ c ∧ c ≤ 57 then 3 else 5
theorem class_calls (c : Int) (w : World) : Calls Try.prog 26 #[.int .u8 c] w fun e w' => e = .returned (.int .i64 (cls c)) ∧ w = w' := by
  by_cases h0 : c = 32
  · have hv : cls c = 4 := by unfold cls; repeat (first | rw [if_pos (by omega)] | rw [if_neg (by omega)])
    rw [hv]
    have d0 : (c == 32) = true := beq_iff_eq.2 (by omega)
    clear hv h0
    go_enter Try.func26, Try.ntmps26
    go_wp2
    go_ret
    exact ⟨rfl, rfl⟩
  · by_cases h1 : c = 126
    · have hv : cls c = 6 := by unfold cls; repeat (first | rw [if_pos (by omega)] | rw [if_neg (by omega)])
      rw [hv]
      have d0 : (c == 32) = false := beq_eq_false_iff_ne.2 (by omega)
      have d1 : (c == 126) = true := beq_iff_eq.2 (by omega)
      clear hv h0 h1
      go_enter Try.func26, Try.ntmps26
      go_wp2
      go_ret
      exact ⟨rfl, rfl⟩
    · by_cases h2 : c < 32
      · have hv : cls c = 0 := by unfold cls; repeat (first | rw [if_pos (by omega)] | rw [if_neg (by omega)])
        rw [hv]
        have d0 : (c == 32) = false := beq_eq_false_iff_ne.2 (by omega)
        have d1 : (c == 126) = false := beq_eq_false_iff_ne.2 (by omega)
        have d2 : decide (c < 32) = true := decide_eq_true (by omega)
        clear hv h0 h1 h2
        go_enter Try.func26, Try.ntmps26
        go_wp2
        go_ret
        exact ⟨rfl, rfl⟩
      · by_cases h3 : 126 < c
        · have hv : cls c = 0 := by unfold cls; repeat (first | rw [if_pos (by omega)] | rw [if_neg (by omega)])
          rw [hv]
          have d0 : (c == 32) = false := beq_eq_false_iff_ne.2 (by omega)
          have d1 : (c == 126) = false := beq_eq_false_iff_ne.2 (by omega)
          have d2 : decide (c < 32) = false := decide_eq_false (by omega)
          have d3 : decide (c > 126) = true := decide_eq_true (by omega)
          clear hv h0 h1 h2 h3
          go_enter Try.func26, Try.ntmps26
          go_wp2
          go_ret
          exact ⟨rfl, rfl⟩
        · by_cases h4 : 97 ≤ c
          · by_cases h5 : c ≤ 122
            · have hv : cls c = 1 := by unfold cls; repeat (first | rw [if_pos (by omega)] | rw [if_neg (by omega)])
              rw [hv]
              have d0 : (c == 32) = false := beq_eq_false_iff_ne.2 (by omega)
              have d1 : (c == 126) = false := beq_eq_false_iff_ne.2 (by omega)
              have d2 : decide (c < 32) = false := decide_eq_false (by omega)
              have d3 : decide (c > 126) = false := decide_eq_false (by omega)
              have d4 : decide (97 ≤ c) = true := decide_eq_true (by omega)
              have d5 : decide (c ≤ 122) = true := decide_eq_true (by omega)
              clear hv h0 h1 h2 h3 h4 h5
              go_enter Try.func26, Try.ntmps26
              go_wp2
              go_ret
              exact ⟨rfl, rfl⟩
            · by_cases h6 : 65 ≤ c
              · by_cases h7 : c ≤ 90
                · exfalso; omega
                · by_cases h8 : 48 ≤ c
                  · by_cases h9 : c ≤ 57
                    · exfalso; omega
                    · have hv : cls c = 5 := by unfold cls; repeat (first | rw [if_pos (by omega)] | rw [if_neg (by omega)])
                      rw [hv]
                      have d0 : (c == 32) = false := beq_eq_false_iff_ne.2 (by omega)
                      have d1 : (c == 126) = false := beq_eq_false_iff_ne.2 (by omega)
                      have d2 : decide (c < 32) = false := decide_eq_false (by omega)
                      have d3 : decide (c > 126) = false := decide_eq_false (by omega)
                      have d4 : decide (97 ≤ c) = true := decide_eq_true (by omega)
                      have d5 : decide (c ≤ 122) = false := decide_eq_false (by omega)
                      have d6 : decide (65 ≤ c) = true := decide_eq_true (by omega)
                      have d7 : decide (c ≤ 90) = false := decide_eq_false (by omega)
                      have d8 : decide (48 ≤ c) = true := decide_eq_true (by omega)
                      have d9 : decide (c ≤ 57) = false := decide_eq_false (by omega)
                      clear hv h0 h1 h2 h3 h4 h5 h6 h7 h8 h9
                      go_enter Try.func26, Try.ntmps26
                      go_wp2
                      go_ret
                      exact ⟨rfl, rfl⟩
                  · exfalso; omega
              · by_cases h8 : 48 ≤ c
                · by_cases h9 : c ≤ 57
                  · exfalso; omega
                  · exfalso; omega
                · exfalso; omega
          · by_cases h6 : 65 ≤ c
            · by_cases h7 : c ≤ 90
              · have hv : cls c = 2 := by unfold cls; repeat (first | rw [if_pos (by omega)] | rw [if_neg (by omega)])
                rw [hv]
                have d0 : (c == 32) = false := beq_eq_false_iff_ne.2 (by omega)
                have d1 : (c == 126) = false := beq_eq_false_iff_ne.2 (by omega)
                have d2 : decide (c < 32) = false := decide_eq_false (by omega)
                have d3 : decide (c > 126) = false := decide_eq_false (by omega)
                have d4 : decide (97 ≤ c) = false := decide_eq_false (by omega)
                have d5 : decide (65 ≤ c) = true := decide_eq_true (by omega)
                have d6 : decide (c ≤ 90) = true := decide_eq_true (by omega)
                clear hv h0 h1 h2 h3 h4 h6 h7
                go_enter Try.func26, Try.ntmps26
                go_wp2
                go_ret
                exact ⟨rfl, rfl⟩
              · by_cases h8 : 48 ≤ c
                · by_cases h9 : c ≤ 57
                  · exfalso; omega
                  · have hv : cls c = 5 := by unfold cls; repeat (first | rw [if_pos (by omega)] | rw [if_neg (by omega)])
                    rw [hv]
                    have d0 : (c == 32) = false := beq_eq_false_iff_ne.2 (by omega)
                    have d1 : (c == 126) = false := beq_eq_false_iff_ne.2 (by omega)
                    have d2 : decide (c < 32) = false := decide_eq_false (by omega)
                    have d3 : decide (c > 126) = false := decide_eq_false (by omega)
                    have d4 : decide (97 ≤ c) = false := decide_eq_false (by omega)
                    have d5 : decide (65 ≤ c) = true := decide_eq_true (by omega)
                    have d6 : decide (c ≤ 90) = false := decide_eq_false (by omega)
                    have d7 : decide (48 ≤ c) = true := decide_eq_true (by omega)
                    have d8 : decide (c ≤ 57) = false := decide_eq_false (by omega)
                    clear hv h0 h1 h2 h3 h4 h6 h7 h8 h9
                    go_enter Try.func26, Try.ntmps26
                    go_wp2
                    go_ret
                    exact ⟨rfl, rfl⟩
                · exfalso; omega
            · by_cases h8 : 48 ≤ c
              · by_cases h9 : c ≤ 57
                · have hv : cls c = 3 := by unfold cls; repeat (first | rw [if_pos (by omega)] | rw [if_neg (by omega)])
                  rw [hv]
                  have d0 : (c == 32) = false := beq_eq_false_iff_ne.2 (by omega)
                  have d1 : (c == 126) = false := beq_eq_false_iff_ne.2 (by omega)
                  have d2 : decide (c < 32) = false := decide_eq_false (by omega)
                  have d3 : decide (c > 126) = false := decide_eq_false (by omega)
                  have d4 : decide (97 ≤ c) = false := decide_eq_false (by omega)
                  have d5 : decide (65 ≤ c) = false := decide_eq_false (by omega)
                  have d6 : decide (48 ≤ c) = true := decide_eq_true (by omega)
                  have d7 : decide (c ≤ 57) = true := decide_eq_true (by omega)
                  clear hv h0 h1 h2 h3 h4 h6 h8 h9
                  go_enter Try.func26, Try.ntmps26
                  go_wp2
                  go_ret
                  exact ⟨rfl, rfl⟩
                · have hv : cls c = 5 := by unfold cls; repeat (first | rw [if_pos (by omega)] | rw [if_neg (by omega)])
                  rw [hv]
                  have d0 : (c == 32) = false := beq_eq_false_iff_ne.2 (by omega)
                  have d1 : (c == 126) = false := beq_eq_false_iff_ne.2 (by omega)
                  have d2 : decide (c < 32) = false := decide_eq_false (by omega)
                  have d3 : decide (c > 126) = false := decide_eq_false (by omega)
                  have d4 : decide (97 ≤ c) = false := decide_eq_false (by omega)
                  have d5 : decide (65 ≤ c) = false := decide_eq_false (by omega)
                  have d6 : decide (48 ≤ c) = true := decide_eq_true (by omega)
                  have d7 : decide (c ≤ 57) = false := decide_eq_false (by omega)
                  clear hv h0 h1 h2 h3 h4 h6 h8 h9
                  go_enter Try.func26, Try.ntmps26
                  go_wp2
                  go_ret
                  exact ⟨rfl, rfl⟩
              · have hv : cls c = 5 := by unfold cls; repeat (first | rw [if_pos (by omega)] | rw [if_neg (by omega)])
                rw [hv]
                have d0 : (c == 32) = false := beq_eq_false_iff_ne.2 (by omega)
                have d1 : (c == 126) = false := beq_eq_false_iff_ne.2 (by omega)
                have d2 : decide (c < 32) = false := decide_eq_false (by omega)
                have d3 : decide (c > 126) = false := decide_eq_false (by omega)
                have d4 : decide (97 ≤ c) = false := decide_eq_false (by omega)
                have d5 : decide (65 ≤ c) = false := decide_eq_false (by omega)
                have d6 : decide (48 ≤ c) = false := decide_eq_false (by omega)
                clear hv h0 h1 h2 h3 h4 h6 h8
                go_enter Try.func26, Try.ntmps26
                go_wp2
                go_ret
                exact ⟨rfl, rfl⟩
theorem cls_high {c : Int} (h : 126 < c) : cls c = 0 := by unfold cls; repeat (first | rw [if_pos (by omega)] | rw [if_neg (by omega)])
def okC (c : UInt8) : Bool := cls (c.toNat : Int) != 0
def validB (s : ByteArray) : Bool := s.data.toList.all okC && decide (s.size ≤ 2000)
def text_Valid.f (s : ByteArray) : Option Bool := if s.size ≤ 140737488351232 then some (validB s) else none
theorem below_iter {w : World} (s : ByteArray) (p : Nat) : Below w.heap.size w (w.iter s p) := (Below.refl _ _).alloc (Nat.le_refl _) _
theorem take_all (s : ByteArray) (k : Nat) (h : k < s.size) : (s.data.toList.take (k + 1)).all okC = ((s.data.toList.take k).all okC && okC s[k]) := by
  rw [List.take_succ_eq_append_getElem (by simpa using h), List.all_append]
  simp
  rfl
set_option maxRecDepth 100000 in
set_option maxHeartbeats 2000000 in
theorem text_Valid.calls (s : ByteArray) (r : Bool) (w : World) (h : text_Valid.f s = some r) : Calls Try.prog 30 #[.string s] w fun e w' => e = .returned (.bool r) ∧ Below w.heap.size w w' := by
  unfold text_Valid.f at h
  by_cases hs : s.size ≤ 140737488351232
  · rw [if_pos hs] at h
    obtain rfl : validB s = r := by simpa using h
    clear h
    have HS := Aside0.mk hs
    clear hs
    go_enter Try.func30, Try.ntmps30
    go_wp2
    go_loopw [4] (fun v4 w' => ∃ (pos : Nat), w' = w.iter s pos ∧ Aside0 (pos ≤ s.size) ∧ Aside0 ((s.data.toList.take pos).all okC = true)) (fun _ w' => s.size - w'.iterPos w.heap.size)
    case atStart => exact ⟨0, rfl, ⟨Nat.zero_le _⟩, ⟨rfl⟩⟩
    case round =>
      obtain ⟨pos, rfl, HP, HA⟩ := hrel
      by_cases hp : pos < s.size
      · by_cases ha : (s[pos]'hp).toNat ≤ 126
        · have hnx : ∀ ty, (Instr.next (.pointer (some ⟨w.heap.size, 0, none⟩)) true ty).run Try.prog (w.iter s pos) = _ := fun ty => run_next_ascii w s pos ty hp (by omega)
          have hcl := class_calls ((s[pos]'hp).toNat : Int)
          have ht := take_all s pos hp
          rw [HA.out, Bool.true_and] at ht
          obtain ⟨c, hc⟩ : ∃ c : Nat, (s[pos]'hp).toNat = c := ⟨_, rfl⟩
          have hok : okC s[pos] = (cls (c : Int) != 0) := by unfold okC; rw [hc]
          have hw : IntKind.u8.wrap (c : Int) = (c : Int) := by rw [← hc]; exact IntWalk.u8_in _ (by omega)
          rw [hc] at hnx hcl ha
          have d1 : decide ((c : Int) > 126) = false := decide_eq_false (by omega)
          have p0 : 0 ≤ (c : Int) := by omega
          have p1 : (c : Int) ≤ 126 := by omega
          obtain ⟨z, hz⟩ : ∃ z, cls (c : Int) = z := ⟨_, rfl⟩
          rw [hz] at hcl hok
          by_cases h0 : z = 0
          · have d2 : (z == 0) = true := beq_iff_eq.2 h0
            have hr : validB s = false := by
              unfold validB
              have : s.data.toList.all okC = false := by
                rw [List.all_eq_false]
                refine ⟨s[pos], ?_, ?_⟩
                · exact Array.getElem_mem_toList (xs := s.data) hp
                · rw [hok, h0]; decide
              rw [this]; rfl
            have HR := Aside0.mk hr
            clear hr ht hok h0 hz hc ha
            go_wp2_with (first | (go_at_call 26; refine (hcl _).mono ?_; rintro e w1 ⟨rfl, rfl⟩))
            go_ret
            exact ⟨by rw [HR.out]; rfl, below_iter s _⟩
          · have d2 : (z == 0) = false := beq_eq_false_iff_ne.2 h0
            have HN : Aside0 ((s.data.toList.take (pos + 1)).all okC = true) := ⟨by rw [ht, hok]; simpa using h0⟩
            have HP1 := Aside0.mk hp
            clear ht hok h0 hz hc ha hp
            go_wp2_with (first | (go_at_call 26; refine (hcl _).mono ?_; rintro e w1 ⟨rfl, rfl⟩))
            go_roundw
            case rel => exact ⟨pos + 1, rfl, ⟨HP1.out⟩, HN⟩
            case measure => have := HP1.out; simp; omega
        · have hc : 126 < (s[pos]'hp).toNat := by omega
          have hnx : ∀ ty, (Instr.next (.pointer (some ⟨w.heap.size, 0, none⟩)) true ty).run Try.prog (w.iter s pos) = _ := fun ty => run_next_any w s pos ty hp
          have hd : 126 < (Utf8.decode s pos).1 := by
            by_cases h7 : (s[pos]'hp).toNat < 128
            · rw [decode_ascii s pos hp h7]; omega
            · have := (decode_high s pos hp (by omega)).1; omega
          have d1 : decide (((Utf8.decode s pos).1 : Int) > 126) = true := decide_eq_true (by omega)
          have hr : validB s = false := by
            unfold validB
            have : s.data.toList.all okC = false := by
              rw [List.all_eq_false]
              refine ⟨s[pos], ?_, ?_⟩
              · exact Array.getElem_mem_toList (xs := s.data) hp
              · unfold okC; rw [cls_high (by omega)]; decide
            rw [this]; rfl
          have HR := Aside0.mk hr
          generalize (Utf8.decode s pos).2 = d2 at hnx
          generalize (Utf8.decode s pos).1 = d at hnx d1 hd
          clear hr hc ha hd
          go_wp2
          go_ret
          exact ⟨by rw [HR.out]; rfl, below_iter s _⟩
      · have hnx : ∀ ty, (Instr.next (.pointer (some ⟨w.heap.size, 0, none⟩)) true ty).run Try.prog (w.iter s pos) = _ := fun ty => run_next_end w s pos ty hp
        have hl : pos = s.size := by have := HP.out; omega
        subst hl
        have hr : validB s = decide ((s.size : Int) ≤ 2000) := by
          unfold validB
          have := HA.out
          rw [List.take_of_length_le (by rw [Array.length_toList]; exact Nat.le_refl _)] at this
          rw [this, Bool.true_and, decide_eq_decide]; omega
        have HR := Aside0.mk hr
        have hm : s.size ≤ 9223372036854775807 := by have := HS.out; omega
        clear hr hp
        go_wp2
        go_ret
        exact ⟨by rw [HR.out]; first | rfl | simp, below_iter s _⟩
  · rw [if_neg hs] at h
    cases h
/-- A line and a direction. -/
def lineB (s : ByteArray) (dir : Int) : Bool := validB s && (dir == 0 || dir == 1)
theorem isLine_calls (s : ByteArray) (dir : Int) (w : World) (hs : s.size ≤ 140737488351232) : Calls Try.prog 24 #[.string s, .int .i64 dir] w fun e w' => e = .returned (.bool (lineB s dir)) ∧ Below w.heap.size w w' := by
  have hv : ∀ w, Calls Try.prog 30 #[.string s] w fun e w' => e = .returned (.bool (validB s)) ∧ Below w.heap.size w w' := fun w => text_Valid.calls s _ w (by unfold text_Valid.f; rw [if_pos hs])
  unfold lineB
  clear hs
  cases hb : validB s
  · rw [hb] at hv
    clear hb
    go_enter Try.func24, Try.ntmps24
    go_wp2_with (first | (go_at_call 30; refine (hv _).mono ?_; rintro e w1 ⟨rfl, hb1⟩; have HB := Aside0.mk hb1; clear hb1))
    go_ret
    exact ⟨rfl, HB.out⟩
  · rw [hb] at hv
    clear hb
    by_cases h0 : dir = 0
    · subst h0
      go_enter Try.func24, Try.ntmps24
      go_wp2_with (first | (go_at_call 30; refine (hv _).mono ?_; rintro e w1 ⟨rfl, hb1⟩; have HB := Aside0.mk hb1; clear hb1))
      go_ret
      exact ⟨rfl, HB.out⟩
    · have d0 : (dir == 0) = false := beq_eq_false_iff_ne.2 h0
      rw [d0]
      clear h0
      go_enter Try.func24, Try.ntmps24
      go_wp2_with (first | (go_at_call 30; refine (hv _).mono ?_; rintro e w1 ⟨rfl, hb1⟩; have HB := Aside0.mk hb1; clear hb1))
      go_ret
      exact ⟨by first | rfl | simp, HB.out⟩
end Go.Proofs.Ytdmfhabhcagioaa.P
