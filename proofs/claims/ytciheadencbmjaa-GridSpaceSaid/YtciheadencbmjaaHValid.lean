import Derived.Test.YtciheadencbmjaaHStarts
set_option linter.unusedVariables false
set_option linter.unusedSimpArgs false
namespace Go.Proofs.Ytciheadencbmjaa.P
open Go.RowKit Go.Proofs.YtciheadencbmjaaW.PrintWords Go.Proofs.YtciheadencbmjaaW.PrintLast Go.Proofs.YtciheadencbmjaaW.PrintMore
attribute [local go_sem] Oper.semAt_some

def wrongW (t : S64) : Bool := !inside t.f0 0 1000000 || !inside t.f1 0 1000 || !(t.f2 == 0 || inside t.f2 t.f0 1000000)
theorem within_f (n lo hi : Int) : tracks_within.f n lo hi = some (inside n lo hi) := by
  unfold tracks_within.f inside
  by_cases h : lo ≤ n
  · rw [if_pos h, decide_eq_true h]; rfl
  · rw [if_neg h, decide_eq_false h]; rfl
theorem wrong_f (a b c : Int) : tracks_wrong.f a b c = some (wrongW ⟨a, b, c⟩) := by
  unfold tracks_wrong.f wrongW
  simp only [within_f, Option.bind_some]
  by_cases h : c = 0
  · rw [if_pos h]
    subst h
    simp only [BEq.rfl, Bool.true_or, Bool.not_true, Bool.or_false]
    cases inside a 0 1000000 <;> cases inside b 0 1000 <;> rfl
  · rw [if_neg h]
    have h2 : (c == 0) = false := by simpa using h
    simp only [h2, Bool.false_or]
    cases inside c a 1000000 <;> cases inside a 0 1000000 <;> cases inside b 0 1000 <;> rfl
set_option maxRecDepth 100000 in
set_option maxHeartbeats 4000000 in
theorem idxWrong_calls (A : Option Addr) (c : Nat) (l : List S64) (w : World) (hr : Kd.C k64 w A l.length l) (hl : l.length ≤ 1000000) :
    Calls Try.prog 52 #[.slice A l.length c, .func (.func 48) #[] #[]] w fun e w' => (∃ r : Int, e = .returned (.int .i64 r) ∧ decide (0 ≤ r) = l.any wrongW) ∧ Below w.heap.size w w' := by
  have HR := Aside0.mk hr
  have HL := Aside0.mk hl
  clear hr hl
  go_enter Try.func52, Try.ntmps52
  go_wp2
  go_loopg [8] l.length (fun kq v8 w' => ∃ j : Nat, v8 = .int .i64 (j : Int) ∧ Aside0 (kq + j = l.length) ∧ Aside0 ((l.take j).any wrongW = false) ∧ Aside0 (Below w.heap.size w w'))
  case atStart => exact ⟨0, rfl, ⟨rfl⟩, ⟨rfl⟩, ⟨Below.refl _ _⟩⟩
  case round =>
    obtain ⟨j, rfl, HK, HF, HB⟩ := hrel
    cases gk with
    | zero =>
      have hjl : j = l.length := by have := HK.out; omega
      subst hjl
      have c1b : decide ((l.length : Int) < (l.length : Int)) = false := by simp
      have hf := HF.out
      rw [List.take_length] at hf
      go_wp2
      go_ret
      exact ⟨⟨-1, rfl, by rw [hf]; decide⟩, HB.out⟩
    | succ k1 =>
      have hj : j < l.length := by have := HK.out; omega
      have p1 : 0 ≤ (j : Int) := by omega
      have q1 : (j : Int) < (l.length : Int) := by omega
      have c1b : decide ((j : Int) < (l.length : Int)) = true := decide_eq_true q1
      have hsum : IntKind.i64.wrap ((j : Int) + 1) = ((j + 1 : Nat) : Int) := by have := HL.out; exact IntWalk.i64_in _ (by omega)
      have hsum2 : wrap64 ((j : Int) + 1) = ((j + 1 : Nat) : Int) := by have := HL.out; unfold wrap64; omega
      obtain ⟨ad, ead, hx0, hx1, hx2⟩ := at_T64 (Kd.C_below HR.out HB.out) (j : Int) p1 q1
      cases ead
      have hel : rd_T64 l (j : Int) = l[j] := by simp [rd_T64, List.getD_eq_getElem?_getD, List.getElem?_eq_getElem hj]
      rw [hel] at hx0 hx1 hx2
      simp only [Int.toNat_natCast] at hx0 hx1 hx2
      obtain ⟨x, hx⟩ : ∃ x, l[j] = x := ⟨_, rfl⟩
      rw [hx] at hx0 hx1 hx2
      have HJ := Aside0.mk hj
      clear hel
      replace p1 := eq_true p1
      replace q1 := eq_true q1
      have hfc : ∀ b, wrongW x = b → ∀ w, Calls Try.prog 48 #[.agg #[.int .i64 x.f0, .int .i64 x.f1, .int .i64 x.f2]] w fun e w' => e = .returned (.bool b) ∧ Below w.heap.size w w' := fun b hb w => by rw [← hb]; exact tracks_wrong.calls _ _ _ _ _ (wrong_f _ _ _)
      cases hfar : wrongW x
      · have hfc := hfc _ hfar
        have hnext : (l.take (j + 1)).any wrongW = false := by rw [List.take_succ_eq_append_getElem hj, List.any_append, HF.out]; simp [hx, hfar]
        have HN := Aside0.mk hnext
        clear hnext hfar hx hj
        go_wp2_with (first | (go_at_call 48; refine (hfc _).mono ?_; rintro e w2 ⟨rfl, hb⟩; have HB2 := Aside0.mk hb; clear hb))
        go_roundg k1
        case measure => omega
        case rel => exact ⟨j + 1, by simp [hsum, hsum2], ⟨by have := HK.out; omega⟩, HN, ⟨HB.out.trans (HB2.out.mono HB.out.size)⟩⟩
      · have hfc := hfc _ hfar
        have hany : l.any wrongW = true := List.any_eq_true.2 ⟨l[j], List.getElem_mem hj, by rw [hx]; exact hfar⟩
        have HN := Aside0.mk hany
        clear hany hfar hx hj
        go_wp2_with (first | (go_at_call 48; refine (hfc _).mono ?_; rintro e w2 ⟨rfl, hb⟩; have HB2 := Aside0.mk hb; clear hb))
        go_ret
        exact ⟨⟨j, rfl, by rw [HN.out]; simp⟩, HB.out.trans (HB2.out.mono HB.out.size)⟩
theorem anyWrong_calls (A : Option Addr) (c : Nat) (l : List S64) (w : World) (hr : Kd.C k64 w A l.length l) (hl : l.length ≤ 1000000) :
    Calls Try.prog 47 #[.slice A l.length c, .func (.func 48) #[] #[]] w fun e w' => e = .returned (.bool (l.any wrongW)) ∧ Below w.heap.size w w' := by
  go_enter Try.func47, Try.ntmps47
  go_wp2_with (first | (go_at_call 52; refine (idxWrong_calls A c l _ hr hl).mono ?_; rintro e w' ⟨⟨r, rfl, hr1⟩, hb⟩; have hr2 : decide (r ≥ 0) = l.any wrongW := hr1; have HB := Aside0.mk hb; clear hb))
  go_ret
  exact ⟨by first | rfl | rw [hr1] | rw [hr2], HB.out⟩
def tracks_Valid.f (l0 : List S64) : Option Bool := some (inside (l0.length : Int) 1 64 && !l0.any wrongW)
set_option maxRecDepth 100000 in
theorem tracks_Valid.calls (A0 : Option Addr) (c0 : Nat) (l0 : List S64) (r : Bool) (w : World) (hr0 : Kd.C k64 w A0 l0.length l0) (hc0 : l0.length ≤ c0) (h : tracks_Valid.f l0 = some r) :
    Calls Try.prog 37 #[.slice A0 l0.length c0] w fun e w' => e = .returned (.bool r) ∧ Below w.heap.size w w' := by
  obtain rfl : (inside (l0.length : Int) 1 64 && !l0.any wrongW) = r := by simpa [tracks_Valid.f] using h
  clear h
  have HR := Aside0.mk hr0
  clear hr0 hc0
  have hw : ∀ b, inside (l0.length : Int) 1 64 = b → ∀ w, Calls Try.prog 38 #[.int .i64 (l0.length : Int), .int .i64 1, .int .i64 64] w fun e w' => e = .returned (.bool b) ∧ w = w' := fun b hb w => by rw [← hb]; exact within_calls _ _ _ w
  cases h1 : inside (l0.length : Int) 1 64
  · have hw := hw _ h1
    go_enter Try.func37, Try.ntmps37
    go_wp2_with (first | (go_at_call 38; with_reducible refine (hw _).mono ?_; rintro e w' ⟨rfl, rfl⟩))
    go_ret
    exact ⟨by first | rfl | simp, Below.refl _ _⟩
  · have hw := hw _ h1
    have hl : l0.length ≤ 1000000 := by simp [inside] at h1; omega
    have ha : ∀ b, l0.any wrongW = b → Calls Try.prog 47 #[.slice A0 l0.length c0, .func (.func 48) #[] #[]] w fun e w' => e = .returned (.bool b) ∧ Below w.heap.size w w' := fun b hb => by rw [← hb]; exact anyWrong_calls A0 c0 l0 w HR.out hl
    cases h2 : l0.any wrongW <;>
    · have ha := ha _ h2
      go_enter Try.func37, Try.ntmps37
      go_wp2_with (first | (go_at_call 38; with_reducible refine (hw _).mono ?_; rintro e w' ⟨rfl, rfl⟩) | (go_at_call 47; with_reducible refine ha.mono ?_; rintro e w2 ⟨rfl, hb⟩; have HB2 := Aside0.mk hb; clear hb))
      go_ret
      exact ⟨by first | rfl | simp, HB2.out⟩
end Go.Proofs.Ytciheadencbmjaa.P
