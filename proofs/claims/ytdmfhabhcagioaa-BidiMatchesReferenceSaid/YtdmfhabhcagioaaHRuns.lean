import Derived.Test.YtdmfhabhcagioaaHValid
import Derived.Test.YtdmfhabhcagioaaHRange
import Derived.Test.YtdmfhabhcagioaaHMath
import Derived.Sort.QuietIn
import Derived.Sort.CutIn
import Derived.BigQuiet
import Derived.IntWalk
set_option linter.unusedVariables false
set_option linter.unusedSimpArgs false
namespace Go.Proofs.Ytdmfhabhcagioaa.P
open Go.RowKit Go.Proofs.YtdmfhabhcagioaaW.PrintWords Go.Proofs.YtdmfhabhcagioaaW.PrintLast Go.Proofs.YtdmfhabhcagioaaW.PrintMore Go.Proofs.Ytdmfhabhcagioaa.Rng Go.Bidi
attribute [local go_sem] Oper.semAt_some
theorem cell_from (W wr : World) {a : Addr} {v : Value} (h : W.cell? a = some v) (hb : wr.heap[a.block]? = W.heap[a.block]?) : wr.cell? a = some v := (World.cell?_of_block hb).trans h
theorem runs32_calls (A : Option Addr) (n c : Nat) (g : Nat) (lb : Array Value) (w : World) :
    Calls Try.prog 32 #[.slice A n c, .func (.func g) #[] lb] w fun e w' => e = .returned (.func (.func 40) #[] #[.pointer (some ⟨w.heap.size, 0, none⟩), .pointer (some ⟨w.heap.size + 1, 0, none⟩)]) ∧ w' = (w.alloc (.cells #[.slice A n c] 43)).alloc (.cells #[.func (.func g) #[] lb] 49) := by
  go_enter Try.func32, Try.ntmps32
  go_wp2
  go_ret
  exact ⟨rfl, rfl⟩
theorem runs37_calls (A : Option Addr) (n c : Nat) (g : Nat) (lb : Array Value) (w : World) :
    Calls Try.prog 37 #[.slice A n c, .func (.func g) #[] lb] w fun e w' => e = .returned (.func (.func 41) #[] #[.pointer (some ⟨w.heap.size, 0, none⟩), .pointer (some ⟨w.heap.size + 1, 0, none⟩)]) ∧ w' = (w.alloc (.cells #[.slice A n c] 23)).alloc (.cells #[.func (.func g) #[] lb] 51) := by
  go_enter Try.func37, Try.ntmps37
  go_wp2
  go_ret
  exact ⟨rfl, rfl⟩
def neutC (c : Int) : Bool := decide (cls c > 3)
theorem neut33_calls (c : Int) (w : World) : Calls Try.prog 33 #[.int .u8 c] w fun e w' => e = .returned (.bool (neutC c)) ∧ w' = w := by
  unfold neutC
  go_enter Try.func33, Try.ntmps33
  go_wp2_with (first | (go_at_call 26; refine (class_calls _ _).mono ?_; rintro e w1 ⟨rfl, rfl⟩))
  go_ret
  exact ⟨rfl, rfl⟩
theorem high36_calls (Lb Nb : Nat) (ad : Addr) (len c : Nat) (nv x v : Int) (w : World) (hL : w.cell? ⟨Lb, 0, none⟩ = some (.slice (some ad) len c)) (hN : w.cell? ⟨Nb, 0, none⟩ = some (.int .i64 nv)) (h0 : 0 ≤ x) (h1 : x < (len : Int)) (hv : w.cell? (ad.add x.toNat) = some (.int .i64 v)) :
    Calls Try.prog 36 #[.int .i64 x, .pointer (some ⟨Lb, 0, none⟩), .pointer (some ⟨Nb, 0, none⟩)] w fun e w' => e = .returned (.bool (decide (nv ≤ v))) ∧ ∃ m, w' = w.drewN m := by
  replace h0 := eq_true h0
  replace h1 := eq_true h1
  go_enter Try.func36, Try.ntmps36
  go_wp2
  go_quiet (fail)
  go_wp2
  go_ret
  exact ⟨rfl, ⟨_, rfl⟩⟩
theorem runs_in {α : Type} (p : α → Bool) (l : List α) (i k : Nat) (x : α) (hx : l[k]? = some x) (hp : p x = true) : runsL p i k (l.drop k) = runsL p i (k + 1) (l.drop (k + 1)) := by
  obtain ⟨hk, rfl⟩ := List.getElem?_eq_some_iff.1 hx
  rw [List.drop_eq_getElem_cons hk, runsL, if_pos hp]
theorem runs_out {α : Type} (p : α → Bool) (l : List α) (i k : Nat) (x : α) (hx : l[k]? = some x) (hp : p x = false) : runsL p i k (l.drop k) = (if i < k then [(i, k)] else []) ++ runsL p (k + 1) (k + 1) (l.drop (k + 1)) := by
  obtain ⟨hk, rfl⟩ := List.getElem?_eq_some_iff.1 hx
  rw [List.drop_eq_getElem_cons hk, runsL, if_neg (by rw [hp]; decide)]
theorem runs_end {α : Type} (p : α → Bool) (l : List α) (i k : Nat) (hk : k = l.length) : runsL p i k (l.drop k) = (if i < k then [(i, k)] else []) ++ runsL p (k + 1) (k + 1) (l.drop (k + 1)) := by
  subst hk
  rw [List.drop_length, List.drop_of_length_le (by omega)]
  simp [runsL]
theorem runs_nil {α : Type} (p : α → Bool) (l : List α) (i : Nat) (hk : l.length ≤ i) : runsL p i i (l.drop i) = [] := by
  rw [List.drop_of_length_le hk]; simp [runsL]
abbrev encR (x : Nat × Nat) : Array Value := #[.int .i64 (x.1 : Int), .int .i64 (x.2 : Int)]

set_option maxRecDepth 100000 in
set_option maxHeartbeats 4000000 in
theorem runs40_iter  (l : List Int) (A : Option Addr) (c : Nat) (Bl Bh : Nat) (M : Nat → Prop) (w : World) (hmx : l.length ≤ 1000000)
    (hB : Boxed w Bl 43 (.slice A l.length c)) (hH : Boxed w Bh 49 (.func (.func 33) #[] #[])) (hr : Kd.C (Kd.int .u8) w A l.length l) (hM1 : M Bl) (hM3 : M Bh) (hM2 : ∀ ad, A = some ad → 0 < l.length → M ad.block ∧ ad.block < w.heap.size)  :
    Iter Try.prog 40 #[.pointer (some ⟨Bl, 0, none⟩), .pointer (some ⟨Bh, 0, none⟩)] encR (fun pre x W => ∃ z, runsL neutC 0 0 l = pre ++ x :: z) M
      (fun xs => xs = runsL neutC 0 0 l) (fun _ => True) w := by
  intro ly J Jx W hW hJ hJx hY h0
  have hrW := Kd.C_below hr hW
  have HBW : Aside0 (Boxed W Bl 43 (.slice A l.length c)) := ⟨(hW.block _ hB.lt).trans hB⟩
  have HHW : Aside0 (Boxed W Bh 49 (.func (.func 33) #[] #[])) := ⟨(hW.block _ hH.lt).trans hH⟩
  have HLB : Aside0 (Bl < w.heap.size ∧ Bh < w.heap.size) := ⟨hB.lt, hH.lt⟩
  have HRW := Aside0.mk hrW
  have HMX := Aside0.mk hmx
  have HWB := Aside0.mk hW
  have arms := True.intro
  have HS0 : Aside0 (w.heap.size ≤ W.heap.size) := ⟨hW.size⟩
  have HM12 := Aside0.mk (And.intro hM1 hM3)
  have HM2 := Aside0.mk hM2
  clear hr hB hH hrW hmx hW hM1 hM3 hM2
  refine (callsIn_wide (n := 1)).1 ?_
  refine callsIn_of_wp Try.func40 rfl trivial ?_ rfl
  simp only [Try.ntmps40, List.size_toArray, List.length_cons, List.length_nil, Nat.reduceAdd, Nat.reduceSub, Array.replicate_succ, Array.replicate_zero, List.push_toArray, List.append_toArray, List.nil_append, List.cons_append]
  gi_wp2
  gi_loopw [4] (fun v4 wr => ∃ (i : Nat) (pre : List (Nat × Nat)), v4 = .int .i64 (i : Int) ∧ Aside0 (i ≤ l.length + 1) ∧ Aside0 (runsL neutC 0 0 l = pre ++ runsL neutC i i (l.drop i)) ∧
      Aside0 (J pre wr) ∧ Aside0 (∀ k, M k → k < w.heap.size → wr.heap[k]? = W.heap[k]?) ∧ Aside0 (w.heap.size ≤ wr.heap.size))
    (fun v4 _ => l.length + 1 - (intOf v4).toNat)
  case atStart => exact ⟨0, [], rfl, ⟨Nat.zero_le _⟩, ⟨rfl⟩, ⟨h0⟩, ⟨fun _ _ _ => rfl⟩, HS0⟩
  case round =>
    obtain ⟨i, pre, rfl, HI, HP, HJ, HM, HS⟩ := hrel
    obtain ⟨wo, hwo⟩ : ∃ wo : World, wo = wr := ⟨_, rfl⟩
    subst hwo
    have c1 : wo.cell? ⟨Bl, 0, none⟩ = some (.slice A l.length c) := cell_from W wo HBW.out.cell (HM.out _ HM12.out.1 HLB.out.1)
    have c2 : wo.cell? ⟨Bh, 0, none⟩ = some (.func (.func 33) #[] #[]) := cell_from W wo HHW.out.cell (HM.out _ HM12.out.2 HLB.out.2)
    have arms2 := True.intro
    by_cases hlt : i < l.length
    · have hd : decide ((i : Int) < (l.length : Int)) = true := decide_eq_true (by omega)
      have hd2 : decide (i < l.length) = true := decide_eq_true hlt
      have HLT := Aside0.mk hlt
      clear hlt
      gi_wp2
      gi_loopw [5] (fun v5 w' => ∃ (k : Nat), v5 = .int .i64 (k : Int) ∧ Aside0 (∀ b : Nat, (w' : World).heap[b]? = wo.heap[b]?) ∧ Aside0 (Below wo.heap.size wo w') ∧ Aside0 (i ≤ k ∧ k ≤ l.length) ∧ Aside0 (runsL neutC i i (l.drop i) = runsL neutC i k (l.drop k)))
        (fun v5 _ => l.length - (intOf v5).toNat)
      case atStart => exact ⟨i, rfl, ⟨fun _ => rfl⟩, ⟨Below.refl _ _⟩, ⟨Nat.le_refl _, by have := HLT.out; omega⟩, ⟨rfl⟩⟩
      case round =>
        obtain ⟨k, rfl, HHP, HBI, HK, HQ⟩ := hrel
        replace c1 := cell_from wo wr c1 (HHP.out _)
        replace c2 := cell_from wo wr c2 (HHP.out _)
        clear hd hd2
        have rest : ∀ (x : Prop), x → x := fun _ h => h
        by_cases hk : k < l.length
        · have hd : decide ((k : Int) < (l.length : Int)) = true := decide_eq_true (by omega)
          have hd2 : decide (k < l.length) = true := decide_eq_true hk
          obtain ⟨ad, ead, hx0⟩ := Kd.at_int HRW.out (k : Int) (by omega) (by omega)
          cases ead
          obtain ⟨hm1, hm2⟩ := HM2.out ad rfl (by omega)
          replace hx0 := cell_from W wr hx0 (by rw [add_block]; exact (HHP.out _).trans (HM.out ad.block hm1 hm2))
          rw [Int.toNat_natCast] at hx0
          obtain ⟨x, hx⟩ : ∃ x, rd l (k : Int) = x := ⟨_, rfl⟩
          rw [hx] at hx0
          have hxk : l[k]? = some x := by rw [← hx]; simp [rd, List.getD_eq_getElem?_getD, List.getElem?_eq_getElem hk]
          have HX := Aside0.mk hxk
          have p1 : (0 ≤ (k : Int)) = True := eq_true (by omega)
          have q1 : ((k : Int) < (l.length : Int)) = True := eq_true (by omega)
          have hsum : IntKind.i64.wrap ((k : Int) + 1) = ((k + 1 : Nat) : Int) := IntWalk.i64_in _ (by have := HMX.out; omega)
          have hsum2 : wrap64 ((k : Int) + 1) = ((k + 1 : Nat) : Int) := by have := HMX.out; unfold wrap64; omega
          have hhas : ∀ W, Calls Try.prog 33 #[.int .u8 x] W fun e w' => e = .returned (.bool (neutC x)) ∧ w' = W := fun W => neut33_calls x W
          have HLK := Aside0.mk hk
          clear hm1 hm2 hx hxk hk
          obtain ⟨b, hb⟩ : ∃ b, neutC x = b := ⟨_, rfl⟩
          rw [hb] at hhas
          cases b
          · have HQ2 : Aside0 (runsL neutC i k (l.drop k) = (if i < k then [(i, k)] else []) ++ runsL neutC (k + 1) (k + 1) (l.drop (k + 1))) := ⟨runs_out neutC l i k x HX.out hb⟩
            clear hb
            gi_wp2
            refine wpIn_region_quiet_lit rfl (by kernel_rfl) (by kernel_rfl) ?_
            repeat (gi_big_quiet_step (fail))
            refine wpQuietIn_step (fun _ _ _ _ => trivial) (fun K hK => ?_)
            go_simp
            apply Exists.intro
            refine ⟨fun _ => ?_, hK _ ?_⟩
            · gi_at_call 33
              exact CallsIn.quiet_of_same (callsIn_wide.2 (hhas _))
            clear hK K
            repeat (gi_big_quiet_step (fail))
            refine wpQuietIn_nil ?_
            intro _ hw'
            obtain ⟨nq, hw''⟩ := hw'
            subst hw''
            clear hhas hx0 p1 q1 hsum hsum2 hd hd2
            obtain ⟨W4, hW4⟩ : ∃ W4, wr.drewN nq = W4 := ⟨_, rfl⟩
            rw [hW4]
            have HB4 : Aside0 (Below wo.heap.size wo W4) := ⟨by rw [← hW4]; exact HBI.out.trans ⟨rfl, rfl, rfl, Nat.le_refl _, fun _ _ => rfl⟩⟩
            have HK4 : Aside0 (∀ k, W4.heap[k]? = wo.heap[k]?) := ⟨fun k => by rw [← hW4]; exact HHP.out k⟩
            clear hW4 c1 c2 
            have HI64 : Aside0 (i ≤ 1000000 ∧ k ≤ 1000000) := ⟨by have := HK.out; have := HMX.out; omega⟩
            have hsm : IntKind.i64.wrap ((k : Int) + 1) = ((k + 1 : Nat) : Int) := IntWalk.i64_in _ (by have := HI64.out; omega)
            have hsm2 : wrap64 ((k : Int) + 1) = ((k + 1 : Nat) : Int) := by have := HI64.out; unfold wrap64; omega
            have hmxv : max ((i : Int)) ((k : Int)) = (k : Int) := by have := HK.out; omega
            by_cases hik : i < k
            · have d1 : decide ((k : Int) > (i : Int)) = true := decide_eq_true (by omega)
              have d2 : decide (i < k) = true := decide_eq_true hik
              have d3 : decide ((i : Int) < (k : Int)) = true := decide_eq_true (by omega)
              have d4 : (i < k) = True := eq_true hik
              have d5 : ((i : Int) < (k : Int)) = True := eq_true (by omega)
              have hrun := HP.out.trans (congrArg (pre ++ ·) (HQ.out.trans HQ2.out))
              rw [if_pos hik] at hrun
              have HRUN := Aside0.mk hrun
              obtain ⟨fn, tmps, assign, body, hy, hR⟩ := hY pre (i, k) wo W4 HJ.out HB4.out ⟨_, hrun⟩
              try dsimp only at hy
              clear hik hrun
              gi_wp2
              refine hR.mono ?_
              rintro e W3 (⟨rfl, hJ3, hk3⟩ | ⟨rfl, hJx3⟩)
              · have HK3 := Aside0.mk hk3
                clear hk3
                gi_wp2
                go_roundw
                case rel =>
                  refine ⟨k + 1, pre ++ [(i, k)], by simp [hsm, hsm2, hmxv], ⟨by have := HK.out; omega⟩, ⟨?_⟩, ⟨hJ3⟩, ⟨fun b hb hb2 => ?_⟩, ⟨?_⟩⟩
                  · rw [HRUN.out]; simp
                  · exact (HK3.out.same b (by have := HS.out; have := HB4.out.size; omega) (.inl hb)).trans ((HK4.out b).trans (HM.out b hb hb2))
                  · have := HK3.out.size; have := HS.out; have := HB4.out.size; omega
                case measure => have := HLT.out; have := HK.out; simp [intOf, hmxv, hsm, hsm2]; omega
              · gi_wp2
                refine bodyPost_ret (results_none rfl _ _ _) rfl ?_
                exact ⟨⟨_, rfl⟩, .inr ⟨_, trivial, hJx3⟩⟩
            · have hki : k = i := by have := HK.out; omega
              subst hki
              have d1 : decide ((k : Int) > (k : Int)) = false := decide_eq_false (by omega)
              have d2 : decide (k < k) = false := decide_eq_false hik
              have d3 : decide ((k : Int) < (k : Int)) = false := decide_eq_false (by omega)
              have hrun := HP.out.trans (congrArg (pre ++ ·) (HQ.out.trans HQ2.out))
              rw [if_neg hik, List.nil_append] at hrun
              have HRUN := Aside0.mk hrun
              clear hik hrun
              gi_wp2
              refine ⟨(fun f h => by cases h), ?_⟩
              gi_wp2
              go_roundw
              case rel => exact ⟨k + 1, pre, by simp [hsm, hsm2, hmxv], ⟨by have := HK.out; omega⟩, HRUN, ⟨hJ _ _ _ HJ.out HB4.out⟩, ⟨fun b hb hb2 => (HK4.out b).trans (HM.out b hb hb2)⟩, ⟨by have := HS.out; have := HB4.out.size; omega⟩⟩
              case measure => have := HLT.out; have := HK.out; simp [intOf, hmxv, hsm, hsm2]; omega
          · have HQ2 : Aside0 (runsL neutC i k (l.drop k) = runsL neutC i (k + 1) (l.drop (k + 1))) := ⟨runs_in neutC l i k x HX.out hb⟩
            clear hb
            gi_wp2
            refine wpIn_region_quiet_lit rfl (by kernel_rfl) (by kernel_rfl) ?_
            repeat (gi_big_quiet_step (fail))
            refine wpQuietIn_step (fun _ _ _ _ => trivial) (fun K hK => ?_)
            go_simp
            apply Exists.intro
            refine ⟨fun _ => ?_, hK _ ?_⟩
            · gi_at_call 33
              exact CallsIn.quiet_of_same (callsIn_wide.2 (hhas _))
            clear hK K
            repeat (gi_big_quiet_step (fail))
            refine wpQuietIn_nil ?_
            intro _ hw'
            obtain ⟨nq, hw''⟩ := hw'
            subst hw''
            clear hhas
            gi_wp2
            go_roundw
            case rel => exact ⟨k + 1, by simp [hsum, hsum2], ⟨fun b => HHP.out b⟩, ⟨(HBI.out.trans ⟨rfl, rfl, rfl, Nat.le_refl _, fun _ _ => rfl⟩)⟩, ⟨by have := HK.out; omega, HLK.out⟩, ⟨HQ.out.trans HQ2.out⟩⟩
            case measure => have := HLK.out; simp [intOf]; omega
        · have hd : decide ((k : Int) < (l.length : Int)) = false := decide_eq_false (by omega)
          have hd2 : decide (k < l.length) = false := decide_eq_false hk
          have HQ2 : Aside0 (runsL neutC i k (l.drop k) = (if i < k then [(i, k)] else []) ++ runsL neutC (k + 1) (k + 1) (l.drop (k + 1))) := ⟨runs_end neutC l i k (by have := HK.out; omega)⟩
          clear hk
          gi_wp2
          refine wpIn_region_quiet_lit rfl (by kernel_rfl) (by kernel_rfl) ?_
          repeat (gi_big_quiet_step (fail))
          refine BigFrame.wpQuietIn_skip (fun _ _ _ _ => trivial) rfl ?_
          simp only [Act.put, List.setIfInBounds_toArray, List.set_cons_zero, List.set_cons_succ]
          repeat (gi_big_quiet_step (fail))
          refine wpQuietIn_nil ?_
          intro _ hw'
          obtain ⟨nq, hw''⟩ := hw'
          subst hw''
          clear hd hd2
          obtain ⟨W4, hW4⟩ : ∃ W4, wr.drewN nq = W4 := ⟨_, rfl⟩
          rw [hW4]
          have HB4 : Aside0 (Below wo.heap.size wo W4) := ⟨by rw [← hW4]; exact HBI.out.trans ⟨rfl, rfl, rfl, Nat.le_refl _, fun _ _ => rfl⟩⟩
          have HK4 : Aside0 (∀ k, W4.heap[k]? = wo.heap[k]?) := ⟨fun k => by rw [← hW4]; exact HHP.out k⟩
          clear hW4 c1 c2 
          have HI64 : Aside0 (i ≤ 1000000 ∧ k ≤ 1000000) := ⟨by have := HK.out; have := HMX.out; omega⟩
          have hsm : IntKind.i64.wrap ((k : Int) + 1) = ((k + 1 : Nat) : Int) := IntWalk.i64_in _ (by have := HI64.out; omega)
          have hsm2 : wrap64 ((k : Int) + 1) = ((k + 1 : Nat) : Int) := by have := HI64.out; unfold wrap64; omega
          have hmxv : max ((i : Int)) ((k : Int)) = (k : Int) := by have := HK.out; omega
          by_cases hik : i < k
          · have d1 : decide ((k : Int) > (i : Int)) = true := decide_eq_true (by omega)
            have d2 : decide (i < k) = true := decide_eq_true hik
            have d3 : decide ((i : Int) < (k : Int)) = true := decide_eq_true (by omega)
            have d4 : (i < k) = True := eq_true hik
            have d5 : ((i : Int) < (k : Int)) = True := eq_true (by omega)
            have hrun := HP.out.trans (congrArg (pre ++ ·) (HQ.out.trans HQ2.out))
            rw [if_pos hik] at hrun
            have HRUN := Aside0.mk hrun
            obtain ⟨fn, tmps, assign, body, hy, hR⟩ := hY pre (i, k) wo W4 HJ.out HB4.out ⟨_, hrun⟩
            try dsimp only at hy
            clear hik hrun
            gi_wp2
            refine hR.mono ?_
            rintro e W3 (⟨rfl, hJ3, hk3⟩ | ⟨rfl, hJx3⟩)
            · have HK3 := Aside0.mk hk3
              clear hk3
              gi_wp2
              go_roundw
              case rel =>
                refine ⟨k + 1, pre ++ [(i, k)], by simp [hsm, hsm2, hmxv], ⟨by have := HK.out; omega⟩, ⟨?_⟩, ⟨hJ3⟩, ⟨fun b hb hb2 => ?_⟩, ⟨?_⟩⟩
                · rw [HRUN.out]; simp
                · exact (HK3.out.same b (by have := HS.out; have := HB4.out.size; omega) (.inl hb)).trans ((HK4.out b).trans (HM.out b hb hb2))
                · have := HK3.out.size; have := HS.out; have := HB4.out.size; omega
              case measure => have := HLT.out; have := HK.out; simp [intOf, hmxv, hsm, hsm2]; omega
            · gi_wp2
              refine bodyPost_ret (results_none rfl _ _ _) rfl ?_
              exact ⟨⟨_, rfl⟩, .inr ⟨_, trivial, hJx3⟩⟩
          · have hki : k = i := by have := HK.out; omega
            subst hki
            have d1 : decide ((k : Int) > (k : Int)) = false := decide_eq_false (by omega)
            have d2 : decide (k < k) = false := decide_eq_false hik
            have d3 : decide ((k : Int) < (k : Int)) = false := decide_eq_false (by omega)
            have hrun := HP.out.trans (congrArg (pre ++ ·) (HQ.out.trans HQ2.out))
            rw [if_neg hik, List.nil_append] at hrun
            have HRUN := Aside0.mk hrun
            clear hik hrun
            gi_wp2
            refine ⟨(fun f h => by cases h), ?_⟩
            gi_wp2
            go_roundw
            case rel => exact ⟨k + 1, pre, by simp [hsm, hsm2, hmxv], ⟨by have := HK.out; omega⟩, HRUN, ⟨hJ _ _ _ HJ.out HB4.out⟩, ⟨fun b hb hb2 => (HK4.out b).trans (HM.out b hb hb2)⟩, ⟨by have := HS.out; have := HB4.out.size; omega⟩⟩
            case measure => have := HLT.out; have := HK.out; simp [intOf, hmxv, hsm, hsm2]; omega
    · have hd : decide ((i : Int) < (l.length : Int)) = false := decide_eq_false (by omega)
      have hd2 : decide (i < l.length) = false := decide_eq_false hlt
      have hP := HP.out
      rw [runs_nil _ _ _ (by omega), List.append_nil] at hP
      have hJ2 := HJ.out
      rw [← hP] at hJ2
      have HE := Aside0.mk hJ2
      clear hP hJ2 hlt
      gi_wp2
      go_end0
      exact ⟨⟨_, rfl⟩, .inl ⟨_, rfl, HE.out⟩⟩

set_option maxRecDepth 100000 in
set_option maxHeartbeats 4000000 in
theorem runs41_iter (lev : List Int) (nv : Int) (A2 : Option Addr) (c2_ : Nat) (Lb Nb : Nat) (l : List Int) (A : Option Addr) (c : Nat) (Bl Bh : Nat) (M : Nat → Prop) (w : World) (hmx : l.length ≤ 1000000)
    (hB : Boxed w Bl 23 (.slice A l.length c)) (hH : Boxed w Bh 51 (.func (.func 36) #[] #[.pointer (some ⟨Lb, 0, none⟩), .pointer (some ⟨Nb, 0, none⟩)])) (hr : Kd.C (Kd.int .i64) w A l.length l) (hM1 : M Bl) (hM3 : M Bh) (hM2 : ∀ ad, A = some ad → 0 < l.length → M ad.block ∧ ad.block < w.heap.size) (hL : Boxed w Lb 23 (.slice A2 lev.length c2_)) (hN : Boxed w Nb 3 (.int .i64 nv)) (hrl : Kd.C (Kd.int .i64) w A2 lev.length lev) (hM4 : M Lb) (hM5 : M Nb) (hM6 : ∀ ad, A2 = some ad → 0 < lev.length → M ad.block ∧ ad.block < w.heap.size) (hin : ∀ x ∈ l, ∃ i : Nat, i < lev.length ∧ x = (i : Int)) :
    Iter Try.prog 41 #[.pointer (some ⟨Bl, 0, none⟩), .pointer (some ⟨Bh, 0, none⟩)] encR (fun pre x W => ∃ z, runsL (high lev nv) 0 0 l = pre ++ x :: z) M
      (fun xs => xs = runsL (high lev nv) 0 0 l) (fun _ => True) w := by
  intro ly J Jx W hW hJ hJx hY h0
  have hrW := Kd.C_below hr hW
  have HBW : Aside0 (Boxed W Bl 23 (.slice A l.length c)) := ⟨(hW.block _ hB.lt).trans hB⟩
  have HHW : Aside0 (Boxed W Bh 51 (.func (.func 36) #[] #[.pointer (some ⟨Lb, 0, none⟩), .pointer (some ⟨Nb, 0, none⟩)])) := ⟨(hW.block _ hH.lt).trans hH⟩
  have HLB : Aside0 (Bl < w.heap.size ∧ Bh < w.heap.size) := ⟨hB.lt, hH.lt⟩
  have HRW := Aside0.mk hrW
  have HMX := Aside0.mk hmx
  have HWB := Aside0.mk hW
  have HLW : Aside0 (Boxed W Lb 23 (.slice A2 lev.length c2_) ∧ Boxed W Nb 3 (.int .i64 nv)) := ⟨(hW.block _ hL.lt).trans hL, (hW.block _ hN.lt).trans hN⟩
  have HLB2 : Aside0 (Lb < w.heap.size ∧ Nb < w.heap.size) := ⟨hL.lt, hN.lt⟩
  have HRL := Aside0.mk (Kd.C_below hrl hW)
  have HM45 := Aside0.mk (And.intro hM4 hM5)
  have HM6 := Aside0.mk hM6
  have HIN := Aside0.mk hin
  clear hL hN hrl hM4 hM5 hM6 hin
  have HS0 : Aside0 (w.heap.size ≤ W.heap.size) := ⟨hW.size⟩
  have HM12 := Aside0.mk (And.intro hM1 hM3)
  have HM2 := Aside0.mk hM2
  clear hr hB hH hrW hmx hW hM1 hM3 hM2
  refine (callsIn_wide (n := 1)).1 ?_
  refine callsIn_of_wp Try.func41 rfl trivial ?_ rfl
  simp only [Try.ntmps41, List.size_toArray, List.length_cons, List.length_nil, Nat.reduceAdd, Nat.reduceSub, Array.replicate_succ, Array.replicate_zero, List.push_toArray, List.append_toArray, List.nil_append, List.cons_append]
  gi_wp2
  gi_loopw [4] (fun v4 wr => ∃ (i : Nat) (pre : List (Nat × Nat)), v4 = .int .i64 (i : Int) ∧ Aside0 (i ≤ l.length + 1) ∧ Aside0 (runsL (high lev nv) 0 0 l = pre ++ runsL (high lev nv) i i (l.drop i)) ∧
      Aside0 (J pre wr) ∧ Aside0 (∀ k, M k → k < w.heap.size → wr.heap[k]? = W.heap[k]?) ∧ Aside0 (w.heap.size ≤ wr.heap.size))
    (fun v4 _ => l.length + 1 - (intOf v4).toNat)
  case atStart => exact ⟨0, [], rfl, ⟨Nat.zero_le _⟩, ⟨rfl⟩, ⟨h0⟩, ⟨fun _ _ _ => rfl⟩, HS0⟩
  case round =>
    obtain ⟨i, pre, rfl, HI, HP, HJ, HM, HS⟩ := hrel
    obtain ⟨wo, hwo⟩ : ∃ wo : World, wo = wr := ⟨_, rfl⟩
    subst hwo
    have c1 : wo.cell? ⟨Bl, 0, none⟩ = some (.slice A l.length c) := cell_from W wo HBW.out.cell (HM.out _ HM12.out.1 HLB.out.1)
    have c2 : wo.cell? ⟨Bh, 0, none⟩ = some (.func (.func 36) #[] #[.pointer (some ⟨Lb, 0, none⟩), .pointer (some ⟨Nb, 0, none⟩)]) := cell_from W wo HHW.out.cell (HM.out _ HM12.out.2 HLB.out.2)
    have HC3 : Aside0 (wo.cell? ⟨Lb, 0, none⟩ = some (.slice A2 lev.length c2_) ∧ wo.cell? ⟨Nb, 0, none⟩ = some (.int .i64 nv)) := ⟨cell_from W wo HLW.out.1.cell (HM.out _ HM45.out.1 HLB2.out.1), cell_from W wo HLW.out.2.cell (HM.out _ HM45.out.2 HLB2.out.2)⟩
    by_cases hlt : i < l.length
    · have hd : decide ((i : Int) < (l.length : Int)) = true := decide_eq_true (by omega)
      have hd2 : decide (i < l.length) = true := decide_eq_true hlt
      have HLT := Aside0.mk hlt
      clear hlt
      gi_wp2
      gi_loopw [5] (fun v5 w' => ∃ (k : Nat), v5 = .int .i64 (k : Int) ∧ Aside0 (∀ b : Nat, (w' : World).heap[b]? = wo.heap[b]?) ∧ Aside0 (Below wo.heap.size wo w') ∧ Aside0 (i ≤ k ∧ k ≤ l.length) ∧ Aside0 (runsL (high lev nv) i i (l.drop i) = runsL (high lev nv) i k (l.drop k)))
        (fun v5 _ => l.length - (intOf v5).toNat)
      case atStart => exact ⟨i, rfl, ⟨fun _ => rfl⟩, ⟨Below.refl _ _⟩, ⟨Nat.le_refl _, by have := HLT.out; omega⟩, ⟨rfl⟩⟩
      case round =>
        obtain ⟨k, rfl, HHP, HBI, HK, HQ⟩ := hrel
        replace c1 := cell_from wo wr c1 (HHP.out _)
        replace c2 := cell_from wo wr c2 (HHP.out _)
        clear hd hd2
        have rest : ∀ (x : Prop), x → x := fun _ h => h
        by_cases hk : k < l.length
        · have hd : decide ((k : Int) < (l.length : Int)) = true := decide_eq_true (by omega)
          have hd2 : decide (k < l.length) = true := decide_eq_true hk
          obtain ⟨ad, ead, hx0⟩ := Kd.at_int HRW.out (k : Int) (by omega) (by omega)
          cases ead
          obtain ⟨hm1, hm2⟩ := HM2.out ad rfl (by omega)
          replace hx0 := cell_from W wr hx0 (by rw [add_block]; exact (HHP.out _).trans (HM.out ad.block hm1 hm2))
          rw [Int.toNat_natCast] at hx0
          obtain ⟨x, hx⟩ : ∃ x, rd l (k : Int) = x := ⟨_, rfl⟩
          rw [hx] at hx0
          have hxk : l[k]? = some x := by rw [← hx]; simp [rd, List.getD_eq_getElem?_getD, List.getElem?_eq_getElem hk]
          have HX := Aside0.mk hxk
          have p1 : (0 ≤ (k : Int)) = True := eq_true (by omega)
          have q1 : ((k : Int) < (l.length : Int)) = True := eq_true (by omega)
          have hsum : IntKind.i64.wrap ((k : Int) + 1) = ((k + 1 : Nat) : Int) := IntWalk.i64_in _ (by have := HMX.out; omega)
          have hsum2 : wrap64 ((k : Int) + 1) = ((k + 1 : Nat) : Int) := by have := HMX.out; unfold wrap64; omega
          have hhas : ∀ r, Calls Try.prog 36 #[.int .i64 x, .pointer (some ⟨Lb, 0, none⟩), .pointer (some ⟨Nb, 0, none⟩)] (wr.drewN r) fun e w' => e = .returned (.bool (high lev nv x)) ∧ ∃ m, w' = (wr.drewN r).drewN m := fun r => by
            obtain ⟨j, hj, hxj⟩ := HIN.out x (List.mem_of_getElem? hxk)
            obtain ⟨ad2, ead2, hy0⟩ := Kd.at_int HRL.out x (by omega) (by omega)
            obtain ⟨hm3, hm4⟩ := HM6.out ad2 ead2 (by omega)
            have hcell := cell_from W wr hy0 (by rw [add_block]; exact (HHP.out _).trans (HM.out ad2.block hm3 hm4))
            exact high36_calls Lb Nb ad2 lev.length c2_ nv x (rd lev x) _ (cell_from wo _ (by have := HC3.out.1; rw [ead2] at this; exact this) (HHP.out _)) (cell_from wo _ HC3.out.2 (HHP.out _)) (by omega) (by omega) hcell
          have HLK := Aside0.mk hk
          clear hm1 hm2 hx hxk hk
          obtain ⟨b, hb⟩ : ∃ b, (high lev nv) x = b := ⟨_, rfl⟩
          rw [hb] at hhas
          cases b
          · have HQ2 : Aside0 (runsL (high lev nv) i k (l.drop k) = (if i < k then [(i, k)] else []) ++ runsL (high lev nv) (k + 1) (k + 1) (l.drop (k + 1))) := ⟨runs_out (high lev nv) l i k x HX.out hb⟩
            clear hb
            gi_wp2
            refine wpIn_region_quiet_lit rfl (by kernel_rfl) (by kernel_rfl) ?_
            repeat (gi_big_quiet_step (fail))
            refine wpQuietIn_step (fun _ _ _ _ => trivial) (fun K hK => ?_)
            go_simp
            apply Exists.intro
            refine ⟨fun _ => ?_, hK _ ?_⟩
            · gi_at_call 36
              exact CallsIn.quiet_of (callsIn_wide.2 (hhas _))
            clear hK K
            repeat (gi_big_quiet_step (fail))
            refine wpQuietIn_nil ?_
            intro _ hw'
            obtain ⟨nq, hw''⟩ := hw'
            subst hw''
            clear hhas hx0 p1 q1 hsum hsum2 hd hd2
            obtain ⟨W4, hW4⟩ : ∃ W4, wr.drewN nq = W4 := ⟨_, rfl⟩
            rw [hW4]
            have HB4 : Aside0 (Below wo.heap.size wo W4) := ⟨by rw [← hW4]; exact HBI.out.trans ⟨rfl, rfl, rfl, Nat.le_refl _, fun _ _ => rfl⟩⟩
            have HK4 : Aside0 (∀ k, W4.heap[k]? = wo.heap[k]?) := ⟨fun k => by rw [← hW4]; exact HHP.out k⟩
            clear hW4 c1 c2 
            have HI64 : Aside0 (i ≤ 1000000 ∧ k ≤ 1000000) := ⟨by have := HK.out; have := HMX.out; omega⟩
            have hsm : IntKind.i64.wrap ((k : Int) + 1) = ((k + 1 : Nat) : Int) := IntWalk.i64_in _ (by have := HI64.out; omega)
            have hsm2 : wrap64 ((k : Int) + 1) = ((k + 1 : Nat) : Int) := by have := HI64.out; unfold wrap64; omega
            have hmxv : max ((i : Int)) ((k : Int)) = (k : Int) := by have := HK.out; omega
            by_cases hik : i < k
            · have d1 : decide ((k : Int) > (i : Int)) = true := decide_eq_true (by omega)
              have d2 : decide (i < k) = true := decide_eq_true hik
              have d3 : decide ((i : Int) < (k : Int)) = true := decide_eq_true (by omega)
              have d4 : (i < k) = True := eq_true hik
              have d5 : ((i : Int) < (k : Int)) = True := eq_true (by omega)
              have hrun := HP.out.trans (congrArg (pre ++ ·) (HQ.out.trans HQ2.out))
              rw [if_pos hik] at hrun
              have HRUN := Aside0.mk hrun
              obtain ⟨fn, tmps, assign, body, hy, hR⟩ := hY pre (i, k) wo W4 HJ.out HB4.out ⟨_, hrun⟩
              try dsimp only at hy
              clear hik hrun
              gi_wp2
              refine hR.mono ?_
              rintro e W3 (⟨rfl, hJ3, hk3⟩ | ⟨rfl, hJx3⟩)
              · have HK3 := Aside0.mk hk3
                clear hk3
                gi_wp2
                go_roundw
                case rel =>
                  refine ⟨k + 1, pre ++ [(i, k)], by simp [hsm, hsm2, hmxv], ⟨by have := HK.out; omega⟩, ⟨?_⟩, ⟨hJ3⟩, ⟨fun b hb hb2 => ?_⟩, ⟨?_⟩⟩
                  · rw [HRUN.out]; simp
                  · exact (HK3.out.same b (by have := HS.out; have := HB4.out.size; omega) (.inl hb)).trans ((HK4.out b).trans (HM.out b hb hb2))
                  · have := HK3.out.size; have := HS.out; have := HB4.out.size; omega
                case measure => have := HLT.out; have := HK.out; simp [intOf, hmxv, hsm, hsm2]; omega
              · gi_wp2
                refine bodyPost_ret (results_none rfl _ _ _) rfl ?_
                exact ⟨⟨_, rfl⟩, .inr ⟨_, trivial, hJx3⟩⟩
            · have hki : k = i := by have := HK.out; omega
              subst hki
              have d1 : decide ((k : Int) > (k : Int)) = false := decide_eq_false (by omega)
              have d2 : decide (k < k) = false := decide_eq_false hik
              have d3 : decide ((k : Int) < (k : Int)) = false := decide_eq_false (by omega)
              have hrun := HP.out.trans (congrArg (pre ++ ·) (HQ.out.trans HQ2.out))
              rw [if_neg hik, List.nil_append] at hrun
              have HRUN := Aside0.mk hrun
              clear hik hrun
              gi_wp2
              refine ⟨(fun f h => by cases h), ?_⟩
              gi_wp2
              go_roundw
              case rel => exact ⟨k + 1, pre, by simp [hsm, hsm2, hmxv], ⟨by have := HK.out; omega⟩, HRUN, ⟨hJ _ _ _ HJ.out HB4.out⟩, ⟨fun b hb hb2 => (HK4.out b).trans (HM.out b hb hb2)⟩, ⟨by have := HS.out; have := HB4.out.size; omega⟩⟩
              case measure => have := HLT.out; have := HK.out; simp [intOf, hmxv, hsm, hsm2]; omega
          · have HQ2 : Aside0 (runsL (high lev nv) i k (l.drop k) = runsL (high lev nv) i (k + 1) (l.drop (k + 1))) := ⟨runs_in (high lev nv) l i k x HX.out hb⟩
            clear hb
            gi_wp2
            refine wpIn_region_quiet_lit rfl (by kernel_rfl) (by kernel_rfl) ?_
            repeat (gi_big_quiet_step (fail))
            refine wpQuietIn_step (fun _ _ _ _ => trivial) (fun K hK => ?_)
            go_simp
            apply Exists.intro
            refine ⟨fun _ => ?_, hK _ ?_⟩
            · gi_at_call 36
              exact CallsIn.quiet_of (callsIn_wide.2 (hhas _))
            clear hK K
            repeat (gi_big_quiet_step (fail))
            refine wpQuietIn_nil ?_
            intro _ hw'
            obtain ⟨nq, hw''⟩ := hw'
            subst hw''
            clear hhas
            gi_wp2
            go_roundw
            case rel => exact ⟨k + 1, by simp [hsum, hsum2], ⟨fun b => HHP.out b⟩, ⟨(HBI.out.trans ⟨rfl, rfl, rfl, Nat.le_refl _, fun _ _ => rfl⟩)⟩, ⟨by have := HK.out; omega, HLK.out⟩, ⟨HQ.out.trans HQ2.out⟩⟩
            case measure => have := HLK.out; simp [intOf]; omega
        · have hd : decide ((k : Int) < (l.length : Int)) = false := decide_eq_false (by omega)
          have hd2 : decide (k < l.length) = false := decide_eq_false hk
          have HQ2 : Aside0 (runsL (high lev nv) i k (l.drop k) = (if i < k then [(i, k)] else []) ++ runsL (high lev nv) (k + 1) (k + 1) (l.drop (k + 1))) := ⟨runs_end (high lev nv) l i k (by have := HK.out; omega)⟩
          clear hk
          gi_wp2
          refine wpIn_region_quiet_lit rfl (by kernel_rfl) (by kernel_rfl) ?_
          repeat (gi_big_quiet_step (fail))
          refine BigFrame.wpQuietIn_skip (fun _ _ _ _ => trivial) rfl ?_
          simp only [Act.put, List.setIfInBounds_toArray, List.set_cons_zero, List.set_cons_succ]
          repeat (gi_big_quiet_step (fail))
          refine wpQuietIn_nil ?_
          intro _ hw'
          obtain ⟨nq, hw''⟩ := hw'
          subst hw''
          clear hd hd2
          obtain ⟨W4, hW4⟩ : ∃ W4, wr.drewN nq = W4 := ⟨_, rfl⟩
          rw [hW4]
          have HB4 : Aside0 (Below wo.heap.size wo W4) := ⟨by rw [← hW4]; exact HBI.out.trans ⟨rfl, rfl, rfl, Nat.le_refl _, fun _ _ => rfl⟩⟩
          have HK4 : Aside0 (∀ k, W4.heap[k]? = wo.heap[k]?) := ⟨fun k => by rw [← hW4]; exact HHP.out k⟩
          clear hW4 c1 c2 
          have HI64 : Aside0 (i ≤ 1000000 ∧ k ≤ 1000000) := ⟨by have := HK.out; have := HMX.out; omega⟩
          have hsm : IntKind.i64.wrap ((k : Int) + 1) = ((k + 1 : Nat) : Int) := IntWalk.i64_in _ (by have := HI64.out; omega)
          have hsm2 : wrap64 ((k : Int) + 1) = ((k + 1 : Nat) : Int) := by have := HI64.out; unfold wrap64; omega
          have hmxv : max ((i : Int)) ((k : Int)) = (k : Int) := by have := HK.out; omega
          by_cases hik : i < k
          · have d1 : decide ((k : Int) > (i : Int)) = true := decide_eq_true (by omega)
            have d2 : decide (i < k) = true := decide_eq_true hik
            have d3 : decide ((i : Int) < (k : Int)) = true := decide_eq_true (by omega)
            have d4 : (i < k) = True := eq_true hik
            have d5 : ((i : Int) < (k : Int)) = True := eq_true (by omega)
            have hrun := HP.out.trans (congrArg (pre ++ ·) (HQ.out.trans HQ2.out))
            rw [if_pos hik] at hrun
            have HRUN := Aside0.mk hrun
            obtain ⟨fn, tmps, assign, body, hy, hR⟩ := hY pre (i, k) wo W4 HJ.out HB4.out ⟨_, hrun⟩
            try dsimp only at hy
            clear hik hrun
            gi_wp2
            refine hR.mono ?_
            rintro e W3 (⟨rfl, hJ3, hk3⟩ | ⟨rfl, hJx3⟩)
            · have HK3 := Aside0.mk hk3
              clear hk3
              gi_wp2
              go_roundw
              case rel =>
                refine ⟨k + 1, pre ++ [(i, k)], by simp [hsm, hsm2, hmxv], ⟨by have := HK.out; omega⟩, ⟨?_⟩, ⟨hJ3⟩, ⟨fun b hb hb2 => ?_⟩, ⟨?_⟩⟩
                · rw [HRUN.out]; simp
                · exact (HK3.out.same b (by have := HS.out; have := HB4.out.size; omega) (.inl hb)).trans ((HK4.out b).trans (HM.out b hb hb2))
                · have := HK3.out.size; have := HS.out; have := HB4.out.size; omega
              case measure => have := HLT.out; have := HK.out; simp [intOf, hmxv, hsm, hsm2]; omega
            · gi_wp2
              refine bodyPost_ret (results_none rfl _ _ _) rfl ?_
              exact ⟨⟨_, rfl⟩, .inr ⟨_, trivial, hJx3⟩⟩
          · have hki : k = i := by have := HK.out; omega
            subst hki
            have d1 : decide ((k : Int) > (k : Int)) = false := decide_eq_false (by omega)
            have d2 : decide (k < k) = false := decide_eq_false hik
            have d3 : decide ((k : Int) < (k : Int)) = false := decide_eq_false (by omega)
            have hrun := HP.out.trans (congrArg (pre ++ ·) (HQ.out.trans HQ2.out))
            rw [if_neg hik, List.nil_append] at hrun
            have HRUN := Aside0.mk hrun
            clear hik hrun
            gi_wp2
            refine ⟨(fun f h => by cases h), ?_⟩
            gi_wp2
            go_roundw
            case rel => exact ⟨k + 1, pre, by simp [hsm, hsm2, hmxv], ⟨by have := HK.out; omega⟩, HRUN, ⟨hJ _ _ _ HJ.out HB4.out⟩, ⟨fun b hb hb2 => (HK4.out b).trans (HM.out b hb hb2)⟩, ⟨by have := HS.out; have := HB4.out.size; omega⟩⟩
            case measure => have := HLT.out; have := HK.out; simp [intOf, hmxv, hsm, hsm2]; omega
    · have hd : decide ((i : Int) < (l.length : Int)) = false := decide_eq_false (by omega)
      have hd2 : decide (i < l.length) = false := decide_eq_false hlt
      have hP := HP.out
      rw [runs_nil _ _ _ (by omega), List.append_nil] at hP
      have hJ2 := HJ.out
      rw [← hP] at hJ2
      have HE := Aside0.mk hJ2
      clear hP hJ2 hlt
      gi_wp2
      go_end0
      exact ⟨⟨_, rfl⟩, .inl ⟨_, rfl, HE.out⟩⟩
end Go.Proofs.Ytdmfhabhcagioaa.P
