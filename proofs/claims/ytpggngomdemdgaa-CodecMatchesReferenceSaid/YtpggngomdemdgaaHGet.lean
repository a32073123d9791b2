import Derived.Test.YtpggngomdemdgaaPx1
import Derived.Test.YtpggngomdemdgaaHMath
import Derived.Defers
import Derived.Recover
import Derived.IntWalk
import Derived.Laws.Pointers
set_option linter.unusedVariables false
set_option linter.unusedSimpArgs false
namespace Go.Proofs.Ytpggngomdemdgaa.P
open Go.RowKit Go.Proofs.YtpggngomdemdgaaW.PrintWords Go.Proofs.YtpggngomdemdgaaW.PrintLast Go.Proofs.YtpggngomdemdgaaW.PrintMore Go.Codec
attribute [local go_sem] Oper.semAt_some
@[local go_sem] theorem run_panic_iface (P : Program) (t : TypeId) (v : Value) (w : World) : Sem.run P (Instr.panic (.iface t v)) w = .halt (.panic (.iface t v)) w := rfl
abbrev brk : Value := .iface 70 (.agg #[])
def NextPost (Br : Nat) (A : Option Addr) (c : Nat) (b : List Int) (w : World) (e : Ending) (w' : World) : Prop :=
  match dec 0 0 b with
  | none => e = .panicked [{ v := brk, recovered := false }] ∧ w = w'
  | some (u, k) => e = .returned (.int .i64 (unzz u)) ∧ w' = w.setCell ⟨Br, 0, none⟩ (.slice (if c = k then A else A.map (·.add k)) (b.length - k) (c - k))
set_option maxRecDepth 100000 in
set_option maxHeartbeats 1000000 in
theorem next34_calls (Br : Nat) (A : Option Addr) (c : Nat) (b : List Int) (w : World) (hB : w.heap[Br]? = some (.cells #[.slice A b.length c] 62 (0, 0))) (hC : Kd.C (Kd.int .u8) w A b.length b) (hcap : b.length ≤ c) (hb : ∀ x ∈ b, 0 ≤ x ∧ x ≤ 255) :
    Calls Try.prog 34 #[.pointer (some ⟨Br, 0, none⟩)] w (NextPost Br A c b w) := by
  have HC := Aside0.mk hC
  have HCAP := Aside0.mk hcap
  have HBY := Aside0.mk hb
  have HMX : Aside0 (b.length ≤ 9223372036854775807) := ⟨Kd.C_max hC⟩
  have cb : w.cell? ⟨Br, 0, none⟩ = some (.slice A b.length c) := (blk_cell hB 0).trans rfl
  have fb := blk_frozen hB 0
  clear hC hcap hb hB
  go_enter Try.func34, Try.ntmps34
  go_wp2
  go_loopg [3, 11] b.length (fun kq v3 v11 w' => ∃ (i : Nat) (u : Int), v11 = .int .i64 (i : Int) ∧ v3 = .int .u64 u ∧ w = w' ∧ Aside0 (kq + i = b.length) ∧ Aside0 (i ≤ 10 ∧ 0 ≤ u ∧ u < 128 ^ i) ∧ Aside0 (dec 0 0 b = dec i u (b.drop i)))
  case atStart => exact ⟨0, 0, rfl, rfl, rfl, ⟨rfl⟩, ⟨by simp⟩, ⟨rfl⟩⟩
  case round =>
    obtain ⟨i, u, rfl, rfl, rfl, HK, HI, HD⟩ := hrel
    cases gk with
    | zero =>
      obtain rfl : i = b.length := by have := HK.out; omega
      have d1 : decide ((b.length : Int) < (b.length : Int)) = false := by simp
      have HN : Aside0 (dec 0 0 b = none) := ⟨by rw [HD.out, List.drop_length]; rfl⟩
      go_wp2
      refine ⟨rfl, ?_⟩
      unfold NextPost; rw [HN.out]; exact ⟨rfl, rfl⟩
    | succ k1 =>
      have hi : i < b.length := by have := HK.out; omega
      have p1 : (0 ≤ (i : Int)) = True := eq_true (by omega)
      have q1 : ((i : Int) < (b.length : Int)) = True := eq_true (by omega)
      have d0 : decide ((i : Int) < (b.length : Int)) = true := decide_eq_true (by omega)
      have hsum : IntKind.i64.wrap ((i : Int) + 1) = ((i + 1 : Nat) : Int) := by have := HI.out; exact IntWalk.i64_in _ (by omega)
      have hsum2 : wrap64 ((i : Int) + 1) = ((i + 1 : Nat) : Int) := by have := HI.out; unfold wrap64; omega
      obtain ⟨ad, ead, hx⟩ := Kd.at_int HC.out (i : Int) (by omega) (by omega)
      cases ead
      rw [Int.toNat_natCast] at hx
      obtain ⟨x, hxx⟩ : ∃ x, rd b (i : Int) = x := ⟨_, rfl⟩
      rw [hxx] at hx
      have hxi : b[i]? = some x := by rw [← hxx]; simp [rd, List.getD_eq_getElem?_getD, List.getElem?_eq_getElem hi]
      have HXB : Aside0 (0 ≤ x ∧ x ≤ 255) := ⟨HBY.out x (List.mem_of_getElem? hxi)⟩
      have HDC : Aside0 (b.drop i = x :: b.drop (i + 1)) := ⟨by
        obtain ⟨h, e⟩ := List.getElem?_eq_some_iff.1 hxi
        rw [List.drop_eq_getElem_cons h, e]⟩
      have HI1 := Aside0.mk hi
      clear hxx hxi hi
      by_cases h9 : (i = 9 ∧ 1 < x) ∨ 9 < i
      · have HN : Aside0 (dec 0 0 b = none) := ⟨by rw [HD.out, HDC.out, dec, if_pos h9]⟩
        by_cases h10 : 9 < i
        · have e1 : decide ((i : Int) > 9) = true := decide_eq_true (by omega)
          have e2 : decide (9 < i) = true := decide_eq_true (by omega)
          have e4 : ((i : Int) == 9) = false := beq_eq_false_iff_ne.2 (by omega)
          clear h9
          go_wp2
          refine ⟨rfl, ?_⟩
          unfold NextPost; rw [HN.out]; exact ⟨rfl, rfl⟩
        · have h11 : i = 9 ∧ 1 < x := by omega
          have e3 : decide (x > 1) = true := decide_eq_true h11.2
          have e3' : decide (1 < x) = true := decide_eq_true h11.2
          have e4 : ((i : Int) == 9) = true := beq_iff_eq.2 (by omega)
          have e1 : decide ((i : Int) > 9) = false := decide_eq_false (by omega)
          have e2 : decide (9 < i) = false := decide_eq_false (by omega)
          clear h9 h10 h11
          go_wp2
          refine ⟨rfl, ?_⟩
          unfold NextPost; rw [HN.out]; exact ⟨rfl, rfl⟩
      · have hi9 : i ≤ 9 := by omega
        have e1 : decide ((i : Int) > 9) = false := decide_eq_false (by omega)
        have e2 : decide (9 < i) = false := decide_eq_false (by omega)
        have HX9 : Aside0 (i ≤ 8 ∨ x ≤ 1) := ⟨by omega⟩
        have eo : bits .or .u64 u (IntKind.u64.wrap (IntKind.u64.wrap (bits .and .u8 x 127) * 2 ^ (7 * i))) = u + (x % 128) * 128 ^ i := by
          have hb := HXB.out; have h9 := HX9.out; have hI := HI.out
          rw [u8_and127 hb.1 (by omega), wraps_u64_64 (x % 128) (by omega) (by omega)]
          exact or7 hI.2.1 hI.2.2 (by omega) (by omega)
        have HU : Aside0 (0 ≤ u + (x % 128) * 128 ^ i ∧ u + (x % 128) * 128 ^ i < 128 ^ (i + 1)) := ⟨or7_bd HI.out.2.1 HI.out.2.2 (by omega) (by omega)⟩
        have HU6 : Aside0 (u + (x % 128) * 128 ^ i < 18446744073709551616) := ⟨by
          have hb := HXB.out; have h9 := HX9.out; have hI := HI.out
          rcases (by omega : i ≤ 8 ∨ (i = 9 ∧ x ≤ 1)) with h8 | ⟨h8, hx1⟩
          · have := HU.out.2
            have h2 : (128 : Int) ^ (i + 1) ≤ 128 ^ 9 := by exact_mod_cast Nat.pow_le_pow_right (by decide) (by omega : i + 1 ≤ 9)
            have h3 : (128 : Int) ^ 9 = 9223372036854775808 := by decide
            omega
          · subst h8
            have h3 : (128 : Int) ^ 9 = 9223372036854775808 := by decide
            rw [h3] at hI ⊢
            have : x % 128 ≤ 1 := by omega
            omega⟩
        by_cases h127 : 127 < x
        · have e3 : decide (x > 127) = true := decide_eq_true h127
          have hne : i ≠ 9 := by omega
          have e4 : ((i : Int) == 9) = false := beq_eq_false_iff_ne.2 (by omega)
          have HNX : Aside0 (dec 0 0 b = dec (i + 1) (u + (x % 128) * 128 ^ i) (b.drop (i + 1))) := ⟨by rw [HD.out, HDC.out, dec, if_neg h9, if_pos h127]⟩
          clear h9 h127
          go_wp2
          go_roundg k1
          case measure => omega
          case rel => exact ⟨i + 1, u + (x % 128) * 128 ^ i, rfl, (by first | rfl | exact congrArg _ eo), rfl, ⟨by have := HK.out; omega⟩, ⟨by omega, HU.out.1, HU.out.2⟩, HNX⟩
        · have e3 : decide (x > 127) = false := decide_eq_false h127
          by_cases h0 : x = 0 ∧ 0 < i
          · have HN : Aside0 (dec 0 0 b = none) := ⟨by rw [HD.out, HDC.out, dec, if_neg h9, if_neg h127, if_pos h0]⟩
            have e5 : decide ((i : Int) > 0) = true := decide_eq_true (by omega)
            have e6 : decide (0 < i) = true := decide_eq_true (by omega)
            have e6' : decide ((0 : Int) < (i : Int)) = true := decide_eq_true (by omega)
            have e7 : decide (x > 1) = false := decide_eq_false (by omega)
            have e7' : decide (1 < x) = false := decide_eq_false (by omega)
            have e8 : decide (127 < x) = false := decide_eq_false (by omega)
            have e9 : (x == 0) = true := beq_iff_eq.2 h0.1
            clear h9 h127 h0
            by_cases hi9' : i = 9
            · have e4 : ((i : Int) == 9) = true := beq_iff_eq.2 (by omega)
              clear hi9'
              go_wp2
              refine ⟨rfl, ?_⟩
              unfold NextPost; rw [HN.out]; exact ⟨rfl, rfl⟩
            · have e4 : ((i : Int) == 9) = false := beq_eq_false_iff_ne.2 (by omega)
              go_wp2
              refine ⟨rfl, ?_⟩
              unfold NextPost; rw [HN.out]; exact ⟨rfl, rfl⟩
          · have hxm : x % 128 = x := by have := HXB.out; omega
            have HN : Aside0 (dec 0 0 b = some (u + x * 128 ^ i, i + 1)) := ⟨by rw [HD.out, HDC.out, dec, if_neg h9, if_neg h127, if_neg h0]⟩
            have e8 : decide (127 < x) = false := decide_eq_false (by omega)
            have HE := Aside0.mk h0
            have b1 : ((i : Int) + 1 ≤ (b.length : Int)) = True := eq_true (by have := HI1.out; omega)
            have b2 : (i + 1 ≤ b.length) = True := eq_true (by have := HI1.out; omega)
            have b3 : (((i + 1 : Nat) : Int) ≤ (b.length : Int)) = True := eq_true (by have := HI1.out; omega)
            have b4 : (0 ≤ ((i + 1 : Nat) : Int)) = True := eq_true (by omega)
            rw [hxm] at eo HU HU6
            have hcase : (i = 9 ∧ x ≤ 1 ∧ x ≠ 0) ∨ (i ≠ 9 ∧ x = 0 ∧ i = 0) ∨ (i ≠ 9 ∧ x ≠ 0) := by omega
            have HV := Aside0.mk (unzz_walk HU.out.1 HU6.out)
            clear h9 h127 h0
            by_cases hc : c = i + 1
            all_goals first
                | (have hc' : (c = i + 1) = True := eq_true hc
                   clear hc)
                | (have hc' : (c = i + 1) = False := eq_false hc
                   clear hc)
            all_goals rcases hcase with ⟨h1, h2, h3⟩ | ⟨h1, h2, h3⟩ | ⟨h1, h3⟩
            all_goals first
              | (have e4 : ((i : Int) == 9) = true := beq_iff_eq.2 (by omega)
                 have e7 : decide (x > 1) = false := decide_eq_false (by omega)
                 have e7' : decide (1 < x) = false := decide_eq_false (by omega)
                 have e10 : (x == 0) = false := beq_eq_false_iff_ne.2 h3
                 clear h1 h2 h3)
              | (have e4 : ((i : Int) == 9) = false := beq_eq_false_iff_ne.2 (by omega)
                 have e10 : (x == 0) = true := beq_iff_eq.2 h2
                 have e11 : decide ((i : Int) > 0) = false := decide_eq_false (by omega)
                 have e11'' : decide (0 < i) = false := decide_eq_false (by omega)
                 have e11' : decide ((0 : Int) < (i : Int)) = false := decide_eq_false (by omega)
                 clear h1 h2 h3)
              | (have e4 : ((i : Int) == 9) = false := beq_eq_false_iff_ne.2 (by omega)
                 have e10 : (x == 0) = false := beq_eq_false_iff_ne.2 h3
                 clear h1 h3)
            all_goals go_wp2
            all_goals go_ret
            all_goals unfold NextPost
            all_goals rw [HN.out]
            all_goals exact ⟨congrArg (fun z => Ending.returned (.int .i64 z)) HV.out, by first | (simp [hc']; done) | (simp [hc']; rfl)⟩
@[local go_sem] theorem as70 (v : Value) (w : World) : (Instr.typeAssert (.iface 70 v) 20 70 true).run Try.prog w = .ok (.tuple #[v, .bool true]) w := by kernel_rfl
theorem res33 (t : Array Value) (w : World) : (results Try.f33 t).run Try.prog w = .ok (.tuple #[]) w := by first | kernel_rfl | rfl | simp [results, Try.results33, go_sem]
theorem caught_panicking (B2 B3 : Nat) (x0 y0 : Value) (older : List PanicEntry) (w : World) (hp : w.heap[B2]? = some (.cells #[x0] 22 (0, 0))) (hq : w.heap[B3]? = some (.cells #[y0] 25 (0, 0))) (hne : B3 ≠ B2) :
    CallsD Try.prog 33 #[.pointer (some ⟨B2, 0, none⟩), .pointer (some ⟨B3, 0, none⟩)] (.panicking ({ v := brk, recovered := false } :: older)) w fun e u' w' =>
      e = .returned (.tuple #[]) ∧ u' = .panicking ({ v := brk, recovered := true } :: older) ∧ w' = ((w.alloc (.cells #[] 70)).setCell ⟨B2, 0, none⟩ (.slice none 0 0)).setCell ⟨B3, 0, none⟩ (.int .i64 7) := by
  have lp : B2 < w.heap.size := (Array.getElem?_eq_some_iff.1 hp).1
  have lq : B3 < w.heap.size := (Array.getElem?_eq_some_iff.1 hq).1
  have hp1 : (w.alloc (.cells #[] 70)).heap[B2]? = some (.cells #[x0] 22 (0, 0)) := (Go.Deep.blk_alloc_lt _ _ _ lp).trans hp
  have hq1 : (w.alloc (.cells #[] 70)).heap[B3]? = some (.cells #[y0] 25 (0, 0)) := (Go.Deep.blk_alloc_lt _ _ _ lq).trans hq
  have hq2 : ((w.alloc (.cells #[] 70)).setCell ⟨B2, 0, none⟩ (.slice none 0 0)).heap[B3]? = some (.cells #[y0] 25 (0, 0)) := (Go.Deep.blk_setCell_other _ _ _ _ hne).trans hq1
  have cp : (w.alloc (.cells #[] 70)).cell? ⟨B2, 0, none⟩ = some x0 := (blk_cell hp1 0).trans rfl
  have fp := blk_frozen hp1 0
  have cq : ((w.alloc (.cells #[] 70)).setCell ⟨B2, 0, none⟩ (.slice none 0 0)).cell? ⟨B3, 0, none⟩ = some y0 := (blk_cell hq2 0).trans rfl
  have fq := blk_frozen hq2 0
  clear hp hq hne lp lq hp1 hq1 hq2
  refine callsD_of_wpS Try.func33 rfl fun c₀ cs hu => ?_
  apply wpS_seq
  apply wpS_region
  simp [wpOpsS, go_sem, recoverD, hu, Try.ntmps33, Exit.thenS]
  rw [show (#[Value.pointer (some ⟨B2, 0, none⟩), Value.pointer (some ⟨B3, 0, none⟩)] ++ (Array.replicate 15 undef).setIfInBounds 5 (Value.iface 70 (Value.agg #[])) : Array Value) = #[.pointer (some ⟨B2, 0, none⟩), .pointer (some ⟨B3, 0, none⟩), undef, undef, undef, undef, undef, .iface 70 (.agg #[]), undef, undef, undef, undef, undef, undef, undef, undef, undef] from rfl]
  refine wpS_of_wp ?_
  go_wp2
  cases c₀
  cases hu
  exact ⟨rfl, _, rfl, _, res33 _ _, rfl, rfl, rfl⟩
theorem caught_idle (p q : Addr) (w : World) :
    CallsD Try.prog 33 #[.pointer (some p), .pointer (some q)] .returning w fun e u' w' => e = .returned (.tuple #[]) ∧ u' = .returning ∧ w' = w := by
  refine callsD_of_wpS Try.func33 rfl fun c₀ cs hu => ?_
  apply wpS_seq
  apply wpS_region
  simp [wpOpsS, go_sem, recoverD, hu, Try.ntmps33, Exit.thenS]
  rw [show (#[Value.pointer (some p), Value.pointer (some q)] ++ (Array.replicate 15 undef).setIfInBounds 5 Value.nilIface : Array Value) = #[.pointer (some p), .pointer (some q), undef, undef, undef, undef, undef, Value.nilIface, undef, undef, undef, undef, undef, undef, undef, undef, undef] from rfl]
  refine wpS_of_wp ?_
  go_wp2
  cases c₀
  cases hu
  exact ⟨rfl, _, rfl, _, res33 _ _, rfl, rfl, rfl⟩
theorem drop_C {w : World} {A : Option Addr} {c : Nat} {b : List Int} {k : Nat} (hC : Kd.C (Kd.int .u8) w A b.length b) (hcap : b.length ≤ c) (hk : k ≤ b.length) :
    Kd.C (Kd.int .u8) w (if c = k then A else A.map (·.add k)) (b.drop k).length (b.drop k) := by
  obtain ⟨i0, hi, _, hsz, _⟩ := info_parts info5
  obtain ⟨A'', hrun, hreads, hl⟩ := print_drop_of (P := Try.prog) (Value.int .u8) 0 23 5 .i64 Try.underlying23 hi hsz A c b (k : Int) (by omega) (by omega) hcap
  have h1 := hrun w
  have h2 := Kd.C_of_reads (h1 := fun _ => rfl) (hreads _ (Kd.reads_of_C hC))
  rw [Int.toNat_natCast] at h1 h2
  have b1 : ((k : Int) ≤ (b.length : Int)) = True := eq_true (by omega)
  have e : A'' = (if c = k then A else A.map (·.add k)) := by
    simp [go_sem, hk, info5, Try.underlying23] at h1
    exact h1.symm
  rw [← e]; exact h2
theorem next34_box (Br : Nat) (A : Option Addr) (c : Nat) (b : List Int) (w : World) (hB : w.heap[Br]? = some (.cells #[.slice A b.length c] 62 (0, 0))) (hC : Kd.C (Kd.int .u8) w A b.length b) (hcap : b.length ≤ c) (hb : ∀ x ∈ b, 0 ≤ x ∧ x ≤ 255) :
    Calls Try.prog 34 #[.pointer (some ⟨Br, 0, none⟩)] w fun e w' => (dec 0 0 b = none ∧ e = .panicked [{ v := brk, recovered := false }] ∧ w' = w) ∨
      ∃ u k A' c', dec 0 0 b = some (u, k) ∧ k ≤ b.length ∧ e = .returned (.int .i64 (unzz u)) ∧ w' = w.setCell ⟨Br, 0, none⟩ (.slice A' (b.drop k).length c') ∧ (∀ w0, Kd.C (Kd.int .u8) w0 A b.length b → Kd.C (Kd.int .u8) w0 A' (b.drop k).length (b.drop k)) ∧ (b.drop k).length ≤ c' := by
  refine (next34_calls Br A c b w hB hC hcap hb).mono ?_
  intro e w' h
  unfold NextPost at h
  cases hd : dec 0 0 b with
  | none => rw [hd] at h; exact .inl ⟨rfl, h.1, h.2.symm⟩
  | some p =>
    obtain ⟨u, k⟩ := p
    rw [hd] at h
    have hk : k ≤ b.length := (vb_dec hb hd).2.2.2.1
    exact .inr ⟨u, k, _, c - k, rfl, hk, h.1, by rw [h.2, List.length_drop], fun _ hC => drop_C hC hcap hk, by rw [List.length_drop]; omega⟩
def GetPost (w : World) (r1 : List Int) (r2 : Int) (e : Ending) (w' : World) : Prop :=
  ∃ v0_ : Value, e = .returned (.tuple #[v0_, .int .i64 r2]) ∧ Kd.R (Kd.int .i64) 3 w' w.heap.size (fun _ => True) v0_ r1 ∧ Below w.heap.size w w'
theorem res21 (tmps : Array Value) (p q : Addr) (A : Option Addr) (n c : Nat) (E : Int) (W : World) (h2 : tmps[2]? = some (.pointer (some p))) (h3 : tmps[3]? = some (.pointer (some q))) (c2 : W.cell? p = some (.slice A n c)) (c3 : W.cell? q = some (.int .i64 E)) :
    (results Try.f21 tmps).run Try.prog W = .ok (.tuple #[.slice A n c, .int .i64 E]) W := by
  simp [results, Try.results21, go_sem, h2, h3, c2, c3, Array.getD_eq_getD_getElem?]
abbrev caughtD (B2 B3 : Nat) : Deferred := { target := .fn (Fn.func 33) #[], args := #[.pointer (some ⟨B2, 0, none⟩), .pointer (some ⟨B3, 0, none⟩)] }
theorem get_caught (tmps : Array Value) (B2 B3 : Nat) (x0 y0 : Value) (w W : World) (h2 : tmps[2]? = some (.pointer (some ⟨B2, 0, none⟩))) (h3 : tmps[3]? = some (.pointer (some ⟨B3, 0, none⟩)))
    (hp : W.heap[B2]? = some (.cells #[x0] 22 (0, 0))) (hq : W.heap[B3]? = some (.cells #[y0] 25 (0, 0))) (hne : B3 ≠ B2) (l2 : w.heap.size ≤ B2) (l3 : w.heap.size ≤ B3) (hb : Below w.heap.size w W) :
    Leaves Try.prog Try.f21 tmps (GetPost w [] 7) [caughtD B2 B3] (.panicking [{ v := brk, recovered := false }]) W := by
  refine leaves_cons (f := 33) (args := #[.pointer (some ⟨B2, 0, none⟩), .pointer (some ⟨B3, 0, none⟩)]) (by simp) (by simp [go_sem]) ?_
  refine (caught_panicking B2 B3 x0 y0 [] W hp hq hne).mono ?_
  rintro e u' w'' ⟨rfl, rfl, rfl⟩
  have lp : B2 < W.heap.size := (Array.getElem?_eq_some_iff.1 hp).1
  have lq : B3 < W.heap.size := (Array.getElem?_eq_some_iff.1 hq).1
  have hp1 : (W.alloc (.cells #[] 70)).heap[B2]? = some (.cells #[x0] 22 (0, 0)) := (Go.Deep.blk_alloc_lt _ _ _ lp).trans hp
  have hq1 : (W.alloc (.cells #[] 70)).heap[B3]? = some (.cells #[y0] 25 (0, 0)) := (Go.Deep.blk_alloc_lt _ _ _ lq).trans hq
  refine ⟨_, res21 tmps _ _ none 0 0 7 _ h2 h3 ?_ ?_, _, rfl, Kd.R_nil _ _ _ _ _, ?_⟩
  · simp [go_sem, hne, Ne.symm hne, blk_cell hp1 0]
  · simp [go_sem, hne, Ne.symm hne, blk_cell hq1 0]
  · exact below_set (below_set (below_alloc hb _) l2) l3
theorem get_idle (tmps : Array Value) (B2 B3 : Nat) (A : Option Addr) (n c : Nat) (E : Int) (r1 : List Int) (w W : World) (h2 : tmps[2]? = some (.pointer (some ⟨B2, 0, none⟩))) (h3 : tmps[3]? = some (.pointer (some ⟨B3, 0, none⟩)))
    (c2 : W.cell? ⟨B2, 0, none⟩ = some (.slice A n c)) (c3 : W.cell? ⟨B3, 0, none⟩ = some (.int .i64 E)) (hR : Kd.R (Kd.int .i64) 3 W w.heap.size (fun _ => True) (.slice A n c) r1) (hb : Below w.heap.size w W) :
    Leaves Try.prog Try.f21 tmps (GetPost w r1 E) [caughtD B2 B3] .returning W := by
  refine leaves_cons (f := 33) (args := #[.pointer (some ⟨B2, 0, none⟩), .pointer (some ⟨B3, 0, none⟩)]) (by simp) (by simp [go_sem]) ?_
  refine (caught_idle ⟨B2, 0, none⟩ ⟨B3, 0, none⟩ W).mono ?_
  rintro e u' w'' ⟨rfl, rfl, rfl⟩
  exact ⟨_, res21 tmps _ _ A n c E _ h2 h3 c2 c3, _, rfl, hR, hb⟩
theorem two_stores (W : World) (B2 B3 : Nat) (x0 y0 v u : Value) (hp : W.heap[B2]? = some (.cells #[x0] 22 (0, 0))) (hq : W.heap[B3]? = some (.cells #[y0] 25 (0, 0))) (hne : B3 ≠ B2) :
    W.cell? ⟨B2, 0, none⟩ = some x0 ∧ W.frozen? ⟨B2, 0, none⟩ = false ∧ (W.setCell ⟨B2, 0, none⟩ v).cell? ⟨B3, 0, none⟩ = some y0 ∧ (W.setCell ⟨B2, 0, none⟩ v).frozen? ⟨B3, 0, none⟩ = false ∧
      ((W.setCell ⟨B2, 0, none⟩ v).setCell ⟨B3, 0, none⟩ u).cell? ⟨B2, 0, none⟩ = some v ∧ ((W.setCell ⟨B2, 0, none⟩ v).setCell ⟨B3, 0, none⟩ u).cell? ⟨B3, 0, none⟩ = some u := by
  have hq2 : (W.setCell ⟨B2, 0, none⟩ v).heap[B3]? = some (.cells #[y0] 25 (0, 0)) := blk_far hq hne v
  have hp2 : (W.setCell ⟨B2, 0, none⟩ v).heap[B2]? = some (.cells #[v] 22 (0, 0)) := blk_set hp 0 v
  exact ⟨(blk_cell hp 0).trans rfl, blk_frozen hp 0, (blk_cell hq2 0).trans rfl, blk_frozen hq2 0, (blk_cell (blk_far hp2 (Ne.symm hne) u) 0).trans rfl, (blk_cell (blk_set hq2 0 u) 0).trans rfl⟩
structure GW (w W : World) (A : Option Addr) (c : Nat) (l : List Int) (A' : Option Addr) (c' : Nat) (b' : List Int) : Prop where
  h2 : W.heap[w.heap.size]? = some (.cells #[.slice A l.length c] 22 (0, 0))
  h3 : W.heap[w.heap.size + 1]? = some (.cells #[.int .i64 0] 25 (0, 0))
  h4 : W.heap[w.heap.size + 1 + 1]? = some (.cells #[.slice A' b'.length c'] 62 (0, 0))
  hR : Kd.R (Kd.int .i64) 3 W (w.heap.size + 1 + 1 + 1) (fun _ => True) (.slice A l.length c) l
  hC : Kd.C (Kd.int .u8) w A' b'.length b'
  hcap : b'.length ≤ c'
  hby : ∀ x ∈ b', 0 ≤ x ∧ x ≤ 255
  hB : Below w.heap.size w W
  hS : w.heap.size + 1 + 1 + 1 ≤ W.heap.size
theorem GW.read {w W : World} {A : Option Addr} {c : Nat} {l : List Int} {A' : Option Addr} {c' : Nat} {b' : List Int} (h : GW w W A c l A' c' b') {A1 : Option Addr} {c1 k : Nat}
    (hC : ∀ w0, Kd.C (Kd.int .u8) w0 A' b'.length b' → Kd.C (Kd.int .u8) w0 A1 (b'.drop k).length (b'.drop k)) (hc : (b'.drop k).length ≤ c1) : GW w (W.setCell ⟨w.heap.size + 1 + 1, 0, none⟩ (.slice A1 (b'.drop k).length c1)) A c l A1 c1 (b'.drop k) :=
  ⟨blk_far h.h2 (by show w.heap.size ≠ w.heap.size + 1 + 1; omega) _, blk_far h.h3 (by show w.heap.size + 1 ≠ w.heap.size + 1 + 1; omega) _, blk_set h.h4 0 _, Kd.R_set h.hR h.h4 (by decide) 0 _, hC _ h.hC, hc, fun x hx => h.hby x (List.drop_subset _ _ hx), below_set h.hB (by omega), by simpa [World.setCell] using h.hS⟩
theorem GW.drew {w W : World} {A : Option Addr} {c : Nat} {l : List Int} {A' : Option Addr} {c' : Nat} {b' : List Int} (h : GW w W A c l A' c' b') : GW w W.drew A c l A' c' b' :=
  ⟨h.h2, h.h3, h.h4, Kd.R_drew h.hR, h.hC, h.hcap, h.hby, below_drew h.hB, h.hS⟩
theorem GW.grown {w W W1 : World} {A : Option Addr} {c : Nat} {l : List Int} {A' : Option Addr} {c' : Nat} {b' : List Int} (h : GW w W A c l A' c' b') {A2 : Option Addr} {c2 : Nat} {l2 : List Int}
    (hb : Below (w.heap.size + 1 + 1 + 1) W W1) (hR : Kd.R (Kd.int .i64) 3 W1 (w.heap.size + 1 + 1 + 1) (fun _ => True) (.slice A2 l2.length c2) l2) : GW w (W1.setCell ⟨w.heap.size, 0, none⟩ (.slice A2 l2.length c2)) A2 c2 l2 A' c' b' := by
  have g2 := (hb.block w.heap.size (by omega)).trans h.h2
  have g3 := (hb.block (w.heap.size + 1) (by omega)).trans h.h3
  have g4 := (hb.block (w.heap.size + 1 + 1) (by omega)).trans h.h4
  have hs : W.heap.size ≤ W1.heap.size := hb.size
  refine ⟨blk_set g2 0 _, blk_far g3 (by show w.heap.size + 1 ≠ w.heap.size; omega) _, blk_far g4 (by show w.heap.size + 1 + 1 ≠ w.heap.size; omega) _, Kd.R_set hR g2 (by decide) 0 _, h.hC, h.hcap, h.hby, ?_, ?_⟩
  · exact below_set (h.hB.trans (hb.mono (by omega))) (Nat.le_refl _)
  · have := h.hS; simp only [World.setCell]; simpa using Nat.le_trans this hs
def orP (PQ : List PanicEntry → Act → World → Prop) (Q : Exit → Act → World → Prop) : Exit → Act → World → Prop
  | .panic ch, a, w => PQ ch a w
  | e, a, w => Q e a w
theorem wp_weak {P : Program} {c : Code} {Q : Exit → Act → World → Prop} {a : Act} {w : World} (PQ : List PanicEntry → Act → World → Prop) (hp : ∀ ch a w, PQ ch a w → Q (.panic ch) a w) (h : c.wp P (orP PQ Q) a w) : c.wp P Q a w := by
  intro b k cs
  obtain ⟨e, a', w', q, r⟩ := h b k cs
  refine ⟨e, a', w', ?_, r⟩
  cases e <;> first | exact hp _ _ _ q | exact q
theorem callp_ {P : Program} {ops : Array Oper} {Q : Exit → Act → World → Prop} {oi : Oper} {N : Option Tmp} {a : Act} {w : World} {K : Act → World → Prop} (f : FuncId) (args : Array Value) (hw : Region.wanted oi (yielded ops a.tmps) = true) (hN : oi.dst = N) (hrun : (execOp a.eval oi).run P w = .ok (.enter f args) w)
    (h : Calls P f args w fun e w' => (∃ v, e = .returned v ∧ K (a.put N v) w') ∨ (∃ ch, e = .panicked ch ∧ Q (.panic ch) a w')) : if Region.wanted oi (yielded ops a.tmps) = true then Oper.wp P oi a w K Q else K (a.put N undef) w := by
  rw [if_pos hw]
  subst hN
  unfold Oper.wp
  rw [hrun, Oper.upon_enter]
  refine h.mono fun e w'' hh => ?_
  rcases hh with ⟨v, rfl, hk⟩ | ⟨ch, rfl, hk⟩ <;> exact hk
def PQ (w : World) (r1 : List Int) (r2 : Int) (ch : List PanicEntry) (a : Act) (W : World) : Prop :=
  r1 = [] ∧ r2 = 7 ∧ ch = [{ v := brk, recovered := false }] ∧ a.defers = [caughtD w.heap.size (w.heap.size + 1)] ∧ a.tmps[2]? = some (.pointer (some ⟨w.heap.size, 0, none⟩)) ∧ a.tmps[3]? = some (.pointer (some ⟨w.heap.size + 1, 0, none⟩)) ∧
    (∃ x0, W.heap[w.heap.size]? = some (.cells #[x0] 22 (0, 0))) ∧ (∃ y0, W.heap[w.heap.size + 1]? = some (.cells #[y0] 25 (0, 0))) ∧ Below w.heap.size w W
theorem PQ.leaves {w W : World} {r1 : List Int} {r2 : Int} {ch : List PanicEntry} {a : Act} (h : PQ w r1 r2 ch a W) : Leaves Try.prog Try.f21 a.tmps (GetPost w r1 r2) a.defers (.panicking ch) W := by
  obtain ⟨rfl, rfl, rfl, hd, h2, h3, ⟨x0, hp⟩, ⟨y0, hq⟩, hb⟩ := h
  rw [hd]
  exact get_caught a.tmps _ _ x0 y0 w W h2 h3 hp hq (by omega) (Nat.le_refl _) (by omega) hb
theorem PQ.put {w W : World} {r1 : List Int} {r2 : Int} {ch : List PanicEntry} {a : Act} {N : Nat} {v : Value} (h : PQ w r1 r2 ch (a.put (some N) v) W) (hN : 3 < N) : PQ w r1 r2 ch a W := by
  obtain ⟨e1, e2, e3, hd, h2, h3, h4⟩ := h
  refine ⟨e1, e2, e3, hd, ?_, ?_, h4⟩
  · rw [← h2]; simp only [Act.put]; rw [Array.getElem?_setIfInBounds_ne (by omega)]
  · rw [← h3]; simp only [Act.put]; rw [Array.getElem?_setIfInBounds_ne (by omega)]
theorem szA (w : World) (o : Obj) : (w.alloc o).heap.size = w.heap.size + 1 := by simp
theorem orP_normal {PQ : List PanicEntry → Act → World → Prop} {Q : Exit → Act → World → Prop} {a : Act} {w : World} (h : Q .normal a w) : orP PQ Q .normal a w := h
def codec_Get.f (b : List Int) : Option (List Int × Int) :=
  if b.all (fun x => decide (0 ≤ x) && decide (x ≤ 255)) then (match getL b with | some l => some (l, 0) | none => some ([], 7)) else none
set_option maxRecDepth 100000 in
set_option maxHeartbeats 1000000 in
theorem codec_Get.calls (A0 : Option Addr) (c0 : Nat) (l0 : List Int) (r1 : List Int) (r2 : Int) (w : World) (hr0 : Kd.C (Kd.int .u8) w A0 l0.length l0) (hc0 : l0.length ≤ c0) (h : codec_Get.f l0 = some (r1, r2)) :
    Calls Try.prog 21 #[.slice A0 l0.length c0] w fun e w' => ∃ v0_ : Value, e = .returned (.tuple #[v0_, .int .i64 r2]) ∧ Kd.R (Kd.int .i64) 3 w' w.heap.size (fun _ => True) v0_ r1 ∧ Below w.heap.size w w' := by
  show Calls Try.prog 21 #[.slice A0 l0.length c0] w (GetPost w r1 r2)
  have hby : ∀ x ∈ l0, 0 ≤ x ∧ x ≤ 255 := by
    unfold codec_Get.f at h
    by_cases ha : (l0.all (fun x => decide (0 ≤ x) && decide (x ≤ 255))) = true
    · intro x hx
      have := List.all_eq_true.1 ha x hx
      simpa using this
    · rw [if_neg ha] at h; cases h
  have hget : (match getL l0 with | some l => some (l, (0 : Int)) | none => some ([], 7)) = some (r1, r2) := by
    unfold codec_Get.f at h
    by_cases ha : (l0.all (fun x => decide (0 ≤ x) && decide (x ≤ 255))) = true
    · rwa [if_pos ha] at h
    · rw [if_neg ha] at h; cases h
  have HGET := Aside0.mk hget
  have HBY := Aside0.mk hby
  have HC := Aside0.mk hr0
  have HCAP := Aside0.mk hc0
  clear h hget hby hr0 hc0
  have hmf : ∀ (fn : Fn) (first cap : Array Value) (w : World), (Instr.makeFunc fn first cap).run Try.prog w = .ok (.func fn first cap) w := fun _ _ _ _ => rfl
  go_enter_defers Try.func21, Try.ntmps21
  go_upto_region 3 with (fail)
  obtain ⟨W, hW⟩ : ∃ W, (((w.alloc (Obj.cells #[Value.slice none 0 0] 22)).alloc (Obj.cells #[Value.int IntKind.i64 0] 25)).alloc (Obj.cells #[Value.slice A0 l0.length c0] 62)) = W := ⟨_, rfl⟩
  rw [hW]
  have sz : W.heap.size = w.heap.size + 1 + 1 + 1 := by rw [← hW, szA, szA, szA]
  have HSZ := Aside0.mk sz
  have H2 : Aside0 (W.heap[w.heap.size]? = some (.cells #[.slice none 0 0] 22 (0, 0))) := ⟨by
    rw [← hW, Go.Deep.blk_alloc_lt _ _ _ (by simp only [szA]; omega), Go.Deep.blk_alloc_lt _ _ _ (by simp only [szA]; omega), Go.Deep.blk_alloc_new]⟩
  have H3 : Aside0 (W.heap[w.heap.size + 1]? = some (.cells #[.int .i64 0] 25 (0, 0))) := ⟨by
    rw [← hW, Go.Deep.blk_alloc_lt _ _ _ (by simp only [szA]; omega)]
    have e : w.heap.size + 1 = (w.alloc (Obj.cells #[Value.slice none 0 0] 22)).heap.size := by rw [szA]
    rw [e, Go.Deep.blk_alloc_new]⟩
  have H4 : Aside0 (W.heap[w.heap.size + 1 + 1]? = some (.cells #[.slice A0 l0.length c0] 62 (0, 0))) := ⟨by
    have e : w.heap.size + 1 + 1 = ((w.alloc (Obj.cells #[Value.slice none 0 0] 22)).alloc (Obj.cells #[Value.int IntKind.i64 0] 25)).heap.size := by rw [szA, szA]
    rw [← hW, e, Go.Deep.blk_alloc_new]⟩
  have HBW : Aside0 (Below w.heap.size w W) := ⟨by rw [← hW]; exact below_alloc (below_alloc (below_alloc (Below.refl _ _) _) _) _⟩
  have HG0 : Aside0 (GW w W none 0 [] A0 c0 l0) := ⟨⟨H2.out, H3.out, H4.out, Kd.R_nil _ _ _ _ _, HC.out, HCAP.out, HBY.out, HBW.out, by have := HSZ.out; omega⟩⟩
  clear hW sz HSZ H2 H3 H4 HBW HC HCAP HBY
  go_upto_region 4 with (first | (go_at_call 34; (with_reducible refine (next34_box (w.heap.size + 1 + 1) A0 c0 l0 W HG0.out.h4 (Kd.C_below HG0.out.hC HG0.out.hB) HG0.out.hcap HG0.out.hby).mono ?_); rintro e w' (⟨hd, rfl, rfl⟩ | ⟨u, k, A1, c1, hd, hk, rfl, rfl, hC1, hc1⟩)))
  · have hg := HGET.out
    unfold getL at hg
    rw [hd] at hg
    obtain ⟨rfl, rfl⟩ : [] = r1 ∧ 7 = r2 := by simpa using hg
    exact get_caught _ _ _ _ _ w _ rfl rfl HG0.out.h2 HG0.out.h3 (by omega) (Nat.le_refl _) (by omega) HG0.out.hB
  have HG := Aside0.mk (HG0.out.read hC1 hc1)
  have HD := Aside0.mk hd
  clear HG0 hC1 hc1 hd hk
  simp only [List.length_drop] at HG ⊢
  generalize World.setCell _ _ _ = W1 at HG ⊢
  obtain ⟨b1, hb1⟩ : ∃ b1, l0.drop k = b1 := ⟨_, rfl⟩
  rw [hb1] at HG
  have HGET2 : Aside0 ((match (if unzz u < 0 ∨ 4000 < unzz u then none else match decs (unzz u).toNat b1 with | none => none | some (l, r) => if r = [] then some l else none) with | some l => some (l, (0 : Int)) | none => some ([], 7)) = some (r1, r2)) := ⟨by
    have hg := HGET.out
    unfold getL at hg
    rw [HD.out] at hg
    simp only [hb1] at hg
    exact hg⟩
  clear HGET HD hb1
  by_cases hneg : unzz u < 0 ∨ 4000 < unzz u
  · have hg := HGET2.out
    rw [if_pos hneg] at hg
    obtain ⟨rfl, rfl⟩ : [] = r1 ∧ 7 = r2 := by simpa using hg
    obtain ⟨s1, s2, s3, s4, s5, s6⟩ := two_stores W1 w.heap.size (w.heap.size + 1) _ _ (.slice none 0 0) (.int .i64 7) HG.out.h2 HG.out.h3 (by omega)
    have s5' := Aside0.mk s5
    have s6' := Aside0.mk s6
    clear s5 s6 hg HGET2
    obtain ⟨z, hz⟩ : ∃ z, unzz u = z := ⟨_, rfl⟩
    rw [hz] at hneg ⊢
    have HNEG := Aside0.mk hneg
    clear hneg hz
    by_cases h1 : z < 0
    · have d1 : decide (z < 0) = true := decide_eq_true h1
      clear h1
      go_wp2
      show Leaves _ _ _ _ _ _ _
      refine get_idle _ _ _ none 0 0 7 [] w _ ?_ ?_ s5'.out s6'.out (Kd.R_nil _ _ _ _ _) (below_set (below_set HG.out.hB (Nat.le_refl _)) (by omega)) <;> rfl
    · have d1 : decide (z < 0) = false := decide_eq_false h1
      have d2 : decide (z > 4000) = true := decide_eq_true (by have := HNEG.out; omega)
      have d3 : decide (4000 < z) = true := decide_eq_true (by have := HNEG.out; omega)
      clear h1
      go_wp2
      show Leaves _ _ _ _ _ _ _
      refine get_idle _ _ _ none 0 0 7 [] w _ ?_ ?_ s5'.out s6'.out (Kd.R_nil _ _ _ _ _) (below_set (below_set HG.out.hB (Nat.le_refl _)) (by omega)) <;> rfl
  obtain ⟨n, hn⟩ : ∃ n : Nat, unzz u = (n : Int) := ⟨(unzz u).toNat, by omega⟩
  have HGD : Aside0 ((match (match decs n b1 with | none => none | some (l, r) => if r = [] then some l else none) with | some l => some (l, (0 : Int)) | none => some ([], 7)) = some (r1, r2)) := ⟨by
    have hg := HGET2.out
    rw [if_neg hneg, hn, Int.toNat_natCast] at hg
    exact hg⟩
  have HN : Aside0 (n ≤ 4000) := ⟨by omega⟩
  rw [hn]
  have d1 : decide ((n : Int) < 0) = false := decide_eq_false (by omega)
  have d2 : decide ((n : Int) > 4000) = false := decide_eq_false (by omega)
  have d3 : decide (4000 < n) = false := decide_eq_false (by omega)
  have d4 : decide ((4000 : Int) < (n : Int)) = false := decide_eq_false (by omega)
  clear hneg hn HGET2
  go_wp2
  clear d1 d2 d3 d4
  go_loopg [16] n (fun kq v16 w' => ∃ (i : Nat) (l : List Int) (A : Option Addr) (c : Nat) (b' : List Int) (A' : Option Addr) (c' : Nat), v16 = .int .i64 (i : Int) ∧ Aside0 (kq + i = n ∧ l.length = i) ∧ Aside0 (GW w w' A c l A' c' b') ∧ Aside0 (decs n b1 = match decs (n - i) b' with | none => none | some (l', r) => some (l ++ l', r)))
  case atStart => exact ⟨0, [], none, 0, b1, _, _, rfl, ⟨by simp⟩, HG, ⟨by
    rw [Nat.sub_zero]
    cases decs n b1 with
    | none => rfl
    | some q => rfl⟩⟩
  case round =>
    obtain ⟨i, l, A, c, b', A', c', rfl, HK, HG, HDEC⟩ := hrel
    cases gk with
    | zero =>
      obtain rfl : i = n := by have := HK.out; omega
      have d0 : decide ((i : Int) < (i : Int)) = false := by simp
      have hg := HGD.out
      rw [HDEC.out, Nat.sub_self, decs] at hg
      simp only [List.append_nil] at hg
      have cb : wr.cell? ⟨w.heap.size + 1 + 1, 0, none⟩ = some (.slice A' b'.length c') := (blk_cell HG.out.h4 0).trans rfl
      by_cases hb : b' = []
      · rw [if_pos hb] at hg
        obtain ⟨rfl, rfl⟩ : l = r1 ∧ 0 = r2 := by simpa using hg
        subst hb
        obtain ⟨s1, s2, s3, s4, s5, s6⟩ := two_stores _ w.heap.size (w.heap.size + 1) _ _ (.slice A l.length c) (.int .i64 0) HG.out.h2 HG.out.h3 (by omega)
        have s5' := Aside0.mk s5
        have s6' := Aside0.mk s6
        clear s5 s6 hg
        have cb0 : wr.cell? ⟨w.heap.size + 1 + 1, 0, none⟩ = some (.slice A' 0 c') := (blk_cell HG.out.h4 0).trans rfl
        go_wp2
        have hR := Kd.R_lower (Kd.R_set (Kd.R_set HG.out.hR HG.out.h2 (by decide) 0 (.slice A l.length c)) (blk_far HG.out.h3 (by show w.heap.size + 1 ≠ w.heap.size; omega) _) (by decide) 0 (.int .i64 0)) (by omega : w.heap.size ≤ w.heap.size + 1 + 1 + 1)
        show Leaves _ _ _ _ _ _ _
        refine get_idle _ _ _ A l.length c 0 l w _ ?_ ?_ s5'.out s6'.out hR (below_set (below_set HG.out.hB (Nat.le_refl _)) (by omega)) <;> rfl
      · rw [if_neg hb] at hg
        obtain ⟨rfl, rfl⟩ : [] = r1 ∧ 7 = r2 := by simpa using hg
        obtain ⟨s1, s2, s3, s4, s5, s6⟩ := two_stores _ w.heap.size (w.heap.size + 1) _ _ (.slice none 0 0) (.int .i64 7) HG.out.h2 HG.out.h3 (by omega)
        have s5' := Aside0.mk s5
        have s6' := Aside0.mk s6
        have hl : 0 < b'.length := List.length_pos_iff.2 hb
        have e1 : decide ((b'.length : Int) > 0) = true := decide_eq_true (by omega)
        have e2 : decide ((0 : Int) < (b'.length : Int)) = true := decide_eq_true (by omega)
        have e3 : decide (0 < b'.length) = true := decide_eq_true hl
        clear s5 s6 hg hb hl
        go_wp2
        show Leaves _ _ _ _ _ _ _
        refine get_idle _ _ _ none 0 0 7 [] w _ ?_ ?_ s5'.out s6'.out (Kd.R_nil _ _ _ _ _) (below_set (below_set HG.out.hB (Nat.le_refl _)) (by omega)) <;> rfl
    | succ k1 =>
      have d0 : decide ((i : Int) < (n : Int)) = true := decide_eq_true (by have := HK.out; omega)
      have d0' : decide (i < n) = true := decide_eq_true (by have := HK.out; omega)
      have hsum : IntKind.i64.wrap ((i : Int) + 1) = ((i + 1 : Nat) : Int) := by have := HK.out; have := HN.out; exact IntWalk.i64_in _ (by omega)
      have hsum2 : wrap64 ((i : Int) + 1) = ((i + 1 : Nat) : Int) := by have := HK.out; have := HN.out; unfold wrap64; omega
      go_upto_region 8 with (fail)
      clear d0 d0'
      refine wp_weak (PQ w r1 r2) (fun ch a W h => h.leaves) ?_
      refine start_ (n := 5) (S := fun w' => w'.cell? ⟨w.heap.size, 0, none⟩ = some (.slice A l.length c)) (ds := [3, 4]) #[false, false, false, false, false] (by kernel_rfl) rfl rfl ((blk_cell HG.out.drew.h2 0).trans rfl) (fun hHeld => ?_)
      have HG1 := Aside0.mk HG.out.drew
      clear HG
      generalize World.drew _ = wd at HG1 hHeld ⊢
      refine take_ (i := 0) (N := some 18) (v := ?_) (a' := ?_) #[true, false, false, false, false] rfl rfl (by kernel_rfl) (fun _ _ _ h => h.put (by decide)) (Or.inl ⟨by rfl, ?_⟩) hHeld ?_ ?_
      rotate_left
      · rintro w' s0
        go_simp
        with_reducible rfl
      rotate_left
      · simp only [Act.put, List.setIfInBounds_toArray, List.set_cons_zero, List.set_cons_succ, i64_w, i32_w]
        rfl
      refine one_ (i := 1) (N := some 19) #[true, true, false, false, false] rfl rfl (by kernel_rfl) (by decide) (fun K hK => ?_)
      refine callp_ 34 #[.pointer (some ⟨w.heap.size + 1 + 1, 0, none⟩)] (by rfl) rfl (by go_simp) ?_
      refine (next34_box _ A' c' b' wd HG1.out.h4 (Kd.C_below HG1.out.hC HG1.out.hB) HG1.out.hcap HG1.out.hby).mono ?_
      rintro e w' (⟨hd, rfl, rfl⟩ | ⟨u2, k2, A1, c1, hd, hk, rfl, rfl, hC1, hc1⟩)
      · refine .inr ⟨_, rfl, ?_⟩
        have hn : decs n b1 = none := by rw [HDEC.out, show n - i = k1 + 1 by have := HK.out; omega, decs, hd]
        have hg := HGD.out
        rw [hn] at hg
        obtain ⟨rfl, rfl⟩ : [] = r1 ∧ 7 = r2 := by simpa using hg
        exact ⟨rfl, rfl, rfl, rfl, rfl, rfl, ⟨_, HG1.out.h2⟩, ⟨_, HG1.out.h3⟩, HG1.out.hB⟩
      refine .inl ⟨_, rfl, ?_⟩
      have HG2 := Aside0.mk (HG1.out.read hC1 hc1)
      have HDC2 : Aside0 (decs (k1 + 1) b' = match decs k1 (b'.drop k2) with | none => none | some (l', r) => some (unzz u2 :: l', r)) := ⟨by rw [decs, hd]; rfl⟩
      clear HG1 hC1 hc1 hd hk
      refine hK.out _ _ ((blk_cell HG2.out.h2 0).trans rfl) (fun hHeld => ?_)
      clear hK K
      refine norm_ (a' := ?_) ?_ ?_
      rotate_left
      · show Act.put _ (some 19) _ = _
        simp only [Act.put, List.setIfInBounds_toArray, List.set_cons_zero, List.set_cons_succ, i64_w, i32_w]
        rfl
      generalize World.setCell _ _ _ = wx at HG2 hHeld ⊢
      generalize b'.drop k2 = bx at HG2 HDC2
      refine one_ (i := 2) (N := some 20) #[true, true, true, false, false] rfl rfl (by kernel_rfl) (by decide) (fun K hK => ?_)
      refine value_ (w1 := ?_) (v := ?_) (by rfl) rfl ?_ ?_
      rotate_left 2
      · go_simp
        constructor
        · rfl
        · rfl
      refine hK.out _ _ ((blk_cell (blk_alloc HG2.out.h2 _) 0).trans rfl) (fun hHeld => ?_)
      clear hK K
      refine norm_ (a' := ?_) ?_ ?_
      rotate_left
      · show Act.put _ (some 20) _ = _
        simp only [Act.put, List.setIfInBounds_toArray, List.set_cons_zero, List.set_cons_succ, i64_w, i32_w]
        rfl
      refine last_ (i := 3) (N := some 21) #[true, true, true, true, false] rfl rfl (by kernel_rfl) (by decide) (fun K hK => ?_)
      refine Kd.R_append_step (Kd.int .i64) (w0 := wx) (w.heap.size + 1 + 1 + 1) (by rfl) (.tmp 18) (.tmp 20) 22 3 (.int .i64 0) 8 rfl Try.underlying22 info3 rfl (by decide) (by omega) _ l (unzz u2) [.int .i64 (unzz u2)] (fun _ => True) (fun _ => False) rfl rfl rfl (fun _ hk => hk.elim) (fun _ _ => trivial) HG2.out.hR (Below.refl _ _) HG2.out.hS (by have := HK.out; have := HN.out; omega) ?_
      intro v1 w1 ho hb hg hat
      obtain ⟨A2, c2, rfl⟩ := Kd.R_slice ho
      have HG3 := Aside0.mk (HG2.out.grown hb ho)
      have g2 := (hb.block w.heap.size (by omega)).trans HG2.out.h2
      have cc := (blk_cell g2 0).trans rfl
      have fc := blk_frozen g2 0
      have HA := Aside0.mk g2
      clear ho hb hg hat HG2 g2
      refine hK.out _ _ ?_
      clear hK K
      refine norm_ (a' := ?_) ?_ ?_
      rotate_left
      · show Act.put _ (some 21) _ = _
        simp only [Act.put, List.setIfInBounds_toArray, List.set_cons_zero, List.set_cons_succ, i64_w, i32_w]
        rfl
      refine last_ (i := 4) (N := none) #[true, true, true, true, true] rfl rfl (by kernel_rfl) (by decide) (fun K hK => ?_)
      refine skip_ (w1 := w1.setCell ⟨w.heap.size, 0, none⟩ (.slice A2 (l ++ [unzz u2]).length c2)) (by rfl) rfl (by go_simp) ?_
      refine hK.out _ _ ?_
      clear hK K
      refine done_ (by kernel_rfl) ?_
      refine orP_normal ?_
      clear cc fc
      go_wp2
      go_roundg k1
      case measure => omega
      case rel =>
        refine ⟨i + 1, l ++ [unzz u2], A2, c2, bx, _, _, by simp [hsum, hsum2], ⟨by have := HK.out; simp; omega⟩, (by have h := HG3; simp only [List.length_append, List.length_cons, List.length_nil, Nat.zero_add] at h; exact h), ⟨?_⟩⟩
        rw [HDEC.out, show n - i = k1 + 1 by have := HK.out; omega, HDC2.out, show n - (i + 1) = k1 by have := HK.out; omega]
        cases decs k1 bx with
        | none => rfl
        | some q => simp
end Go.Proofs.Ytpggngomdemdgaa.P
