import Derived.Test.YtaclpkcoaifjfaaHPosI
import Derived.OpenShut
set_option linter.unusedVariables false
set_option linter.unusedSimpArgs false
namespace Go.Proofs.Ytaclpkcoaifjfaa.P
open Go.RowKit Go.Proofs.YtaclpkcoaifjfaaW.PrintWords Go.Proofs.YtaclpkcoaifjfaaW.PrintLast Go.Proofs.YtaclpkcoaifjfaaW.PrintMore
attribute [local go_sem] Oper.semAt_some
theorem lenP_of {n : Int} (h0 : 0 ≤ n) (h1 : n ≤ 1000000000) : lenP n = true := by simp [lenP, h0, h1]
theorem mod_bd {n : Int} (m : Int) (hm : 0 < m) (hw : (Lit.int .u32 n).wf = true) : 0 ≤ n.tmod m ∧ n.tmod m < m ∧ n.tmod m ≤ n := by
  have hb := bounds_u32 hw
  rw [Int.tmod_eq_emod_of_nonneg hb.1]
  have h1 := Int.emod_nonneg n (by omega : m ≠ 0)
  have h2 := Int.emod_lt_of_pos n hm
  have h3 := Int.mul_ediv_add_emod n m
  have h4 : 0 ≤ n / m := Int.ediv_nonneg hb.1 (by omega)
  have h5 : 0 ≤ m * (n / m) := Int.mul_nonneg (by omega) h4
  exact ⟨h1, h2, by omega⟩
theorem stick_plain {F AT HI UN TP SC : Int} (h0 : 0 ≤ F) (h1 : F ≤ AT) (h2 : AT ≤ 400000000) (h3 : 0 ≤ HI) (h4 : AT + HI ≤ UN) (h5 : UN ≤ 900000000) (h6 : 0 ≤ TP) (h7 : TP ≤ 900000000) (h8 : 0 ≤ SC) (h9 : SC ≤ 900000000) :
    StickP AT HI F UN TP SC = (mn (mx AT (SC + TP)) (UN - HI), 0) := by
  have : stickOk AT HI F UN TP SC = true := by
    simp only [stickOk]
    rw [lenP_of (by omega) (by omega), lenP_of (by omega) (by omega), lenP_of (by omega) (by omega), lenP_of (by omega) (by omega), lenP_of (by omega) (by omega), lenP_of (by omega) (by omega)]
    simp
    omega
  simp [StickP, this]
set_option maxRecDepth 100000 in
set_option maxHeartbeats 8000000 in
theorem formelaw22_PositionSticks.walk (a0 a1 a2 a3 a4 a5 a6 : Int) (w : World) (w0 : (Lit.int .u32 a0).wf = true) (w1 : (Lit.int .u32 a1).wf = true) (w2 : (Lit.int .u32 a2).wf = true) (w3 : (Lit.int .u32 a3).wf = true) (w4 : (Lit.int .u32 a4).wf = true) (w5 : (Lit.int .u32 a5).wf = true) (w6 : (Lit.int .u32 a6).wf = true) :
    Calls Try.prog 7 #[.int .u32 a0, .int .u32 a1, .int .u32 a2, .int .u32 a3, .int .u32 a4, .int .u32 a5, .int .u32 a6] w fun e w' => e = .returned (.bool true) ∧ Below w.heap.size w w' := by
  have b0 := mod_bd 100000000 (by decide) w0
  have b1 := mod_bd 100000000 (by decide) w1
  have b2 := mod_bd 100000000 (by decide) w2
  have b3 := mod_bd 100000000 (by decide) w3
  have b4 := mod_bd 100000000 (by decide) w4
  have b5 := mod_bd 100000000 (by decide) w5
  have b6 := mod_bd 100000000 (by decide) w6
  clear w0 w1 w2 w3 w4 w5 w6
  obtain ⟨Y, t0⟩ : ∃ x, a0.tmod 100000000 = x := ⟨_, rfl⟩
  obtain ⟨HI, t1⟩ : ∃ x, a1.tmod 100000000 = x := ⟨_, rfl⟩
  obtain ⟨F, t2⟩ : ∃ x, a2.tmod 100000000 = x := ⟨_, rfl⟩
  obtain ⟨BE, t3⟩ : ∃ x, a3.tmod 100000000 = x := ⟨_, rfl⟩
  obtain ⟨TP, t4⟩ : ∃ x, a4.tmod 100000000 = x := ⟨_, rfl⟩
  obtain ⟨SC, t5⟩ : ∃ x, a5.tmod 100000000 = x := ⟨_, rfl⟩
  obtain ⟨MO, t6⟩ : ∃ x, a6.tmod 100000000 = x := ⟨_, rfl⟩
  rw [t0] at b0
  rw [t1] at b1
  rw [t2] at b2
  rw [t3] at b3
  rw [t4] at b4
  rw [t5] at b5
  rw [t6] at b6
  have v0 : wrap64 Y = Y := by unfold wrap64; omega
  have v1 : wrap64 HI = HI := by unfold wrap64; omega
  have v2 : wrap64 F = F := by unfold wrap64; omega
  have v3 : wrap64 BE = BE := by unfold wrap64; omega
  have v4 : wrap64 TP = TP := by unfold wrap64; omega
  have v5 : wrap64 SC = SC := by unfold wrap64; omega
  have v6 : wrap64 MO = MO := by unfold wrap64; omega
  obtain ⟨AT, e1⟩ : ∃ x, F + Y = x := ⟨_, rfl⟩
  obtain ⟨X1, e2⟩ : ∃ x, AT + HI = x := ⟨_, rfl⟩
  obtain ⟨UN, e3⟩ : ∃ x, X1 + BE = x := ⟨_, rfl⟩
  obtain ⟨SM, e4⟩ : ∃ x, SC + MO = x := ⟨_, rfl⟩
  obtain ⟨LN, e5⟩ : ∃ x, SC + TP = x := ⟨_, rfl⟩
  obtain ⟨A, e6⟩ : ∃ x, mn (mx AT (SC + TP)) (UN - HI) = x := ⟨_, rfl⟩
  obtain ⟨B, e7⟩ : ∃ x, mn (mx AT (SM + TP)) (UN - HI) = x := ⟨_, rfl⟩
  obtain ⟨AH, e8⟩ : ∃ x, A + HI = x := ⟨_, rfl⟩
  obtain ⟨BA, e9⟩ : ∃ x, B - A = x := ⟨_, rfl⟩
  obtain ⟨BH, e10⟩ : ∃ x, B + HI = x := ⟨_, rfl⟩
  have S1 : StickP AT HI F UN TP SC = (A, 0) := by rw [← e6]; exact stick_plain (by omega) (by omega) (by omega) (by omega) (by omega) (by omega) (by omega) (by omega) (by omega) (by omega)
  have S2 : StickP AT HI F UN TP SM = (B, 0) := by rw [← e7]; exact stick_plain (by omega) (by omega) (by omega) (by omega) (by omega) (by omega) (by omega) (by omega) (by omega) (by omega)
  have r6 : A = if (UN - HI) < (if AT < LN then LN else AT) then UN - HI else (if AT < LN then LN else AT) := by rw [← e6, e5]; rfl
  have r7 : B = if (UN - HI) < (if AT < SM + TP then SM + TP else AT) then UN - HI else (if AT < SM + TP then SM + TP else AT) := by rw [← e7]; rfl
  clear e6 e7
  have q1 : decide (A < AT) = false := by apply decide_eq_false; intro h; rw [r6] at h; split at h <;> split at h <;> omega
  have q2 : decide (AH > UN) = false := by apply decide_eq_false; intro h; rw [← e8, r6] at h; split at h <;> split at h <;> omega
  have q3 : decide (B < A) = false := by apply decide_eq_false; intro h; rw [r6, r7] at h; repeat (first | omega | split at h)
  have q4 : decide (BA > MO) = false := by apply decide_eq_false; intro h; rw [← e9, r6, r7] at h; repeat (first | omega | split at h)
  have q5 : decide (BH > UN) = false := by apply decide_eq_false; intro h; rw [← e10, r7] at h; split at h <;> split at h <;> omega
  have lo : -10000000000 ≤ A ∧ A ≤ 10000000000 := by rw [r6]; constructor <;> (repeat (first | omega | split))
  have lo2 : -10000000000 ≤ B ∧ B ≤ 10000000000 := by rw [r7]; constructor <;> (repeat (first | omega | split))
  have c1 : decide (A ≥ LN) = true ∨ (decide (A ≥ LN) = false ∧ (AH == UN) = true) := by
    by_cases h : A ≥ LN
    · exact Or.inl (decide_eq_true h)
    · refine Or.inr ⟨decide_eq_false h, ?_⟩
      have : AH = UN := by
        rw [← e8]
        rw [r6] at h ⊢
        repeat (first | omega | split at h | split)
      simp [this]
  have c2 : (A == AT) = true ∨ ((A == AT) = false ∧ decide (A ≤ LN) = true) := by
    by_cases h : A = AT
    · exact Or.inl (by simp [h])
    · refine Or.inr ⟨by simp [h], decide_eq_true ?_⟩
      rw [r6] at h ⊢
      repeat (first | omega | split at h | split)
  have u1 : wrap64 (F + Y) = AT := by rw [e1]; unfold wrap64; omega
  have u2 : wrap64 (AT + HI) = X1 := by rw [e2]; unfold wrap64; omega
  have u3 : wrap64 (X1 + BE) = UN := by rw [e3]; unfold wrap64; omega
  have u4 : wrap64 (SC + MO) = SM := by rw [e4]; unfold wrap64; omega
  have u5 : wrap64 (SC + TP) = LN := by rw [e5]; unfold wrap64; omega
  have u8 : wrap64 (A + HI) = AH := by rw [e8]; unfold wrap64; omega
  have u9 : wrap64 (B - A) = BA := by rw [e9]; unfold wrap64; omega
  have u10 : wrap64 (B + HI) = BH := by rw [e10]; unfold wrap64; omega
  clear b0 b1 b2 b3 b4 b5 b6 e1 e2 e3 e4 e5 e8 e9 e10 r6 r7 lo lo2
  rcases c1 with c1 | ⟨c1, c1'⟩ <;> rcases c2 with c2 | ⟨c2, c2'⟩
  all_goals
    go_enter Try.func7, Try.ntmps7
    go_wp2_with (first | (go_at_call 8; with_reducible refine (head_calls _).mono ?_; rintro e wc ⟨rfl, hb⟩; have HB := Aside0.mk hb; clear hb) | (go_at_call 16; with_reducible refine (StickC _ _ _ _ _ _ _ _ (by assumption) _).mono ?_; rintro e wc ⟨rfl, hb⟩; have HB := Aside0.mk (HB.out.trans (hb.mono HB.out.size)); clear hb))
    go_ret
    exact ⟨rfl, HB.out⟩
end Go.Proofs.Ytaclpkcoaifjfaa.P
