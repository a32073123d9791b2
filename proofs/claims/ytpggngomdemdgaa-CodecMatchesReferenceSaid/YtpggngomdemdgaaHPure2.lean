import Derived.Test.YtpggngomdemdgaaPx7
import Derived.Test.YtpggngomdemdgaaHPure
import Derived.Test.YtpggngomdemdgaaHEv
set_option linter.unusedVariables false
set_option linter.unusedSimpArgs false
namespace Go.Proofs.Ytpggngomdemdgaa.P
open Go.RowKit Go.Proofs.YtpggngomdemdgaaW.PrintWords Go.Codec
theorem head_ev : Ev (fun k => formelaw05_head.f k) true := Ev.of (fun k => formelaw05_head.mono k) (k := 60) (by kernel_rfl)
theorem Put_ev {l : List Int} (hl : ∀ x ∈ l, i64 x) (h : l.length ≤ 4000) : Ev (fun k => codec_Put.f k l) (enc l, 0) := ⟨5000, fun k hk => by show codec_Put.f k l = _; rw [Put_f hl hk, if_neg (by omega)]⟩
theorem Same_loop (l : List Int) (hl : l.length ≤ 1000000) : ∀ (d i : Nat), i + d = l.length → Ev (fun k => formeref05_SameInts.l0 k l l (i : Int)) true
  | 0, i, h => Ev.step (fun k => rfl) (EvT.ifn (by omega) (Ev.now _))
  | d + 1, i, h => by
    refine Ev.step (fun k => rfl) (EvT.ifp (by omega) (EvT.ifp (by omega) (EvT.ifp (by omega) (EvT.ifp rfl ?_))))
    rw [show wrap64 ((i : Int) + 1) = ((i + 1 : Nat) : Int) from EvT.w64 (by omega) (by omega)]
    exact Same_loop l hl d (i + 1) (by omega)
theorem Same_ev (l : List Int) (hl : l.length ≤ 1000000) : Ev (fun k => formeref05_SameInts.f k l l) true := by
  unfold formeref05_SameInts.f
  exact EvT.ifp rfl (Same_loop l hl l.length 0 (by omega))
theorem SameBytes_self (l : List Int) : formeref05_SameBytes.f l l = some true := by unfold formeref05_SameBytes.f; simp
theorem Get_f {b : List Int} (hb : ∀ x ∈ b, 0 ≤ x ∧ x ≤ 255) : codec_Get.f b = match getL b with | some l => some (l, 0) | none => some ([], 7) := by
  unfold codec_Get.f
  rw [if_pos (List.all_eq_true.2 fun x hx => by have := hb x hx; simpa using this)]
  rfl
theorem wf_i64 {x : Int} (h : (Lit.int .i64 x).wf = true) : i64 x := by
  have m1 : IntKind.i64.min = -9223372036854775808 := by decide
  simp [Lit.wf, m1] at h
  unfold i64; omega
theorem wf_u8 {x : Int} (h : (Lit.int .u8 x).wf = true) : 0 ≤ x ∧ x ≤ 255 := by
  have m1 : IntKind.u8.min = 0 := by decide
  have m2 : IntKind.u8.max = 255 := by decide
  simp [Lit.wf, m1, m2] at h
  omega
end Go.Proofs.Ytpggngomdemdgaa.P
