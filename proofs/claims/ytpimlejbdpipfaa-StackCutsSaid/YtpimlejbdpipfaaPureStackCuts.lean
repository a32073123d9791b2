/- What is seen is as high as it is, or as the limit, if there is one and this is less; something is cut exactly then; what is cut is not cut again (package stack alone). Conditions: those of the statement alone. -/
import Derived.Test.YtpimlejbdpipfaaPx9
import Derived.Test.YtpimlejbdpipfaaHPures3
set_option linter.unusedVariables false
set_option linter.unusedSimpArgs false
namespace Go.Proofs.Ytpimlejbdpipfaa.Pure
open Go.RowKit Go.Proofs.Ytpimlejbdpipfaa.P Go.Proofs.YtpimlejbdpipfaaW.PrintWords Go.Proofs.YtpimlejbdpipfaaW.PrintLast Go.Proofs.YtpimlejbdpipfaaW.PrintMore

theorem cut_ev (h m : Int) (h0 : 0 ≤ h) (h1 : h ≤ 1000000000) (m0 : 0 ≤ m) (m1 : m ≤ 1000000000) : Ev (fun k => stack_Cut.f k h m) (if m > 0 ∧ h > m then (m, true, 0) else (h, false, 0)) := by
  have e1 : ¬ mn h m < 0 := by unfold mn; split <;> omega
  have e2 : ¬ mx h m > 1000000000 := by unfold mx; split <;> omega
  refine EvT.ifn e1 ?_
  rw [decide_eq_false e2]
  refine EvT.lit (g := fun k c => stack_Cut.j0 k h m c) false (fun c hc => Ev.step (fun k => rfl) (EvT.ifn (by rw [hc]; decide) (EvT.ite (fun h2 => EvT.ite (fun h3 => ?_) (fun h3 => ?_)) (fun h2 => ?_))))
  · rw [if_pos ⟨h2, h3⟩]; exact Ev.now _
  · rw [if_neg (fun h => h3 h.2)]; exact Ev.now _
  · rw [if_neg (fun h => h2 h.1)]; exact Ev.now _
theorem StackCuts : formelaw19_StackCuts.Pure := fun a0 a1 w0 w1 => by
  have n0 : 0 ≤ a0 := by
    have m1 : IntKind.u32.min = 0 := by decide +kernel
    simp [Lit.wf, m1] at w0; omega
  have n1 : 0 ≤ a1 := by
    have m1 : IntKind.u32.min = 0 := by decide +kernel
    simp [Lit.wf, m1] at w1; omega
  obtain ⟨h, hh⟩ : ∃ h, wrap64 (Int.tmod a0 1000000001) = h := ⟨_, rfl⟩
  obtain ⟨m, hm⟩ : ∃ h, wrap64 (Int.tmod a1 1000000001) = h := ⟨_, rfl⟩
  have b0 : 0 ≤ h ∧ h ≤ 1000000000 := by rw [Int.tmod_eq_emod_of_nonneg n0, EvT.w64 (by omega) (by omega)] at hh; omega
  have b1 : 0 ≤ m ∧ m ≤ 1000000000 := by rw [Int.tmod_eq_emod_of_nonneg n1, EvT.w64 (by omega) (by omega)] at hm; omega
  refine Ev.rounds (Ev.bind head_ev (EvT.ifp rfl ?_))
  rw [hh, hm]
  refine Ev.bind (cut_ev h m b0.1 b0.2 b1.1 b1.2) ?_
  by_cases hc : m > 0 ∧ h > m
  · rw [if_pos hc]
    refine Ev.bind (cut_ev m m b1.1 b1.2 b1.1 b1.2) ?_
    rw [if_neg (show ¬ (m > 0 ∧ m > m) by omega)]
    refine EvT.ifp rfl (EvT.ifp rfl (EvT.ifn (by simp) (EvT.ifp rfl (EvT.ifp hc.1 (EvT.ifp (by rw [decide_eq_true hc.2]; rfl) (EvT.ifp rfl (EvT.ifp rfl (Ev.now _))))))))
  · rw [if_neg hc]
    refine Ev.bind (cut_ev h m b0.1 b0.2 b1.1 b1.2) ?_
    rw [if_neg hc]
    refine EvT.ifp rfl (EvT.ifp rfl (EvT.ifn (by simp) (EvT.ifp rfl (EvT.ite (fun h2 => EvT.ifp (by rw [decide_eq_false (show ¬ h > m by omega)]; rfl) (EvT.ifn (by simp) (EvT.now (by simp)))) (fun h2 => EvT.ifp rfl (EvT.ifn (by simp) (EvT.now (by simp)))))))) 
end Go.Proofs.Ytpimlejbdpipfaa.Pure
