/- For every line and direction: the order has each index once, and what is seen are the bytes in this order (up to 300 bytes). Conditions: those of the statement alone. -/
import Derived.Test.YtdmfhabhcagioaaPx9
import Derived.Test.YtdmfhabhcagioaaHPures2
set_option linter.unusedVariables false
set_option linter.unusedSimpArgs false
namespace Go.Proofs.Ytdmfhabhcagioaa.Pure
open Go.RowKit Go.Proofs.Ytdmfhabhcagioaa.P Go.Proofs.YtdmfhabhcagioaaW.PrintWords Go.Proofs.YtdmfhabhcagioaaW.PrintLast Go.Bidi
theorem perm_loop (s : ByteArray) (dir : Int) (y : List Int) (hy : Places (ordOf s dir) y s.size) (hs : s.size ≤ 2000) (hv : (strOfNums (visOf s dir)).size = s.size) : ∀ (d i : Nat), i + d = s.size →
    Ev (fun k => formelaw09_BidiPermutes.l0 k s true y (strOfNums (visOf s dir)) (s.size : Int) (i : Int)) true
  | 0, i, e => by
    obtain rfl : i = s.size := by omega
    exact Ev.step (fun k => rfl) (EvT.ifn (by omega) (Ev.now _))
  | d + 1, i, e => by
    have hi : i < s.size := by omega
    obtain ⟨k, hk, e2⟩ := ord_surj (s := s) (dir := dir) i hi
    have hp := hy.at_ k hk i e2
    have hyl := hy.len
    have IH := perm_loop s dir y hy hs hv d (i + 1) (by omega)
    refine Ev.step (fun k => rfl) (EvT.ifp (by omega) (EvT.ifp rfl (EvT.ifp (by omega) (EvT.ifp (by omega) (EvT.ifp (by rw [hp]; omega) (EvT.ifp (by rw [hp]; omega) (EvT.ifp (by omega) ?_)))))))
    rw [hp, bt_vis hk e2, show wrap64 ((i : Int) + 1) = ((i + 1 : Nat) : Int) from EvT.w64 (by omega) (by omega), beq_self_eq_true]
    exact IH
theorem BidiPermutes : formelaw09_BidiPermutes.Pure := fun s dir hs _ => Ev.rounds (by
  refine Ev.bind head_ev (EvT.ifp rfl (EvT.ite (fun h => Ev.step (fun k => rfl) (Ev.now _)) (fun h => Ev.bind (line_ev s dir hs) ?_)))
  have hJ : ∀ b, lineB s dir = b → Ev (fun k => formelaw09_BidiPermutes.j0 k s dir true (!b)) true := fun b hb => by
    cases b
    · exact Ev.step (fun k => rfl) (Ev.now _)
    · have hl := line_of hb
      obtain ⟨y, hy, hE⟩ := places_ev hb
      have hne : (((strOfNums (visOf s dir)).size : Int) != (s.size : Int)) = false := by rw [vis_size]; simp
      have hK : ∀ b, b = false → Ev (fun k => formelaw09_BidiPermutes.j1 k s true y (strOfNums (visOf s dir)) b) true := fun b hb => by
        refine Ev.step (fun k => rfl) (EvT.ifn (by rw [hb]; decide) ?_)
        rw [hy.len]
        exact perm_loop s dir y hy hl.1 (vis_size s dir) s.size 0 (by omega)
      have hM : ∀ b, b = false → Ev (fun k => formelaw09_BidiPermutes.j0 k s dir true b) true := fun b hb2 => by
        refine Ev.step (fun k => rfl) (EvT.ifn (by rw [hb2]; decide) (Ev.bind hE (Ev.bind (vis_ev hb) ?_)))
        exact EvT.ifp rfl (EvT.ifp rfl (hK _ hne))
      exact hM _ rfl
  exact hJ _ rfl)
end Go.Proofs.Ytdmfhabhcagioaa.Pure
