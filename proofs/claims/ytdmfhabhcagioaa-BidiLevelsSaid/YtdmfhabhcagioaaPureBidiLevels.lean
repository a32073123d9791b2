/- For every line and direction: letters of class 2 have the level 1; letters of class 1, and digits, have 0 or 2, and 2 if the direction is 1; all levels are from 0 to 2, and from 1 on if the direction is 1 (up to 300 bytes). Conditions: those of the statement alone. -/
import Derived.Test.YtdmfhabhcagioaaPx14
import Derived.Test.YtdmfhabhcagioaaHPures2
set_option linter.unusedVariables false
set_option linter.unusedSimpArgs false
namespace Go.Proofs.Ytdmfhabhcagioaa.Pure
open Go.RowKit Go.Proofs.Ytdmfhabhcagioaa.P Go.Proofs.YtdmfhabhcagioaaW.PrintWords Go.Proofs.YtdmfhabhcagioaaW.PrintLast Go.Bidi
theorem levels_loop (s : ByteArray) (dir : Int) (hd : dir = 0 ∨ dir = 1) (hs : s.size ≤ 2000) : ∀ (d i : Nat), i + d = s.size →
    Ev (fun k => formelaw09_BidiLevels.l0 k s dir true (levels dir (classes s)) (s.size : Int) (i : Int)) true
  | 0, i, e => by
    obtain rfl : i = s.size := by omega
    exact Ev.step (fun k => rfl) (EvT.ifn (by omega) (Ev.now _))
  | d + 1, i, e => by
    have hi : i < s.size := by omega
    obtain ⟨n, h1, h2⟩ := lev_at (s := s) (dir := dir) i hi
    have hc := cls_at s i hi
    have hll := lv_len s dir
    obtain ⟨a1, a2, a3, a4⟩ := levels_all hd (classes s) i (by rw [classes_length]; exact hi) n _ h2 hc
    have IH := levels_loop s dir hd hs d (i + 1) (by omega)
    refine Ev.step (fun k => rfl) (EvT.ifp (by omega) (EvT.ifp (by omega) (EvT.ifp (by omega) (EvT.ifp (by omega) (Ev.bind (class_ev _) ?_)))))
    rw [h1, show wrap64 ((i : Int) + 1) = ((i + 1 : Nat) : Int) from EvT.w64 (by omega) (by omega)]
    have hn : ¬ n = 1 → (n != 1) = true := fun h => bne_iff_ne.2 h
    refine EvT.ifp rfl (EvT.ifp (by omega) (EvT.ifp (by omega) (EvT.ite (fun h => EvT.ifp (a3 h) (EvT.ifn (by omega) (EvT.ifn (by omega) IH))) (fun h => EvT.ite (fun h5 => ?_) (fun h5 => EvT.ite (fun h6 => ?_) (fun h6 => IH))))))
    · rw [hn (a4 (.inl h5))]; exact IH
    · rw [hn (a4 (.inr h6))]; exact IH
theorem BidiLevels : formelaw09_BidiLevels.Pure := fun s dir hs _ => Ev.rounds (by
  refine Ev.bind head_ev (EvT.ifp rfl (EvT.ite (fun h => Ev.step (fun k => rfl) (Ev.now _)) (fun h => Ev.bind (line_ev s dir hs) ?_)))
  have hJ : ∀ b, lineB s dir = b → Ev (fun k => formelaw09_BidiLevels.j0 k s dir true (!b)) true := fun b hb => by
    cases b
    · exact Ev.step (fun k => rfl) (Ev.now _)
    · have hl := line_of hb
      have hne : ((s.size : Int) != (s.size : Int)) = false := by simp
      have hK : ∀ b, b = false → Ev (fun k => formelaw09_BidiLevels.j1 k s dir true (levels dir (classes s)) b) true := fun b hb => by
        refine Ev.step (fun k => rfl) (EvT.ifn (by rw [hb]; decide) ?_)
        rw [lv_len]
        exact levels_loop s dir hl.2 hl.1 s.size 0 (by omega)
      have hM : ∀ b, b = false → Ev (fun k => formelaw09_BidiLevels.j0 k s dir true b) true := fun b hb2 => by
        refine Ev.step (fun k => rfl) (EvT.ifn (by rw [hb2]; decide) (EvT.bindc (lev_f hb) ?_))
        dsimp only
        rw [lv_len]
        exact EvT.ifp rfl (hK _ hne)
      exact hM _ rfl
  exact hJ _ rfl)
end Go.Proofs.Ytdmfhabhcagioaa.Pure
