import Derived.Test.YtpimlejbdpipfaaPx4
import Derived.Test.YtpimlejbdpipfaaHPures2
set_option linter.unusedVariables false
set_option linter.unusedSimpArgs false
namespace Go.Proofs.Ytpimlejbdpipfaa.Pure
open Go.RowKit Go.Proofs.Ytpimlejbdpipfaa.P Go.Proofs.YtpimlejbdpipfaaW.PrintWords Go.Proofs.YtpimlejbdpipfaaW.PrintLast Go.Proofs.YtpimlejbdpipfaaW.PrintMore

theorem head_ev : Ev (fun k => formelaw19_head.f k) true := Ev.of (fun k => formelaw19_head.mono k) (k := 20) (by decide +kernel)
theorem placed_good (a : Int) (l : List S39) (hl : l.length ≤ 60) (h : good a l) : Ev (fun k => formelaw19_placed.f k a l) (tops a l l.length, pos a l l.length + G l l.length, true) := by
  have hr := refPlace_ev a l (by omega)
  rw [sp_good a l h] at hr
  refine EvT.ifn (by omega) (Ev.bind hr (EvT.ifp rfl (EvT.bindc (place_some a l (by omega)) ?_)))
  rw [sp_good a l h]
  exact EvT.ifp rfl (EvT.ifp (by simp [tops]) (Ev.now _))
theorem tops_length (a : Int) (l : List S39) (n : Nat) : (tops a l n).length = n := by simp [tops]
theorem tops_get (a : Int) (l : List S39) (n i : Nat) (h : i < n) : rd (tops a l n) (i : Int) = pos a l i + G l i := by
  simp [rd, tops, List.getD_eq_getElem?_getD, h]
theorem same_eq (x y : List Int) (h : x = y) (hl : x.length ≤ 100000) : Ev (fun k => formeref18_SameInts.f k x y) true := by
  subst h
  exact same_ev x (by omega)
/-- From another coordinate on. -/
theorem pos_move (a d : Int) (l : List S39) : ∀ n, pos (a + d) l n = pos a l n + d
  | 0 => rfl
  | n + 1 => by simp only [pos, pos_move a d l n]; omega
end Go.Proofs.Ytpimlejbdpipfaa.Pure
