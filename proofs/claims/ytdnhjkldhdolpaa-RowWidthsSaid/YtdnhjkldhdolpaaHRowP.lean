import Derived.Test.YtdnhjkldhdolpaaHPR3
import Derived.Test.YtdnhjkldhdolpaaPx5
import Derived.Test.YtdnhjkldhdolpaaPx6
set_option linter.unusedVariables false
set_option linter.unusedSimpArgs false
namespace Go.Proofs.Ytdnhjkldhdolpaa.Pure
open Go.RowKit Go.Proofs.Ytdnhjkldhdolpaa.P Go.Proofs.YtdnhjkldhdolpaaW.PrintWords Go.Proofs.YtdnhjkldhdolpaaW.PrintLast

theorem head_ev : Ev (fun k => formelaw25_head.f k) true := Ev.of (fun k => formelaw25_head.mono k) (k := 20) (by decide +kernel)
theorem few_loop (l : List (List Int)) (hl : l.length ≤ 100) : ∀ (d i : Nat), i + d = l.length → Ev (fun k => formelaw25_few.l0 k l (l.length : Int) (i : Int)) ((l.drop i).all fun x => decide (x.length ≤ 70))
  | 0, i, e => by
    obtain rfl : i = l.length := by omega
    refine EvT.succ (fun k => rfl) (EvT.ifn (by omega) ?_)
    rw [List.drop_length]
    exact Ev.now _
  | d + 1, i, e => by
    have hi : i < l.length := by omega
    have hx : rd_L4 l (i : Int) = l[i] := by simp [rd_L4, List.getD_eq_getElem?_getD, List.getElem?_eq_getElem hi]
    refine EvT.succ (fun k => rfl) (EvT.ifp (by omega) (EvT.ifp (by omega) (EvT.ifp (by omega) ?_)))
    rw [List.drop_eq_getElem_cons hi, List.all_cons, hx]
    refine EvT.ite (fun h => ?_) (fun h => ?_)
    · have : decide (l[i].length ≤ 70) = false := decide_eq_false (by omega)
      rw [this, Bool.false_and]
      exact Ev.now _
    · have : decide (l[i].length ≤ 70) = true := decide_eq_true (by omega)
      rw [this, Bool.true_and, w1 i (by omega)]
      exact few_loop l hl d (i + 1) (by omega)
theorem few_ev (l : List (List Int)) (hl : l.length ≤ 100) : Ev (fun k => formelaw25_few.f k l) (l.all fun x => decide (x.length ≤ 70)) := by
  have := few_loop l hl l.length 0 (by omega)
  rwa [List.drop_zero] at this
/-- Bases and growths, side by side. -/
def zt (l0 l1 : List Int) (n : Nat) : List S47 := (List.range n).map fun (i : Nat) => ⟨rd l0 (i : Int), rd l1 (i : Int), 0⟩
theorem zt_succ (l0 l1 : List Int) (n : Nat) : zt l0 l1 (n + 1) = zt l0 l1 n ++ [⟨rd l0 (n : Int), rd l1 (n : Int), 0⟩] := by simp [zt, List.range_succ]
theorem zt_length (l0 l1 : List Int) (n : Nat) : (zt l0 l1 n).length = n := by simp [zt]
theorem zt_tk (l0 l1 : List Int) (n i : Nat) (h : i < n) : tk (zt l0 l1 n) i = ⟨rd l0 (i : Int), rd l1 (i : Int), 0⟩ := by
  simp [tk, rd_T47, zt, List.getD_eq_getElem?_getD, h]
theorem widths_loop (l0 l1 : List Int) (a2 a3 : Int) (r : List Int × Int) (hl : l0.length ≤ 1000) (he : l0.length = l1.length) (hr : tracks_Share.f (zt l0 l1 l0.length) a2 a3 = some r) : ∀ (d i : Nat), i + d = l0.length → Ev (fun k => row_Widths.l0 k l1 a2 a3 (zt l0 l1 i) l0 (l0.length : Int) (i : Int)) r
  | 0, i, e => by
    obtain rfl : i = l0.length := by omega
    refine EvT.succ (fun k => rfl) (EvT.ifn (by omega) ?_)
    exact EvT.bindc hr (Ev.now _)
  | d + 1, i, e => by
    refine EvT.succ (fun k => rfl) (EvT.ifp (by omega) (EvT.ifp (by omega) (EvT.ifp (by omega) (EvT.ifp (by omega) (EvT.ifp (by rw [zt_length]; omega) ?_)))))
    rw [← zt_succ, w1 i (by omega)]
    exact widths_loop l0 l1 a2 a3 r hl he hr d (i + 1) (by omega)
theorem ref_loop (l0 l1 : List Int) (a2 a3 : Int) (r : List Int × Int) (hl : l0.length ≤ 1000) (he : l0.length = l1.length) (hr : Ev (fun k => formeref23_Share.f k (zt l0 l1 l0.length) a2 a3) r) : ∀ (d i : Nat), i + d = l0.length → Ev (fun k => formeref25_Widths.l0 k l0 l1 a2 a3 (zt l0 l1 i) (i : Int)) r
  | 0, i, e => by
    obtain rfl : i = l0.length := by omega
    refine EvT.succ (fun k => rfl) (EvT.ifn (by omega) ?_)
    exact Ev.bind hr (Ev.now _)
  | d + 1, i, e => by
    refine EvT.succ (fun k => rfl) (EvT.ifp (by omega) (EvT.ifp (by omega) (EvT.ifp (by omega) (EvT.ifp (by rw [zt_length]; omega) ?_))))
    rw [← zt_succ, w1 i (by omega)]
    exact ref_loop l0 l1 a2 a3 r hl he hr d (i + 1) (by omega)
theorem widths_ev (l0 l1 : List Int) (a2 a3 : Int) (hl : l0.length ≤ 1000) (he : l0.length = l1.length) : ∃ r, tracks_Share.f (zt l0 l1 l0.length) a2 a3 = some r ∧ r.1.length ≤ 100000 ∧ Ev (fun k => row_Widths.f k l0 l1 a2 a3) r ∧ Ev (fun k => formeref25_Widths.f k l0 l1 a2 a3) r := by
  obtain ⟨r, h1, h2, h3⟩ := share_same (zt l0 l1 l0.length) (by rw [zt_length]; exact hl) a2 a3
  exact ⟨r, h2, h1, EvT.ifp (by omega) (widths_loop l0 l1 a2 a3 r hl he h2 l0.length 0 (by omega)), EvT.ifp (by omega) (ref_loop l0 l1 a2 a3 r hl he h3 l0.length 0 (by omega))⟩
theorem widths_no (l0 l1 : List Int) (a2 a3 : Int) (he : ¬ l0.length = l1.length) : Ev (fun k => row_Widths.f k l0 l1 a2 a3) (([] : List Int), 1) ∧ Ev (fun k => formeref25_Widths.f k l0 l1 a2 a3) (([] : List Int), 1) :=
  ⟨EvT.ifn (by omega) (Ev.now _), EvT.ifn (by omega) (Ev.now _)⟩
end Go.Proofs.Ytdnhjkldhdolpaa.Pure
