/- For all rows, needs, widths, heights and numbers, valid or not, all functions return what the reference implementation returns (up to 40 rows with 70 cells each). Conditions: those of the statement alone. -/
import Derived.Test.YtclfimdafmoafaaPx11
import Derived.Test.YtclfimdafmoafaaHTabR1
import Derived.Test.YtclfimdafmoafaaHTabR2
import Derived.Test.YtclfimdafmoafaaHTabR3
set_option linter.unusedVariables false
set_option linter.unusedSimpArgs false
namespace Go.Proofs.Ytclfimdafmoafaa.PureP
open Go.RowKit Go.Proofs.Ytclfimdafmoafaa.P Go.Proofs.YtclfimdafmoafaaW.PrintWords Go.Proofs.YtclfimdafmoafaaW.PrintLast Go.Proofs.YtclfimdafmoafaaW.PrintMore
theorem placeR_self (ws : List Int) (hs : List (List Int)) (gap : Int) (hh : hs.length ≤ 40) : Ev (fun k => formeref26_SameRows.f k (placeR ws hs gap).1 (placeR ws hs gap).1) true := by
  have nil : Ev (fun k => formeref26_SameRows.f k [] []) true := rows_self [] (by simp) (by simp)
  unfold placeR
  split
  · rename_i h
    split
    · exact nil
    · simp only [placeOk, Bool.and_eq_true, Bool.not_eq_true', decide_eq_true_eq] at h
      have hst := startsOk_bd h.1.1
      have H := Hs.of (by omega) h.2
      exact rowsT_self _ _ _ _ _ ws.length (by omega) (by omega) H.w
  · exact nil
/-- Each of the three is the reference's. -/
theorem TableMatchesReference (l0 : List (List S29)) (l1 : List S29) (a2 a3 : Int) (l4 : List Int) (l5 : List (List Int)) : ∃ k, formelaw26_TableMatchesReference.f k l0 l1 a2 a3 l4 l5 = some true := Ev.rounds (Ev.bind Pure.head_ev (EvT.ifp rfl (by
  have out : Ev (fun k => formelaw26_TableMatchesReference.j0 k l0 l1 a2 a3 l4 l5 true true) true := lit (g := fun k c => formelaw26_TableMatchesReference.j0 k l0 l1 a2 a3 l4 l5 true c) true (fun c hc => EvT.succ (fun k => rfl) (EvT.ifp hc (EvT.now rfl)))
  obtain ⟨b1, hE1, hf1⟩ := PureN.few_ev l0
  obtain ⟨b2, hE2, hf2⟩ := few_ev l5
  refine Ev.bind hE1 (EvT.ite (fun hb1 => Ev.bind hE2 (EvT.ite (fun hb2 => EvT.ite (fun _ => out) (fun h1 => ?_)) (fun _ => out))) (fun _ => out))
  have hl0 := hf1 hb1
  have hl5 := hf2 hb2
  by_cases h4 : (l4.length : Int) > 70
  · rw [decide_eq_true h4]
    exact out
  · refine lit (g := fun k c => formelaw26_TableMatchesReference.j0 k l0 l1 a2 a3 l4 l5 true c) (decide ((l4.length : Int) > 70)) (fun c hc => EvT.succ (fun k => rfl) (EvT.ifn (by rw [hc, decide_eq_false h4]; decide) ?_))
    have nl := PureN.needsR_length l0
    have wl := Pure.widthsR_length l1 a2 a3 (by omega)
    refine EvT.bindc (PureN.needs_f l0) (Ev.bind (PureN.needs_same l0 hl0) (EvT.ifp rfl (Ev.bind (PureN.needs_self _ (by omega)) (EvT.ifp rfl ?_))))
    refine lit (g := fun k c => formelaw26_TableMatchesReference.j1 k l1 a2 a3 l4 l5 c) ((PureN.needsR l0).2 == (PureN.needsR l0).2) (fun c hc => EvT.succ (fun k => rfl) ?_)
    have hc' : c = true := by rw [hc]; simp
    refine EvT.bindc (Pure.widths_f l1 a2 a3) (Ev.bind (Pure.widths_same l1 a2 a3) (EvT.ifp hc' (Ev.bind (PureN.ints_self _ wl) (EvT.ifp rfl (EvT.bindc (show table_Place.f l4 l5 a3 = some (placeR l4 l5 a3) from rfl) (Ev.bind (place_same l4 l5 hl5 a3) (EvT.ifp rfl (Ev.bind (placeR_self l4 l5 a3 hl5) (EvT.ifp rfl (EvT.ifp rfl (EvT.now (by simp))))))))))))))) 
end Go.Proofs.Ytclfimdafmoafaa.PureP
