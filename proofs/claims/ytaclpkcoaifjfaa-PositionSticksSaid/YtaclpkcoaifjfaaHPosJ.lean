import Derived.Test.YtaclpkcoaifjfaaHPosI
import Derived.OpenShut
import Derived.DataBytes
set_option linter.unusedVariables false
set_option linter.unusedSimpArgs false
namespace Go.Proofs.Ytaclpkcoaifjfaa.P
open Go.RowKit Go.ChangeShapes Go.Proofs.YtaclpkcoaifjfaaW.PrintWords
section
variable {H : Type} {enc : TypeId × Value → H} {w : World} {base : Nat} {spare : Nat → Bool} {held : Bool}
def styleD (s : Nat → Int) : DataW H := .agg ((List.range 33).map fun i => .lit (.int .i64 (s i)))
theorem co23 : Try.prog.cellsOf 23 = 33 := by kernel_rfl
theorem co3 : Try.prog.cellsOf 3 = 1 := by kernel_rfl
theorem open_style {v : Value} {d : DataW H} {ps : List MemPlace} (hd : DataW.Trod enc Try.prog w base spare held 23 v d ps) :
    ∃ s : Nat → Int, v = sv s ∧ d = styleD s ∧ ps = [] ∧ ∀ i, (Lit.int .i64 (s i)).wf = true := by
  obtain ⟨fuel, hf⟩ := hd
  obtain ⟨xs, m, rfl, hx, hl, hxl, he⟩ := DataW.trod_array u23.1 hf
  rw [co23] at hl
  have hv : v = .agg v.cells := by
    cases v with
    | agg cs => rfl
    | _ => simp [Value.cells] at hl
  have key : ∀ i : Nat, ∃ n : Int, (i < 33 → v.cells[i]? = some (.int .i64 n) ∧ xs[i]? = some ((.lit (.int .i64 n), []) : DataW H × List MemPlace)) ∧ (Lit.int .i64 n).wf = true := by
    intro i
    by_cases hi : i < 33
    · have h1 := he i hi
      rw [co3] at h1
      have h2 : ((v.cells.toList.drop (i * 1)).take 1) = [v.cells.toList[i]'(by omega)] := by
        rw [Nat.mul_one]
        have hlt : i < v.cells.toList.length := by omega
        rw [List.drop_eq_getElem_cons hlt]
        simp
      rw [h2] at h1
      have hlt : i < xs.length := by omega
      rw [List.getElem?_eq_getElem hlt] at h1
      obtain ⟨n, h3, h4, h5⟩ := DataW.trod_int Try.underlying3 h1
      refine ⟨n, fun _ => ⟨?_, ?_⟩, h5⟩
      · have h6 : v.cells.toList[i]'(by omega) = .int .i64 n := by simpa using h3
        have hlt2 : i < v.cells.size := by simpa using (by omega : i < v.cells.toList.length)
        rw [Array.getElem?_eq_getElem hlt2]
        simpa using h6
      · rw [List.getElem?_eq_getElem hlt, h4]
    · exact ⟨0, fun h => absurd h hi, by decide⟩
  obtain ⟨s, hs⟩ := Classical.axiomOfChoice key
  refine ⟨s, ?_, ?_, ?_, fun i => (hs i).2⟩
  · rw [hv]
    unfold sv
    congr 1
    apply Array.ext_getElem?
    intro i
    by_cases hi : i < 33
    · rw [cells_get _ i hi]
      exact ((hs i).1 hi).1
    · have h1 : v.cells.size = 33 := by simpa using hl
      rw [Array.getElem?_eq_none (by omega), Array.getElem?_eq_none (by simp [cells, cellsL]; omega)]
  · have hxs : xs = (List.range 33).map fun i => ((.lit (.int .i64 (s i)), []) : DataW H × List MemPlace) := by
      apply List.ext_getElem?
      intro i
      by_cases hi : i < 33
      · rw [((hs i).1 hi).2]
        simp [hi]
      · rw [List.getElem?_eq_none (by omega), List.getElem?_eq_none (by simp; omega)]
    have := congrArg Prod.fst hx
    simp only at this
    rw [this, hxs]
    simp [styleD, Function.comp_def]
  · have hxs : xs = (List.range 33).map fun i => ((.lit (.int .i64 (s i)), []) : DataW H × List MemPlace) := by
      apply List.ext_getElem?
      intro i
      by_cases hi : i < 33
      · rw [((hs i).1 hi).2]
        simp [hi]
      · rw [List.getElem?_eq_none (by omega), List.getElem?_eq_none (by simp; omega)]
    have := congrArg Prod.snd hx
    simp only at this
    rw [this, hxs]
    simp [List.flatMap]
theorem shut_style (s : Nat → Int) (hw : ∀ i, (Lit.int .i64 (s i)).wf = true) : DataW.Trod enc Try.prog w base spare held 23 (sv s) (styleD s) [] := by
  refine ⟨2, ?_⟩
  have hc : (sv s).cells.toList = cellsL s := by simp [sv, Value.cells, cells]
  rw [hc]
  unfold DataW.trod
  rw [u23.1]
  have hl : (cellsL s).length = Try.prog.cellsOf 23 := by rw [co23]; simp [cellsL]
  simp only [hl, if_true]
  rw [mapM_some_of_forall (g := fun i => ((.lit (.int .i64 (s i)), []) : DataW H × List MemPlace)) _ (fun i hi => ?_)]
  · simp [styleD, Function.comp_def, List.flatMap]
  · have hi' : i < 33 := by simpa using hi
    rw [co3]
    have h2 : ((cellsL s).drop (i * 1)).take 1 = [.int .i64 (s i)] := by
      rw [Nat.mul_one]
      have hlt : i < (cellsL s).length := by simp [cellsL, hi']
      rw [List.drop_eq_getElem_cons hlt]
      simp [cellsL]
    rw [h2]
    simp [DataW.trod, Try.underlying3, hw i]
end
end Go.Proofs.Ytaclpkcoaifjfaa.P
