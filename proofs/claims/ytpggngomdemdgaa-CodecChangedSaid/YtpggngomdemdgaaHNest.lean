import Derived.Test.YtpggngomdemdgaaWSized
import Derived.Test.YtpggngomdemdgaaWWords
import Derived.Deep.Slices
import Derived.Deep.Fields
import Derived.ChangeSame
set_option linter.unusedVariables false
set_option linter.unusedSimpArgs false
namespace Go.Proofs.Ytpggngomdemdgaa.Nest
open Go.RowKit Go.ChangeShapes Go.WideShapes Go.Deep Go.Proofs.YtpggngomdemdgaaW.PrintWords
section
variable {S : Type} {H : Type} {enc : TypeId × Value → H} {P : Program} {W : World} {base : Nat} {spare : Nat → Bool} {held : Bool} {t e : TypeId}
/-- A slice whose elements read as d's: its cells, and the row. -/
theorem open_kind (d : Kd S) (wf : S → Prop) (hC : P.cellsOf e = d.sz)
    (hS : ∀ cs n y, DataW.trod enc P W base spare held n e cs = some y → ∃ z, d.K W z cs ∧ wf z) (hu : P.underlying t = some (.slice e))
    {fuel : Nat} {cs : List Value} {x : DataW H × List MemPlace} (h : DataW.trod enc P W base spare held fuel t cs = some x) :
    ∃ (A : Option Addr) (cap : Nat) (zs : List S), cs = [.slice A zs.length cap] ∧ d.C W A zs.length zs ∧ zs.length ≤ cap ∧ zs.length ≤ maxLen ∧ ∀ z ∈ zs, wf z := by
  rcases open_slice hu h with ⟨hcs, _⟩ | ⟨x, len, cap, m, n, D, Pl, hcs, _, hl, hm, hmm, hx, hi⟩
  · exact ⟨none, 0, [], hcs, ⟨rfl, by simp, fun h0 => absurd h0 (by simp)⟩, Nat.le_refl _, by simp [maxLen], by simp⟩
  · have hlm : len ≤ m := by rw [hmm]; split <;> omega
    have hz : ∀ i, i < len → ∃ z, ∃ cs, W.cells? base (x.add (i * d.sz)) d.sz = some cs ∧ d.K W z cs ∧ wf z := by
      intro i hil
      obtain ⟨cs', hc', ht'⟩ := hi i (by omega)
      obtain ⟨z, hk, hw⟩ := hS _ _ _ ht'
      rw [hC] at hc'
      exact ⟨z, cs', hc', hk, hw⟩
    obtain ⟨f, hf'⟩ : ∃ f : Nat → Option S, ∀ i, i < len → ∃ z, f i = some z ∧ ∃ cs, W.cells? base (x.add (i * d.sz)) d.sz = some cs ∧ d.K W z cs ∧ wf z :=
      ⟨fun i => if hil : i < len then some (Classical.choose (hz i hil)) else none, fun i hil => ⟨_, dif_pos hil, Classical.choose_spec (hz i hil)⟩⟩
    obtain ⟨zs, hzl, hzi⟩ : ∃ zs : List S, zs.length = len ∧ ∀ i z, zs[i]? = some z → ∃ cs, W.cells? base (x.add (i * d.sz)) d.sz = some cs ∧ d.K W z cs ∧ wf z := by
      clear hmm hx hi hlm hz hl hm hcs h
      induction len with
      | zero => exact ⟨[], rfl, fun i z h => by simp at h⟩
      | succ len ih =>
        obtain ⟨zs, hzl, hzi⟩ := ih (fun i hil => hf' i (by omega))
        obtain ⟨z, _, h1⟩ := hf' len (by omega)
        refine ⟨zs ++ [z], by simp [hzl], fun i z' h => ?_⟩
        rcases Nat.lt_or_ge i zs.length with hlt | hge
        · rw [List.getElem?_append_left hlt] at h
          exact hzi i z' h
        · have hie : i = zs.length := by
            have := (List.getElem?_eq_some_iff.1 h).1
            simp at this
            omega
          subst hie
          simp at h
          subst h
          rw [hzl]
          exact h1
    subst hzl
    refine ⟨some x, cap, zs, hcs, ⟨rfl, by unfold maxLen at hm; omega, fun _ => ⟨x, rfl, fun i z hzz => ?_⟩⟩, hl, by omega, fun z hzz => ?_⟩
    · obtain ⟨cs', hc', hk, hw⟩ := hzi i z hzz
      have hlen := d.K_len hk
      refine ⟨cs', hlen, hk, fun q u hq => ?_⟩
      obtain ⟨_, _, hat⟩ := World.cells?_some hc'
      have hql : q < d.sz := by rw [← hlen]; exact (List.getElem?_eq_some_iff.1 hq).1
      rw [← Go.Deep.add_add]
      exact (hat q hql).trans hq
    · obtain ⟨i, hi', rfl⟩ := List.mem_iff_getElem.1 hzz
      obtain ⟨_, _, _, hw⟩ := hzi i _ (List.getElem?_eq_getElem hi')
      exact hw
/-- A slice as an element. -/
theorem kind_slice (d : Kd S) (wf : S → Prop) (hC : P.cellsOf e = d.sz)
    (hS : ∀ cs n y, DataW.trod enc P W base spare held n e cs = some y → ∃ z, d.K W z cs ∧ wf z) (hu : P.underlying t = some (.slice e)) :
    ∀ cs n y, DataW.trod enc P W base spare held n t cs = some y → ∃ z : List S, (Kd.slice e d).K W z cs ∧ (z.length ≤ maxLen ∧ ∀ x ∈ z, wf x) := by
  intro cs n y h
  obtain ⟨A, cap, zs, rfl, hc, hl, hm, hw⟩ := open_kind d wf hC hS hu h
  exact ⟨zs, ⟨A, cap, rfl, hl, hc⟩, hm, hw⟩
theorem kind_int {k : IntKind} (ht : P.underlying e = some (.int k)) : ∀ cs n y, DataW.trod enc P W base spare held n e cs = some y → ∃ z, (Kd.int k).K W z cs ∧ (Lit.int k z).wf = true := by
  intro cs n y h
  obtain ⟨x, hx, _, hw⟩ := DataW.trod_int ht h
  exact ⟨x, hx, hw⟩
/-- An argument that is a slice. -/
theorem open_arg (d : Kd S) (wf : S → Prop) (hC : P.cellsOf e = d.sz)
    (hS : ∀ cs n y, DataW.trod enc P W base spare held n e cs = some y → ∃ z, d.K W z cs ∧ wf z) (hu : P.underlying t = some (.slice e))
    {a : Option Addr} {len cap : Nat} {dd : DataW H} {ps : List MemPlace} (h : DataW.Trod enc P W base spare held t (.slice a len cap) dd ps) :
    ∃ zs : List S, d.C W a len zs ∧ len ≤ cap ∧ len ≤ maxLen ∧ ∀ z ∈ zs, wf z := by
  obtain ⟨fuel, hf⟩ := h
  obtain ⟨A, c, zs, hcs, hc, hl, hm, hw⟩ := open_kind d wf hC hS hu hf
  simp [Value.cells] at hcs
  obtain ⟨rfl, rfl, rfl⟩ := hcs
  exact ⟨zs, hc, hl, hm, hw⟩
end
end Go.Proofs.Ytpggngomdemdgaa.Nest
