import Derived.Test.YtphdjlfnlcapcaaWSized
import Derived.Test.YtphdjlfnlcapcaaWWords
import Derived.Deep.Slices
import Derived.Deep.Fields
import Derived.ChangeSame
set_option linter.unusedVariables false
set_option linter.unusedSimpArgs false
namespace Go.Proofs.Ytphdjlfnlcapcaa.Str
open Go.RowKit Go.ChangeShapes Go.WideShapes Go.Deep Go.Proofs.YtphdjlfnlcapcaaW.PrintWords

/-- What a field of one cell, a whole number, reads as. -/
theorem int_field {H : Type} {enc : TypeId × Value → H} {P : Program} {W : World} {base : Nat} {spare : Nat → Bool} {held : Bool} {n j o : Nat} {t : TypeId} {k : IntKind} {cs : List Value} {ys : List (DataW H × List MemPlace)}
    (h : DataW.trod enc P W base spare held n t ((cs.drop o).take (P.cellsOf t)) = ys[j]?) (hj : j < ys.length) (ht : P.underlying t = some (.int k)) (hc : P.cellsOf t = 1) : ∃ x, cs[o]? = some (.int k x) ∧ (Lit.int k x).wf = true := by
  rw [List.getElem?_eq_getElem hj] at h
  obtain ⟨x, hx, _, hw⟩ := DataW.trod_int ht h
  rw [hc] at hx
  refine ⟨x, ?_, hw⟩
  have h0 := congrArg (fun l : List Value => l[0]?) hx
  simpa using h0
theorem bool_field {H : Type} {enc : TypeId × Value → H} {P : Program} {W : World} {base : Nat} {spare : Nat → Bool} {held : Bool} {n j o : Nat} {t : TypeId} {cs : List Value} {ys : List (DataW H × List MemPlace)}
    (h : DataW.trod enc P W base spare held n t ((cs.drop o).take (P.cellsOf t)) = ys[j]?) (hj : j < ys.length) (ht : P.underlying t = some .bool) (hc : P.cellsOf t = 1) : ∃ x, cs[o]? = some (.bool x) := by
  rw [List.getElem?_eq_getElem hj] at h
  obtain ⟨x, hx, _⟩ := DataW.trod_bool ht h
  rw [hc] at hx
  refine ⟨x, ?_⟩
  have h0 := congrArg (fun l : List Value => l[0]?) hx
  simpa using h0

theorem open_structs {S : Type} {H : Type} {enc : TypeId × Value → H} {P : Program} {W : World} {base : Nat} {spare : Nat → Bool} {held : Bool} {t e : TypeId} {a : Option Addr} {len cap : Nat} {dd : DataW H} {ps : List MemPlace} {ts : List TypeId} {ds : List (DataW H)} {j : Nat}
    (d : Kd S) (cells : S → List Value) (wf : S → Prop) (hK : ∀ z, d.K W z (cells z)) (hlen : ∀ z, (cells z).length = d.sz) (hC : P.cellsOf e = d.sz)
    (hS : ∀ cs n y, DataW.trod enc P W base spare held n e cs = some y → ∃ z, cs = cells z ∧ wf z)
    (hsz : (DataW.weightsEach P ts ds).all (· ≤ reachBytes) = true) (htj : ts[j]? = some t) (hdj : ds[j]? = some dd) (hu : P.underlying t = some (.slice e)) {B : Nat} (hB : P.bytesOf e = B)
    (h : DataW.Trod enc P W base spare held t (.slice a len cap) dd ps) : ∃ zs : List S, (d.C W a len zs ∧ len ≤ cap ∧ len ≤ maxLen ∧ ∀ z ∈ zs, wf z) ∧ len * B ≤ 140737488351232 := by
  obtain ⟨fuel, hf⟩ := h
  rcases open_slice hu hf with ⟨hcs, _⟩ | ⟨x, l, c, m, n, D, Pl, hcs, _, hl, hm, hmm, hx, hi⟩
  · simp [Value.cells] at hcs
    obtain ⟨rfl, rfl, rfl⟩ := hcs
    exact ⟨[], ⟨⟨rfl, by omega, fun h0 => absurd h0 (by omega)⟩, Nat.le_refl _, by simp [maxLen], by simp⟩, by simp⟩
  · simp [Value.cells] at hcs
    obtain ⟨rfl, rfl, rfl⟩ := hcs
    have hlm : len ≤ m := by rw [hmm]; split <;> omega
    have hz : ∀ i, i < len → ∃ z, W.cells? base (x.add (i * d.sz)) d.sz = some (cells z) ∧ wf z := by
      intro i hil
      obtain ⟨cs', hc', ht'⟩ := hi i (by omega)
      obtain ⟨z, rfl, hw⟩ := hS _ _ _ ht'
      rw [hC] at hc'
      exact ⟨z, hc', hw⟩
    obtain ⟨f, hf'⟩ : ∃ f : Nat → Option S, ∀ i, i < len → ∃ z, f i = some z ∧ W.cells? base (x.add (i * d.sz)) d.sz = some (cells z) ∧ wf z :=
      ⟨fun i => if hil : i < len then some (Classical.choose (hz i hil)) else none, fun i hil => ⟨_, dif_pos hil, Classical.choose_spec (hz i hil)⟩⟩
    obtain ⟨zs, hzl, hzi⟩ : ∃ zs : List S, zs.length = len ∧ ∀ i z, zs[i]? = some z → W.cells? base (x.add (i * d.sz)) d.sz = some (cells z) ∧ wf z := by
      clear hmm hx hi hlm hz hl hm hf
      induction len with
      | zero => exact ⟨[], rfl, fun i z h => by simp at h⟩
      | succ len ih =>
        obtain ⟨zs, hzl, hzi⟩ := ih (fun i hil => hf' i (by omega))
        obtain ⟨z, _, h1, h2⟩ := hf' len (by omega)
        refine ⟨zs ++ [z], by simp [hzl], fun i z' h => ?_⟩
        rcases Nat.lt_or_ge i zs.length with hlt | hge
        · rw [List.getElem?_append_left hlt] at h
          exact hzi i z' h
        · have hie : i = zs.length := by
            have := (List.getElem?_eq_some_iff.1 h).1
            simp at this
            omega
          subst hie
          simp at h
          subst h
          rw [hzl]
          exact ⟨h1, h2⟩
    refine ⟨zs, ⟨⟨hzl, by unfold maxLen at hm; omega, fun _ => ⟨x, rfl, fun i z hzz => ?_⟩⟩, hl, by omega, fun z hzz => ?_⟩, ?_⟩
    · obtain ⟨hc', hw⟩ := hzi i z hzz
      refine ⟨cells z, hlen z, hK z, fun q u hq => ?_⟩
      obtain ⟨_, _, hat⟩ := World.cells?_some hc'
      have hql : q < d.sz := by rw [← hlen z]; exact (List.getElem?_eq_some_iff.1 hq).1
      rw [← Go.Deep.add_add]
      exact (hat q hql).trans hq
    · obtain ⟨i, hi', rfl⟩ := List.mem_iff_getElem.1 hzz
      exact (hzi i _ (List.getElem?_eq_getElem hi')).2
    · obtain ⟨hx1, _⟩ := Prod.mk.inj hx
      subst hx1
      have z := sized_slice hsz htj hdj hu
      rw [hB] at z
      simp only [List.length_map, List.length_range] at z
      exact Nat.le_trans (Nat.mul_le_mul_right _ (by omega)) z
end Go.Proofs.Ytphdjlfnlcapcaa.Str
