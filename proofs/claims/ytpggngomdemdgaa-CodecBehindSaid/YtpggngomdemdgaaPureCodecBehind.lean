/- Whatever stands behind whole frames, these are read first, and then what is read of the rest alone (package codec alone; up to 10 lists of 30 integers, and 1000 bytes). Conditions: those of the statement alone. -/
import Derived.Test.YtpggngomdemdgaaPx12
import Derived.Test.YtpggngomdemdgaaHPure7
set_option linter.unusedVariables false
set_option linter.unusedSimpArgs false
namespace Go.Proofs.Ytpggngomdemdgaa.Pure
open Go.RowKit Go.Proofs.Ytpggngomdemdgaa.P Go.Proofs.YtpggngomdemdgaaW.PrintWords Go.Proofs.YtpggngomdemdgaaW.PrintLast Go.Codec
theorem behind1 {ls : List (List Int)} {r2 : List (List Int)} (h : okL ls) (hl : ls.length ≤ 10) (hr : r2.length ≤ 900000) (hs : ∀ l ∈ r2, l.length ≤ 4000) : ∀ q, q = false → Ev (fun k => formelaw05_CodecBehind.j1 k ls true (ls ++ r2) r2 q) true := fun q hq => by
  refine Ev.step (fun k => rfl) (EvT.ifn (by rw [hq]; decide) (EvT.ifp rfl (EvT.ifp (by omega) (EvT.ifp (by rw [List.length_append]; omega) ?_))))
  rw [Int.toNat_natCast, List.take_left' rfl, List.drop_left' rfl]
  exact Ev.bind (SameL_ev ls (by omega) (fun x hx => by have := (h x hx).2; omega)) (EvT.ifp rfl (Ev.bind (SameL_ev r2 (by omega) hs) (Ev.now _)))
theorem behind0 {ls : List (List Int)} {b : List Int} (h : okL ls) (hl : ls.length ≤ 10) (hb : ∀ x ∈ b, 0 ≤ x ∧ x ≤ 255) : ∀ q, decide ((b.length : Int) > 1000) = q → Ev (fun k => formelaw05_CodecBehind.j0 k ls b true q) true := fun q hq => by
  refine Ev.step (fun k => rfl) (EvT.ite (fun _ => Ev.now _) (fun hf => ?_))
  have hbl : b.length ≤ 1000 := by
    have : ¬ (b.length : Int) > 1000 := fun hgt => hf (hq.symm.trans (decide_eq_true hgt))
    omega
  have hfl := fr_len h
  have hfb : ∀ x ∈ fr ls ++ b, 0 ≤ x ∧ x ≤ 255 := fun x hx => by
    rcases List.mem_append.1 hx with hx | hx
    · exact fr_byte h x hx
    · exact hb x hx
  have hal : (fr ls ++ b).length = (fr ls).length + b.length := List.length_append
  obtain ⟨g, hg, e⟩ := framesP_app ls b ((fr ls ++ b).length + 1) h (by omega)
  rw [framesP_fuel g (b.length + 1) b hb hg (by omega)] at e
  have h1 := Frames_ev hfb (by omega)
  rw [e] at h1
  have h2 := Frames_ev hb (by omega)
  obtain ⟨f1, f2, f3, f4⟩ := framesP_facts (b.length + 1) b hb
  generalize framesP (b.length + 1) b = p at h1 h2 f1 f2 f3 f4
  refine Ev.bind (frames_ev h hl) (EvT.ifp rfl (EvT.bindc rfl (EvT.ifp (by show 0 + (fr ls).length < _; omega) (EvT.bindc rfl (EvT.ifp (by show ([] ++ fr ls).length + b.length < _; rw [List.nil_append]; omega) ?_)))))
  refine Ev.bind h1 (Ev.bind h2 (EvT.ifp rfl (EvT.ifp rfl (EvT.ifp ?_ ?_))))
  · show ((ls ++ p.1).length : Int) = wrap64 ((ls.length : Int) + (p.1.length : Int))
    rw [EvT.w64 (by omega) (by omega), List.length_append]; omega
  · refine behind1 h hl (by omega) f2 _ ?_
    show (((fr ls).length : Int) + p.2 != wrap64 (((fr ls).length : Int) + p.2)) = false
    rw [EvT.w64 (by omega) (by omega), bne_self_eq_false]
theorem CodecBehind {ls : List (List Int)} {b : List Int} (hl : ls.length ≤ 9223372036854775807) (hi : ∀ l ∈ ls, ∀ x ∈ l, i64 x) (hb : ∀ x ∈ b, 0 ≤ x ∧ x ≤ 255) : ∃ k, formelaw05_CodecBehind.f k ls b = some true := by
  refine Ev.rounds ?_
  unfold formelaw05_CodecBehind.f
  obtain ⟨q, hq, hqt⟩ := small_ev ls hl
  have hJ : ∀ q, q = true → Ev (fun k => formelaw05_CodecBehind.j0 k ls b true q) true := fun q hq => Ev.step (fun k => rfl) (EvT.ifp hq (Ev.now _))
  refine Ev.bind head_ev (EvT.ifp rfl (Ev.bind hq (EvT.ite (fun ht => ?_) (fun _ => hJ _ rfl))))
  obtain ⟨h1, h2⟩ := hqt ht
  exact behind0 (fun l hl => ⟨hi l hl, h2 l hl⟩) h1 hb _ rfl
end Go.Proofs.Ytpggngomdemdgaa.Pure
