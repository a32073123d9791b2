import Derived.Test.YtdnhjkldhdolpaaHRowP
import Derived.Test.YtdnhjkldhdolpaaHPlace
set_option linter.unusedVariables false
set_option linter.unusedSimpArgs false
namespace Go.Proofs.Ytdnhjkldhdolpaa.Pure
open Go.RowKit Go.Proofs.Ytdnhjkldhdolpaa.P Go.Proofs.YtdnhjkldhdolpaaW.PrintWords Go.Proofs.YtdnhjkldhdolpaaW.PrintLast

theorem outW_farW (n : Int) : outW n 1000000 = farW n := by
  simp only [outW, farW, inside]
  by_cases h1 : n < 0
  · simp [h1]
  · by_cases h2 : 1000000 < n
    · simp [h1, h2]
    · simp [h1, h2]; omega
theorem sizes_loop (l : List Int) (m : Int) (hl : l.length ≤ 1000) : ∀ (d i : Nat), i + d = l.length → Ev (fun k => formeref25_Sizes.l0 k l m (i : Int)) (!((l.drop i).any fun x => outW x m) && inside (l.length : Int) 1 64)
  | 0, i, e => by
    obtain rfl : i = l.length := by omega
    refine EvT.succ (fun k => rfl) (EvT.ifn (by omega) ?_)
    rw [List.drop_length]
    refine EvT.ite (fun h => EvT.now ?_) (fun h => EvT.now ?_)
    · simp [inside, h]
    · simp [inside]; omega
  | d + 1, i, e => by
    have hi : i < l.length := by omega
    refine EvT.succ (fun k => rfl) (EvT.ifp (by omega) (EvT.ifp (by omega) ?_))
    rw [drop_rd l i hi, List.any_cons]
    refine EvT.ite (fun h => ?_) (fun h => EvT.ite (fun h2 => ?_) (fun h2 => ?_))
    · have : outW (rd l (i : Int)) m = true := by simp [outW, h]
      rw [this]; exact Ev.now _
    · have : outW (rd l (i : Int)) m = true := by simp [outW]; omega
      rw [this]; exact Ev.now _
    · have : outW (rd l (i : Int)) m = false := by simp [outW]; omega
      rw [this, Bool.false_or, w1 i (by omega)]
      exact sizes_loop l m hl d (i + 1) (by omega)
theorem sizes_ev (l : List Int) (m : Int) (hl : l.length ≤ 1000) : Ev (fun k => formeref25_Sizes.f k l m) (!(l.any fun x => outW x m) && inside (l.length : Int) 1 64) := by
  have := sizes_loop l m hl l.length 0 (by omega)
  rwa [List.drop_zero] at this
theorem any_bd {l : List Int} {m : Int} (h : (l.any fun x => outW x m) = false) (i : Nat) (hi : i < l.length) : 0 ≤ rd l (i : Int) ∧ rd l (i : Int) ≤ m := by
  have h1 := List.any_eq_false.1 h l[i] (List.getElem_mem hi)
  have h2 : rd l (i : Int) = l[i] := by simp [rd, List.getD_eq_getElem?_getD, List.getElem?_eq_getElem hi]
  rw [h2]
  simp [outW] at h1
  omega
theorem over_loop (l : List Int) (hl : l.length ≤ 64) (hb : ∀ i, i < l.length → 0 ≤ rd l (i : Int) ∧ rd l (i : Int) ≤ 1000000) (d : Nat) : ∀ (i : Nat) (x : Int), i + d = l.length → -1000000000 + 1000000 * (d : Int) ≤ x → x ≤ 1000000000 →
    Ev (fun k => formeref25_Over.l0 k l x (i : Int)) (mx 0 (x - (sumTo (fun j => rd l (j : Int)) l.length - sumTo (fun j => rd l (j : Int)) i))) := by
  induction d with
  | zero =>
    intro i x e h1 h2
    obtain rfl : i = l.length := by omega
    refine EvT.succ (fun k => rfl) (EvT.ifn (by omega) ?_)
    rw [Int.sub_self, Int.sub_zero]
    exact Ev.now _
  | succ d ih =>
    intro i x e h1 h2
    have hi := hb i (by omega)
    refine EvT.succ (fun k => rfl) (EvT.ifp (by omega) (EvT.ifp (by omega) ?_))
    rw [w1 i (by omega), EvT.w64 (x := x - rd l (i : Int)) (by omega) (by omega)]
    have := ih (i + 1) (x - rd l (i : Int)) (by omega) (by omega) (by omega)
    rw [show x - rd l (i : Int) - (sumTo (fun j => rd l (j : Int)) l.length - sumTo (fun j => rd l (j : Int)) (i + 1)) = x - (sumTo (fun j => rd l (j : Int)) l.length - sumTo (fun j => rd l (j : Int)) i) by simp only [sumTo]; omega] at this
    exact this
/-- Where box i begins, in numbers. -/
theorem begins_sum (l : List Int) (gap : Int) : ∀ i : Nat, begins l gap i = sumTo (fun j => rd l (j : Int)) i + gap * (i : Int)
  | 0 => by simp [begins, sumTo]
  | i + 1 => by
    simp only [begins, sumTo, begins_sum l gap i]
    rw [show ((i + 1 : Nat) : Int) = (i : Int) + 1 by omega, Int.mul_add, Int.mul_one]
    omega
theorem xAt_eq {x0 gap : Int} {l : List Int} (hl : l.length ≤ 64) (hx : 0 ≤ x0 ∧ x0 ≤ 1000000) (hg : 0 ≤ gap ∧ gap ≤ 100000) (hb : ∀ i, i < l.length → 0 ≤ rd l (i : Int) ∧ rd l (i : Int) ≤ 1000000) :
    ∀ i : Nat, i ≤ l.length → xAt x0 gap l i = x0 + begins l gap i ∧ 0 ≤ begins l gap i ∧ begins l gap i ≤ 1100000 * (i : Int)
  | 0, _ => by simp [xAt, begins]
  | i + 1, h => by
    obtain ⟨h1, h2, h3⟩ := xAt_eq hl hx hg hb i (by omega)
    have hbi := hb i (by omega)
    simp only [xAt, begins, h1]
    refine ⟨?_, by omega, by omega⟩
    rw [EvT.w64 (x := rd l (i : Int) + gap) (by omega) (by omega), EvT.w64 (by omega) (by omega)]
    omega
/-- What is good for both. -/
structure Good (l0 l1 : List Int) (a2 a3 a4 : Int) : Prop where
  n : 1 ≤ l0.length ∧ l0.length ≤ 64
  same : l0.length = l1.length
  gap : 0 ≤ a2 ∧ a2 ≤ 100000
  al : a3 = 0 ∨ a3 = 1 ∨ a3 = 2
  sp : 0 ≤ a4 ∧ a4 ≤ 1000000
  w : ∀ i, i < l0.length → 0 ≤ rd l0 (i : Int) ∧ rd l0 (i : Int) ≤ 1000000
  h : ∀ i, i < l1.length → 0 ≤ rd l1 (i : Int) ∧ rd l1 (i : Int) ≤ 1000000000
  far : l0.any farW = false
theorem good_of {l0 l1 : List Int} {a2 a3 a4 : Int} (h : placeOk l0 l1 a2 a3 a4 = true) : Good l0 l1 a2 a3 a4 := by
  simp only [placeOk, startsOk, Bool.and_eq_true, Bool.not_eq_true'] at h
  obtain ⟨⟨⟨⟨⟨⟨⟨h1, h2⟩, h3⟩, h4⟩, h5⟩, h6⟩, h7⟩, h8⟩ := h
  have e := eq_of_beq h5
  refine ⟨by simp [inside] at h1; omega, by omega, by simp [inside] at h2; omega, by simp [outW] at h7; omega, by simp [outW] at h8; omega, fun i hi => far_bd h3 i hi, fun i hi => ?_, h3⟩
  exact any_bd (m := 1000000000) h4 i hi
/-- What is over, in numbers. -/
def ov (l : List Int) (gap space : Int) : Int := mx 0 (space - (sumTo (fun j => rd l (j : Int)) l.length + gap * ((l.length : Int) - 1)))
theorem sum_bd {l : List Int} (hb : ∀ i, i < l.length → 0 ≤ rd l (i : Int) ∧ rd l (i : Int) ≤ 1000000) (hl : l.length ≤ 64) : 0 ≤ sumTo (fun j => rd l (j : Int)) l.length ∧ sumTo (fun j => rd l (j : Int)) l.length ≤ 64000000 :=
  by have := sumTo_bd (w := fun j => rd l (j : Int)) 1000000 (by decide) l.length hb hl; exact ⟨this.1, by omega⟩
theorem ov_bd {l0 l1 : List Int} {a2 a3 a4 : Int} (g : Good l0 l1 a2 a3 a4) : 0 ≤ ov l0 a2 a4 ∧ ov l0 a2 a4 ≤ 1000000 := by
  have h1 := sum_bd g.w g.n.2
  have h2 : 0 ≤ a2 * ((l0.length : Int) - 1) := Int.mul_nonneg g.gap.1 (by have := g.n; omega)
  have h3 := g.sp
  unfold ov mx
  split <;> omega
theorem over_eq {l0 l1 : List Int} {a2 a3 a4 : Int} (g : Good l0 l1 a2 a3 a4) : overOf l0 a2 a4 = ov l0 a2 a4 := by
  obtain ⟨n1, n2⟩ := g.n
  have hg := g.gap
  have hs := g.sp
  have hS := outS_get (l := l0) (gap := a2) n2 g.far g.gap (l0.length - 1) (by omega)
  have hb := begins_bd n2 g.far g.gap (l0.length - 1) (by omega)
  have hw := g.w (l0.length - 1) (by omega)
  have hr : rd (outS l0 a2 (l0.length - 1)) ((l0.length - 1 : Nat) : Int) = begins l0 a2 (l0.length - 1) := by
    rw [hS, tab_rd _ _ _ (by omega), if_pos (by omega)]
  unfold overOf ov
  rw [hr, EvT.w64 (x := a4 - begins l0 a2 (l0.length - 1)) (by omega) (by omega), EvT.w64 (by omega) (by omega), begins_sum]
  congr 1
  have e : sumTo (fun j => rd l0 (j : Int)) l0.length = sumTo (fun j => rd l0 (j : Int)) (l0.length - 1) + rd l0 ((l0.length - 1 : Nat) : Int) := by
    conv => lhs; rw [show l0.length = (l0.length - 1) + 1 by omega]
    rfl
  rw [e, show (l0.length : Int) - 1 = ((l0.length - 1 : Nat) : Int) by omega]
  omega
theorem startX_bd {l0 l1 : List Int} {a2 a3 a4 : Int} (g : Good l0 l1 a2 a3 a4) : 0 ≤ startX l0 a2 a3 a4 ∧ startX l0 a2 a3 a4 ≤ ov l0 a2 a4 ∧ startX l0 a2 a3 a4 = wrap64 (Int.tdiv (wrap64 (ov l0 a2 a4 * a3)) 2) ∧ 2 * startX l0 a2 a3 a4 ≤ ov l0 a2 a4 * a3 ∧ ov l0 a2 a4 * a3 ≤ 2 * startX l0 a2 a3 a4 + 1 := by
  have hb := ov_bd g
  unfold startX
  rw [over_eq g]
  obtain ⟨v, hv⟩ : ∃ v, ov l0 a2 a4 = v := ⟨_, rfl⟩
  rw [hv] at hb ⊢
  rcases g.al with h | h | h <;> subst h
  · rw [if_pos rfl, Int.mul_zero]
    refine ⟨by omega, hb.1, by decide +kernel, by omega, by omega⟩
  · rw [if_neg (by decide), if_pos rfl, Int.mul_one, EvT.w64 (x := v) (by omega) (by omega)]
    have e : Int.tdiv v 2 = v / 2 := Int.tdiv_eq_ediv_of_nonneg hb.1
    rw [e, EvT.w64 (x := v / 2) (by omega) (by omega)]
    exact ⟨by omega, by omega, rfl, by omega, by omega⟩
  · rw [if_neg (by decide), if_neg (by decide), EvT.w64 (x := v * 2) (by omega) (by omega)]
    have e : Int.tdiv (v * 2) 2 = v := by rw [Int.tdiv_eq_ediv_of_nonneg (by omega)]; omega
    rw [e, EvT.w64 (x := v) (by omega) (by omega)]
    exact ⟨by omega, by omega, rfl, by omega, by omega⟩
end Go.Proofs.Ytdnhjkldhdolpaa.Pure
