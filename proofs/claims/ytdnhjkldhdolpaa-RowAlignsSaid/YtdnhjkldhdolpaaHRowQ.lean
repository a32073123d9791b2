import Derived.Test.YtdnhjkldhdolpaaHPR
import Derived.Test.YtdnhjkldhdolpaaHEv
import Derived.Test.YtdnhjkldhdolpaaHPlace
import Derived.Test.YtdnhjkldhdolpaaPx6
set_option linter.unusedVariables false
set_option linter.unusedSimpArgs false
namespace Go.Proofs.Ytdnhjkldhdolpaa.Pure
open Go.RowKit Go.Proofs.Ytdnhjkldhdolpaa.P Go.Proofs.YtdnhjkldhdolpaaW.PrintWords Go.Proofs.YtdnhjkldhdolpaaW.PrintLast Go.Proofs.YtdnhjkldhdolpaaW.PrintMore
theorem _root_.Go.Proofs.Ytdnhjkldhdolpaa.EvT.lit {α : Type} {g : Nat → Bool → Option α} {r : α} (b : Bool) (h : ∀ c, c = b → Ev (fun k => g k c) r) : Ev (fun k => g k b) r := h b rfl
theorem sumTo_bd {w : Nat → Int} (B : Int) (hB : 0 ≤ B) : ∀ n : Nat, (∀ i, i < n → 0 ≤ w i ∧ w i ≤ B) → n ≤ 64 → 0 ≤ sumTo w n ∧ sumTo w n ≤ 64 * B
  | 0, _, _ => by simp [sumTo]; omega
  | n + 1, h, hn => by
    have key : ∀ m, m ≤ n + 1 → 0 ≤ sumTo w m ∧ sumTo w m ≤ m * B := fun m => by
      induction m with
      | zero => intro _; simp [sumTo]
      | succ m ih =>
        intro hm
        have h1 := ih (by omega)
        have h2 := h m (by omega)
        simp only [sumTo]
        rw [Int.natCast_add, Int.add_mul]
        omega
    have h1 := key (n + 1) (Nat.le_refl _)
    have h2 : ((n + 1 : Nat) : Int) * B ≤ 64 * B := Int.mul_le_mul_of_nonneg_right (by omega) hB
    omega
def begins (l : List Int) (gap : Int) : Nat → Int
  | 0 => 0
  | i + 1 => begins l gap i + rd l (i : Int) + gap
theorem far_bd {l : List Int} (h : l.any farW = false) (i : Nat) (hi : i < l.length) : 0 ≤ rd l (i : Int) ∧ rd l (i : Int) ≤ 1000000 := by
  have h1 := List.any_eq_false.1 h l[i] (List.getElem_mem hi)
  have h2 : rd l (i : Int) = l[i] := by simp [rd, List.getD_eq_getElem?_getD, List.getElem?_eq_getElem hi]
  rw [h2]
  simpa [farW, inside] using h1
theorem begins_bd {l : List Int} {gap : Int} (hl : l.length ≤ 64) (hf : l.any farW = false) (hg : 0 ≤ gap ∧ gap ≤ 100000) : ∀ i, i ≤ l.length → 0 ≤ begins l gap i ∧ begins l gap i ≤ 1100000 * i
  | 0, _ => by simp [begins]
  | i + 1, hi => by
    have IH := begins_bd hl hf hg i (by omega)
    have := far_bd hf i (by omega)
    simp only [begins]
    push_cast
    omega
theorem outS_get {l : List Int} {gap : Int} (hl : l.length ≤ 64) (hf : l.any farW = false) (hg : 0 ≤ gap ∧ gap ≤ 100000) : ∀ i, i < l.length → outS l gap i = tab l.length (fun j => if j ≤ i then begins l gap j else 0)
  | 0, _ => by
    rw [outS, ← tab_zero]
    refine tab_congr fun j _ => ?_
    by_cases e : j ≤ 0
    · obtain rfl : j = 0 := by omega
      rfl
    · rw [if_neg e]
  | i + 1, hi => by
    have IH := outS_get hl hf hg i (by omega)
    have b := begins_bd hl hf hg i (by omega)
    have f := far_bd hf i (by omega)
    rw [outS, IH, tab_rd _ _ _ (by omega), if_pos (Nat.le_refl i), EvT.w64 (x := begins l gap i + rd l (i : Int)) (by omega) (by omega), EvT.w64 (by omega) (by omega), tab_set _ _ _ _ hi]
    refine tab_congr fun j hj => ?_
    by_cases e : j = i + 1
    · subst e; rw [if_pos rfl, if_pos (Nat.le_refl _)]; rfl
    · rw [if_neg e]
      by_cases e2 : j ≤ i
      · rw [if_pos e2, if_pos (by omega)]
      · rw [if_neg e2, if_neg (by omega)]
theorem w1 (i : Nat) (h : i ≤ 1000) : wrap64 ((i : Int) + 1) = ((i + 1 : Nat) : Int) := EvT.w64 (by omega) (by omega)
theorem head_ev : Ev (fun k => formelaw25_head.f k) true := Ev.of (fun k => formelaw25_head.mono k) (k := 20) (by decide +kernel)
theorem few_loop (l : List (List Int)) (hl : l.length ≤ 100) : ∀ (d i : Nat), i + d = l.length → Ev (fun k => formelaw25_few.l0 k l (l.length : Int) (i : Int)) ((l.drop i).all fun x => decide (x.length ≤ 70))
  | 0, i, e => by
    obtain rfl : i = l.length := by omega
    refine EvT.succ (fun k => rfl) (EvT.ifn (by omega) ?_)
    rw [List.drop_length]
    exact Ev.now _
  | d + 1, i, e => by
    have hi : i < l.length := by omega
    have hx : rd_L4 l (i : Int) = l[i] := by simp [rd_L4, List.getD_eq_getElem?_getD, List.getElem?_eq_getElem hi]
    refine EvT.succ (fun k => rfl) (EvT.ifp (by omega) (EvT.ifp (by omega) (EvT.ifp (by omega) ?_)))
    rw [List.drop_eq_getElem_cons hi, List.all_cons, hx]
    refine EvT.ite (fun h => ?_) (fun h => ?_)
    · have : decide (l[i].length ≤ 70) = false := decide_eq_false (by omega)
      rw [this, Bool.false_and]
      exact Ev.now _
    · have : decide (l[i].length ≤ 70) = true := decide_eq_true (by omega)
      rw [this, Bool.true_and, w1 i (by omega)]
      exact few_loop l hl d (i + 1) (by omega)
theorem few_ev (l : List (List Int)) (hl : l.length ≤ 100) : Ev (fun k => formelaw25_few.f k l) (l.all fun x => decide (x.length ≤ 70)) := by
  have := few_loop l hl l.length 0 (by omega)
  rwa [List.drop_zero] at this
theorem any_bd {l : List Int} {m : Int} (h : (l.any fun x => outW x m) = false) (i : Nat) (hi : i < l.length) : 0 ≤ rd l (i : Int) ∧ rd l (i : Int) ≤ m := by
  have h1 := List.any_eq_false.1 h l[i] (List.getElem_mem hi)
  have h2 : rd l (i : Int) = l[i] := by simp [rd, List.getD_eq_getElem?_getD, List.getElem?_eq_getElem hi]
  rw [h2]
  simp [outW] at h1
  omega
theorem begins_sum (l : List Int) (gap : Int) : ∀ i : Nat, begins l gap i = sumTo (fun j => rd l (j : Int)) i + gap * (i : Int)
  | 0 => by simp [begins, sumTo]
  | i + 1 => by
    simp only [begins, sumTo, begins_sum l gap i]
    rw [show ((i + 1 : Nat) : Int) = (i : Int) + 1 by omega, Int.mul_add, Int.mul_one]
    omega
theorem xAt_eq {x0 gap : Int} {l : List Int} (hl : l.length ≤ 64) (hx : 0 ≤ x0 ∧ x0 ≤ 1000000) (hg : 0 ≤ gap ∧ gap ≤ 100000) (hb : ∀ i, i < l.length → 0 ≤ rd l (i : Int) ∧ rd l (i : Int) ≤ 1000000) :
    ∀ i : Nat, i ≤ l.length → xAt x0 gap l i = x0 + begins l gap i ∧ 0 ≤ begins l gap i ∧ begins l gap i ≤ 1100000 * (i : Int)
  | 0, _ => by simp [xAt, begins]
  | i + 1, h => by
    obtain ⟨h1, h2, h3⟩ := xAt_eq hl hx hg hb i (by omega)
    have hbi := hb i (by omega)
    simp only [xAt, begins, h1]
    refine ⟨?_, by omega, by omega⟩
    rw [EvT.w64 (x := rd l (i : Int) + gap) (by omega) (by omega), EvT.w64 (by omega) (by omega)]
    omega
structure Good (l0 l1 : List Int) (a2 a3 a4 : Int) : Prop where
  n : 1 ≤ l0.length ∧ l0.length ≤ 64
  same : l0.length = l1.length
  gap : 0 ≤ a2 ∧ a2 ≤ 100000
  al : a3 = 0 ∨ a3 = 1 ∨ a3 = 2
  sp : 0 ≤ a4 ∧ a4 ≤ 1000000
  w : ∀ i, i < l0.length → 0 ≤ rd l0 (i : Int) ∧ rd l0 (i : Int) ≤ 1000000
  h : ∀ i, i < l1.length → 0 ≤ rd l1 (i : Int) ∧ rd l1 (i : Int) ≤ 1000000000
  far : l0.any farW = false
theorem good_of {l0 l1 : List Int} {a2 a3 a4 : Int} (h : placeOk l0 l1 a2 a3 a4 = true) : Good l0 l1 a2 a3 a4 := by
  simp only [placeOk, startsOk, Bool.and_eq_true, Bool.not_eq_true'] at h
  obtain ⟨⟨⟨⟨⟨⟨⟨h1, h2⟩, h3⟩, h4⟩, h5⟩, h6⟩, h7⟩, h8⟩ := h
  have e := eq_of_beq h5
  refine ⟨by simp [inside] at h1; omega, by omega, by simp [inside] at h2; omega, by simp [outW] at h7; omega, by simp [outW] at h8; omega, fun i hi => far_bd h3 i hi, fun i hi => ?_, h3⟩
  exact any_bd (m := 1000000000) h4 i hi
def ov (l : List Int) (gap space : Int) : Int := mx 0 (space - (sumTo (fun j => rd l (j : Int)) l.length + gap * ((l.length : Int) - 1)))
theorem sum_bd {l : List Int} (hb : ∀ i, i < l.length → 0 ≤ rd l (i : Int) ∧ rd l (i : Int) ≤ 1000000) (hl : l.length ≤ 64) : 0 ≤ sumTo (fun j => rd l (j : Int)) l.length ∧ sumTo (fun j => rd l (j : Int)) l.length ≤ 64000000 :=
  by have := sumTo_bd (w := fun j => rd l (j : Int)) 1000000 (by decide) l.length hb hl; exact ⟨this.1, by omega⟩
theorem ov_bd {l0 l1 : List Int} {a2 a3 a4 : Int} (g : Good l0 l1 a2 a3 a4) : 0 ≤ ov l0 a2 a4 ∧ ov l0 a2 a4 ≤ 1000000 := by
  have h1 := sum_bd g.w g.n.2
  have h2 : 0 ≤ a2 * ((l0.length : Int) - 1) := Int.mul_nonneg g.gap.1 (by have := g.n; omega)
  have h3 := g.sp
  unfold ov mx
  split <;> omega
theorem over_eq {l0 l1 : List Int} {a2 a3 a4 : Int} (g : Good l0 l1 a2 a3 a4) : overOf l0 a2 a4 = ov l0 a2 a4 := by
  obtain ⟨n1, n2⟩ := g.n
  have hg := g.gap
  have hs := g.sp
  have hS := outS_get (l := l0) (gap := a2) n2 g.far g.gap (l0.length - 1) (by omega)
  have hb := begins_bd n2 g.far g.gap (l0.length - 1) (by omega)
  have hw := g.w (l0.length - 1) (by omega)
  have hr : rd (outS l0 a2 (l0.length - 1)) ((l0.length - 1 : Nat) : Int) = begins l0 a2 (l0.length - 1) := by
    rw [hS, tab_rd _ _ _ (by omega), if_pos (by omega)]
  unfold overOf ov
  rw [hr, EvT.w64 (x := a4 - begins l0 a2 (l0.length - 1)) (by omega) (by omega), EvT.w64 (by omega) (by omega), begins_sum]
  congr 1
  have e : sumTo (fun j => rd l0 (j : Int)) l0.length = sumTo (fun j => rd l0 (j : Int)) (l0.length - 1) + rd l0 ((l0.length - 1 : Nat) : Int) := by
    conv => lhs; rw [show l0.length = (l0.length - 1) + 1 by omega]
    rfl
  rw [e, show (l0.length : Int) - 1 = ((l0.length - 1 : Nat) : Int) by omega]
  omega
theorem startX_bd {l0 l1 : List Int} {a2 a3 a4 : Int} (g : Good l0 l1 a2 a3 a4) : 0 ≤ startX l0 a2 a3 a4 ∧ startX l0 a2 a3 a4 ≤ ov l0 a2 a4 ∧ startX l0 a2 a3 a4 = wrap64 (Int.tdiv (wrap64 (ov l0 a2 a4 * a3)) 2) ∧ 2 * startX l0 a2 a3 a4 ≤ ov l0 a2 a4 * a3 ∧ ov l0 a2 a4 * a3 ≤ 2 * startX l0 a2 a3 a4 + 1 := by
  have hb := ov_bd g
  unfold startX
  rw [over_eq g]
  obtain ⟨v, hv⟩ : ∃ v, ov l0 a2 a4 = v := ⟨_, rfl⟩
  rw [hv] at hb ⊢
  rcases g.al with h | h | h <;> subst h
  · rw [if_pos rfl, Int.mul_zero]
    refine ⟨by omega, hb.1, by decide +kernel, by omega, by omega⟩
  · rw [if_neg (by decide), if_pos rfl, Int.mul_one, EvT.w64 (x := v) (by omega) (by omega)]
    have e : Int.tdiv v 2 = v / 2 := Int.tdiv_eq_ediv_of_nonneg hb.1
    rw [e, EvT.w64 (x := v / 2) (by omega) (by omega)]
    exact ⟨by omega, by omega, rfl, by omega, by omega⟩
  · rw [if_neg (by decide), if_neg (by decide), EvT.w64 (x := v * 2) (by omega) (by omega)]
    have e : Int.tdiv (v * 2) 2 = v := by rw [Int.tdiv_eq_ediv_of_nonneg (by omega)]; omega
    rw [e, EvT.w64 (x := v) (by omega) (by omega)]
    exact ⟨by omega, by omega, rfl, by omega, by omega⟩
end Go.Proofs.Ytdnhjkldhdolpaa.Pure
