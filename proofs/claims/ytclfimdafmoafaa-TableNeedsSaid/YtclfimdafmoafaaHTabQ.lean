import Derived.Test.YtclfimdafmoafaaHEv
import Derived.Test.YtclfimdafmoafaaHWidths
import Derived.Test.YtclfimdafmoafaaPx4
import Derived.Test.YtclfimdafmoafaaPx10
set_option linter.unusedVariables false
set_option linter.unusedSimpArgs false
namespace Go.Proofs.Ytclfimdafmoafaa.Pure
open Go.RowKit Go.Proofs.Ytclfimdafmoafaa.P Go.Proofs.YtclfimdafmoafaaW.PrintWords Go.Proofs.YtclfimdafmoafaaW.PrintLast Go.Proofs.YtclfimdafmoafaaW.PrintMore
theorem _root_.Go.Proofs.Ytclfimdafmoafaa.EvT.lit {α : Type} {g : Nat → Bool → Option α} {r : α} (b : Bool) (h : ∀ c, c = b → Ev (fun k => g k c) r) : Ev (fun k => g k b) r := h b rfl
theorem head_ev : Ev (fun k => formelaw26_head.f k) true := ⟨20, fun k hk => (by
  have h0 : formelaw26_head.f 20 = some true := by decide +kernel
  have := formelaw26_head.mono
  induction k with
  | zero => omega
  | succ k ih =>
    rcases Nat.lt_or_ge k 20 with h | h
    · obtain rfl : k = 19 := by omega
      exact h0
    · exact this k _ (ih h))⟩
theorem w1 (i : Nat) (h : i ≤ 1000000) : wrap64 ((i : Int) + 1) = ((i + 1 : Nat) : Int) := by unfold wrap64; omega
theorem need_f (t : S29) : formeref26_Need.f t.f0 t.f1 = some (!wrongR t) := by
  unfold formeref26_Need.f formeref26_length.f wrongR inside
  by_cases h1 : t.f0 ≥ 0 <;> by_cases h2 : t.f0 ≤ 1000000 <;> by_cases h3 : t.f1 ≥ 0 <;> by_cases h4 : t.f1 ≤ 1000000 <;> by_cases h5 : t.f0 ≤ t.f1 <;> simp [h1, h2, h3, h4, h5] <;> omega
/-! What the room gives, in one walk. -/
def pre (l : List S29) (P : Int) (i : Nat) : Int := if 0 < spTo l l.length then Int.tdiv (P * spTo l i) (spTo l l.length) else 0
theorem pre_zero (l : List S29) (P : Int) : pre l P 0 = 0 := by unfold pre; split <;> simp [spTo]
theorem widR_pre (l : List S29) (a1 a2 : Int) (i : Nat) : widR l a1 a2 i = (tkr l i).f0 + (pre l (mn (restR l a1 a2) (spTo l l.length)) (i + 1) - pre l (mn (restR l a1 a2) (spTo l l.length)) i) := by
  unfold widR partR pre
  split <;> simp
theorem sp_nn {l : List S29} (ok : OkN l) (i : Nat) (hi : i ≤ l.length) : 0 ≤ spTo l i := (spTo_bd ok i hi).1
theorem pre_div {l : List S29} (ok : OkN l) {P : Int} (hP : 0 ≤ P) (i : Nat) (hi : i ≤ l.length) (h : 0 < spTo l l.length) : pre l P i = P * spTo l i / spTo l l.length := by
  unfold pre
  rw [if_pos h]
  exact Int.tdiv_eq_ediv_of_nonneg (Int.mul_nonneg hP (sp_nn ok i hi))
theorem pre_step {l : List S29} (ok : OkN l) {P : Int} (hP : 0 ≤ P ∧ P ≤ spTo l l.length) (i : Nat) (hi : i < l.length) :
    0 ≤ pre l P (i + 1) - pre l P i ∧ pre l P (i + 1) - pre l P i ≤ (tkr l i).f1 - (tkr l i).f0 := by
  have hd := ok.bd i hi
  by_cases h : 0 < spTo l l.length
  · rw [pre_div ok hP.1 _ (by omega) h, pre_div ok hP.1 _ (by omega) h]
    have hs : spTo l (i + 1) = spTo l i + ((tkr l i).f1 - (tkr l i).f0) := by simp only [spTo]; omega
    rw [hs]
    have hd0 : 0 ≤ (tkr l i).f1 - (tkr l i).f0 := by omega
    generalize (tkr l i).f1 - (tkr l i).f0 = D at hd0 ⊢
    have e1 : P * (spTo l i + D) = P * spTo l i + P * D := Int.mul_add _ _ _
    have hPD : 0 ≤ P * D := Int.mul_nonneg hP.1 hd0
    have hPA : P * D ≤ spTo l l.length * D := Int.mul_le_mul_of_nonneg_right hP.2 hd0
    have u1 : P * spTo l i / spTo l l.length ≤ (P * spTo l i + P * D) / spTo l l.length := Int.ediv_le_ediv h (by omega)
    have u2 : (P * spTo l i + P * D) / spTo l l.length ≤ (P * spTo l i + spTo l l.length * D) / spTo l l.length := Int.ediv_le_ediv h (by omega)
    rw [Int.add_mul_ediv_left _ _ (by omega)] at u2
    rw [e1]
    omega
  · unfold pre
    rw [if_neg h, if_neg h]
    omega
theorem pre_last {l : List S29} (ok : OkN l) {P : Int} (hP : 0 ≤ P ∧ P ≤ spTo l l.length) : pre l P l.length = P := by
  by_cases h : 0 < spTo l l.length
  · rw [pre_div ok hP.1 _ (Nat.le_refl _) h]
    exact Int.mul_ediv_cancel _ (by omega)
  · unfold pre
    rw [if_neg h]
    omega
theorem pre_full {l : List S29} (ok : OkN l) (i : Nat) (hi : i ≤ l.length) : pre l (spTo l l.length) i = spTo l i := by
  have hm := spTo_mono ok (l.length - i) i (by omega)
  rw [show i + (l.length - i) = l.length by omega] at hm
  have h0 := sp_nn ok i hi
  by_cases h : 0 < spTo l l.length
  · rw [pre_div ok (by omega) _ hi h]
    exact Int.mul_ediv_cancel_left _ (by omega)
  · unfold pre
    rw [if_neg h]
    omega
theorem pre_mono {l : List S29} (ok : OkN l) {P Q : Int} (hP : 0 ≤ P) (hQ : P ≤ Q) (i : Nat) (hi : i ≤ l.length) : pre l P i ≤ pre l Q i := by
  by_cases h : 0 < spTo l l.length
  · rw [pre_div ok hP _ hi h, pre_div ok (by omega) _ hi h]
    exact Int.ediv_le_ediv h (Int.mul_le_mul_of_nonneg_right hQ (sp_nn ok i hi))
  · unfold pre
    rw [if_neg h, if_neg h]
    omega
theorem pre_bd {l : List S29} (ok : OkN l) {P : Int} (hP : 0 ≤ P ∧ P ≤ spTo l l.length) : ∀ i, i ≤ l.length → 0 ≤ pre l P i ∧ pre l P i ≤ spTo l i
  | 0, _ => by rw [pre_zero]; simp [spTo]
  | i + 1, hi => by
    have IH := pre_bd ok hP i (by omega)
    have := pre_step ok hP i (by omega)
    simp only [spTo]
    omega
theorem tabW_rd (n : Nat) (w : Nat → Int) (i : Nat) (h : i < n) : rd (tabW n w) (i : Int) = w i := by simp [rd, tabW, List.getD_eq_getElem?_getD, h]
end Go.Proofs.Ytclfimdafmoafaa.Pure
