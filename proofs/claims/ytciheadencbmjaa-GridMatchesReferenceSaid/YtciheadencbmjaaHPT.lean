import Derived.Test.YtciheadencbmjaaHShare
set_option linter.unusedVariables false
set_option linter.unusedSimpArgs false
namespace Go.Proofs.Ytciheadencbmjaa.P
open Go.RowKit Go.Proofs.YtciheadencbmjaaW.PrintWords Go.Proofs.YtciheadencbmjaaW.PrintLast Go.Proofs.YtciheadencbmjaaW.PrintMore

theorem ediv_add_bd (a b d : Int) (hd : 0 < d) : a / d + b / d ≤ (a + b) / d ∧ (a + b) / d ≤ a / d + b / d + 1 := by
  have e1 := Int.emod_add_mul_ediv a d
  have e2 := Int.emod_add_mul_ediv b d
  have m1 := Int.emod_nonneg a (Int.ne_of_gt hd)
  have m2 := Int.emod_nonneg b (Int.ne_of_gt hd)
  have m3 := Int.emod_lt_of_pos a hd
  have m4 := Int.emod_lt_of_pos b hd
  constructor
  · apply Int.le_ediv_of_mul_le hd
    rw [Int.add_mul, Int.mul_comm (a / d), Int.mul_comm (b / d)]
    omega
  · apply Int.le_of_lt_add_one
    apply Int.ediv_lt_of_lt_mul hd
    rw [Int.add_mul, Int.add_mul, Int.add_mul, Int.mul_comm (a / d), Int.mul_comm (b / d)]
    omega
def sumTo (w : Nat → Int) : Nat → Int
  | 0 => 0
  | i + 1 => sumTo w i + w i
theorem sumTo_nonneg {w : Nat → Int} : ∀ n, (∀ i, i < n → 0 ≤ w i) → 0 ≤ sumTo w n
  | 0, _ => Int.le_refl _
  | n + 1, h => by have := sumTo_nonneg n (fun i hi => h i (by omega)); have := h n (by omega); simp only [sumTo]; omega
theorem sumTo_le {w : Nat → Int} : ∀ n i, i < n → (∀ i, i < n → 0 ≤ w i) → w i ≤ sumTo w n
  | n + 1, i, hi, h => by
    have h1 := sumTo_nonneg n (fun i hi => h i (by omega))
    have h2 := h n (by omega)
    simp only [sumTo]
    by_cases e : i = n
    · subst e; omega
    · have := sumTo_le n i (by omega) (fun i hi => h i (by omega)); omega
theorem sumTo_congr {w w' : Nat → Int} : ∀ n, (∀ i, i < n → w i = w' i) → sumTo w n = sumTo w' n
  | 0, _ => rfl
  | n + 1, h => by simp only [sumTo, sumTo_congr n (fun i hi => h i (by omega)), h n (by omega)]
theorem count_lt {op op' : Nat → Bool} : ∀ n, (∀ i, op' i = true → op i = true) → (∃ i, i < n ∧ op i = true ∧ op' i = false) → count op' n < count op n
  | 0, _, ⟨i, h, _⟩ => by omega
  | n + 1, hs, ⟨i, hi, h1, h2⟩ => by
    have le : ∀ m, count op' m ≤ count op m := fun m => by
      induction m with
      | zero => exact Nat.le_refl _
      | succ m ih =>
        simp only [count]
        by_cases h : op' m = true
        · rw [if_pos h, if_pos (hs m h)]; omega
        · rw [if_neg h]; split <;> omega
    simp only [count]
    by_cases e : i = n
    · subst e
      have := le i
      rw [h1, h2]
      simp
      omega
    · have := count_lt n hs ⟨i, by omega, h1, h2⟩
      by_cases h : op' n = true
      · rw [if_pos h, if_pos (hs n h)]; omega
      · rw [if_neg h]; split <;> omega
section
variable {l : List S64} {op : Nat → Bool} {number all : Int}
theorem part_q (ok : OkL l) (hv : Inv l op number all) (ha : 0 < all) (i : Nat) (hi : i < l.length) (ho : op i = true) :
    number * (tk l i).f1 / all ≤ part l op number all i ∧ part l op number all i ≤ number * (tk l i).f1 / all + 1 := by
  have e : grown l op (i + 1) = grown l op i + (tk l i).f1 := by simp [grown, ho]
  unfold part
  rw [quo_eq ok hv i (by omega), quo_eq ok hv (i + 1) (by omega), e, Int.mul_add]
  have := ediv_add_bd (number * grown l op i) (number * (tk l i).f1) all ha
  omega
theorem cut_le (ok : OkL l) (hv : Inv l op number all) (ha : 0 < all) (i : Nat) (hi : i < l.length) (hc : cutAt l op number all i = true) : ((tk l i).f2 - (tk l i).f0) * all ≤ number * (tk l i).f1 := by
  obtain ⟨h1, h2, h3⟩ := cutAt_true hc
  have h4 := (part_q ok hv ha i hi h1).2
  have h5 : (tk l i).f2 - (tk l i).f0 ≤ number * (tk l i).f1 / all := by omega
  exact Int.le_trans (Int.mul_le_mul_of_nonneg_right h5 (by omega)) (Int.ediv_mul_le _ (by omega))
theorem ratio (ok : OkL l) (hv : Inv l op number all) (ha : 0 < all) : ∀ m, m ≤ l.length → number * allTo l op number all m ≤ numTo l op number all m * all
  | 0, _ => by simp [allTo, numTo]
  | m + 1, h => by
    have IH := ratio ok hv ha m (by omega)
    simp only [allTo, numTo]
    by_cases hc : cutAt l op number all m = true
    · have := cut_le ok hv ha m (by omega) hc
      rw [if_pos hc, if_pos hc, Int.mul_sub, Int.sub_mul]
      omega
    · rw [if_neg hc, if_neg hc]; simpa using IH
end
structure RInv (l : List S64) (op : Nat → Bool) (number all : Int) (wd : Nat → Int) (N0 : Int) : Prop where
  inv : Inv l op number all
  wopen : ∀ i, op i = true → wd i = (tk l i).f0
  wshut : ∀ i, i < l.length → op i = false → ((tk l i).f1 = 0 ∧ wd i = (tk l i).f0) ∨ (0 < (tk l i).f1 ∧ (tk l i).f2 ≠ 0 ∧ wd i = (tk l i).f2 ∧ (wd i - (tk l i).f0) * all ≤ number * (tk l i).f1)
  sum : number + sumTo (fun i => wd i - (tk l i).f0) l.length = N0
structure Fin (l : List S64) (N0 : Int) (res : Nat → Int) : Prop where
  lim : ∀ i, i < l.length → (tk l i).f0 ≤ res i ∧ ((tk l i).f2 = 0 ∨ res i ≤ (tk l i).f2) ∧ ((tk l i).f1 = 0 → res i = (tk l i).f0)
  sumle : sumTo (fun i => res i - (tk l i).f0) l.length ≤ N0
  sumeq : (∃ i, i < l.length ∧ 0 < (tk l i).f1 ∧ ((tk l i).f2 = 0 ∨ res i < (tk l i).f2)) → sumTo (fun i => res i - (tk l i).f0) l.length = N0
  fair : ∀ i k, i < l.length → k < l.length → (tk l k).f1 ≤ (tk l i).f1 → 0 < (tk l k).f1 → ((tk l i).f2 = 0 ∨ res i < (tk l i).f2) → res k - (tk l k).f0 - 1 ≤ res i - (tk l i).f0
theorem RInv.next {l : List S64} {op : Nat → Bool} {number all : Int} {wd : Nat → Int} {N0 : Int} (ok : OkL l) (h : RInv l op number all wd N0) (ha : 0 < all) :
    RInv l (fun i => op i && !cutAt l op number all i) (numTo l op number all l.length) (allTo l op number all l.length) (fun i => if cutAt l op number all i = true then (tk l i).f2 else wd i) N0 where
  inv := h.inv.next ok ha
  wopen i hi := by
    simp at hi
    rw [if_neg (by rw [hi.2]; decide)]
    exact h.wopen i hi.1
  wshut i hi ho := by
    have hr := ratio ok h.inv ha l.length (Nat.le_refl _)
    have hf := ok.bd i hi
    have up : ∀ x : Int, x * all ≤ number * (tk l i).f1 → x * allTo l op number all l.length ≤ numTo l op number all l.length * (tk l i).f1 := fun x hx => by
      have hA := allTo_in ok h.inv l.length (Nat.le_refl _)
      have h1 := Int.mul_le_mul_of_nonneg_right hx hA.1
      have h2 := Int.mul_le_mul_of_nonneg_right hr hf.2.2.1
      have h3 : (x * allTo l op number all l.length) * all ≤ (numTo l op number all l.length * (tk l i).f1) * all := by
        have e1 : (x * allTo l op number all l.length) * all = x * all * allTo l op number all l.length := by rw [Int.mul_assoc, Int.mul_comm (allTo l op number all l.length), ← Int.mul_assoc]
        have e2 : (numTo l op number all l.length * (tk l i).f1) * all = numTo l op number all l.length * all * (tk l i).f1 := by rw [Int.mul_assoc, Int.mul_comm (tk l i).f1, ← Int.mul_assoc]
        have e3 : number * (tk l i).f1 * allTo l op number all l.length = number * allTo l op number all l.length * (tk l i).f1 := by rw [Int.mul_assoc, Int.mul_comm (tk l i).f1, ← Int.mul_assoc]
        rw [e1, e2]
        rw [e3] at h1
        exact Int.le_trans h1 h2
      exact Int.le_of_mul_le_mul_right h3 ha
    by_cases hc : cutAt l op number all i = true
    · obtain ⟨h1, h2, h3⟩ := cutAt_true hc
      right
      rw [if_pos hc]
      exact ⟨(h.inv.op_in i h1).2, h2, rfl, up _ (cut_le ok h.inv ha i hi hc)⟩
    · have ho' : op i = false := by
        cases h1 : op i
        · rfl
        · simp [h1, Bool.eq_false_iff.2 hc] at ho
      rw [if_neg hc]
      rcases h.wshut i hi ho' with h1 | ⟨h1, h2, h3, h4⟩
      · exact .inl h1
      · exact .inr ⟨h1, h2, h3, up _ h4⟩
  sum := by
    have key : ∀ m, m ≤ l.length → numTo l op number all m + sumTo (fun i => (if cutAt l op number all i = true then (tk l i).f2 else wd i) - (tk l i).f0) m = number + sumTo (fun i => wd i - (tk l i).f0) m := fun m => by
      induction m with
      | zero => intro _; simp [numTo, sumTo]
      | succ m ih =>
        intro hm
        have := ih (by omega)
        simp only [numTo, sumTo]
        by_cases hc : cutAt l op number all m = true
        · have := h.wopen m (cutAt_true hc).1
          rw [if_pos hc, if_pos hc]
          omega
        · rw [if_neg hc, if_neg hc]
          omega
    rw [key _ (Nat.le_refl _)]
    exact h.sum
theorem rounds_spec {l : List S64} {N0 : Int} (ok : OkL l) : ∀ (fuel : Nat) (op : Nat → Bool) (number all : Int) (wd : Nat → Int), RInv l op number all wd N0 → count op l.length < fuel → ∃ res, rounds l fuel op number all wd = some res ∧ Fin l N0 res
  | 0, _, _, _, _, _, h => by omega
  | fuel + 1, op, number, all, wd, h, hc => by
    have hn := h.inv.num
    simp only [rounds]
    by_cases hany : anyOf op l.length = false
    · rw [if_pos hany]
      have hsh := fun i hi => h.wshut i hi (anyOf_false hany i hi)
      refine ⟨wd, rfl, ⟨fun i hi => ?_, ?_, ?_, ?_⟩⟩
      · have hb := ok.bd i hi
        rcases hsh i hi with ⟨h1, h2⟩ | ⟨h1, h2, h3, _⟩
        · exact ⟨by omega, by omega, fun _ => h2⟩
        · exact ⟨by omega, by omega, fun h0 => by omega⟩
      · have := h.sum; omega
      · rintro ⟨i, hi, h1, h2⟩
        rcases hsh i hi with ⟨h3, _⟩ | ⟨_, h4, h5, _⟩ <;> omega
      · intro i k hi hk h1 h2 h3
        rcases hsh i hi with ⟨h4, _⟩ | ⟨_, h4, h5, _⟩ <;> omega
    · rw [if_neg hany]
      have hany' : anyOf op l.length = true := by simpa using hany
      obtain ⟨i0, hi0, ho0⟩ := anyOf_true hany'
      have ha := h.inv.all_pos ok ho0
      by_cases hcut : anyOf (cutAt l op number all) l.length = true
      · rw [if_pos hcut]
        obtain ⟨j, hj, hcj⟩ := anyOf_true hcut
        refine rounds_spec ok fuel _ _ _ _ (h.next ok ha) ?_
        have := count_lt (op := op) (op' := fun i => op i && !cutAt l op number all i) l.length (fun i hi => by simp at hi; exact hi.1) ⟨j, hj, (cutAt_true hcj).1, by simp [hcj]⟩
        omega
      · rw [if_neg hcut]
        have hno := fun i hi => anyOf_false (Bool.eq_false_iff.2 hcut) i hi
        have hsum : sumTo (fun i => (if op i = true then wd i + part l op number all i else wd i) - (tk l i).f0) l.length = N0 := by
          have key : ∀ m, m ≤ l.length → sumTo (fun i => (if op i = true then wd i + part l op number all i else wd i) - (tk l i).f0) m = sumTo (fun i => wd i - (tk l i).f0) m + quo l op number all m := fun m => by
            induction m with
            | zero => intro _; simp [sumTo, quo_zero]
            | succ m ih =>
              intro hm
              have := ih (by omega)
              simp only [sumTo]
              by_cases ho : op m = true
              · have hp : part l op number all m = quo l op number all (m + 1) - quo l op number all m := rfl
                rw [if_pos ho]; omega
              · rw [if_neg ho]
                have : quo l op number all (m + 1) = quo l op number all m := by unfold quo; simp [grown, ho]
                omega
          rw [key _ (Nat.le_refl _), quo_all ok h.inv ha]
          have := h.sum
          omega
        refine ⟨_, rfl, ⟨fun i hi => ?_, by rw [hsum]; omega, fun _ => hsum, ?_⟩⟩
        · have hb := ok.bd i hi
          by_cases ho : op i = true
          · rw [if_pos ho, h.wopen i ho]
            have hp := part_bd ok h.inv ha i hi
            have hcf := hno i hi
            have := (h.inv.op_in i ho).2
            refine ⟨by omega, ?_, fun h0 => by omega⟩
            by_cases hz : (tk l i).f2 = 0
            · exact .inl hz
            · right
              simp [cutAt, ho, hz] at hcf
              exact hcf
          · rw [if_neg ho]
            rcases h.wshut i hi (Bool.eq_false_iff.2 ho) with ⟨h1, h2⟩ | ⟨h1, h2, h3, _⟩
            · exact ⟨by omega, by omega, fun _ => h2⟩
            · exact ⟨by omega, by omega, fun h0 => by omega⟩
        · intro i k hi hk h1 h2 h3
          have hoi : op i = true := by
            cases ho : op i
            · rw [ho] at h3
              simp only [Bool.false_eq_true, if_false] at h3
              rcases h.wshut i hi ho with ⟨h4, _⟩ | ⟨_, h4, h5, _⟩ <;> omega
            · rfl
          have hpi := (part_q ok h.inv ha i hi hoi).1
          have hmono : number * (tk l k).f1 / all ≤ number * (tk l i).f1 / all := Int.ediv_le_ediv ha (Int.mul_le_mul_of_nonneg_left h1 hn.1)
          rw [if_pos hoi, h.wopen i hoi]
          by_cases hok : op k = true
          · rw [if_pos hok, h.wopen k hok]
            have := (part_q ok h.inv ha k hk hok).2
            omega
          · rw [if_neg hok]
            rcases h.wshut k hk (Bool.eq_false_iff.2 hok) with ⟨h4, _⟩ | ⟨_, h4, h5, h6⟩
            · omega
            · have h7 : wd k - (tk l k).f0 ≤ number * (tk l k).f1 / all := Int.le_ediv_of_mul_le ha h6
              omega
theorem Share_spec (l : List S64) (ok : OkL l) (a1 a2 : Int) (h1 : 0 ≤ a1 ∧ a1 ≤ 1000000) (h2 : 0 ≤ a2 ∧ a2 ≤ 100000) : ∃ res, Share l a1 a2 = some res ∧ Fin l (leftN l a1 a2) res := by
  unfold Share
  refine rounds_spec ok _ _ _ _ _ ⟨⟨fun i hi => by simpa using hi, leftN_bd l ok a1 a2 h1 h2, rfl⟩, fun i _ => rfl, fun i hi ho => .inl ⟨?_, rfl⟩, ?_⟩ ?_
  · have := ok.bd i hi
    simp [hi] at ho
    omega
  · rw [show sumTo (fun i => (tk l i).f0 - (tk l i).f0) l.length = sumTo (fun _ => 0) l.length from sumTo_congr _ (fun i _ => by omega)]
    have : ∀ n, sumTo (fun _ => 0) n = 0 := fun n => by induction n with
      | zero => rfl
      | succ n ih => simp [sumTo, ih]
    rw [this]; omega
  · have := count_le (fun i => decide (i < l.length) && decide (0 < (tk l i).f1)) l.length
    omega
end Go.Proofs.Ytciheadencbmjaa.P
