import Derived.Test.YtciheadencbmjaaHValid
import Derived.Test.YtciheadencbmjaaHEv
import Derived.Maps.Views
set_option linter.unusedVariables false
set_option linter.unusedSimpArgs false
namespace Go.Proofs.Ytciheadencbmjaa.P
open Go.RowKit Go.Proofs.YtciheadencbmjaaW.PrintWords Go.Proofs.YtciheadencbmjaaW.PrintLast Go.Proofs.YtciheadencbmjaaW.PrintMore

def tk (l : List S64) (i : Nat) : S64 := rd_T64 l (i : Int)
/-- What the open tracks ahead of a place grow. -/
def grown (l : List S64) (op : Nat → Bool) : Nat → Int
  | 0 => 0
  | i + 1 => grown l op i + if op i = true then (tk l i).f1 else 0
def quo (l : List S64) (op : Nat → Bool) (number all : Int) (i : Nat) : Int := Int.tdiv (number * grown l op i) all
def part (l : List S64) (op : Nat → Bool) (number all : Int) (i : Nat) : Int := quo l op number all (i + 1) - quo l op number all i
def cutAt (l : List S64) (op : Nat → Bool) (number all : Int) (i : Nat) : Bool := op i && !((tk l i).f2 == 0) && !decide ((tk l i).f0 + part l op number all i ≤ (tk l i).f2)
def numTo (l : List S64) (op : Nat → Bool) (number all : Int) : Nat → Int
  | 0 => number
  | i + 1 => numTo l op number all i - if cutAt l op number all i = true then (tk l i).f2 - (tk l i).f0 else 0
def allTo (l : List S64) (op : Nat → Bool) (number all : Int) : Nat → Int
  | 0 => all
  | i + 1 => allTo l op number all i - if cutAt l op number all i = true then (tk l i).f1 else 0
def anyOf (p : Nat → Bool) : Nat → Bool
  | 0 => false
  | i + 1 => anyOf p i || p i
theorem anyOf_false {p : Nat → Bool} : ∀ {n : Nat}, anyOf p n = false → ∀ i, i < n → p i = false
  | 0, _, i, hi => by omega
  | n + 1, h, i, hi => by
    simp only [anyOf, Bool.or_eq_false_iff] at h
    by_cases e : i = n
    · rw [e]; exact h.2
    · exact anyOf_false h.1 i (by omega)
theorem anyOf_true {p : Nat → Bool} : ∀ {n : Nat}, anyOf p n = true → ∃ i, i < n ∧ p i = true
  | 0, h => by simp [anyOf] at h
  | n + 1, h => by
    simp only [anyOf, Bool.or_eq_true] at h
    rcases h with h | h
    · obtain ⟨i, hi, hp⟩ := anyOf_true h
      exact ⟨i, by omega, hp⟩
    · exact ⟨n, by omega, h⟩
theorem anyOf_of {p : Nat → Bool} : ∀ {n i : Nat}, i < n → p i = true → anyOf p n = true
  | n + 1, i, hi, hp => by
    simp only [anyOf, Bool.or_eq_true]
    by_cases e : i = n
    · right; rw [← e]; exact hp
    · left; exact anyOf_of (by omega) hp
/-- The rounds of Share: what tracks are open, what is left, what all of them grow, the widths so far. -/
def rounds (l : List S64) : Nat → (Nat → Bool) → Int → Int → (Nat → Int) → Option (Nat → Int)
  | 0, _, _, _, _ => none
  | k + 1, op, number, all, wd =>
    if anyOf op l.length = false then some wd
    else if anyOf (cutAt l op number all) l.length = true then
      rounds l k (fun i => op i && !cutAt l op number all i) (numTo l op number all l.length) (allTo l op number all l.length) (fun i => if cutAt l op number all i = true then (tk l i).f2 else wd i)
    else some (fun i => if op i = true then wd i + part l op number all i else wd i)
/-- Well-formed tracks. -/
structure OkL (l : List S64) : Prop where
  n1 : 1 ≤ l.length
  n64 : l.length ≤ 64
  bd : ∀ i, i < l.length → 0 ≤ (tk l i).f0 ∧ (tk l i).f0 ≤ 1000000 ∧ 0 ≤ (tk l i).f1 ∧ (tk l i).f1 ≤ 1000 ∧ ((tk l i).f2 = 0 ∨ (tk l i).f0 ≤ (tk l i).f2 ∧ (tk l i).f2 ≤ 1000000)
structure Inv (l : List S64) (op : Nat → Bool) (number all : Int) : Prop where
  op_in : ∀ i, op i = true → i < l.length ∧ 0 < (tk l i).f1
  num : 0 ≤ number ∧ number ≤ 1000000
  all : all = grown l op l.length
theorem tk_mem (l : List S64) (i : Nat) (h : i < l.length) : tk l i ∈ l := by
  have : tk l i = l[i] := by simp [tk, rd_T64, List.getD_eq_getElem?_getD, List.getElem?_eq_getElem h]
  rw [this]; exact List.getElem_mem h
theorem wrongW_false {t : S64} (h : wrongW t = false) : 0 ≤ t.f0 ∧ t.f0 ≤ 1000000 ∧ 0 ≤ t.f1 ∧ t.f1 ≤ 1000 ∧ (t.f2 = 0 ∨ t.f0 ≤ t.f2 ∧ t.f2 ≤ 1000000) := by
  simp [wrongW, inside] at h
  omega
theorem OkL.of {l : List S64} (h : (inside (l.length : Int) 1 64 && !l.any wrongW) = true) : OkL l := by
  simp only [Bool.and_eq_true, inside, decide_eq_true_eq, Bool.not_eq_true', List.any_eq_false] at h
  exact ⟨by omega, by omega, fun i hi => wrongW_false (by simpa using h.2 _ (tk_mem l i hi))⟩
section
variable {l : List S64} {op : Nat → Bool} {number all : Int}
theorem grown_step (ok : OkL l) (i : Nat) (hi : i < l.length) : grown l op i ≤ grown l op (i + 1) ∧ grown l op (i + 1) ≤ grown l op i + 1000 := by
  have := ok.bd i hi
  simp only [grown]
  split <;> omega
theorem grown_bd (ok : OkL l) : ∀ i, i ≤ l.length → 0 ≤ grown l op i ∧ grown l op i ≤ 1000 * i
  | 0, _ => by simp [grown]
  | i + 1, h => by
    have := grown_bd ok i (by omega)
    have := grown_step (op := op) ok i (by omega)
    push_cast
    omega
theorem grown_mono (ok : OkL l) : ∀ d i, i + d ≤ l.length → grown l op i ≤ grown l op (i + d)
  | 0, i, _ => by simp
  | d + 1, i, h => by
    have h1 := grown_mono ok d i (by omega)
    have h2 := grown_step (op := op) ok (i + d) (by omega)
    rw [show i + (d + 1) = i + d + 1 by omega]
    omega
theorem Inv.all_pos (ok : OkL l) (hv : Inv l op number all) {i : Nat} (h : op i = true) : 0 < all := by
  obtain ⟨h1, h2⟩ := hv.op_in i h
  have h3 := grown_bd (op := op) ok i (by omega)
  have h4 : grown l op (i + 1) = grown l op i + (tk l i).f1 := by simp only [grown, if_pos h]
  have h5 := grown_mono (op := op) ok (l.length - (i + 1)) (i + 1) (by omega)
  rw [show i + 1 + (l.length - (i + 1)) = l.length by omega, ← hv.all] at h5
  omega
theorem Inv.all_bd (ok : OkL l) (hv : Inv l op number all) : 0 ≤ all ∧ all ≤ 64000 := by
  have h := grown_bd (op := op) ok l.length (Nat.le_refl _)
  have := ok.n64
  rw [← hv.all] at h
  omega
theorem quo_eq (ok : OkL l) (hv : Inv l op number all) (i : Nat) (hi : i ≤ l.length) : quo l op number all i = number * grown l op i / all := by
  unfold quo
  rw [Int.tdiv_eq_ediv_of_nonneg (Int.mul_nonneg hv.num.1 (grown_bd ok i hi).1)]
theorem quo_zero (l : List S64) (op : Nat → Bool) (number all : Int) : quo l op number all 0 = 0 := by simp [quo, grown]
theorem quo_step (ok : OkL l) (hv : Inv l op number all) (ha : 0 < all) (i : Nat) (hi : i < l.length) : quo l op number all i ≤ quo l op number all (i + 1) := by
  rw [quo_eq ok hv i (by omega), quo_eq ok hv (i + 1) (by omega)]
  exact Int.ediv_le_ediv ha (Int.mul_le_mul_of_nonneg_left (grown_step ok i hi).1 hv.num.1)
theorem quo_all (ok : OkL l) (hv : Inv l op number all) (ha : 0 < all) : quo l op number all l.length = number := by
  rw [quo_eq ok hv _ (Nat.le_refl _), ← hv.all]
  exact Int.mul_ediv_cancel _ (by omega)
theorem quo_bd (ok : OkL l) (hv : Inv l op number all) (ha : 0 < all) (i : Nat) (hi : i ≤ l.length) : 0 ≤ quo l op number all i ∧ quo l op number all i ≤ number := by
  constructor
  · rw [quo_eq ok hv i hi]
    exact Int.ediv_nonneg (Int.mul_nonneg hv.num.1 (grown_bd ok i hi).1) (by omega)
  · have h := grown_mono (op := op) ok (l.length - i) i (by omega)
    rw [show i + (l.length - i) = l.length by omega] at h
    have h2 := Int.ediv_le_ediv ha (Int.mul_le_mul_of_nonneg_left h hv.num.1)
    rw [← quo_eq ok hv i hi, ← quo_eq ok hv _ (Nat.le_refl _), quo_all ok hv ha] at h2
    exact h2
theorem part_bd (ok : OkL l) (hv : Inv l op number all) (ha : 0 < all) (i : Nat) (hi : i < l.length) : 0 ≤ part l op number all i ∧ part l op number all i ≤ 1000000 := by
  have h1 := quo_step ok hv ha i hi
  have h2 := quo_bd ok hv ha i (by omega)
  have h3 := quo_bd ok hv ha (i + 1) (by omega)
  have := hv.num
  unfold part
  omega
theorem cutAt_true {i : Nat} (h : cutAt l op number all i = true) : op i = true ∧ (tk l i).f2 ≠ 0 ∧ (tk l i).f2 < (tk l i).f0 + part l op number all i := by
  simp [cutAt] at h
  exact ⟨h.1.1, h.1.2, h.2⟩
theorem numTo_bd (ok : OkL l) (hv : Inv l op number all) (ha : 0 < all) : ∀ i, i ≤ l.length → number - quo l op number all i ≤ numTo l op number all i ∧ numTo l op number all i ≤ number
  | 0, _ => by simp [numTo, quo_zero]
  | i + 1, hi => by
    have IH := numTo_bd ok hv ha i (by omega)
    have h1 := quo_step ok hv ha i (by omega)
    have h2 := ok.bd i (by omega)
    simp only [numTo]
    split
    · rename_i hc
      obtain ⟨_, h3, h4⟩ := cutAt_true hc
      unfold part at h4
      omega
    · omega
theorem numTo_in (ok : OkL l) (hv : Inv l op number all) (ha : 0 < all) (i : Nat) (hi : i ≤ l.length) : 0 ≤ numTo l op number all i ∧ numTo l op number all i ≤ 1000000 := by
  have h1 := numTo_bd ok hv ha i hi
  have h2 := quo_bd ok hv ha i hi
  have := hv.num
  omega
theorem allTo_bd (ok : OkL l) (hv : Inv l op number all) : ∀ i, i ≤ l.length → all - grown l op i ≤ allTo l op number all i ∧ allTo l op number all i ≤ all
  | 0, _ => by simp [allTo, grown]
  | i + 1, hi => by
    have IH := allTo_bd ok hv i (by omega)
    have h2 := ok.bd i (by omega)
    simp only [allTo, grown]
    by_cases hc : cutAt l op number all i = true
    · rw [if_pos hc, if_pos (cutAt_true hc).1]
      omega
    · rw [if_neg hc]
      split <;> omega
theorem allTo_in (ok : OkL l) (hv : Inv l op number all) (i : Nat) (hi : i ≤ l.length) : 0 ≤ allTo l op number all i ∧ allTo l op number all i ≤ 64000 := by
  have h1 := allTo_bd ok hv i hi
  have h2 := hv.all_bd ok
  have h3 := grown_mono (op := op) ok (l.length - i) i (by omega)
  rw [show i + (l.length - i) = l.length by omega, ← hv.all] at h3
  omega
theorem grown_cut : ∀ i, grown l (fun j => op j && !cutAt l op number all j) i = grown l op i - (all - allTo l op number all i)
  | 0 => by simp [grown, allTo]
  | i + 1 => by
    simp only [grown, allTo, grown_cut i]
    by_cases hc : cutAt l op number all i = true
    · have h1 := (cutAt_true hc).1
      simp [hc, h1]; omega
    · have h2 := Bool.eq_false_iff.2 hc
      simp [h2]; omega
theorem Inv.next (ok : OkL l) (hv : Inv l op number all) (ha : 0 < all) : Inv l (fun i => op i && !cutAt l op number all i) (numTo l op number all l.length) (allTo l op number all l.length) where
  op_in i h := hv.op_in i (by simp at h; exact h.1)
  num := numTo_in ok hv ha _ (Nat.le_refl _)
  all := by rw [grown_cut, ← hv.all]; omega
end
/-- A list by its places. -/
def tab (n : Nat) (w : Nat → Int) : List Int := (List.range n).map w
theorem tab_length (n : Nat) (w : Nat → Int) : (tab n w).length = n := by simp [tab]
theorem tab_rd (n : Nat) (w : Nat → Int) (i : Nat) (h : i < n) : rd (tab n w) (i : Int) = w i := by simp [rd, tab, List.getD_eq_getElem?_getD, h]
theorem tab_congr {n : Nat} {w w' : Nat → Int} (h : ∀ i, i < n → w i = w' i) : tab n w = tab n w' := List.map_congr_left fun i hi => h i (List.mem_range.1 hi)
theorem tab_set (n : Nat) (w : Nat → Int) (i : Nat) (v : Int) (h : i < n) : (tab n w).set i v = tab n (fun j => if j = i then v else w j) := by
  refine List.ext_getElem (by simp [tab]) fun k h1 h2 => ?_
  simp [tab] at h2
  simp only [tab, List.getElem_set, List.getElem_map, List.getElem_range]
  by_cases e : i = k
  · rw [if_pos e, if_pos e.symm]
  · rw [if_neg e, if_neg (fun h => e h.symm)]
theorem tab_zero (n : Nat) : tab n (fun _ => 0) = List.replicate n 0 := by
  refine List.ext_getElem (by simp [tab]) fun k h1 h2 => ?_
  simp [tab]
/-- How many are open. -/
def count (op : Nat → Bool) : Nat → Nat
  | 0 => 0
  | i + 1 => count op i + if op i = true then 1 else 0
theorem count_zero (op : Nat → Bool) : ∀ n, count op n = 0 ↔ anyOf op n = false
  | 0 => by simp [count, anyOf]
  | n + 1 => by
    have := count_zero op n
    simp only [count, anyOf, Bool.or_eq_false_iff, ← this]
    cases op n <;> simp
theorem count_congr {op op' : Nat → Bool} : ∀ n, (∀ i, i < n → op i = op' i) → count op n = count op' n
  | 0, _ => rfl
  | n + 1, h => by simp only [count, count_congr n (fun i hi => h i (by omega)), h n (by omega)]
theorem count_le (op : Nat → Bool) : ∀ n, count op n ≤ n
  | 0 => Nat.le_refl _
  | n + 1 => by have := count_le op n; simp only [count]; split <;> omega
theorem count_on {op : Nat → Bool} (j : Nat) (hj : op j = false) : ∀ n, count (fun i => if i = j then true else op i) n = count op n + if j < n then 1 else 0
  | 0 => by simp [count]
  | n + 1 => by
    simp only [count, count_on j hj n]
    by_cases e : n = j
    · subst e; simp [hj]
    · simp only [if_neg e]
      split <;> split <;> split <;> omega
theorem count_off {op : Nat → Bool} (j : Nat) (hj : op j = true) : ∀ n, count (fun i => if i = j then false else op i) n + (if j < n then 1 else 0) = count op n
  | 0 => by simp [count]
  | n + 1 => by
    have := count_off j hj n
    simp only [count]
    by_cases e : n = j
    · subst e; simp [hj] at this ⊢; omega
    · simp only [if_neg e]
      revert this
      split <;> split <;> split <;> omega
open Go.Maps (Tidy has size)
/-- The map of the open tracks. -/
structure OpenSays (D : DataW Unit) (op : Nat → Bool) (n : Nat) : Prop where
  tidy : Tidy D
  has_ : ∀ i, i < n → has D (.int .i64 (i : Int)) = op i
  at_ : ∀ i, i < n → D.atKey (.int .i64 (i : Int)) (.lit (.bool false)) = .lit (.bool (op i))
  size_ : size D = count op n
theorem keyNe {i j : Nat} (h : i ≠ j) : (Lit.int IntKind.i64 (i : Int)) ≠ .int .i64 (j : Int) := by
  intro e; injection e with _ e; omega
theorem OpenSays.made (n : Nat) : OpenSays (.map []) (fun _ => false) n where
  tidy := Go.Maps.tidy_empty
  has_ _ _ := rfl
  at_ _ _ := rfl
  size_ := by
    have : ∀ n, count (fun _ => false) n = 0 := fun n => by induction n with
      | zero => rfl
      | succ n ih => simp [count, ih]
    rw [this]; rfl
theorem OpenSays.put {D : DataW Unit} {op : Nat → Bool} {n : Nat} (h : OpenSays D op n) (j : Nat) (hj : j < n) (hf : op j = false) : OpenSays (D.put (.int .i64 (j : Int)) (.lit (.bool true))) (fun i => if i = j then true else op i) n where
  tidy := h.tidy.put (show WideAt.IsKeyLit (.int .i64 (j : Int)) from trivial) _
  has_ i hi := by
    by_cases e : i = j
    · subst e; rw [if_pos rfl]; exact Go.Maps.has_put_same h.tidy.isMap (show WideAt.IsKeyLit (.int .i64 (i : Int)) from trivial) _
    · rw [if_neg e, Go.Maps.has_put_other (keyNe e)]; exact h.has_ i hi
  at_ i hi := by
    by_cases e : i = j
    · subst e; rw [if_pos rfl]; exact Go.Maps.atKey_put_same h.tidy.isMap (show WideAt.IsKeyLit (.int .i64 (i : Int)) from trivial) _ _
    · rw [if_neg e, Go.Maps.atKey_put_other (keyNe e)]; exact h.at_ i hi
  size_ := by rw [Go.Maps.size_put h.tidy, h.has_ j hj, hf, count_on j hf, if_pos hj, h.size_]; rfl
theorem OpenSays.del {D : DataW Unit} {op : Nat → Bool} {n : Nat} (h : OpenSays D op n) (j : Nat) (hj : j < n) (hf : op j = true) : OpenSays (D.del (.int .i64 (j : Int))) (fun i => if i = j then false else op i) n where
  tidy := h.tidy.del _
  has_ i hi := by
    by_cases e : i = j
    · subst e; rw [if_pos rfl]; exact Go.Maps.has_del_same
    · rw [if_neg e, Go.Maps.has_del_other (keyNe e)]; exact h.has_ i hi
  at_ i hi := by
    by_cases e : i = j
    · subst e; rw [if_pos rfl]; exact Go.Maps.atKey_del_same _
    · rw [if_neg e, Go.Maps.atKey_del_other (keyNe e)]; exact h.at_ i hi
  size_ := by
    have h1 := Go.Maps.size_del (k := .int .i64 (j : Int)) h.tidy
    have h2 := count_off j hf n
    rw [h.has_ j hj, hf, if_pos rfl, h.size_] at h1
    rw [if_pos hj] at h2
    omega
theorem OpenSays.congr {D : DataW Unit} {op op' : Nat → Bool} {n : Nat} (h : OpenSays D op n) (e : ∀ i, i < n → op i = op' i) : OpenSays D op' n where
  tidy := h.tidy
  has_ i hi := by rw [← e i hi]; exact h.has_ i hi
  at_ i hi := by rw [← e i hi]; exact h.at_ i hi
  size_ := by rw [← count_congr n e]; exact h.size_
/-- The map of the parts. -/
structure PartSays (D : DataW Unit) (op : Nat → Bool) (p : Nat → Int) (n : Nat) : Prop where
  tidy : Tidy D
  has_ : ∀ x : Int, has D (.int .i64 x) = true → ∃ i : Nat, i < n ∧ x = i ∧ op i = true
  at_ : ∀ i, i < n → op i = true → ∀ z, D.atKey (.int .i64 (i : Int)) z = .lit (.int .i64 (p i))
theorem PartSays.made (p : Nat → Int) (n : Nat) : PartSays (.map []) (fun _ => false) p n where
  tidy := Go.Maps.tidy_empty
  has_ _ h := by cases h
  at_ _ _ h := by cases h
theorem PartSays.put {D : DataW Unit} {op : Nat → Bool} {p : Nat → Int} {n : Nat} (h : PartSays D op p n) (j : Nat) (hj : j < n) : PartSays (D.put (.int .i64 (j : Int)) (.lit (.int .i64 (p j)))) (fun i => if i = j then true else op i) p n where
  tidy := h.tidy.put (show WideAt.IsKeyLit (.int .i64 (j : Int)) from trivial) _
  has_ x hx := by
    by_cases e : x = j
    · exact ⟨j, hj, e, by simp⟩
    · rw [Go.Maps.has_put_other (by intro e2; injection e2 with _ e2; exact e e2)] at hx
      obtain ⟨i, hi, hxi, ho⟩ := h.has_ x hx
      exact ⟨i, hi, hxi, by simp [ho]⟩
  at_ i hi ho z := by
    by_cases e : i = j
    · subst e; exact Go.Maps.atKey_put_same h.tidy.isMap (show WideAt.IsKeyLit (.int .i64 (i : Int)) from trivial) _ _
    · rw [Go.Maps.atKey_put_other (keyNe e)]; exact h.at_ i hi (by simpa [e] using ho) z
theorem PartSays.congr {D : DataW Unit} {op op' : Nat → Bool} {p : Nat → Int} {n : Nat} (h : PartSays D op p n) (e : ∀ i, i < n → op i = op' i) : PartSays D op' p n where
  tidy := h.tidy
  has_ x hx := by obtain ⟨i, hi, hxi, ho⟩ := h.has_ x hx; exact ⟨i, hi, hxi, by rw [← e i hi]; exact ho⟩
  at_ i hi ho z := h.at_ i hi (by rw [e i hi]; exact ho) z
end Go.Proofs.Ytciheadencbmjaa.P
