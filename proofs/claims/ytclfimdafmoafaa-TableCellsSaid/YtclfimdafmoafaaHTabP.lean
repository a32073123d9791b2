import Derived.Test.YtclfimdafmoafaaHEv
import Derived.Test.YtclfimdafmoafaaHPlace
import Derived.Test.YtclfimdafmoafaaPx3
import Derived.Test.YtclfimdafmoafaaPx4
set_option linter.unusedVariables false
set_option linter.unusedSimpArgs false
namespace Go.Proofs.Ytclfimdafmoafaa.PureP
open Go.RowKit Go.Proofs.Ytclfimdafmoafaa.P Go.Proofs.YtclfimdafmoafaaW.PrintWords Go.Proofs.YtclfimdafmoafaaW.PrintLast Go.Proofs.YtclfimdafmoafaaW.PrintMore
theorem lit {α : Type} {g : Nat → Bool → Option α} {r : α} (b : Bool) (h : ∀ c, c = b → Ev (fun k => g k c) r) : Ev (fun k => g k b) r := h b rfl
theorem w1 (i : Nat) (h : i ≤ 1000000) : wrap64 ((i : Int) + 1) = ((i + 1 : Nat) : Int) := by unfold wrap64; omega
/-- few: ran to its end; true only if there are few rows, and short ones. -/
theorem few_loop (l : List (List Int)) : ∀ (d i : Nat), i + d = min l.length 50 → ∃ b, Ev (fun k => formelaw26_few_int.l0 k l (i : Int)) b ∧ (b = true → l.length ≤ 40)
  | 0, i, e => by
    have hend : Ev (fun k => formelaw26_few_int.j1 k l (i : Int) false) (decide ((l.length : Int) ≤ 40)) :=
      lit (g := fun k c => formelaw26_few_int.j1 k l (i : Int) c) false (fun c hc => EvT.succ (fun k => rfl) (EvT.ifn (by rw [hc]; decide) (EvT.now rfl)))
    refine ⟨_, EvT.succ (fun k => rfl) (EvT.ite (fun hi => ?_) (fun hi => hend)), fun h => by have := of_decide_eq_true h; omega⟩
    rw [show decide ((i : Int) < 50) = false from decide_eq_false (by omega)]
    exact hend
  | d + 1, i, e => by
    have hi : i < l.length := by omega
    by_cases hb : ((rd_L4 l (i : Int)).length : Int) > 70
    · refine ⟨false, EvT.succ (fun k => rfl) (EvT.ifp (by omega) ?_), fun h => by cases h⟩
      rw [show decide ((i : Int) < 50) = true from decide_eq_true (by omega)]
      exact lit (g := fun k c => formelaw26_few_int.j1 k l (i : Int) c) true (fun c hc => EvT.succ (fun k => rfl) (EvT.ifp hc (EvT.ifp (by omega) (EvT.ifp (by omega) (EvT.ifp hb (EvT.now rfl))))))
    · obtain ⟨b, hE, hb2⟩ := few_loop l d (i + 1) (by omega)
      refine ⟨b, EvT.succ (fun k => rfl) (EvT.ifp (by omega) ?_), hb2⟩
      rw [show decide ((i : Int) < 50) = true from decide_eq_true (by omega)]
      refine lit (g := fun k c => formelaw26_few_int.j1 k l (i : Int) c) true (fun c hc => EvT.succ (fun k => rfl) (EvT.ifp hc (EvT.ifp (by omega) (EvT.ifp (by omega) (EvT.ifn hb ?_)))))
      rw [w1 i (by omega)]
      exact hE
theorem few_ev (l : List (List Int)) : ∃ b, Ev (fun k => formelaw26_few_int.f k l) b ∧ (b = true → l.length ≤ 40) := few_loop l (min l.length 50) 0 (by omega)
/-! One table is itself. -/
theorem plain_self (x : S50) (h : x.f6 = []) : formeref26_plain.f x.f0 x.f1 x.f2 x.f3 x.f4 x.f5 x.f6 x.f0 x.f1 x.f2 x.f3 x.f4 x.f5 x.f6 = some true := by
  unfold formeref26_plain.f
  simp [h]
theorem rdL_eq (rows : List (List S50)) (i : Nat) (h : i < rows.length) : rd_L11 rows (i : Int) = rows[i] := by simp [rd_L11, List.getD_eq_getElem?_getD, List.getElem?_eq_getElem h]
theorem rdT_eq (row : List S50) (i : Nat) (h : i < row.length) : rd_T50 row (i : Int) = row[i] := by simp [rd_T50, List.getD_eq_getElem?_getD, List.getElem?_eq_getElem h]
theorem row_self (rows : List (List S50)) (hl : rows.length ≤ 1000) (hr : ∀ row ∈ rows, row.length ≤ 1000 ∧ ∀ x ∈ row, x.f6 = []) (i : Nat) (hi : i < rows.length)
    (hnext : Ev (fun k => formeref26_SameRows.l0 k rows rows ((i + 1 : Nat) : Int)) true) : ∀ (d j : Nat), j + d = rows[i].length →
    Ev (fun k => formeref26_SameRows.l1 k rows rows (i : Int) (j : Int)) true
  | 0, j, e => by
    have hrd := rdL_eq rows i hi
    refine EvT.succ (fun k => rfl) (EvT.ifp (by omega) (EvT.ifp (by omega) (EvT.ifn (by rw [hrd]; omega) ?_)))
    rw [w1 i (by omega)]
    exact hnext
  | d + 1, j, e => by
    have hrd := rdL_eq rows i hi
    have hj : j < rows[i].length := by omega
    have hh := hr _ (List.getElem_mem hi)
    have hx := plain_self (rd_T50 (rd_L11 rows (i : Int)) (j : Int)) (by rw [hrd, rdT_eq _ _ hj]; exact hh.2 _ (List.getElem_mem hj))
    refine EvT.succ (fun k => rfl) (EvT.ifp (by omega) (EvT.ifp (by omega) (EvT.ifp (by rw [hrd]; omega) (EvT.ifp (by omega) (EvT.ifp (by omega) (EvT.ifp (by rw [hrd]; omega) (EvT.bindc hx (EvT.ifp rfl ?_))))))))
    rw [w1 j (by omega)]
    exact row_self rows hl hr i hi hnext d (j + 1) (by omega)
theorem rows_self_loop (rows : List (List S50)) (hl : rows.length ≤ 1000) (hr : ∀ row ∈ rows, row.length ≤ 1000 ∧ ∀ x ∈ row, x.f6 = []) : ∀ (d i : Nat), i + d = rows.length →
    Ev (fun k => formeref26_SameRows.l0 k rows rows (i : Int)) true
  | 0, i, e => EvT.succ (fun k => rfl) (EvT.ifn (by omega) (EvT.now rfl))
  | d + 1, i, e => by
    have hi : i < rows.length := by omega
    exact EvT.succ (fun k => rfl) (EvT.ifp (by omega) (EvT.ifp (by omega) (EvT.ifp (by omega) (EvT.ifp rfl (row_self rows hl hr i hi (rows_self_loop rows hl hr d (i + 1) (by omega)) rows[i].length 0 (by omega))))))
theorem rows_self (rows : List (List S50)) (hl : rows.length ≤ 1000) (hr : ∀ row ∈ rows, row.length ≤ 1000 ∧ ∀ x ∈ row, x.f6 = []) : Ev (fun k => formeref26_SameRows.f k rows rows) true :=
  EvT.ifp rfl (rows_self_loop rows hl hr rows.length 0 (by omega))
/-! Heights. -/
theorem gmax_from (B : Int) : ∀ (xs : List Int) (a : Int), 0 ≤ a ∧ a ≤ B → (∀ x ∈ xs, x ≤ B) → 0 ≤ xs.foldl mx a ∧ xs.foldl mx a ≤ B
  | [], a, h, _ => h
  | x :: xs, a, h, hx => by
    have h1 := hx x (by simp)
    exact gmax_from B xs (mx a x) (by unfold mx; split <;> omega) (fun y hy => hx y (by simp [hy]))
theorem gmax_bd (B : Int) (hB : 0 ≤ B) (xs : List Int) (h : ∀ x ∈ xs, x ≤ B) : 0 ≤ gmax xs ∧ gmax xs ≤ B := gmax_from B xs 0 ⟨Int.le_refl _, hB⟩ h
structure Hs (n : Nat) (l : List (List Int)) : Prop where
  n80 : l.length ≤ 80
  w : ∀ i, i < l.length → (hk l i).length ≤ n
  bd : ∀ i, i < l.length → 0 ≤ gmax (hk l i) ∧ gmax (hk l i) ≤ 1000000
theorem hk_eq (l : List (List Int)) (i : Nat) (h : i < l.length) : hk l i = l[i] := by simp [hk, rd_L4, List.getD_eq_getElem?_getD, List.getElem?_eq_getElem h]
theorem Hs.of {n : Nat} {l : List (List Int)} (hl : l.length ≤ 80) (h : l.any (badI n) = false) : Hs n l := by
  have key : ∀ i, i < l.length → badI n (hk l i) = false := fun i hi => by
    rw [hk_eq l i hi]
    simpa using List.any_eq_false.1 h _ (List.getElem_mem hi)
  refine ⟨hl, fun i hi => ?_, fun i hi => ?_⟩
  · have := key i hi
    simp [badI] at this
    omega
  · refine gmax_bd _ (by omega) _ fun x hx => ?_
    have := key i hi
    simp only [badI, Bool.or_eq_false_iff] at this
    have := List.any_eq_false.1 this.2 x hx
    simp [farW, inside] at this
    omega
theorem yTo_zero {l : List (List Int)} {gap : Int} (hg : 0 ≤ gap ∧ gap ≤ 100000) : yTo l gap 0 = -gap := EvT.w64 (by omega) (by omega)
theorem yTo_both {n : Nat} {l : List (List Int)} (hs : Hs n l) {gap : Int} (hg : 0 ≤ gap ∧ gap ≤ 100000) : ∀ i, i ≤ l.length → (-gap ≤ yTo l gap i ∧ yTo l gap i ≤ 1100000 * i) ∧ (i < l.length → yTo l gap (i + 1) = yTo l gap i + gap + gmax (hk l i))
  | 0, _ => by
    have z := yTo_zero (l := l) hg
    refine ⟨by rw [z]; omega, fun hi => ?_⟩
    have b := hs.bd 0 hi
    simp only [yTo] at z ⊢
    rw [z, EvT.w64 (x := -gap + gap) (by omega) (by omega), EvT.w64 (by omega) (by omega)]
  | i + 1, hi => by
    obtain ⟨h1, h2⟩ := yTo_both hs hg i (by omega)
    have b := hs.bd i (by omega)
    have h3 := h2 (by omega)
    have n80 := hs.n80
    refine ⟨by rw [h3]; omega, fun hi' => ?_⟩
    have b' := hs.bd (i + 1) hi'
    rw [yTo, EvT.w64 (x := yTo l gap (i + 1) + gap) (by omega) (by omega), EvT.w64 (by omega) (by omega)]
theorem yTo_bd {n : Nat} {l : List (List Int)} (hs : Hs n l) {gap : Int} (hg : 0 ≤ gap ∧ gap ≤ 100000) (i : Nat) (hi : i ≤ l.length) : -gap ≤ yTo l gap i ∧ yTo l gap i ≤ 1100000 * i := (yTo_both hs hg i hi).1
theorem yTo_succ {n : Nat} {l : List (List Int)} (hs : Hs n l) {gap : Int} (hg : 0 ≤ gap ∧ gap ≤ 100000) (i : Nat) (hi : i < l.length) : yTo l gap (i + 1) = yTo l gap i + gap + gmax (hk l i) := (yTo_both hs hg i (by omega)).2 hi
theorem yW {n : Nat} {l : List (List Int)} (hs : Hs n l) {gap : Int} (hg : 0 ≤ gap ∧ gap ≤ 100000) (i : Nat) (hi : i ≤ l.length) : wrap64 (yTo l gap i + gap) = yTo l gap i + gap := by
  have := yTo_bd hs hg i hi
  have := hs.n80
  exact EvT.w64 (by omega) (by omega)
theorem rowsT_get (ws st : List Int) (hs : List (List Int)) (gap : Int) (n i : Nat) (h : i < n) : rd_L11 (rowsT ws st hs gap n) (i : Int) = P.rowAt ws st hs gap i := by
  rw [rdL_eq _ _ (by rw [rowsT_length]; exact h)]
  simp [rowsT]
theorem rowB_get (ws st : List Int) (h y : Int) (n i : Nat) (hi : i < n) : rd_T50 (rowB ws st h y n) (i : Int) = pcBox ws st h y i := by
  rw [rdT_eq _ _ (by rw [rowB_length]; exact hi)]
  simp [rowB]
theorem rowsT_self (ws st : List Int) (hs : List (List Int)) (gap : Int) (n m : Nat) (hn : n ≤ 1000) (hm : m ≤ 1000) (h : ∀ i, i < n → (hk hs i).length ≤ m) : Ev (fun k => formeref26_SameRows.f k (rowsT ws st hs gap n) (rowsT ws st hs gap n)) true := by
  refine rows_self _ (by rw [rowsT_length]; exact hn) fun row hr => ?_
  simp only [rowsT, List.mem_map, List.mem_range] at hr
  obtain ⟨i, hi, rfl⟩ := hr
  refine ⟨by unfold P.rowAt; rw [rowB_length]; have := h i hi; omega, fun x hx => ?_⟩
  simp only [P.rowAt, rowB, List.mem_map, List.mem_range] at hx
  obtain ⟨j, _, rfl⟩ := hx
  rfl
theorem startsOk_bd {l : List Int} {gap : Int} (h : startsOk l gap = true) : (1 ≤ l.length ∧ l.length ≤ 64) ∧ 0 ≤ gap ∧ gap ≤ 100000 := by
  simp [startsOk, inside] at h
  omega
end Go.Proofs.Ytclfimdafmoafaa.PureP
