/- The places of rows, and of further ones below them, are those of both, the second ones moved down by the height of the first ones and the gap (package table alone; up to 40 rows). Conditions: those of the statement alone. -/
import Derived.Test.YtclfimdafmoafaaPx14
import Derived.Test.YtclfimdafmoafaaHTabP
set_option linter.unusedVariables false
set_option linter.unusedSimpArgs false
namespace Go.Proofs.Ytclfimdafmoafaa.PureP
open Go.RowKit Go.Proofs.Ytclfimdafmoafaa.P Go.Proofs.YtclfimdafmoafaaW.PrintWords Go.Proofs.YtclfimdafmoafaaW.PrintLast Go.Proofs.YtclfimdafmoafaaW.PrintMore
theorem head_ev : Ev (fun k => formelaw26_head.f k) true := ⟨20, fun k hk => (by
  have h0 : formelaw26_head.f 20 = some true := by decide +kernel
  have := formelaw26_head.mono
  induction k with
  | zero => omega
  | succ k ih =>
    rcases Nat.lt_or_ge k 20 with h | h
    · obtain rfl : k = 19 := by omega
      exact h0
    · exact this k _ (ih h))⟩
theorem hk_left (a b : List (List Int)) (i : Nat) (h : i < a.length) : hk (a ++ b) i = hk a i := by
  rw [hk_eq _ _ (by simp; omega), hk_eq _ _ h, List.getElem_append_left h]
theorem hk_right (a b : List (List Int)) (i : Nat) (h : i < b.length) : hk (a ++ b) (a.length + i) = hk b i := by
  rw [hk_eq _ _ (by simp; omega), hk_eq _ _ h, List.getElem_append_right (by omega)]
  simp
theorem y_left {n : Nat} {a b : List (List Int)} (hs : Hs n (a ++ b)) (ha : Hs n a) {gap : Int} (hg : 0 ≤ gap ∧ gap ≤ 100000) : ∀ i, i ≤ a.length → yTo (a ++ b) gap i = yTo a gap i
  | 0, _ => rfl
  | i + 1, hi => by
    rw [yTo_succ hs hg i (by simp; omega), yTo_succ ha hg i (by omega), y_left hs ha hg i (by omega), hk_left _ _ _ (by omega)]
theorem y_right {n : Nat} {a b : List (List Int)} (hs : Hs n (a ++ b)) (ha : Hs n a) (hb : Hs n b) {gap : Int} (hg : 0 ≤ gap ∧ gap ≤ 100000) : ∀ i, i ≤ b.length → yTo (a ++ b) gap (a.length + i) = yTo a gap a.length + gap + yTo b gap i
  | 0, _ => by
    rw [Nat.add_zero, y_left hs ha hg _ (Nat.le_refl _), yTo_zero hg]
    omega
  | i + 1, hi => by
    rw [← Nat.add_assoc, yTo_succ hs hg _ (by simp; omega), yTo_succ hb hg i (by omega), y_right hs ha hb hg i (by omega), hk_right _ _ _ (by omega)]
    omega
theorem rows_left {n : Nat} {a b : List (List Int)} (hs : Hs n (a ++ b)) (ha : Hs n a) {gap : Int} (hg : 0 ≤ gap ∧ gap ≤ 100000) (ws st : List Int) : rowsT ws st a gap a.length = rowsT ws st (a ++ b) gap a.length :=
  List.map_congr_left fun i hi => by
    have := List.mem_range.1 hi
    unfold P.rowAt
    rw [hk_left _ _ _ this, y_left hs ha hg i (by omega)]
theorem row_step {n : Nat} {a b : List (List Int)} (hs : Hs n (a ++ b)) (ha : Hs n a) (hb : Hs n b) (hn : n ≤ 64) {gap : Int} (hg : 0 ≤ gap ∧ gap ≤ 100000) (ws st : List Int) (x16 x19 : List (List S50)) (ya : Int) (hya : ya = yTo a gap a.length) (j : Nat) (hj : j < b.length) (hx : x19.length ≤ 1000)
    (hnext : Ev (fun k => formelaw26_TableRows.l0 k gap true ya (rowsT ws st b gap b.length) x16 (x19 ++ [P.rowAt ws st (a ++ b) gap (a.length + j)]) ((j + 1 : Nat) : Int)) true) : ∀ (d m : Nat), m + d = (hk b j).length →
    Ev (fun k => formelaw26_TableRows.l1 k gap true ya (rowsT ws st b gap b.length) x16 x19 (j : Int) (rowB ws st (gmax (hk b j)) (wrap64 (yTo (a ++ b) gap (a.length + j) + gap)) m) (m : Int)) true
  | 0, m, e => by
    have hw := hb.w j hj
    have hb80 := hb.n80
    have hrl : (rd_L11 (rowsT ws st b gap b.length) (j : Int)).length = (hk b j).length := by rw [rowsT_get _ _ _ _ _ _ hj]; unfold P.rowAt; rw [rowB_length]
    refine EvT.succ (fun k => rfl) (EvT.ifp (by omega) (EvT.ifp (by rw [rowsT_length]; omega) (EvT.ifn (by rw [hrl]; omega) (EvT.ifp (by omega) ?_))))
    rw [w1 j (by omega)]
    obtain rfl : m = (hk b j).length := by omega
    have : P.rowAt ws st (a ++ b) gap (a.length + j) = rowB ws st (gmax (hk b j)) (wrap64 (yTo (a ++ b) gap (a.length + j) + gap)) (hk b j).length := by unfold P.rowAt; rw [hk_right _ _ _ hj]
    rw [← this]
    exact hnext
  | d + 1, m, e => by
    have hw := hb.w j hj
    have hb80 := hb.n80
    have ha80 := ha.n80
    have hm : m < (hk b j).length := by omega
    have hrl : (rd_L11 (rowsT ws st b gap b.length) (j : Int)).length = (hk b j).length := by rw [rowsT_get _ _ _ _ _ _ hj]; unfold P.rowAt; rw [rowB_length]
    have hbox : rd_T50 (rd_L11 (rowsT ws st b gap b.length) (j : Int)) (m : Int) = pcBox ws st (gmax (hk b j)) (wrap64 (yTo b gap j + gap)) m := by
      rw [rowsT_get _ _ _ _ _ _ hj]
      unfold P.rowAt
      exact rowB_get _ _ _ _ _ _ hm
    have IH := row_step hs ha hb hn hg ws st x16 x19 ya hya j hj hx hnext d (m + 1) (by omega)
    refine EvT.succ (fun k => rfl) (EvT.ifp (by omega) (EvT.ifp (by rw [rowsT_length]; omega) (EvT.ifp (by rw [hrl]; omega) (EvT.ifp (by omega) (EvT.ifp (by rw [rowB_length]; omega) ?_)))))
    rw [w1 m (by omega), hbox]
    have e1 := yTo_bd ha hg a.length (Nat.le_refl _)
    have e2 := yTo_bd hb hg j (by omega)
    have e3 : wrap64 (wrap64 (yTo b gap j + gap) + wrap64 (ya + gap)) = wrap64 (yTo (a ++ b) gap (a.length + j) + gap) := by
      rw [y_right hs ha hb hg j (by omega), hya, EvT.w64 (x := yTo b gap j + gap) (by omega) (by omega), EvT.w64 (x := yTo a gap a.length + gap) (by omega) (by omega)]
      congr 1
      omega
    have e4 : (⟨(pcBox ws st (gmax (hk b j)) (wrap64 (yTo b gap j + gap)) m).f0, (pcBox ws st (gmax (hk b j)) (wrap64 (yTo b gap j + gap)) m).f1, wrap64 ((pcBox ws st (gmax (hk b j)) (wrap64 (yTo b gap j + gap)) m).f2 + wrap64 (ya + gap)), (pcBox ws st (gmax (hk b j)) (wrap64 (yTo b gap j + gap)) m).f3, (pcBox ws st (gmax (hk b j)) (wrap64 (yTo b gap j + gap)) m).f4, (pcBox ws st (gmax (hk b j)) (wrap64 (yTo b gap j + gap)) m).f5, (pcBox ws st (gmax (hk b j)) (wrap64 (yTo b gap j + gap)) m).f6⟩ : S50) = pcBox ws st (gmax (hk b j)) (wrap64 (yTo (a ++ b) gap (a.length + j) + gap)) m := by
      rw [← e3]
      rfl
    rw [e4, ← rowB_succ]
    exact IH
theorem rows_step {n : Nat} {a b : List (List Int)} (hs : Hs n (a ++ b)) (ha : Hs n a) (hb : Hs n b) (hn : n ≤ 64) {gap : Int} (hg : 0 ≤ gap ∧ gap ≤ 100000) (ws st : List Int) (ya : Int) (hya : ya = yTo a gap a.length) : ∀ (d j : Nat), j + d = b.length →
    Ev (fun k => formelaw26_TableRows.l0 k gap true ya (rowsT ws st b gap b.length) (rowsT ws st (a ++ b) gap (a ++ b).length) (rowsT ws st (a ++ b) gap (a.length + j)) (j : Int)) true
  | 0, j, e => by
    have hs80 := hs.n80
    refine EvT.succ (fun k => rfl) (EvT.ifn (by rw [rowsT_length]; omega) (EvT.ifp rfl ?_))
    have : a.length + j = (a ++ b).length := by simp; omega
    rw [this]
    exact Ev.bind (rowsT_self ws st (a ++ b) gap _ n (by omega) (by omega) hs.w) (Ev.now _)
  | d + 1, j, e => by
    have hj : j < b.length := by omega
    have ha80 := ha.n80
    have hb80 := hb.n80
    have IH := rows_step hs ha hb hn hg ws st ya hya d (j + 1) (by omega)
    rw [← Nat.add_assoc, rowsT_succ] at IH
    refine EvT.succ (fun k => rfl) (EvT.ifp (by rw [rowsT_length]; omega) ?_)
    exact row_step hs ha hb hn hg ws st _ _ ya hya j hj (by rw [rowsT_length]; omega) IH (hk b j).length 0 (by omega)
def TableRowsPure : Prop := ∀ (l0 : List Int) (l1 l2 : List (List Int)) (a3 : Int), ∃ k, formelaw26_TableRows.f k l0 l1 l2 a3 = some true
theorem place_zero {l0 : List Int} {l : List (List Int)} {gap : Int} (h : (placeR l0 l gap).2.2 = 0) : placeOk l0 l gap = true ∧ ¬ yEnd l gap > 1000000000 := by
  unfold placeR at h
  split at h
  · split at h
    · simp at h
    · exact ⟨by assumption, by assumption⟩
  · simp at h
theorem TableRows : TableRowsPure := fun l0 l1 l2 a3 => Ev.rounds (Ev.bind head_ev (EvT.ifp rfl (by
  have out : Ev (fun k => formelaw26_TableRows.j0 k l0 l1 l2 a3 true true) true := lit (g := fun k c => formelaw26_TableRows.j0 k l0 l1 l2 a3 true c) true (fun c hc => EvT.succ (fun k => rfl) (EvT.ifp hc (EvT.now rfl)))
  obtain ⟨b1, hE1, hf1⟩ := few_ev l1
  obtain ⟨b2, hE2, hf2⟩ := few_ev l2
  refine Ev.bind hE1 (EvT.ite (fun hb1 => Ev.bind hE2 (EvT.ite (fun hb2 => EvT.ite (fun _ => out) (fun hn1 => ?_)) (fun _ => out))) (fun _ => out))
  have hl1 := hf1 hb1
  have hl2 := hf2 hb2
  cases hn2 : ((l2.length : Int) == 0)
  rotate_left
  · exact out
  have hn2' : l2.length ≠ 0 := by simpa using hn2
  refine lit (g := fun k c => formelaw26_TableRows.j0 k l0 l1 l2 a3 true c) false (fun c hc => EvT.succ (fun k => rfl) (EvT.ifn (by rw [hc]; decide) (EvT.bindc (show table_Place.f l0 l1 a3 = some (placeR l0 l1 a3) from rfl) (EvT.bindc (show table_Place.f l0 l2 a3 = some (placeR l0 l2 a3) from rfl) ?_))))
  have out2 : ∀ c, c = true → Ev (fun k => formelaw26_TableRows.j1 k l0 l1 l2 a3 true (placeR l0 l1 a3).1 (placeR l0 l1 a3).2.1 (placeR l0 l2 a3).1 (placeR l0 l2 a3).2.1 c) true := fun c hc => EvT.succ (fun k => rfl) (EvT.ifp hc (EvT.now rfl))
  refine EvT.ite (fun hp1 => ?_) (fun _ => out2 _ rfl)
  cases hp2 : ((placeR l0 l2 a3).2.2 != 0)
  rotate_left
  · exact out2 _ rfl
  have hp2' : (placeR l0 l2 a3).2.2 = 0 := by simpa using hp2
  obtain ⟨ok1, ye1⟩ := place_zero hp1
  obtain ⟨ok2, ye2⟩ := place_zero hp2'
  have r1 : placeR l0 l1 a3 = (rowsT l0 (outS l0 a3 (l0.length - 1)) l1 a3 l1.length, yTo l1 a3 l1.length, 0) := by
    unfold placeR
    rw [if_pos ok1, if_neg ye1]
    unfold yEnd
    rw [if_neg (by omega)]
  have r2 : placeR l0 l2 a3 = (rowsT l0 (outS l0 a3 (l0.length - 1)) l2 a3 l2.length, yTo l2 a3 l2.length, 0) := by
    unfold placeR
    rw [if_pos ok2, if_neg ye2]
    unfold yEnd
    rw [if_neg hn2']
  simp only [placeOk, Bool.and_eq_true, Bool.not_eq_true', decide_eq_true_eq] at ok1 ok2
  have hst := startsOk_bd ok1.1.1
  have ha := Hs.of (by omega) ok1.2
  have hb := Hs.of (by omega) ok2.2
  have hboth : (l1 ++ l2).any (badI l0.length) = false := by rw [List.any_append, ok1.2, ok2.2]; rfl
  have hs := Hs.of (by simp; omega) hboth
  have y3 := y_right hs ha hb hst.2 l2.length (Nat.le_refl _)
  have e1 := yTo_bd ha hst.2 l1.length (Nat.le_refl _)
  have e2 := yTo_bd hb hst.2 l2.length (Nat.le_refl _)
  have r3 : placeR l0 (l1 ++ l2) a3 = (rowsT l0 (outS l0 a3 (l0.length - 1)) (l1 ++ l2) a3 (l1 ++ l2).length, yTo l1 a3 l1.length + a3 + yTo l2 a3 l2.length, 0) := by
    have hy : yEnd (l1 ++ l2) a3 = yTo l1 a3 l1.length + a3 + yTo l2 a3 l2.length := by
      unfold yEnd
      rw [if_neg (by rw [List.length_append]; omega), List.length_append, y3]
    unfold placeR
    rw [if_pos (by simp only [placeOk, Bool.and_eq_true, Bool.not_eq_true', decide_eq_true_eq]; exact ⟨⟨ok1.1.1, by simp; omega⟩, hboth⟩), hy, if_neg (by omega)]
  generalize outS l0 a3 (l0.length - 1) = st at r1 r2 r3
  rw [r1, r2]
  have rs := rows_step hs ha hb (by omega) hst.2 l0 st (yTo l1 a3 l1.length) rfl l2.length 0 (by omega)
  refine lit (g := fun k c => formelaw26_TableRows.j1 k l0 l1 l2 a3 true (rowsT l0 st l1 a3 l1.length) (yTo l1 a3 l1.length) (rowsT l0 st l2 a3 l2.length) (yTo l2 a3 l2.length) c) false (fun c hc => EvT.succ (fun k => rfl) (EvT.ifn (by rw [hc]; decide) (EvT.bindc rfl (EvT.ifp (by simp; omega) (EvT.bindc rfl (EvT.ifp (by simp; omega) (EvT.bindc (show table_Place.f l0 (([] ++ l1) ++ l2) a3 = some (placeR l0 (l1 ++ l2) a3) from rfl) ?_)))))))
  rw [r3]
  refine EvT.ifp rfl ?_
  have hyy : (yTo l1 a3 l1.length + a3 + yTo l2 a3 l2.length != wrap64 (wrap64 (yTo l1 a3 l1.length + a3) + yTo l2 a3 l2.length)) = false := by
    rw [EvT.w64 (x := yTo l1 a3 l1.length + a3) (by omega) (by omega), EvT.w64 (by omega) (by omega)]
    simp
  simp only [hyy]
  refine lit (g := fun k c => formelaw26_TableRows.j2 k a3 true (rowsT l0 st l1 a3 l1.length) (yTo l1 a3 l1.length) (rowsT l0 st l2 a3 l2.length) (rowsT l0 st (l1 ++ l2) a3 (l1 ++ l2).length) c) false (fun c hc => EvT.succ (fun k => rfl) (EvT.ifn (by rw [hc]; decide) (EvT.bindc rfl (EvT.ifp (by simp [rowsT_length]; omega) ?_))))
  rw [List.nil_append, rows_left hs ha hst.2]
  exact rs)))
end Go.Proofs.Ytclfimdafmoafaa.PureP
