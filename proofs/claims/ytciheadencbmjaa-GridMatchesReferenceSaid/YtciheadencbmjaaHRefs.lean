import Derived.Test.YtciheadencbmjaaPx6
import Derived.Test.YtciheadencbmjaaHPT
set_option linter.unusedVariables false
set_option linter.unusedSimpArgs false
namespace Go.Proofs.Ytciheadencbmjaa.Pure
open Go.RowKit Go.Proofs.Ytciheadencbmjaa.P Go.Proofs.YtciheadencbmjaaW.PrintWords Go.Proofs.YtciheadencbmjaaW.PrintLast Go.Proofs.YtciheadencbmjaaW.PrintMore
theorem _root_.Go.Proofs.Ytciheadencbmjaa.EvT.lit {α : Type} {g : Nat → Bool → Option α} {r : α} (b : Bool) (h : ∀ c, c = b → Ev (fun k => g k c) r) : Ev (fun k => g k b) r := h b rfl
theorem in_eq (n lo hi : Int) : formeref23_in.f n lo hi = some (inside n lo hi) := by
  unfold formeref23_in.f inside
  by_cases h : lo ≤ n
  · rw [if_pos h, decide_eq_true h]; rfl
  · rw [if_neg h, decide_eq_false h]; rfl
def okV (l : List S64) : Bool := inside (l.length : Int) 1 64 && !l.any wrongW
theorem drop_tk (l : List S64) (i : Nat) (h : i < l.length) : l.drop i = tk l i :: l.drop (i + 1) := by
  rw [List.drop_eq_getElem_cons h]
  congr 1
  simp [tk, rd_T64, List.getD_eq_getElem?_getD, List.getElem?_eq_getElem h]
theorem valid_loop (l : List S64) (hl : l.length ≤ 1000) : ∀ (d i : Nat), i + d = l.length → Ev (fun k => formeref23_Valid.l0 k l (i : Int)) (inside (l.length : Int) 1 64 && !(l.drop i).any wrongW)
  | 0, i, h => by
    refine Ev.step (fun k => rfl) (EvT.ifn (by omega) ?_)
    rw [List.drop_eq_nil_of_le (by omega)]
    simp only [List.any_nil, Bool.not_false, Bool.and_true, inside]
    refine EvT.ite (fun h1 => EvT.now ?_) (fun h1 => EvT.now ?_)
    · rw [decide_eq_true (show (1 : Int) ≤ l.length from h1)]; rfl
    · rw [decide_eq_false (show ¬ (1 : Int) ≤ l.length from h1)]; rfl
  | d + 1, i, h => by
    have hi : i < l.length := by omega
    have IH := valid_loop l hl d (i + 1) (by omega)
    rw [drop_tk l i hi, List.any_cons]
    refine Ev.step (fun k => rfl) (EvT.ifp (by omega) (EvT.ifp (by omega) (EvT.bindc (in_eq _ _ _) (EvT.bindc (in_eq _ _ _) (EvT.bindc (in_eq _ _ _) ?_)))))
    rw [show rd_T64 l (i : Int) = tk l i from rfl, show wrap64 ((i : Int) + 1) = ((i + 1 : Nat) : Int) from EvT.w64 (by omega) (by omega)]
    have bad : wrongW (tk l i) = true → (inside (l.length : Int) 1 64 && !(wrongW (tk l i) || (l.drop (i + 1)).any wrongW)) = false := fun h => by rw [h]; simp
    have good : wrongW (tk l i) = false → (inside (l.length : Int) 1 64 && !(wrongW (tk l i) || (l.drop (i + 1)).any wrongW)) = (inside (l.length : Int) 1 64 && !(l.drop (i + 1)).any wrongW) := fun h => by rw [h]; simp
    refine EvT.ite (fun h1 => EvT.ite (fun h2 => EvT.ite (fun h3 => ?_) (fun h3 => EvT.ite (fun h4 => ?_) (fun h4 => EvT.now ?_))) (fun h2 => EvT.now ?_)) (fun h1 => EvT.now ?_)
    · rw [good (by simp [wrongW, h1, h2, h3])]; exact IH
    · rw [good (by simp [wrongW, h1, h2, h4])]; exact IH
    · rw [bad (by simp [wrongW, h1, h2, h3, h4])]
    · rw [bad (by simp [wrongW, h1, h2])]
    · rw [bad (by simp [wrongW, h1])]
theorem valid_ev (l : List S64) (hl : l.length ≤ 1000) : Ev (fun k => formeref23_Valid.f k l) (okV l) := by
  have := valid_loop l hl l.length 0 (by omega)
  rw [List.drop_zero] at this
  exact this
theorem Share_f {l : List S64} {a1 a2 : Int} {res : Nat → Int} (h : Share l a1 a2 = some res) (h1 : okV l = true) (h2 : inside a1 0 1000000 = true) (h3 : inside a2 0 100000 = true) : tracks_Share.f l a1 a2 = some (tab l.length res, 0) := by
  unfold tracks_Share.f
  rw [if_pos ⟨h1, h2, h3⟩, h]
  rfl
/-- Where tracks begin. -/
def begins (l : List Int) (gap : Int) : Nat → Int
  | 0 => 0
  | i + 1 => begins l gap i + rd l (i : Int) + gap
theorem far_bd {l : List Int} (h : l.any farW = false) (i : Nat) (hi : i < l.length) : 0 ≤ rd l (i : Int) ∧ rd l (i : Int) ≤ 1000000 := by
  have h1 := List.any_eq_false.1 h l[i] (List.getElem_mem hi)
  have h2 : rd l (i : Int) = l[i] := by simp [rd, List.getD_eq_getElem?_getD, List.getElem?_eq_getElem hi]
  rw [h2]
  simpa [farW, inside] using h1
theorem begins_bd {l : List Int} {gap : Int} (hl : l.length ≤ 64) (hf : l.any farW = false) (hg : 0 ≤ gap ∧ gap ≤ 100000) : ∀ i, i ≤ l.length → 0 ≤ begins l gap i ∧ begins l gap i ≤ 1100000 * i
  | 0, _ => by simp [begins]
  | i + 1, hi => by
    have IH := begins_bd hl hf hg i (by omega)
    have := far_bd hf i (by omega)
    simp only [begins]
    push_cast
    omega
theorem outS_get {l : List Int} {gap : Int} (hl : l.length ≤ 64) (hf : l.any farW = false) (hg : 0 ≤ gap ∧ gap ≤ 100000) : ∀ i, i < l.length → outS l gap i = tab l.length (fun j => if j ≤ i then begins l gap j else 0)
  | 0, _ => by
    rw [outS, ← tab_zero]
    refine tab_congr fun j _ => ?_
    by_cases e : j ≤ 0
    · obtain rfl : j = 0 := by omega
      rfl
    · rw [if_neg e]
  | i + 1, hi => by
    have IH := outS_get hl hf hg i (by omega)
    have b := begins_bd hl hf hg i (by omega)
    have f := far_bd hf i (by omega)
    rw [outS, IH, tab_rd _ _ _ (by omega), if_pos (Nat.le_refl i), EvT.w64 (x := begins l gap i + rd l (i : Int)) (by omega) (by omega), EvT.w64 (by omega) (by omega), tab_set _ _ _ _ hi]
    refine tab_congr fun j hj => ?_
    by_cases e : j = i + 1
    · subst e; rw [if_pos rfl, if_pos (Nat.le_refl _)]; rfl
    · rw [if_neg e]
      by_cases e2 : j ≤ i
      · rw [if_pos e2, if_pos (by omega)]
      · rw [if_neg e2, if_neg (by omega)]
def okS (l : List Int) (gap : Int) : Bool := inside (l.length : Int) 1 64 && inside gap 0 100000 && !l.any farW
theorem okS_yes {l : List Int} {gap : Int} (h : okS l gap = true) : (1 ≤ l.length ∧ l.length ≤ 64) ∧ (0 ≤ gap ∧ gap ≤ 100000) ∧ l.any farW = false := by
  simp only [okS, Bool.and_eq_true, Bool.not_eq_true', inside, decide_eq_true_eq] at h
  exact ⟨by omega, by omega, h.2⟩
theorem starts_f (l : List Int) (gap : Int) (hl : l.length ≤ 1000000) : tracks_Starts.f l gap = some (if okS l gap = true then (tab l.length (begins l gap), 0) else ([], 1)) := by
  unfold tracks_Starts.f
  rw [if_pos hl]
  by_cases h : okS l gap = true
  · obtain ⟨h1, h2, h3⟩ := okS_yes h
    rw [if_pos h, if_pos ⟨by simp [inside]; omega, by simp [inside]; omega, h3⟩, outS_get h1.2 h3 h2 _ (by omega)]
    rw [show tab l.length (fun j => if j ≤ l.length - 1 then begins l gap j else 0) = tab l.length (begins l gap) from tab_congr fun j hj => by rw [if_pos (by omega)]]
  · rw [if_neg h, if_neg (fun hh => h (by simp [okS, hh.1, hh.2.1, hh.2.2]))]
def tabB (n : Nat) (op : Nat → Bool) : List Bool := (List.range n).map op
theorem tabB_length (n : Nat) (w : Nat → Bool) : (tabB n w).length = n := by simp [tabB]
theorem tabB_rd (n : Nat) (w : Nat → Bool) (i : Nat) (h : i < n) : rdOf false (tabB n w) (i : Int) = w i := by simp [rdOf, tabB, List.getD_eq_getElem?_getD, h]
theorem tabB_congr {n : Nat} {w w' : Nat → Bool} (h : ∀ i, i < n → w i = w' i) : tabB n w = tabB n w' := List.map_congr_left fun i hi => h i (List.mem_range.1 hi)
theorem tabB_set (n : Nat) (w : Nat → Bool) (i : Nat) (v : Bool) : (tabB n w).set i v = tabB n (fun j => if j = i then v else w j) := by
  refine List.ext_getElem (by simp [tabB]) fun k h1 h2 => ?_
  simp [tabB] at h2
  simp only [tabB, List.getElem_set, List.getElem_map, List.getElem_range]
  by_cases e : i = k
  · rw [if_pos e, if_pos e.symm]
  · rw [if_neg e, if_neg (fun h => e h.symm)]
theorem tabB_false (n : Nat) : List.replicate n false = tabB n (fun _ => false) := by
  refine List.ext_getElem (by simp [tabB]) fun k h1 h2 => ?_
  simp [tabB]
theorem w1 (i : Nat) (h : i ≤ 1000) : wrap64 ((i : Int) + 1) = ((i + 1 : Nat) : Int) := EvT.w64 (by omega) (by omega)
section
variable {l : List S64} {op : Nat → Bool} {number all : Int} {wd : Nat → Int} {N0 : Int}
theorem parts_loop1 (ok : OkL l) (hv : Inv l op number all) : ∀ (d i : Nat), i + d = l.length →
    Ev (fun k => formeref23_parts.l1 k l (tabB l.length op) number all (tab l.length (fun j => if (decide (j < i) && op j) = true then P.part l op number all j else 0)) (grown l op i) (i : Int)) (tab l.length (fun j => if op j = true then P.part l op number all j else 0))
  | 0, i, e => by
    obtain rfl : i = l.length := by omega
    refine Ev.step (fun k => rfl) (EvT.ifn (by omega) (EvT.now ?_))
    congr 1
    exact tab_congr fun j hj => by simp [hj]
  | d + 1, i, e => by
    have hi : i < l.length := by omega
    have n64 := ok.n64
    have IH := parts_loop1 ok hv d (i + 1) (by omega)
    have b := ok.bd i hi
    have g0 := grown_bd (op := op) ok i (by omega)
    refine Ev.step (fun k => rfl) (EvT.ifp (by omega) (EvT.ifp (by omega) (EvT.ifp (by rw [tabB_length]; omega) ?_)))
    rw [tabB_rd _ _ _ hi, show rd_T64 l (i : Int) = tk l i from rfl, w1 i (by omega)]
    refine EvT.ite (fun ho => ?_) (fun ho => ?_)
    · have ha := hv.all_pos ok ho
      have hg : grown l op (i + 1) = grown l op i + (tk l i).f1 := by simp [grown, ho]
      have q0 := quo_bd ok hv ha i (by omega)
      have q1 := quo_bd ok hv ha (i + 1) (by omega)
      have hn := hv.num
      have g1 := grown_bd (op := op) ok (i + 1) (by omega)
      have m0 : 0 ≤ number * grown l op i ∧ number * grown l op i ≤ 1000000 * 64000 := ⟨Int.mul_nonneg hn.1 g0.1, Int.mul_le_mul hn.2 (by omega) g0.1 (by omega)⟩
      have m1 : 0 ≤ number * grown l op (i + 1) ∧ number * grown l op (i + 1) ≤ 1000000 * 64000 := ⟨Int.mul_nonneg hn.1 g1.1, Int.mul_le_mul hn.2 (by omega) g1.1 (by omega)⟩
      have e1 : wrap64 (grown l op i + (tk l i).f1) = grown l op (i + 1) := by rw [← hg]; exact EvT.w64 (by omega) (by omega)
      have e2 : wrap64 (wrap64 (Int.tdiv (wrap64 (number * grown l op (i + 1))) all) - wrap64 (Int.tdiv (wrap64 (number * grown l op i)) all)) = P.part l op number all i := by
        rw [EvT.w64 (x := number * grown l op (i + 1)) (by omega) (by omega), EvT.w64 (x := number * grown l op i) (by omega) (by omega)]
        rw [show Int.tdiv (number * grown l op (i + 1)) all = quo l op number all (i + 1) from rfl, show Int.tdiv (number * grown l op i) all = quo l op number all i from rfl]
        rw [EvT.w64 (x := quo l op number all (i + 1)) (by omega) (by omega), EvT.w64 (x := quo l op number all i) (by omega) (by omega), EvT.w64 (by omega) (by omega)]
        rfl
      refine EvT.ifp (by omega) (EvT.ifn (by omega) (EvT.ifp (by rw [tab_length]; omega) ?_))
      rw [e1, e2, Int.toNat_natCast, tab_set _ _ _ _ hi]
      rw [show tab l.length (fun j => if j = i then P.part l op number all i else if (decide (j < i) && op j) = true then P.part l op number all j else 0) = tab l.length (fun j => if (decide (j < i + 1) && op j) = true then P.part l op number all j else 0) from tab_congr fun j hj => by
        by_cases e : j = i
        · subst e; simp [ho]
        · rw [if_neg e, show decide (j < i) = decide (j < i + 1) by by_cases h : j < i <;> simp [h] <;> omega]]
      exact IH
    · have ho' : op i = false := Bool.eq_false_iff.2 ho
      have hg : grown l op (i + 1) = grown l op i := by simp [grown, ho']
      rw [hg, show tab l.length (fun j => if (decide (j < i + 1) && op j) = true then P.part l op number all j else 0) = tab l.length (fun j => if (decide (j < i) && op j) = true then P.part l op number all j else 0) from tab_congr fun j hj => by
        by_cases e : j = i
        · subst e; simp [ho']
        · rw [show decide (j < i) = decide (j < i + 1) by by_cases h : j < i <;> simp [h] <;> omega]] at IH
      exact IH
theorem parts_loop0 (ok : OkL l) (hv : Inv l op number all) : ∀ (d i : Nat), i + d = l.length →
    Ev (fun k => formeref23_parts.l0 k l (tabB l.length op) number (grown l op i) (i : Int)) (tab l.length (fun j => if op j = true then P.part l op number all j else 0))
  | 0, i, e => by
    obtain rfl : i = l.length := by omega
    have n64 := ok.n64
    refine Ev.step (fun k => rfl) (EvT.ifn (by omega) (EvT.ifp (by omega) (EvT.ifp (by omega) ?_)))
    rw [Int.toNat_natCast, ← tab_zero, ← hv.all]
    have := parts_loop1 ok hv l.length 0 (by omega)
    simpa [grown] using this
  | d + 1, i, e => by
    have hi : i < l.length := by omega
    have n64 := ok.n64
    have IH := parts_loop0 ok hv d (i + 1) (by omega)
    have b := ok.bd i hi
    have g0 := grown_bd (op := op) ok i (by omega)
    refine Ev.step (fun k => rfl) (EvT.ifp (by omega) (EvT.ifp (by omega) (EvT.ifp (by rw [tabB_length]; omega) ?_)))
    rw [tabB_rd _ _ _ hi, show rd_T64 l (i : Int) = tk l i from rfl, w1 i (by omega)]
    refine EvT.ite (fun ho => ?_) (fun ho => ?_)
    · rw [show wrap64 (grown l op i + (tk l i).f1) = grown l op (i + 1) by rw [EvT.w64 (by omega) (by omega)]; simp [grown, ho]]
      exact IH
    · rw [show grown l op (i + 1) = grown l op i by simp [grown, ho]] at IH
      exact IH
theorem parts_ev (ok : OkL l) (hv : Inv l op number all) : Ev (fun k => formeref23_parts.f k l (tabB l.length op) number) (tab l.length (fun j => if op j = true then P.part l op number all j else 0)) := by
  have := parts_loop0 ok hv l.length 0 (by omega)
  exact this
theorem wd_bd (ok : OkL l) (h : RInv l op number all wd N0) (i : Nat) (hi : i < l.length) : 0 ≤ wd i ∧ wd i ≤ 1000000 := by
  have b := ok.bd i hi
  cases ho : op i
  · rcases h.wshut i hi ho with ⟨h1, h2⟩ | ⟨h1, h2, h3, _⟩ <;> omega
  · have := h.wopen i ho; omega
theorem part_bd0 (ok : OkL l) (hv : Inv l op number all) (i : Nat) (hi : i < l.length) (ho : op i = true) : 0 ≤ P.part l op number all i ∧ P.part l op number all i ≤ 1000000 := part_bd ok hv (hv.all_pos ok ho) i hi
theorem fin_loop (ok : OkL l) (h : RInv l op number all wd N0) : ∀ (d i : Nat), i + d = l.length →
    Ev (fun k => formeref23_Share.l3 k l (tabB l.length op) (tab l.length (fun j => if j < i then (if op j = true then wd j + P.part l op number all j else wd j) else wd j - (tk l j).f0)) (tab l.length (fun j => if op j = true then P.part l op number all j else 0)) (i : Int)) (tab l.length (fun j => if op j = true then wd j + P.part l op number all j else wd j), 0)
  | 0, i, e => by
    obtain rfl : i = l.length := by omega
    refine Ev.step (fun k => rfl) (EvT.ifn (by omega) (EvT.now ?_))
    congr 2
    exact tab_congr fun j hj => by rw [if_pos hj]
  | d + 1, i, e => by
    have hi : i < l.length := by omega
    have n64 := ok.n64
    have IH := fin_loop ok h d (i + 1) (by omega)
    have b := ok.bd i hi
    have hw := wd_bd ok h i hi
    refine Ev.step (fun k => rfl) (EvT.ifp (by omega) (EvT.ifp (by omega) (EvT.ifp (by rw [tabB_length]; omega) ?_)))
    rw [tabB_rd _ _ _ hi, show rd_T64 l (i : Int) = tk l i from rfl, w1 i (by omega)]
    refine EvT.ite (fun ho => ?_) (fun ho => ?_)
    · have hp := part_bd0 ok h.inv i hi ho
      have hwo := h.wopen i ho
      refine EvT.ifp (by rw [tab_length]; omega) (EvT.ifp (by rw [tab_length]; omega) (EvT.bindc rfl ?_))
      rw [Int.toNat_natCast, tab_set _ _ _ _ hi, tab_rd _ _ _ hi, tab_rd _ _ _ hi, if_pos rfl, if_pos ho, EvT.w64 (by omega) (by omega), tab_set _ _ _ _ hi]
      rw [show tab l.length (fun j => if j = i then P.part l op number all i + (tk l i).f0 else if j = i then P.part l op number all i else if j < i then (if op j = true then wd j + P.part l op number all j else wd j) else wd j - (tk l j).f0) = tab l.length (fun j => if j < i + 1 then (if op j = true then wd j + P.part l op number all j else wd j) else wd j - (tk l j).f0) from tab_congr fun j hj => by
        by_cases e : j = i
        · subst e; rw [if_pos rfl, if_pos (by omega), if_pos ho]; omega
        · rw [if_neg e, if_neg e]
          by_cases e2 : j < i
          · rw [if_pos e2, if_pos (show j < i + 1 by omega)]
          · rw [if_neg e2, if_neg (show ¬ j < i + 1 by omega)]]
      exact IH
    · refine EvT.ifp (by rw [tab_length]; omega) ?_
      rw [Int.toNat_natCast, tab_rd _ _ _ hi, if_neg (Nat.lt_irrefl i), EvT.w64 (by omega) (by omega), tab_set _ _ _ _ hi]
      rw [show tab l.length (fun j => if j = i then wd i - (tk l i).f0 + (tk l i).f0 else if j < i then (if op j = true then wd j + P.part l op number all j else wd j) else wd j - (tk l j).f0) = tab l.length (fun j => if j < i + 1 then (if op j = true then wd j + P.part l op number all j else wd j) else wd j - (tk l j).f0) from tab_congr fun j hj => by
        by_cases e : j = i
        · subst e; rw [if_pos rfl, if_pos (by omega), if_neg ho]; omega
        · rw [if_neg e]
          by_cases e2 : j < i
          · rw [if_pos e2, if_pos (show j < i + 1 by omega)]
          · rw [if_neg e2, if_neg (show ¬ j < i + 1 by omega)]]
      exact IH
theorem cut_loop (ok : OkL l) (h : RInv l op number all wd N0) (r : List Int × Int)
    (hyes : anyOf (cutAt l op number all) l.length = true → Ev (fun k => formeref23_Share.l1 k l (tabB l.length (fun i => op i && !cutAt l op number all i)) (tab l.length (fun i => (if cutAt l op number all i = true then (tk l i).f2 else wd i) - (tk l i).f0)) (numTo l op number all l.length)) r)
    (hno : anyOf (cutAt l op number all) l.length = false → r = (tab l.length (fun j => if op j = true then wd j + P.part l op number all j else wd j), 0)) : ∀ (d i : Nat), i + d = l.length →
    Ev (fun k => formeref23_Share.l2 k l (tabB l.length (fun j => op j && !(decide (j < i) && cutAt l op number all j))) (tab l.length (fun j => (if (decide (j < i) && cutAt l op number all j) = true then (tk l j).f2 else wd j) - (tk l j).f0)) (numTo l op number all i) (tab l.length (fun j => if op j = true then P.part l op number all j else 0)) (anyOf (cutAt l op number all) i) (i : Int)) r
  | 0, i, e => by
    obtain rfl : i = l.length := by omega
    refine Ev.step (fun k => rfl) (EvT.ifn (by omega) ?_)
    rw [show tabB l.length (fun j => op j && !(decide (j < l.length) && cutAt l op number all j)) = tabB l.length (fun j => op j && !cutAt l op number all j) from tabB_congr fun j hj => by simp [hj],
      show tab l.length (fun j => (if (decide (j < l.length) && cutAt l op number all j) = true then (tk l j).f2 else wd j) - (tk l j).f0) = tab l.length (fun j => (if cutAt l op number all j = true then (tk l j).f2 else wd j) - (tk l j).f0) from tab_congr fun j hj => by simp [hj]]
    refine EvT.ite (fun hc => hyes hc) (fun hc => ?_)
    have hc' : anyOf (cutAt l op number all) l.length = false := Bool.eq_false_iff.2 hc
    rw [hno hc', show tabB l.length (fun j => op j && !cutAt l op number all j) = tabB l.length op from tabB_congr fun j hj => by rw [anyOf_false hc' j hj]; simp,
      show tab l.length (fun j => (if cutAt l op number all j = true then (tk l j).f2 else wd j) - (tk l j).f0) = tab l.length (fun j => wd j - (tk l j).f0) from tab_congr fun j hj => by rw [anyOf_false hc' j hj]; rfl]
    have := fin_loop ok h l.length 0 (by omega)
    simpa using this
  | d + 1, i, e => by
    have hi : i < l.length := by omega
    have n64 := ok.n64
    have IH := cut_loop ok h r hyes hno d (i + 1) (by omega)
    have b := ok.bd i hi
    have nocut : cutAt l op number all i = false → Ev (fun k => formeref23_Share.l2 k l (tabB l.length (fun j => op j && !(decide (j < i) && cutAt l op number all j))) (tab l.length (fun j => (if (decide (j < i) && cutAt l op number all j) = true then (tk l j).f2 else wd j) - (tk l j).f0)) (numTo l op number all i) (tab l.length (fun j => if op j = true then P.part l op number all j else 0)) (anyOf (cutAt l op number all) i) ((i + 1 : Nat) : Int)) r := fun hc => by
      have hd : ∀ j, (decide (j < i) && cutAt l op number all j) = (decide (j < i + 1) && cutAt l op number all j) := fun j => by
        by_cases e : j = i
        · subst e; rw [hc]; simp
        · rw [show decide (j < i) = decide (j < i + 1) by by_cases h : j < i <;> simp [h] <;> omega]
      rw [tabB_congr (w' := fun j => op j && !(decide (j < i + 1) && cutAt l op number all j)) (fun j _ => by rw [hd j]), tab_congr (w' := fun j => (if (decide (j < i + 1) && cutAt l op number all j) = true then (tk l j).f2 else wd j) - (tk l j).f0) (fun j _ => by rw [hd j]),
        show numTo l op number all i = numTo l op number all (i + 1) by simp [numTo, hc], show anyOf (cutAt l op number all) i = anyOf (cutAt l op number all) (i + 1) by simp [anyOf, hc]]
      exact IH
    refine Ev.step (fun k => rfl) (EvT.ifp (by omega) (EvT.ifp (by omega) (EvT.ifp (by rw [tabB_length]; omega) ?_)))
    rw [tabB_rd _ _ _ hi, show rd_T64 l (i : Int) = tk l i from rfl, w1 i (by omega)]
    simp only [Nat.lt_irrefl, decide_false, Bool.false_and, Bool.not_false, Bool.and_true]
    refine EvT.ite (fun ho => ?_) (fun ho => nocut (by simp [cutAt, Bool.eq_false_iff.2 ho]))
    have hp := part_bd0 ok h.inv i hi ho
    have ha := h.inv.all_pos ok ho
    refine EvT.ite (fun hz => nocut (by simp [cutAt, hz])) (fun hz => EvT.ifp (by rw [tab_length]; omega) ?_)
    rw [tab_rd _ _ _ hi, if_pos ho, EvT.w64 (x := (tk l i).f0 + P.part l op number all i) (by omega) (by omega)]
    refine EvT.ite (fun hgt => EvT.ifp (by rw [tab_length]; omega) ?_) (fun hgt => nocut ?_)
    · have hc : cutAt l op number all i = true := by
        have h1 : ((tk l i).f2 == 0) = false := by simpa using hz
        have h2 : decide ((tk l i).f0 + P.part l op number all i ≤ (tk l i).f2) = false := decide_eq_false (by omega)
        unfold cutAt
        rw [ho, h1, h2]; rfl
      have b0 := numTo_in ok h.inv ha i (by omega)
      rw [Int.toNat_natCast, tabB_set, EvT.w64 (x := (tk l i).f2 - (tk l i).f0) (by omega) (by omega), tab_set _ _ _ _ hi, EvT.w64 (by omega) (by omega)]
      rw [show numTo l op number all i - ((tk l i).f2 - (tk l i).f0) = numTo l op number all (i + 1) by simp [numTo, hc]]
      rw [show anyOf (cutAt l op number all) (i + 1) = true by simp [anyOf, hc]] at IH
      rw [tabB_congr (w' := fun j => op j && !(decide (j < i + 1) && cutAt l op number all j)) (fun j _ => by
          by_cases e : j = i
          · subst e; simp [hc]
          · rw [if_neg e, show decide (j < i) = decide (j < i + 1) by by_cases h : j < i <;> simp [h] <;> omega]),
        tab_congr (w' := fun j => (if (decide (j < i + 1) && cutAt l op number all j) = true then (tk l j).f2 else wd j) - (tk l j).f0) (fun j _ => by
          by_cases e : j = i
          · subst e; simp [hc]
          · rw [if_neg e, show decide (j < i) = decide (j < i + 1) by by_cases h : j < i <;> simp [h] <;> omega])]
      exact IH
    · unfold cutAt
      rw [decide_eq_true (show (tk l i).f0 + P.part l op number all i ≤ (tk l i).f2 by omega)]; simp
end
theorem round_ev {l : List S64} {N0 : Int} (ok : OkL l) : ∀ (fuel : Nat) (op : Nat → Bool) (number all : Int) (wd res : Nat → Int), RInv l op number all wd N0 → rounds l fuel op number all wd = some res →
    Ev (fun k => formeref23_Share.l1 k l (tabB l.length op) (tab l.length (fun i => wd i - (tk l i).f0)) number) (tab l.length res, 0)
  | 0, _, _, _, _, _, _, h => by simp [rounds] at h
  | fuel + 1, op, number, all, wd, res, h, hr => by
    simp only [rounds] at hr
    refine Ev.step (fun k => rfl) (Ev.bind (parts_ev ok h.inv) ?_)
    have := cut_loop ok h (tab l.length res, 0) (fun hc => ?_) (fun hc => ?_) l.length 0 (by omega)
    · simpa [numTo, anyOf] using this
    · obtain ⟨j, hj, hcj⟩ := anyOf_true hc
      have hany : ¬ anyOf op l.length = false := by rw [anyOf_of hj (cutAt_true hcj).1]; decide
      rw [if_neg hany, if_pos hc] at hr
      exact round_ev ok fuel _ _ _ _ _ (h.next ok (h.inv.all_pos ok (cutAt_true hcj).1)) hr
    · by_cases hany : anyOf op l.length = false
      · rw [if_pos hany] at hr
        obtain rfl := Option.some.inj hr
        congr 1
        exact tab_congr fun j hj => by rw [anyOf_false hany j hj]; rfl
      · rw [if_neg hany, if_neg (by rw [hc]; decide)] at hr
        obtain rfl := Option.some.inj hr
        rfl
theorem left_ref (l : List S64) (hl : l.length ≤ 64) (hb : ∀ i, i < l.length → 0 ≤ (tk l i).f0 ∧ (tk l i).f0 ≤ 1000000) : ∀ (d i : Nat) (x : Int), i + d = l.length → (1000000 * ((l.length : Int) - i) - 100000000000 ≤ x) → x ≤ 100000000000 →
    Ev (fun k => formeref23_Left.l0 k l x (i : Int)) (mx 0 (x - ((l.drop i).map (·.f0)).sum))
  | 0, i, x, h, h1, h2 => by
    refine EvT.succ (fun k => rfl) (EvT.ifn (by omega) (EvT.now ?_))
    rw [List.drop_eq_nil_of_le (by omega)]
    simp
  | d + 1, i, x, h, h1, h2 => by
    have hi : i < l.length := by omega
    have b := hb i hi
    have IH := left_ref l hl hb d (i + 1) (x - (tk l i).f0) (by omega) (by push_cast; omega) (by omega)
    refine EvT.succ (fun k => rfl) (EvT.ifp (by omega) (EvT.ifp (by omega) ?_))
    rw [w1 i (by omega)]
    rw [show rd_T64 l (i : Int) = tk l i from rfl, EvT.w64 (by omega) (by omega), drop_tk l i hi]
    rw [List.map_cons, List.sum_cons, show x - ((tk l i).f0 + ((l.drop (i + 1)).map (·.f0)).sum) = x - (tk l i).f0 - ((l.drop (i + 1)).map (·.f0)).sum by omega]
    exact IH
theorem leftref_ev (l : List S64) (ok : OkL l) (a1 a2 : Int) (h1 : 0 ≤ a1 ∧ a1 ≤ 1000000) (h2 : 0 ≤ a2 ∧ a2 ≤ 100000) : Ev (fun k => formeref23_Left.f k l a1 a2) (leftN l a1 a2) := by
  have n1 := ok.n1
  have n2 := ok.n64
  obtain ⟨m, hm⟩ : ∃ m : Int, (l.length : Int) - 1 = m := ⟨_, rfl⟩
  have hm1 : 0 ≤ m ∧ m ≤ 63 := by omega
  have hp : 0 ≤ a2 * m ∧ a2 * m ≤ 6300000 := by
    refine ⟨Int.mul_nonneg h2.1 hm1.1, ?_⟩
    have := Int.mul_le_mul h2.2 hm1.2 hm1.1 (by omega)
    omega
  have := left_ref l n2 (fun i hi => ⟨(ok.bd i hi).1, (ok.bd i hi).2.1⟩) l.length 0 (a1 - a2 * m) (by omega) (by omega) (by omega)
  unfold formeref23_Left.f leftN
  rw [hm, EvT.w64 (x := m) (by omega) (by omega), EvT.w64 (x := a2 * m) (by omega) (by omega), EvT.w64 (by omega) (by omega)]
  simpa using this
theorem open_loop (l : List S64) (ok : OkL l) (a1 a2 : Int) (h1 : 0 ≤ a1 ∧ a1 ≤ 1000000) (h2 : 0 ≤ a2 ∧ a2 ≤ 100000) (res : Nat → Int) (hS : Share l a1 a2 = some res) : ∀ (d i : Nat), i + d = l.length →
    Ev (fun k => formeref23_Share.l0 k l a1 a2 (tabB l.length (fun j => decide (j < i) && decide (0 < (tk l j).f1))) (i : Int)) (tab l.length res, 0)
  | 0, i, e => by
    obtain rfl : i = l.length := by omega
    have n64 := ok.n64
    refine Ev.step (fun k => rfl) (EvT.ifn (by omega) (EvT.ifp (by omega) (EvT.ifp (by omega) (Ev.bind (leftref_ev l ok a1 a2 h1 h2) ?_))))
    rw [Int.toNat_natCast, ← tab_zero]
    have := round_ev (N0 := leftN l a1 a2) ok _ _ _ _ _ _ ⟨⟨fun i hi => by simpa using hi, leftN_bd l ok a1 a2 h1 h2, rfl⟩, fun i _ => rfl, fun i hi ho => .inl ⟨by have := ok.bd i hi; simp [hi] at ho; omega, rfl⟩, by
      rw [sumTo_congr (w' := fun _ => 0) _ (fun i _ => by omega)]
      have : ∀ n, sumTo (fun _ => 0) n = 0 := fun n => by induction n with
        | zero => rfl
        | succ n ih => simp [sumTo, ih]
      rw [this]; omega⟩ hS
    rw [tab_congr (w' := fun _ => 0) (fun i _ => by omega)] at this
    exact this
  | d + 1, i, e => by
    have hi : i < l.length := by omega
    have n64 := ok.n64
    have IH := open_loop l ok a1 a2 h1 h2 res hS d (i + 1) (by omega)
    refine Ev.step (fun k => rfl) (EvT.ifp (by omega) (EvT.ifp (by omega) (EvT.ifp (by rw [tabB_length]; omega) ?_)))
    rw [w1 i (by omega), show rd_T64 l (i : Int) = tk l i from rfl, Int.toNat_natCast, tabB_set]
    rw [tabB_congr (w' := fun j => decide (j < i + 1) && decide (0 < (tk l j).f1)) (fun j _ => by
      by_cases e : j = i
      · subst e; simp
      · rw [if_neg e, show decide (j < i) = decide (j < i + 1) by by_cases h : j < i <;> simp [h] <;> omega])]
    exact IH
/-- Both Shares are one. -/
theorem share_same (l : List S64) (hl : l.length ≤ 1000) (a1 a2 : Int) : ∃ r, r.1.length ≤ 100000 ∧ tracks_Share.f l a1 a2 = some r ∧ Ev (fun k => formeref23_Share.f k l a1 a2) r := by
  have bad : Ev (fun k => formeref23_Share.j0 k l a1 a2 true) ([], 1) := Ev.step (fun k => rfl) (Ev.now _)
  by_cases h1 : okV l = true
  · by_cases h2 : inside a1 0 1000000 = true
    · by_cases h3 : inside a2 0 100000 = true
      · have ok := OkL.of h1
        have b1 : 0 ≤ a1 ∧ a1 ≤ 1000000 := by simpa [inside] using h2
        have b2 : 0 ≤ a2 ∧ a2 ≤ 100000 := by simpa [inside] using h3
        obtain ⟨res, hS, hF⟩ := Share_spec l ok a1 a2 b1 b2
        refine ⟨(tab l.length res, 0), by rw [tab_length]; omega, Share_f hS h1 h2 h3, Ev.bind (valid_ev l hl) (EvT.bindc (in_eq _ _ _) (EvT.bindc (in_eq _ _ _) ?_))⟩
        rw [h1, h2, h3]
        refine EvT.ifp rfl (EvT.ifp rfl ?_)
        refine EvT.lit (g := fun k c => formeref23_Share.j0 k l a1 a2 c) false (fun c hc => Ev.step (fun k => rfl) (EvT.ifn (by rw [hc]; decide) (EvT.ifp (by omega) (EvT.ifp (by omega) ?_))))
        rw [Int.toNat_natCast, tabB_false]
        have := open_loop l ok a1 a2 b1 b2 res hS l.length 0 (by omega)
        simpa using this
      · refine ⟨([], 1), by simp, ?_, Ev.bind (valid_ev l hl) (EvT.bindc (in_eq _ _ _) (EvT.bindc (in_eq _ _ _) ?_))⟩
        · unfold tracks_Share.f; rw [if_neg (fun h => h3 h.2.2)]
        · rw [h1, h2, Bool.eq_false_iff.2 h3]
          exact EvT.ifp rfl (EvT.ifp rfl bad)
    · refine ⟨([], 1), by simp, ?_, Ev.bind (valid_ev l hl) (EvT.bindc (in_eq _ _ _) (EvT.bindc (in_eq _ _ _) ?_))⟩
      · unfold tracks_Share.f; rw [if_neg (fun h => h2 h.2.1)]
      · rw [h1]
        exact EvT.ifp rfl (EvT.ifn h2 bad)
  · refine ⟨([], 1), by simp, ?_, Ev.bind (valid_ev l hl) (EvT.bindc (in_eq _ _ _) (EvT.bindc (in_eq _ _ _) ?_))⟩
    · unfold tracks_Share.f; rw [if_neg (fun h => h1 h.1)]
    · exact EvT.ifn h1 bad
theorem drop_rd (l : List Int) (i : Nat) (h : i < l.length) : l.drop i = rd l (i : Int) :: l.drop (i + 1) := by
  rw [List.drop_eq_getElem_cons h]
  congr 1
  simp [rd, List.getD_eq_getElem?_getD, List.getElem?_eq_getElem h]
theorem tab_snoc (n : Nat) (w : Nat → Int) : tab n w ++ [w n] = tab (n + 1) w := by simp [tab, List.range_succ]
theorem starts_ref (l : List Int) (gap : Int) (hl : l.length ≤ 64) (hg : 0 ≤ gap ∧ gap ≤ 100000) : ∀ (d i : Nat), i + d = l.length → 0 ≤ begins l gap i ∧ begins l gap i ≤ 1100000 * i →
    Ev (fun k => formeref23_Starts.l0 k l gap (tab i (begins l gap)) (begins l gap i) (i : Int)) (if (l.drop i).any farW = true then ([], 1) else (tab l.length (begins l gap), 0))
  | 0, i, e, _ => by
    obtain rfl : i = l.length := by omega
    refine Ev.step (fun k => rfl) (EvT.ifn (by omega) (EvT.now ?_))
    rw [List.drop_eq_nil_of_le (by omega)]
    rfl
  | d + 1, i, e, hb => by
    have hi : i < l.length := by omega
    refine Ev.step (fun k => rfl) (EvT.ifp (by omega) (EvT.ifp (by omega) (EvT.bindc (in_eq _ _ _) (EvT.ite (fun h => EvT.ifp (by rw [tab_length]; omega) ?_) (fun h => EvT.now ?_)))))
    · have hb2 : 0 ≤ rd l (i : Int) ∧ rd l (i : Int) ≤ 1000000 := by simpa [inside] using h
      have e2 : begins l gap (i + 1) = begins l gap i + rd l (i : Int) + gap := rfl
      have IH := starts_ref l gap hl hg d (i + 1) (by omega) (by rw [e2]; push_cast; omega)
      rw [tab_snoc, w1 i (by omega), EvT.w64 (x := begins l gap i + rd l (i : Int)) (by omega) (by omega), EvT.w64 (by omega) (by omega), drop_rd l i hi, List.any_cons,
        show farW (rd l (i : Int)) = false by rw [farW, h]; rfl, Bool.false_or]
      exact IH
    · rw [drop_rd l i hi, List.any_cons, show farW (rd l (i : Int)) = true by rw [farW, Bool.eq_false_iff.2 h]; rfl]
      rfl
theorem starts_same (l : List Int) (hl : l.length ≤ 1000) (gap : Int) : ∃ r, r.1.length ≤ 100000 ∧ tracks_Starts.f l gap = some r ∧ Ev (fun k => formeref23_Starts.f k l gap) r := by
  have bad : Ev (fun k => formeref23_Starts.j0 k l gap true) ([], 1) := Ev.step (fun k => rfl) (Ev.now _)
  refine ⟨_, ?_, starts_f l gap (by omega), EvT.bindc (in_eq _ _ _) ?_⟩
  · split
    · rw [tab_length]; omega
    · simp
  · by_cases h2 : inside gap 0 100000 = true
    · rw [h2]
      have hg : 0 ≤ gap ∧ gap ≤ 100000 := by simpa [inside] using h2
      refine EvT.ifp rfl (EvT.ite (fun h => ?_) (fun h => ?_))
      · rw [if_neg (fun hk => by have := (okS_yes hk).1; omega)]; exact bad
      · by_cases h4 : (l.length : Int) > 64
        · rw [decide_eq_true h4, if_neg (fun hk => by have := (okS_yes hk).1; omega)]; exact bad
        · refine EvT.lit (g := fun k c => formeref23_Starts.j0 k l gap c) (decide ((l.length : Int) > 64)) (fun c hc => Ev.step (fun k => rfl) (EvT.ifn (by rw [hc, decide_eq_false h4]; decide) ?_))
          have := starts_ref l gap (by omega) hg l.length 0 (by omega) (by simp [begins])
          have e1 : (if okS l gap = true then (tab l.length (begins l gap), (0 : Int)) else ([], 1)) = if (l.drop 0).any farW = true then ([], 1) else (tab l.length (begins l gap), 0) := by
            rw [List.drop_zero]
            have h5 : inside (l.length : Int) 1 64 = true := by simp [inside]; omega
            cases h6 : l.any farW
            · rw [if_pos (by simp [okS, h5, h2, h6]), if_neg (by decide)]
            · rw [if_neg (by simp [okS, h6]), if_pos rfl]
          rw [e1]
          exact this
    · rw [if_neg (fun hk => h2 (by simp only [okS, Bool.and_eq_true] at hk; exact hk.1.2))]
      exact EvT.ifn h2 bad
end Go.Proofs.Ytciheadencbmjaa.Pure
