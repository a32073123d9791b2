/- For any numbers and faces, all functions return what the reference implementation returns (up to 300 faces). Conditions: those of the statement alone. -/
import Derived.Test.YtbllpiboodlepaaPx8
import Derived.Test.YtbllpiboodlepaaHPures
set_option linter.unusedVariables false
set_option linter.unusedSimpArgs false
namespace Go.Proofs.Ytbllpiboodlepaa.Pure
open Go.RowKit Go.Proofs.Ytbllpiboodlepaa.P Go.Proofs.YtbllpiboodlepaaW.PrintWords Go.Proofs.YtbllpiboodlepaaW.PrintLast Go.Proofs.YtbllpiboodlepaaW.PrintMore

theorem page_eq (n p : Int) : formeref42_page.f n p = some (clip n p) := by
  unfold formeref42_page.f clip
  by_cases h : p > n
  · rw [if_pos h, if_pos (show n < p from h)]
  · rw [if_neg h, if_neg (show ¬ n < p from h)]
theorem faces_two (n : Int) (K j : Nat) : ((List.range (2 * (j + 1))).map (face n K)) = ((List.range (2 * j)).map (face n K) ++ [face n K (2 * j)]) ++ [face n K (2 * j + 1)] := by
  rw [show 2 * (j + 1) = 2 * j + 1 + 1 by omega, List.range_succ, List.range_succ]
  simp
theorem pairE (n : Int) (K j : Nat) (hj : 2 * (j : Int) + 1 ≤ n) : (⟨(j : Int) + 1, false, clip n (4 * (K : Int) - ((2 * j : Nat) : Int)), clip n (((2 * j : Nat) : Int) + 1)⟩ : S29) = face n K (2 * j) := by
  rw [face_even n K (2 * j) (by omega), show 2 * j / 2 = j by omega]
  congr 1
  unfold clip
  rw [if_neg (by omega)]
theorem pairO (n : Int) (K j : Nat) : (⟨(j : Int) + 1, true, clip n (2 * ((j : Int) + 1)), clip n (4 * (K : Int) - ((2 * j + 1 : Nat) : Int))⟩ : S29) = face n K (2 * j + 1) := by
  rw [face_odd n K (2 * j + 1) (by omega), show (2 * j + 1) / 2 = j by omega, show 2 * ((j : Int) + 1) = ((2 * j + 1 : Nat) : Int) + 1 by omega]
structure Nums (K j : Nat) : Prop where
  a1 : wrap64 (4 * (K : Int)) = 4 * K
  a2 : wrap64 (2 * ((j : Int) + 1)) = 2 * ((j : Int) + 1)
  a3 : wrap64 (4 * (K : Int) + 2) = 4 * K + 2
  a4 : wrap64 (4 * (K : Int) + 1) = 4 * K + 1
  a5 : wrap64 (4 * (K : Int) + 2 - 2 * ((j : Int) + 1)) = 4 * K - ((2 * j : Nat) : Int)
  a6 : wrap64 (2 * ((j : Int) + 1) - 1) = ((2 * j : Nat) : Int) + 1
  a7 : wrap64 (4 * (K : Int) + 1 - 2 * ((j : Int) + 1)) = 4 * K - ((2 * j + 1 : Nat) : Int)
  a8 : wrap64 ((j : Int) + 1 + 1) = ((j + 1 : Nat) : Int) + 1
theorem nums (K j : Nat) (h1 : K ≤ 126) (h2 : j < K) : Nums K j where
  a1 := EvT.w64 (by omega) (by omega)
  a2 := EvT.w64 (by omega) (by omega)
  a3 := EvT.w64 (by omega) (by omega)
  a4 := EvT.w64 (by omega) (by omega)
  a5 := by rw [EvT.w64 (by omega) (by omega)]; omega
  a6 := by rw [EvT.w64 (by omega) (by omega)]; omega
  a7 := by rw [EvT.w64 (by omega) (by omega)]; omega
  a8 := by rw [EvT.w64 (by omega) (by omega)]; omega
theorem refFaces_loop (n : Int) (K : Nat) (h0 : 0 ≤ n) (h1 : n ≤ 500) (hK : (K : Int) = (n + 3) / 4) : ∀ (d j : Nat), j + d = K →
    Ev (fun k => formeref42_Faces.l0 k n (K : Int) ((List.range (2 * j)).map (face n K)) ((j : Int) + 1)) (faces n K, 0)
  | 0, j, h => by
    obtain rfl : j = K := by omega
    exact Ev.step (fun k => rfl) (EvT.ifn (by omega) (Ev.now _))
  | d + 1, j, h => by
    have hjb : 2 * j < 1000 := by omega
    have hc : (j : Int) + 1 ≤ (K : Int) := by omega
    have e1 := pairE n K j (by omega)
    have e2 := pairO n K j
    have N := nums K j (by omega) (by omega)
    have IH := refFaces_loop n K h0 h1 hK d (j + 1) (by omega)
    rw [faces_two n K j] at IH
    refine Ev.step (fun k => rfl) (EvT.ifp hc ?_)
    rw [N.a1, N.a2, N.a3, N.a4, N.a5, N.a6, N.a7, N.a8, page_eq, page_eq, page_eq, page_eq]
    simp only [Option.bind_some]
    refine EvT.ifp ?_ ?_
    · rw [List.length_map, List.length_range]
      exact Nat.lt_trans hjb (by decide)
    refine EvT.ifp ?_ ?_
    · rw [List.length_append, List.length_map, List.length_range, List.length_cons, List.length_nil]
      exact Nat.lt_of_lt_of_le (Nat.succ_lt_succ hjb) (by decide)
    rw [e1, e2]
    exact IH
theorem refFaces_ev (n : Int) : Ev (fun k => formeref42_Faces.f k n) (if n < 0 ∨ 500 < n then ([], 1) else (faces n ((n + 3) / 4).toNat, 0)) := by
  by_cases h : n < 0 ∨ 500 < n
  · rw [if_pos h]
    have bad : Ev (fun k => formeref42_Faces.j0 k n true) ([], 1) := Ev.step (fun k => rfl) (Ev.now _)
    refine EvT.ite (fun h2 => bad) (fun h2 => ?_)
    rw [decide_eq_true (show n > 500 by omega)]
    exact bad
  · rw [if_neg h]
    obtain ⟨K, hK⟩ : ∃ K : Nat, (K : Int) = (n + 3) / 4 := ⟨((n + 3) / 4).toNat, by omega⟩
    rw [← hK, Int.toNat_natCast]
    refine EvT.ifn (by omega) ?_
    rw [decide_eq_false (show ¬ n > 500 by omega)]
    have e1 : wrap64 (n + 3) = n + 3 := EvT.w64 (by omega) (by omega)
    have e2 : Int.tdiv (n + 3) 4 = (K : Int) := by rw [Int.tdiv_eq_ediv_of_nonneg (by omega), hK]
    have e3 : wrap64 (Int.tdiv (wrap64 (n + 3)) 4) = (K : Int) := by rw [e1, e2, EvT.w64 (by omega) (by omega)]
    refine EvT.lit (g := fun k c => formeref42_Faces.j0 k n c) false (fun c hc => Ev.step (fun k => rfl) (EvT.ifn (by rw [hc]; decide) ?_))
    rw [e3]
    exact refFaces_loop n K (by omega) (by omega) hK K 0 (by omega)
theorem faces_same (n : Int) : impose_Faces.f n = some (if n < 0 ∨ 500 < n then ([], 1) else (faces n ((n + 3) / 4).toNat, 0)) := by
  by_cases h : n < 0 ∨ 500 < n
  · rw [if_pos h]; unfold impose_Faces.f; rw [if_pos h]
  · rw [if_neg h]; exact faces_f n _ (by omega) (by omega) (by omega)

theorem same_loop (l : List S29) (hl : l.length ≤ 300) : ∀ (d i : Nat), i + d = l.length → Ev (fun k => formeref42_Same.l0 k l l (i : Int)) true
  | 0, i, h => Ev.step (fun k => rfl) (EvT.ifn (by omega) (Ev.now _))
  | d + 1, i, h => by
    have hw : wrap64 ((i : Int) + 1) = ((i + 1 : Nat) : Int) := EvT.w64 (by omega) (by omega)
    refine Ev.step (fun k => rfl) (EvT.ifp (by omega) (EvT.ifp (by omega) (EvT.ifp (by omega) (EvT.ifn (by simp) ?_))))
    rw [hw]
    exact same_loop l hl d (i + 1) (by omega)
theorem same_ev (l : List S29) (hl : l.length ≤ 300) : Ev (fun k => formeref42_Same.f k l l) true := EvT.ifp rfl (same_loop l hl l.length 0 (by omega))
theorem sameInts_loop (l : List Int) (hl : l.length ≤ 10000) : ∀ (d i : Nat), i + d = l.length → Ev (fun k => formeref42_SameInts.l0 k l l (i : Int)) true
  | 0, i, h => Ev.step (fun k => rfl) (EvT.ifn (by omega) (Ev.now _))
  | d + 1, i, h => by
    have hw : wrap64 ((i : Int) + 1) = ((i + 1 : Nat) : Int) := EvT.w64 (by omega) (by omega)
    refine Ev.step (fun k => rfl) (EvT.ifp (by omega) (EvT.ifp (by omega) (EvT.ifp (by omega) (EvT.ifp rfl ?_))))
    rw [hw]
    exact sameInts_loop l hl d (i + 1) (by omega)
theorem sameInts_ev (l : List Int) (hl : l.length ≤ 10000) : Ev (fun k => formeref42_SameInts.f k l l) true := EvT.ifp rfl (sameInts_loop l hl l.length 0 (by omega))

/-! Where -/
theorem refWhere_loop (n : Int) (K p : Nat) (h0 : 0 ≤ n) (h1 : n ≤ 500) (hK : (K : Int) = (n + 3) / 4) (hp : 1 ≤ p) (hpn : (p : Int) ≤ n) : ∀ (d i : Nat), i + d = 2 * K →
    Ev (fun k => formeref42_Where.l0 k (p : Int) (faces n K) (decide (idx K p < i) && decide (p % 2 = 1)) (i : Int) (if idx K p < i then (face n K (idx K p)).f0 else 0) (decide (idx K p < i) && (face n K (idx K p)).f1) (if idx K p < i then (face n K (idx K p)).f2 else 0) (if idx K p < i then (face n K (idx K p)).f3 else 0))
      ((face n K (idx K p)).f0, (face n K (idx K p)).f1, (face n K (idx K p)).f2, (face n K (idx K p)).f3, decide (p % 2 = 1), 0)
  | 0, i, h => by
    have hi : idx K p < i := by unfold idx; split <;> omega
    simp only [hi, if_true, decide_true, Bool.true_and]
    exact Ev.step (fun k => rfl) (EvT.ifn (by rw [faces_length]; omega) (Ev.now _))
  | d + 1, i, h => by
    have hl := faces_length n K
    have hw : wrap64 ((i : Int) + 1) = ((i + 1 : Nat) : Int) := EvT.w64 (by omega) (by omega)
    have IH := refWhere_loop n K p h0 h1 hK hp hpn d (i + 1) (by omega)
    have hf := face_cases n K i
    refine Ev.step (fun k => rfl) (EvT.ifp (by rw [hl]; omega) (EvT.ifp (by omega) ?_))
    rw [hw, faces_get n K i (by omega)]
    by_cases hi : i = idx K p
    · rw [← hi] at IH ⊢
      simp only [Nat.lt_succ_self, if_true, decide_true, Bool.true_and] at IH
      have hr : ((face n K i).f3 == (p : Int)) = decide (p % 2 = 1) := by
        unfold clip at hf
        unfold idx at hi
        by_cases ho : p % 2 = 1
        · rw [decide_eq_true ho, beq_iff_eq]; split at hi <;> omega
        · rw [decide_eq_false ho, beq_eq_false_iff_ne]; split at hi <;> omega
      rw [hr]
      refine EvT.ite (fun h2 => IH) (fun h2 => EvT.ifp ?_ IH)
      unfold clip at hf
      unfold idx at hi
      split at hi <;> omega
    · have e : (idx K p < i + 1) = (idx K p < i) := by rw [eq_iff_iff]; omega
      simp only [e] at IH
      refine EvT.ifn ?_ (EvT.ifn ?_ IH) <;> (unfold clip at hf; unfold idx at hi; split at hi <;> omega)
theorem where_same (n p : Int) (w1 : (Lit.int .i64 p).wf = true) : ∃ x, impose_Where.f n p = some x ∧ Ev (fun k => formeref42_Where.f k n p) x := by
  have hr := refFaces_ev n
  by_cases h : n < 0 ∨ 500 < n
  · refine ⟨(0, false, 0, 0, false, 1), ?_, ?_⟩
    · unfold impose_Where.f
      rw [if_pos w1, faces_same, if_pos h]
      rfl
    · rw [if_pos h] at hr
      exact Ev.bind hr (EvT.ifn (by decide) (Ev.now _))
  · rw [if_neg h] at hr
    obtain ⟨K, hK⟩ : ∃ K : Nat, (K : Int) = (n + 3) / 4 := ⟨((n + 3) / 4).toNat, by omega⟩
    rw [← hK, Int.toNat_natCast] at hr
    by_cases hp : p < 1 ∨ n < p
    · refine ⟨_, where_off n K p w1 (by omega) (by omega) hK hp, Ev.bind hr (EvT.ifp rfl ?_)⟩
      have bad : Ev (fun k => formeref42_Where.j0 k p (faces n K) true) (0, false, 0, 0, false, 4) := Ev.step (fun k => rfl) (Ev.now _)
      refine EvT.ite (fun h2 => bad) (fun h2 => ?_)
      rw [decide_eq_true (show p > n by omega)]
      exact bad
    · obtain ⟨p, rfl⟩ : ∃ q : Nat, p = (q : Int) := ⟨p.toNat, by omega⟩
      refine ⟨_, where_on n K p (by omega) (by omega) hK (by omega) (by omega), Ev.bind hr (EvT.ifp rfl (EvT.ifn (by omega) ?_))⟩
      rw [decide_eq_false (show ¬ ((p : Int) > n) by omega)]
      refine Ev.step (fun k => rfl) ?_
      have := refWhere_loop n K p (by omega) (by omega) hK (by omega) (by omega) (2 * K) 0 (by omega)
      simp only [Nat.not_lt_zero, decide_false, Bool.false_and, if_false] at this
      exact this

/-! Order -/
theorem form_loop (l : List S29) (hl : l.length ≤ 300) (r : Bool) : ∀ (d i : Nat), i + d = l.length →
    ((∀ j, i ≤ j → j < l.length → okf j (rd_T29 l (j : Int))) → r = (decide (l.length % 2 = 0) && decide (l.length ≤ 250))) → (∀ j, i ≤ j → j < l.length → ¬ okf j (rd_T29 l (j : Int)) → r = false) →
    Ev (fun k => formeref42_Form.l0 k l (i : Int)) r
  | 0, i, h, hg, hb => by
    rw [hg (fun j h1 h2 => by omega)]
    refine Ev.step (fun k => rfl) (EvT.ifn (by omega) (EvT.ite (fun h2 => EvT.now ?_) (fun h2 => EvT.now ?_)))
    · rw [decide_eq_true (show l.length % 2 = 0 by omega), Bool.true_and]; congr 1; rw [decide_eq_decide]; omega
    · rw [decide_eq_false (show ¬ l.length % 2 = 0 by omega)]; rfl
  | d + 1, i, h, hg, hb => by
    have e3 : wrap64 ((i : Int) + 1) = ((i + 1 : Nat) : Int) := EvT.w64 (by omega) (by omega)
    have e4 : wrap64 (wrap64 (Int.tdiv (i : Int) 2) + 1) = ((i / 2 : Nat) : Int) + 1 := by rw [quo2, EvT.w64 (x := ((i / 2 : Nat) : Int)) (by omega) (by omega), EvT.w64 (by omega) (by omega)]
    have bad : (¬ okf i (rd_T29 l (i : Int))) → Ev (fun _ => some false) r := fun hn => by rw [hb i (Nat.le_refl _) (by omega) hn]; exact Ev.now _
    refine Ev.step (fun k => rfl) (EvT.ifp (by omega) (EvT.ifp (by omega) ?_))
    rw [e4, mod2, e3]
    refine EvT.ite (fun h1 => EvT.ite (fun h2 => bad ?_) (fun h2 => EvT.ite (fun h3 => bad ?_) (fun h3 => EvT.ite (fun h4 => bad ?_) (fun h4 => EvT.ite (fun h5 => bad ?_) (fun h5 => EvT.ite (fun h6 => bad ?_) (fun h6 => ?_)))))) (fun h1 => bad ?_)
    · intro ho; rw [ho.2.1] at h2
      rcases Nat.mod_two_eq_zero_or_one i with hm | hm <;> rw [hm] at h2 <;> simp at h2
    · intro ho; have := ho.2.2; omega
    · intro ho; have := ho.2.2; omega
    · intro ho; have := ho.2.2; omega
    · intro ho; have := ho.2.2; omega
    · have hok : okf i (rd_T29 l (i : Int)) := by
        refine ⟨h1, ?_, by omega, by omega, by omega, by omega⟩
        have h2' : (rd_T29 l (i : Int)).f1 = (((i % 2 : Nat) : Int) == 1) := by simpa using h2
        rw [h2']
        rcases Nat.mod_two_eq_zero_or_one i with hm | hm <;> rw [hm] <;> rfl
      exact form_loop l hl r d (i + 1) (by omega) (fun hx => hg (fun j h6 h7 => by
        by_cases hj : j = i
        · subst hj; exact hok
        · exact hx j (by omega) h7)) (fun j h6 h7 h8 => hb j (by omega) h7 h8)
    · intro ho; exact h1 ho.1
theorem refOrder_back (l : List S29) (hl : l.length ≤ 300) (hok : ∀ j, j < l.length → okf j (rd_T29 l (j : Int))) : ∀ (d t : Nat), 2 * t + 2 * d = l.length →
    Ev (fun k => formeref42_Order.l1 k l (outs l ++ (behs l).reverse.take (2 * t)) ((l.length : Int) - 2 - 2 * t)) (outs l ++ (behs l).reverse, 0)
  | 0, t, h => Ev.step (fun k => rfl) (EvT.ifn (by omega) (EvT.now (by rw [List.take_of_length_le (by simp [behs]; omega)])))
  | d + 1, t, h => by
    have IH := refOrder_back l hl hok d (t + 1) (by omega)
    have e1 : wrap64 ((l.length : Int) - 2 - 2 * t + 1) = ((l.length - 1 - 2 * t : Nat) : Int) := by rw [EvT.w64 (by omega) (by omega)]; omega
    have e2 : wrap64 ((l.length : Int) - 2 - 2 * t - 2) = (l.length : Int) - 2 - 2 * ((t + 1 : Nat) : Int) := by rw [EvT.w64 (by omega) (by omega)]; omega
    have e3 : (l.length : Int) - 2 - 2 * t = ((l.length - 2 - 2 * t : Nat) : Int) := by omega
    have lb : (behs l).length = l.length := by simp [behs]
    have lo : (outs l).length = l.length := by simp [outs]
    have g1 : (behs l)[l.length - 1 - 2 * t]'(by omega) = (rd_T29 l ((l.length - 1 - 2 * t : Nat) : Int)).f3 := by
      have ho := hok (l.length - 1 - 2 * t) (by omega)
      have hb := ho.2.1
      rw [decide_eq_true (show (l.length - 1 - 2 * t) % 2 = 1 by omega)] at hb
      simp only [rd_T29, Int.toNat_natCast, List.getD_eq_getElem?_getD, List.getElem?_eq_getElem (show l.length - 1 - 2 * t < l.length by omega), Option.getD_some] at hb ⊢
      simp only [behs, List.getElem_map, hb, if_true]
    have g2 : (behs l)[l.length - 2 - 2 * t]'(by omega) = (rd_T29 l ((l.length - 2 - 2 * t : Nat) : Int)).f2 := by
      have ho := hok (l.length - 2 - 2 * t) (by omega)
      have hb := ho.2.1
      rw [decide_eq_false (show ¬ (l.length - 2 - 2 * t) % 2 = 1 by omega)] at hb
      simp only [rd_T29, Int.toNat_natCast, List.getD_eq_getElem?_getD, List.getElem?_eq_getElem (show l.length - 2 - 2 * t < l.length by omega), Option.getD_some] at hb ⊢
      simp only [behs, List.getElem_map, hb, if_neg (show ¬ (false = true) by decide)]
    refine Ev.step (fun k => rfl) (EvT.ifp (by omega) ?_)
    rw [e1, e2]
    refine EvT.ifp (by omega) (EvT.ifp (by omega) (EvT.ifp (by simp [lb, lo]; omega) (EvT.bindc rfl (EvT.ifp (by omega) (EvT.ifp (by omega) (EvT.ifp (by simp [lb, lo]; omega) ?_))))))
    have e4 : (outs l ++ (behs l).reverse.take (2 * t)) ++ [(rd_T29 l ((l.length - 1 - 2 * t : Nat) : Int)).f3] ++ [(rd_T29 l ((l.length : Int) - 2 - 2 * t)).f2] = outs l ++ (behs l).reverse.take (2 * (t + 1)) := by
      rw [e3, ← g1, ← g2, show 2 * (t + 1) = 2 * t + 1 + 1 by omega, List.take_succ_eq_append_getElem (by rw [List.length_reverse]; omega), List.take_succ_eq_append_getElem (by rw [List.length_reverse]; omega), List.getElem_reverse, List.getElem_reverse]
      have j1 : (behs l).length - 1 - 2 * t = l.length - 1 - 2 * t := by omega
      have j2 : (behs l).length - 1 - (2 * t + 1) = l.length - 2 - 2 * t := by omega
      simp only [j1, j2, List.append_assoc]
    rw [e4]
    exact IH
theorem refOrder_loop (l : List S29) (hl : l.length ≤ 300) (he : l.length % 2 = 0) (hok : ∀ j, j < l.length → okf j (rd_T29 l (j : Int))) : ∀ (d i : Nat), 2 * i + 2 * d = l.length →
    Ev (fun k => formeref42_Order.l0 k l (outs (l.take (2 * i))) ((2 * i : Nat) : Int)) (outs l ++ (behs l).reverse, 0)
  | 0, i, h => by
    rw [List.take_of_length_le (show l.length ≤ 2 * i by omega)]
    refine Ev.step (fun k => rfl) (EvT.ifn (by omega) ?_)
    rw [show wrap64 ((l.length : Int) - 2) = (l.length : Int) - 2 - 2 * ((0 : Nat) : Int) by rw [EvT.w64 (by omega) (by omega)]; omega]
    have := refOrder_back l hl hok i 0 (by omega)
    simpa using this
  | d + 1, i, h => by
    have IH := refOrder_loop l hl he hok d (i + 1) (by omega)
    have e1 : wrap64 (((2 * i : Nat) : Int) + 1) = ((2 * i + 1 : Nat) : Int) := EvT.w64 (by omega) (by omega)
    have e2 : wrap64 (((2 * i : Nat) : Int) + 2) = ((2 * (i + 1) : Nat) : Int) := by rw [EvT.w64 (by omega) (by omega)]; omega
    have b1 := (hok (2 * i) (by omega)).2.1
    have b2 := (hok (2 * i + 1) (by omega)).2.1
    rw [decide_eq_false (by omega)] at b1
    rw [decide_eq_true (by omega)] at b2
    rw [show 2 * (i + 1) = 2 * i + 1 + 1 by omega, take_rd l (2 * i + 1) (by omega), take_rd l (2 * i) (by omega)] at IH
    simp only [outs, List.map_append, List.map_cons, List.map_nil, b1, b2, if_true, Bool.false_eq_true, if_false] at IH
    have lo : (outs (l.take (2 * i))).length ≤ 300 := by simp [outs]; omega
    refine Ev.step (fun k => rfl) (EvT.ifp (by omega) (EvT.ifp (by omega) (EvT.ifp (by omega) (EvT.bindc rfl ?_))))
    rw [e1, e2]
    refine EvT.ifp (by omega) (EvT.ifp (by omega) (EvT.ifp (by simp; omega) ?_))
    exact IH
theorem order_same (l : List S29) (hl : l.length ≤ 300) : ∃ x, x.1.length ≤ 1000 ∧ Ev (fun k => impose_Order.f k l) x ∧ Ev (fun k => formeref42_Order.f k l) x := by
  by_cases h : l.length % 2 = 0 ∧ l.length ≤ 250 ∧ ∀ j, j < l.length → okf j (rd_T29 l (j : Int))
  · obtain ⟨h1, h2, h3⟩ := h
    refine ⟨(outs l ++ (behs l).reverse, 0), by simp [outs, behs]; omega, order_ev l hl _ (fun _ _ _ => rfl) (fun hb => ?_), ?_⟩
    · rcases hb with hb | hb | ⟨j, hj, hn⟩
      · omega
      · omega
      · exact absurd (h3 j hj) hn
    · refine Ev.bind (form_loop l hl true l.length 0 (by omega) (fun _ => by rw [decide_eq_true h1, decide_eq_true h2]; rfl) (fun j _ hj hn => absurd (h3 j hj) hn)) (EvT.ifp rfl ?_)
      have := refOrder_loop l hl h1 h3 (l.length / 2) 0 (by omega)
      simpa [outs] using this
  · have hb : l.length % 2 = 1 ∨ 250 < l.length ∨ ∃ j, j < l.length ∧ ¬ okf j (rd_T29 l (j : Int)) := by
      by_cases h1 : l.length % 2 = 1
      · exact .inl h1
      · by_cases h2 : 250 < l.length
        · exact .inr (.inl h2)
        · refine .inr (.inr (Classical.byContradiction fun hn => h ⟨by omega, by omega, fun j hj => Classical.byContradiction fun hx => hn ⟨j, hj, hx⟩⟩))
    refine ⟨([], 1), by simp, order_ev l hl _ (fun h1 h2 h3 => absurd ⟨h1, h2, h3⟩ h) (fun _ => rfl), Ev.bind (form_loop l hl false l.length 0 (by omega) (fun hx => ?_) (fun _ _ _ _ => rfl)) (EvT.ifn (by decide) (Ev.now _))⟩
    by_cases h1 : l.length % 2 = 0
    · by_cases h2 : l.length ≤ 250
      · exact absurd ⟨h1, h2, fun j hj => hx j (by omega) hj⟩ h
      · rw [decide_eq_false h2, Bool.and_false]
    · rw [decide_eq_false h1]; rfl
theorem ImposeMatchesReference : formelaw42_ImposeMatchesReference.Pure := fun a0 a1 l2 _ w1 _ _ _ => by
  refine Ev.rounds (Ev.bind head_ev (EvT.ifp rfl (EvT.ite (fun h => Ev.now _) (fun h => ?_))))
  refine EvT.bindc (faces_same a0) (Ev.bind (refFaces_ev a0) (Ev.bind (same_ev _ ?_) (EvT.ifp rfl ?_)))
  · split
    · simp
    · rw [faces_length]; omega
  · obtain ⟨x, hx, hx2⟩ := where_same a0 a1 w1
    obtain ⟨y, hyl, hy, hy2⟩ := order_same l2 (by omega)
    rw [show ∀ z : List S29 × Int, (z.2 == z.2) = true from fun z => by simp]
    refine EvT.lit (g := fun k c => formelaw42_ImposeMatchesReference.j0 k a0 a1 l2 c) true (fun c hc => Ev.step (fun k => rfl) (EvT.bindc hx (Ev.bind hx2 (EvT.ifp hc (EvT.ifp (by simp) (EvT.ifp (by simp) (Ev.bind hy (Ev.bind hy2 (EvT.ifp rfl (Ev.bind (sameInts_ev _ (by omega)) (EvT.ifp rfl (EvT.now (by simp)))))))))))))
end Go.Proofs.Ytbllpiboodlepaa.Pure
