/- For any margins: with the opposite signs they are joined to the opposite; items in the opposite order, with Above and Below exchanged, have the opposite margins (up to 1000). Conditions: those of the statement alone. -/
import Derived.Test.YtphdjlfnlcapcaaPx8
import Derived.Test.YtphdjlfnlcapcaaHPures2
namespace Go.Proofs.Ytphdjlfnlcapcaa.Pure
open Go.RowKit Go.Proofs.Ytphdjlfnlcapcaa.P Go.Proofs.YtphdjlfnlcapcaaW.PrintWords Go.Proofs.YtphdjlfnlcapcaaW.PrintLast Go.Proofs.YtphdjlfnlcapcaaW.PrintMore

theorem hi_map_neg : ∀ (l : List Int) (a : Int), (l.map fun x => -x).foldl mx (-a) = -(l.foldl mn a)
  | [], a => rfl
  | x :: l, a => by
    rw [List.map_cons, List.foldl_cons, List.foldl_cons, show mx (-a) (-x) = -(mn a x) from by unfold mx mn; split <;> split <;> omega]
    exact hi_map_neg l _
theorem lo_map_neg : ∀ (l : List Int) (a : Int), (l.map fun x => -x).foldl mn (-a) = -(l.foldl mx a)
  | [], a => rfl
  | x :: l, a => by
    rw [List.map_cons, List.foldl_cons, List.foldl_cons, show mn (-a) (-x) = -(mx a x) from by unfold mx mn; split <;> split <;> omega]
    exact lo_map_neg l _
def sw (x : S39) : S39 := ⟨x.f1, x.f0, x.f2⟩
theorem sw_ok (x : S39) : okItem (sw x) = okItem x := by unfold okItem sw; cases inM x.f0 <;> cases inM x.f1 <;> rfl
def back (l : List S39) : List S39 := (l.map sw).reverse
theorem back_length (l : List S39) : (back l).length = l.length := by unfold back; simp
theorem back_all (l : List S39) : (back l).all okItem = l.all okItem := by
  unfold back
  rw [List.all_reverse, List.all_map]
  congr 1
  funext x
  exact sw_ok x
theorem back_rd (l : List S39) (j : Nat) (h : j < l.length) : rd_T39 (back l) (j : Int) = sw (rd_T39 l (((l.length - 1 - j : Nat)) : Int)) := by
  rw [rd_nat39 _ j (by rw [back_length]; exact h), rd_nat39 l _ (by omega)]
  unfold back
  rw [List.getElem_reverse]
  simp
theorem at_back (l : List S39) (i : Nat) (h : i ≤ l.length) : hi (at_ (back l) (l.length - i)) + lo (at_ (back l) (l.length - i)) = hi (at_ l i) + lo (at_ l i) := by
  have e : at_ (back l) (l.length - i) = (if i < l.length then [(rd_T39 l (i : Int)).f0] else []) ++ (if 0 < i then [(rd_T39 l ((i : Int) - 1)).f1] else []) := by
    unfold at_
    rw [back_length]
    congr 1
    · by_cases hp : i < l.length
      · rw [if_pos (by omega), if_pos hp, show (((l.length - i : Nat) : Int) - 1) = ((l.length - i - 1 : Nat) : Int) from by omega, back_rd l _ (by omega), show l.length - 1 - (l.length - i - 1) = i from by omega]
        rfl
      · rw [if_neg (by omega), if_neg hp]
    · by_cases hp : 0 < i
      · rw [if_pos (by omega), if_pos hp, back_rd l _ (by omega), show (((l.length - 1 - (l.length - i) : Nat)) : Int) = (i : Int) - 1 from by omega]
        rfl
      · rw [if_neg (by omega), if_neg hp]
  have p : ((if i < l.length then [(rd_T39 l (i : Int)).f0] else []) ++ (if 0 < i then [(rd_T39 l ((i : Int) - 1)).f1] else [])).Perm (at_ l i) := List.perm_append_comm
  rw [e]
  unfold hi lo
  rw [hi_perm p, lo_perm p]
theorem gaps_rd (l : List S39) (i : Nat) (h : i ≤ l.length) : rd (gaps l) (i : Int) = hi (at_ l i) + lo (at_ l i) := by
  rw [rd_nat _ i (by rw [gaps_length]; omega)]
  simp [gaps_eq]
theorem gaps_back (l : List S39) (i : Nat) (h : i ≤ l.length) : rd (gaps (back l)) (((l.length - i : Nat)) : Int) = rd (gaps l) (i : Int) := by
  rw [gaps_rd _ _ (by rw [back_length]; omega), gaps_rd l i h, at_back l i h]

theorem turn_l2 (l : List S39) (x y : List Int) (e n : Int) (hn : e = 0 → (x.length : Int) = (l.length : Int) + 1) (hl : l.length ≤ 1000) (hxy : x.length = y.length) (hx : x.length ≤ 4001)
    (h : ∀ i : Nat, i < x.length → rd x (i : Int) = rd y (((y.length - 1 - i : Nat)) : Int)) : ∀ (d i : Nat), i + d = x.length →
    Ev (fun k => formelaw18_MarginsTurned.l2 k l true x e y (x.length : Int) (i : Int)) true
  | 0, i, hi' => by
    refine EvT.succ (fun k => rfl) (EvT.ifn (by omega) (EvT.ifp rfl (EvT.ite (fun h0 => EvT.now ?_) (fun _ => EvT.now rfl))))
    have := hn h0
    rw [EvT.w64 (by omega) (by omega), this]
    simp
  | d + 1, i, hi' => by
    have ih := turn_l2 l x y e n hn hl hxy hx h d (i + 1) (by omega)
    have hlt : i < x.length := by omega
    refine EvT.succ (fun k => rfl) (EvT.ifp (by omega) (EvT.ifp rfl (EvT.ifp (by omega) (EvT.ifp (by omega) ?_))))
    have e1 : wrap64 ((y.length : Int) - 1) = (y.length : Int) - 1 := EvT.w64 (by omega) (by omega)
    have e2 : wrap64 ((y.length : Int) - 1 - (i : Int)) = (((y.length - 1 - i : Nat)) : Int) := by rw [EvT.w64 (by omega) (by omega)]; omega
    rw [e1, e2, EvT.w64 (show -9223372036854775808 ≤ (i : Int) + 1 by omega) (by omega), ← h i hlt, beq_self_eq_true]
    refine EvT.ifp (by omega) (EvT.ifp (by omega) ?_)
    simpa using ih

theorem bet_back (l : List S39) (hl : l.length ≤ 1000) : ∃ x y e, margins_Between.f l = some (x, e) ∧ margins_Between.f (back l) = some (y, e) ∧ (e = 0 → (x.length : Int) = (l.length : Int) + 1) ∧ x.length = y.length ∧ x.length ≤ 4001 ∧
    ∀ i : Nat, i < x.length → rd x (i : Int) = rd y (((y.length - 1 - i : Nat)) : Int) := by
  have hn1 : ¬ 4000 < l.length := by omega
  have hn2 : ¬ 4000 < (back l).length := by rw [back_length]; omega
  unfold margins_Between.f
  rw [if_neg hn1, if_neg hn2, back_all]
  by_cases ha : l.all okItem = true
  · rw [if_pos ha, if_pos ha]
    refine ⟨_, _, _, rfl, rfl, fun _ => by rw [gaps_length]; omega, by rw [gaps_length, gaps_length, back_length], by rw [gaps_length]; omega, fun i hi' => ?_⟩
    rw [gaps_length] at hi'
    rw [gaps_length, back_length, show l.length + 1 - 1 - i = l.length - i from by omega]
    exact (gaps_back l i (by omega)).symm
  · rw [if_neg ha, if_neg ha]
    exact ⟨_, _, _, rfl, rfl, fun h => by omega, rfl, by simp, fun i hi' => by simp at hi'⟩

theorem turn_l1 (l : List S39) (hl : l.length ≤ 1000) : ∀ (n : Nat), n ≤ l.length → Ev (fun k => formelaw18_MarginsTurned.l1 k l true (((l.drop n).map sw).reverse) ((n : Int) - 1)) true
  | 0, _ => by
    obtain ⟨x, y, e, h1, h2, h3, h4, h5, h6⟩ := bet_back l hl
    rw [List.drop_zero]
    refine EvT.succ (fun k => rfl) (EvT.ifn (by omega) (EvT.bindc h1 (EvT.bindc h2 (EvT.ifp rfl ?_))))
    have hb : ((x.length : Int) != (y.length : Int)) = false := by rw [h4]; simp
    show Ev (fun k => formelaw18_MarginsTurned.j4 k l true x e y ((x.length : Int) != (y.length : Int))) true
    rw [hb]
    refine EvT.succ (f := fun k => formelaw18_MarginsTurned.l2 k l true x e y (x.length : Int) 0) (fun k => rfl) ?_
    simpa using turn_l2 l x y e 0 h3 hl h4 h5 h6 x.length 0 (by omega)
  | n + 1, hn => by
    have ih := turn_l1 l hl n (by omega)
    have e : ((n + 1 : Nat) : Int) - 1 = (n : Int) := by omega
    rw [e]
    refine EvT.succ (fun k => rfl) (EvT.ifp (by omega) (EvT.ifp (by omega) (EvT.ifp (by omega) (EvT.ifp (by simp; omega) ?_))))
    rw [EvT.w64 (by omega) (by omega), rd_nat39 l n (by omega)]
    rw [List.drop_eq_getElem_cons (show n < l.length by omega), List.map_cons, List.reverse_cons] at ih
    exact ih

theorem turn_l0 (l : List Int) (items : List S39) (hl : l.length ≤ 1000) (hm : l.all inM = true) (hi' : items.length ≤ 1000) : ∀ (d i : Nat), i + d = l.length →
    Ev (fun k => formelaw18_MarginsTurned.l0 k l items true ((l.take i).map fun x => -x) l (l.length : Int) (i : Int)) true
  | 0, i, h => by
    obtain rfl : i = l.length := by omega
    rw [List.take_length]
    have hall : ∀ x ∈ l, inM x = true := List.all_eq_true.1 hm
    have hm2 : (l.map fun x => -x).all inM = true := by
      rw [List.all_map, List.all_eq_true]
      intro x hx
      have := hall x hx
      rw [inM_iff] at this
      show inM (-x) = true
      rw [inM_iff]
      omega
    have e1 : hi (l.map fun x => -x) = -lo l := hi_map_neg l 0
    have e2 : lo (l.map fun x => -x) = -hi l := lo_map_neg l 0
    have r1 := hi_range l hm
    have r2 := lo_range l hm
    refine EvT.succ (fun k => rfl) (EvT.ifn (by omega) (EvT.bindc (join_some l hm (by omega)) (EvT.bindc (join_some _ hm2 (by simp; omega)) (EvT.ifp rfl (EvT.ifp rfl ?_)))))
    have hb : ((hi l + lo l) != wrap64 (-(hi (l.map fun x => -x) + lo (l.map fun x => -x)))) = false := by
      rw [e1, e2, EvT.w64 (by omega) (by omega), bne_eq_false_iff_eq]
      omega
    show Ev (fun k => formelaw18_MarginsTurned.j2 k items true ((hi l + lo l) != wrap64 (-(hi (l.map fun x => -x) + lo (l.map fun x => -x))))) true
    rw [hb]
    refine EvT.succ (f := fun k => formelaw18_MarginsTurned.l1 k items true [] (wrap64 ((items.length : Int) - 1))) (fun k => rfl) ?_
    rw [EvT.w64 (by omega) (by omega)]
    have := turn_l1 items hi' items.length (Nat.le_refl _)
    rw [List.drop_length] at this
    exact this
  | d + 1, i, h => by
    have hlt : i < l.length := by omega
    have hall : ∀ x ∈ l, inM x = true := List.all_eq_true.1 hm
    have hx := hall _ (List.getElem_mem hlt)
    rw [inM_iff] at hx
    have ih := turn_l0 l items hl hm hi' d (i + 1) (by omega)
    rw [List.take_succ_eq_append_getElem hlt, List.map_append, List.map_singleton] at ih
    refine EvT.succ (fun k => rfl) (EvT.ifp (by omega) (EvT.ifp (by omega) (EvT.ifp (by omega) (EvT.ifp (by simp; omega) ?_))))
    rw [EvT.w64 (show -9223372036854775808 ≤ (i : Int) + 1 by omega) (by omega), rd_nat l i hlt, EvT.w64 (by omega) (by omega)]
    simpa using ih

theorem MarginsTurned : formelaw18_MarginsTurned.Pure := by
  intro l items h1 h2 _ h3 h4 _
  refine Ev.rounds (g := fun k => formelaw18_MarginsTurned.f k l items) ?_
  have fast : Ev (fun k => formelaw18_MarginsTurned.j0 k l items true true) true := ⟨1, fun k hk => by obtain ⟨m, rfl⟩ : ∃ m, k = m + 1 := ⟨k - 1, by omega⟩; rfl⟩
  refine Ev.bind head_ev (EvT.ifp rfl (Ev.bind (right_ev l (by omega)) (EvT.ite (fun hc => ?_) (fun _ => fast))))
  simp only [Bool.and_eq_true, decide_eq_true_eq] at hc
  by_cases hg : (items.length : Int) > 1000
  · rw [decide_eq_true hg]
    exact fast
  · rw [decide_eq_false hg]
    refine EvT.succ (f := fun k => formelaw18_MarginsTurned.l0 k l items true [] l (l.length : Int) 0) (fun k => rfl) ?_
    simpa using turn_l0 l items hc.2 hc.1 (by omega) l.length 0 (by omega)
end Go.Proofs.Ytphdjlfnlcapcaa.Pure
