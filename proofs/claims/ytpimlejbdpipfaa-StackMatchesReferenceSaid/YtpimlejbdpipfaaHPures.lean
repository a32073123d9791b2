import Derived.Test.YtpimlejbdpipfaaPx2
import Derived.Test.YtpimlejbdpipfaaPx3
import Derived.Test.YtpimlejbdpipfaaHPlace
import Derived.Test.YtpimlejbdpipfaaHEv
set_option linter.unusedVariables false
set_option linter.unusedSimpArgs false
namespace Go.Proofs.Ytpimlejbdpipfaa.Pure
open Go.RowKit Go.Proofs.Ytpimlejbdpipfaa.P Go.Proofs.YtpimlejbdpipfaaW.PrintWords Go.Proofs.YtpimlejbdpipfaaW.PrintLast Go.Proofs.YtpimlejbdpipfaaW.PrintMore
theorem _root_.Go.Proofs.Ytpimlejbdpipfaa.EvT.lit {α : Type} {g : Nat → Bool → Option α} {r : α} (b : Bool) (h : ∀ c, c = b → Ev (fun k => g k c) r) : Ev (fun k => g k b) r := h b rfl
theorem margin_eq (n : Int) : formeref18_Margin.f n = some (inM n) := by
  unfold formeref18_Margin.f inM
  by_cases h : n ≥ -1000000000
  · rw [if_pos h, decide_eq_true (show -1000000000 ≤ n from h)]; rfl
  · rw [if_neg h, decide_eq_false (show ¬ -1000000000 ≤ n from h)]; rfl
theorem join_some (l : List Int) (h1 : l.all inM = true) (h2 : l.length ≤ 4000) : margins_Join.f l = some (hi l + lo l, 0) := by
  unfold margins_Join.f
  rw [if_neg (by omega), if_pos h1]
theorem hi_app (a b : List Int) : ∀ x, (a ++ b).foldl mx x = b.foldl mx (a.foldl mx x) := fun x => List.foldl_append
theorem hi_range (l : List Int) (h : l.all inM = true) : 0 ≤ hi l ∧ hi l ≤ 1000000000 := hi_bd l 0 (by omega) (by omega) h
theorem lo_range (l : List Int) (h : l.all inM = true) : -1000000000 ≤ lo l ∧ lo l ≤ 0 := lo_bd l 0 (by omega) (by omega) h
theorem rjoin_loop (l : List Int) (hl : l.length ≤ 4000) : ∀ (d i : Nat), i + d = l.length → (l.take i).all inM = true →
    Ev (fun k => formeref18_Join.l0 k l (hi (l.take i)) (lo (l.take i)) (i : Int)) (if l.all inM = true then (hi l + lo l, 0) else (0, 1))
  | 0, i, h, ha => by
    obtain rfl : i = l.length := by omega
    rw [List.take_length] at ha ⊢
    have r1 := hi_range l ha
    have r2 := lo_range l ha
    refine EvT.succ (fun k => rfl) (EvT.ifn (by omega) (EvT.now ?_))
    rw [if_pos ha, EvT.w64 (by omega) (by omega)]
  | d + 1, i, h, ha => by
    have hi' : i < l.length := by omega
    refine EvT.succ (fun k => rfl) (EvT.ifp (by omega) (EvT.ifp (by omega) (EvT.bindc (margin_eq _) (EvT.ite (fun hm => ?_) (fun hm => ?_)))))
    · rw [EvT.w64 (by omega) (by omega)]
      have := rjoin_loop l hl d (i + 1) (by omega) (by rw [all_snoc l i hi', ha, hm]; rfl)
      rw [hi_snoc l i hi', lo_snoc l i hi'] at this
      simpa using this
    · refine EvT.now ?_
      rw [if_neg (by rw [all_miss l i hi' hm]; simp)]
theorem rjoin_ev (l : List Int) (hl : l.length ≤ 100000000000000) : ∃ r, margins_Join.f l = some r ∧ Ev (fun k => formeref18_Join.f k l) r := by
  unfold margins_Join.f
  by_cases h : 4000 < l.length
  · rw [if_pos h]
    exact ⟨_, rfl, EvT.ifp (by omega) (EvT.now rfl)⟩
  · rw [if_neg h]
    have := rjoin_loop l (by omega) l.length 0 (by omega) (by simp)
    refine ⟨if l.all inM = true then (hi l + lo l, 0) else (0, 1), by split <;> rfl, EvT.ifn (by omega) ?_⟩
    rw [List.take_zero] at this
    exact this
theorem item_eq (x : S39) : formeref18_Item.f x.f0 x.f1 x.f2 = some (okItem x) := by
  unfold formeref18_Item.f okItem
  rw [margin_eq, margin_eq]
  simp only [Option.bind_some]
  by_cases h0 : inM x.f0 = true
  · rw [if_pos h0]
    by_cases h1 : inM x.f1 = true
    · rw [if_pos h1]
      by_cases h2 : x.f2 ≥ 0
      · rw [if_pos h2, h0, h1, decide_eq_true (show 0 ≤ x.f2 from h2)]; rfl
      · rw [if_neg h2, h0, h1, decide_eq_false (show ¬ 0 ≤ x.f2 from h2)]; rfl
    · rw [if_neg h1, h0, Bool.eq_false_iff.2 h1]; rfl
  · rw [if_neg h0, Bool.eq_false_iff.2 h0]; rfl

/-- What meets at place i. -/
def at_ (l : List S39) (i : Nat) : List Int := (if 0 < i then [(rd_T39 l ((i : Int) - 1)).f1] else []) ++ (if i < l.length then [(rd_T39 l (i : Int)).f0] else [])
theorem jl_drop (l : List S39) : ∀ (d i : Nat), i + d = l.length → jl (if 0 < i then [(rd_T39 l ((i : Int) - 1)).f1] else []) (l.drop i) = (List.range' i (d + 1)).map (at_ l)
  | 0, i, h => by
    obtain rfl : i = l.length := by omega
    rw [List.drop_length]
    simp [jl, at_]
  | d + 1, i, h => by
    have hi' : i < l.length := by omega
    rw [List.drop_eq_getElem_cons hi', List.range'_succ, List.map_cons, ← jl_drop l d (i + 1) (by omega)]
    simp only [jl]
    congr 1
    · rw [at_, if_pos hi', rd_nat39 l i hi']
    · rw [if_pos (Nat.succ_pos i), show (((i + 1 : Nat) : Int) - 1) = (i : Int) from by omega, rd_nat39 l i hi']
theorem gaps_eq (l : List S39) : gaps l = (List.range' 0 (l.length + 1)).map fun i => hi (at_ l i) + lo (at_ l i) := by
  have h := jl_drop l l.length 0 (by omega)
  simp only [Nat.lt_irrefl, if_false, List.drop_zero] at h
  unfold gaps
  rw [h, List.map_map]
  rfl
theorem at_ok (l : List S39) (ha : l.all okItem = true) (i : Nat) (hi' : i ≤ l.length) : (at_ l i).all inM = true ∧ (at_ l i).length ≤ 2 := by
  have hall : ∀ x ∈ l, okItem x = true := List.all_eq_true.1 ha
  have h0 : ∀ j : Nat, j < l.length → inM (rd_T39 l (j : Int)).f0 = true ∧ inM (rd_T39 l (j : Int)).f1 = true := by
    intro j hj
    rw [rd_nat39 l j hj]
    have := hall _ (List.getElem_mem hj)
    unfold okItem at this
    simp only [Bool.and_eq_true] at this
    exact ⟨this.1.1.1, this.1.1.2⟩
  unfold at_
  refine ⟨?_, by split <;> split <;> simp⟩
  rw [List.all_append, Bool.and_eq_true]
  constructor
  · split
    · rename_i hp
      have := (h0 (i - 1) (by omega)).2
      rw [show (((i - 1 : Nat)) : Int) = (i : Int) - 1 from by omega] at this
      simp [this]
    · rfl
  · split
    · rename_i hp
      simp [(h0 i hp).1]
    · rfl
theorem rjoin_at (l : List S39) (ha : l.all okItem = true) (i : Nat) (hi' : i ≤ l.length) : Ev (fun k => formeref18_Join.f k (at_ l i)) (hi (at_ l i) + lo (at_ l i), 0) := by
  obtain ⟨h1, h2⟩ := at_ok l ha i hi'
  obtain ⟨r, hr, he⟩ := rjoin_ev (at_ l i) (by omega)
  rw [join_some _ h1 (by omega)] at hr
  cases hr
  exact he

theorem rbet_loop1 (l : List S39) (hl : l.length ≤ 4000) (ha : l.all okItem = true) : ∀ (d i : Nat), i + d = l.length + 1 →
    Ev (fun k => formeref18_Between.l1 k l ((List.range' 0 i).map fun i => hi (at_ l i) + lo (at_ l i)) (i : Int)) (gaps l, 0)
  | 0, i, h => by
    obtain rfl : i = l.length + 1 := by omega
    refine EvT.succ (fun k => rfl) (EvT.ifn (by omega) (EvT.now ?_))
    rw [gaps_eq]
  | d + 1, i, h => by
    have ih := rbet_loop1 l hl ha d (i + 1) (by omega)
    rw [List.range'_concat, List.map_append, List.map_singleton] at ih
    simp only [Nat.zero_add, Nat.one_mul] at ih
    have hj := rjoin_at l ha i (by omega)
    refine EvT.succ (fun k => rfl) (EvT.ifp (by omega) (EvT.ite (fun hp => ?_) (fun hp => ?_)))
    · have e1 : wrap64 ((i : Int) - 1) = (i : Int) - 1 := EvT.w64 (by omega) (by omega)
      rw [e1]
      refine EvT.ifp (by omega) (EvT.ifp (by omega) (EvT.ifp (by simp) (EvT.bindc rfl (EvT.ite (fun hq => ?_) (fun hq => ?_)))))
      · refine EvT.ifp (by omega) (EvT.ifp (by simp) ?_)
        have e : ([] ++ [(rd_T39 l ((i : Int) - 1)).f1]) ++ [(rd_T39 l (i : Int)).f0] = at_ l i := by unfold at_; rw [if_pos (by omega), if_pos (by omega)]; rfl
        rw [e]
        refine Ev.bind hj (EvT.ifp (by simp; omega) ?_)
        rw [EvT.w64 (by omega) (by omega)]
        simpa using ih
      · have e : ([] ++ [(rd_T39 l ((i : Int) - 1)).f1]) = at_ l i := by unfold at_; rw [if_pos (by omega), if_neg (by omega)]; rfl
        rw [e]
        refine Ev.bind hj (EvT.ifp (by simp; omega) ?_)
        rw [EvT.w64 (by omega) (by omega)]
        simpa using ih
    · obtain rfl : i = 0 := by omega
      refine EvT.ite (fun hq => ?_) (fun hq => ?_)
      · refine EvT.ifp (by omega) (EvT.ifp (by simp) ?_)
        have e : ([] : List Int) ++ [(rd_T39 l ((0 : Nat) : Int)).f0] = at_ l 0 := by unfold at_; rw [if_neg (by omega), if_pos (by omega)]
        rw [e]
        refine Ev.bind hj (EvT.ifp (by simp) ?_)
        simpa [EvT.w64 (show (-9223372036854775808 : Int) ≤ 1 by omega) (by omega)] using ih
      · have e : ([] : List Int) = at_ l 0 := by unfold at_; rw [if_neg (by omega), if_neg (by omega)]; rfl
        rw [show (fun k => (formeref18_Join.f k []).bind fun bt182 => if (List.map (fun i => hi (at_ l i) + lo (at_ l i)) (List.range' 0 0)).length < 17592186044416 then formeref18_Between.l1 k l (List.map (fun i => hi (at_ l i) + lo (at_ l i)) (List.range' 0 0) ++ [bt182.1]) (wrap64 (((0 : Nat) : Int) + 1)) else none) = (fun k => (formeref18_Join.f k (at_ l 0)).bind fun bt182 => if (List.map (fun i => hi (at_ l i) + lo (at_ l i)) (List.range' 0 0)).length < 17592186044416 then formeref18_Between.l1 k l (List.map (fun i => hi (at_ l i) + lo (at_ l i)) (List.range' 0 0) ++ [bt182.1]) (wrap64 (((0 : Nat) : Int) + 1)) else none) from by rw [← e]]
        refine Ev.bind hj (EvT.ifp (by simp) ?_)
        simpa [EvT.w64 (show (-9223372036854775808 : Int) ≤ 1 by omega) (by omega)] using ih
theorem rbet_loop0 (l : List S39) (hl : l.length ≤ 4000) : ∀ (d i : Nat), i + d = l.length → (l.take i).all okItem = true →
    Ev (fun k => formeref18_Between.l0 k l (i : Int)) (if l.all okItem = true then (gaps l, 0) else ([], 1))
  | 0, i, h, ha => by
    obtain rfl : i = l.length := by omega
    rw [List.take_length] at ha
    refine EvT.succ (fun k => rfl) (EvT.ifn (by omega) ?_)
    rw [if_pos ha]
    simpa using rbet_loop1 l hl ha (l.length + 1) 0 (by omega)
  | d + 1, i, h, ha => by
    have hi' : i < l.length := by omega
    refine EvT.succ (fun k => rfl) (EvT.ifp (by omega) (EvT.ifp (by omega) (EvT.bindc (item_eq _) (EvT.ite (fun hm => ?_) (fun hm => ?_)))))
    · rw [EvT.w64 (by omega) (by omega)]
      have := rbet_loop0 l hl d (i + 1) (by omega) (by rw [item_snoc l i hi', ha, hm]; rfl)
      simpa using this
    · refine EvT.now ?_
      rw [if_neg (by rw [item_miss l i hi' hm]; simp)]
theorem rbet_ev (l : List S39) (hl : l.length ≤ 100000000000000) : ∃ r, margins_Between.f l = some r ∧ Ev (fun k => formeref18_Between.f k l) r := by
  unfold margins_Between.f
  by_cases h : 4000 < l.length
  · rw [if_pos h]
    exact ⟨_, rfl, EvT.ifp (by omega) (EvT.now rfl)⟩
  · rw [if_neg h]
    have := rbet_loop0 l (by omega) l.length 0 (by omega) (by simp)
    refine ⟨if l.all okItem = true then (gaps l, 0) else ([], 1), by split <;> rfl, EvT.ifn (by omega) ?_⟩
    simpa using this
theorem same_loop (l : List Int) (hl : l.length ≤ 100000000000000) : ∀ (d i : Nat), i + d = l.length → Ev (fun k => formeref18_SameInts.l0 k l l (i : Int)) true
  | 0, i, h => EvT.succ (fun k => rfl) (EvT.ifn (by omega) (EvT.now rfl))
  | d + 1, i, h => by
    refine EvT.succ (fun k => rfl) (EvT.ifp (by omega) (EvT.ifp (by omega) (EvT.ifp (by omega) (EvT.ifp rfl ?_))))
    rw [EvT.w64 (by omega) (by omega)]
    simpa using same_loop l hl d (i + 1) (by omega)
theorem same_ev (l : List Int) (hl : l.length ≤ 100000000000000) : Ev (fun k => formeref18_SameInts.f k l l) true :=
  EvT.ifp rfl (by simpa using same_loop l hl l.length 0 (by omega))
theorem gaps_length (l : List S39) : (gaps l).length = l.length + 1 := by rw [gaps_eq]; simp
end Go.Proofs.Ytpimlejbdpipfaa.Pure
