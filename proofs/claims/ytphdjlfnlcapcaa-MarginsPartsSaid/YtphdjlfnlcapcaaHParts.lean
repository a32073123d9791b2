import Derived.Test.YtphdjlfnlcapcaaHPures2
set_option linter.unusedVariables false
set_option linter.unusedSimpArgs false
namespace Go.Proofs.Ytphdjlfnlcapcaa.Pure
open Go.RowKit Go.Proofs.Ytphdjlfnlcapcaa.P Go.Proofs.YtphdjlfnlcapcaaW.PrintWords Go.Proofs.YtphdjlfnlcapcaaW.PrintLast Go.Proofs.YtphdjlfnlcapcaaW.PrintMore
/-- The plain side of MarginsParts. -/
def withH (h : Int) (l : List S39) : List S39 := l.map fun x => ⟨x.f0, x.f1, h⟩
theorem jl_withH (h : Int) : ∀ (l : List S39) (b : List Int), jl b (withH h l) = jl b l
  | [], b => rfl
  | x :: r, b => by
    show (b ++ [x.f0]) :: jl [x.f1] (withH h r) = _
    rw [jl_withH h r]
    rfl
theorem gaps_withH (h : Int) (l : List S39) : gaps (withH h l) = gaps l := by unfold gaps; rw [jl_withH]
theorem ok_withH {h : Int} (hh : 0 ≤ h ∧ h ≤ 65535) {l : List S39} (ok : l.all okItem = true) : (withH h l).all okItem = true := by
  refine List.all_eq_true.2 fun x hx => ?_
  obtain ⟨y, hy, rfl⟩ := List.mem_map.1 hx
  have := List.all_eq_true.1 ok y hy
  simp only [okItem, Bool.and_eq_true, decide_eq_true_eq] at this ⊢
  exact ⟨⟨this.1.1, by omega⟩, by omega⟩
/-- The joints of one list behind another: those of the first but its last, the two that meet, those of the second but its first. -/
theorem jl_app : ∀ (a : List S39) (b : List S39) (x : S39) (s : List Int) (y : S39) (r : List S39), b = y :: r →
    jl s (a ++ x :: b) = (jl s (a ++ [x])).dropLast ++ [[x.f1] ++ [y.f0]] ++ (jl [] b).drop 1
  | [], b, x, s, y, r, e => by
    subst e
    simp [jl]
  | z :: a, b, x, s, y, r, e => by
    have IH := jl_app a b x [z.f1] y r e
    have hne : jl [z.f1] (a ++ [x]) ≠ [] := by cases a <;> simp [jl]
    show (s ++ [z.f0]) :: jl [z.f1] (a ++ x :: b) = ((s ++ [z.f0]) :: jl [z.f1] (a ++ [x])).dropLast ++ _ ++ _
    rw [IH, List.dropLast_cons_of_ne_nil hne]
    simp
theorem gaps_app (a b : List S39) (x y : S39) (r : List S39) (e : b = y :: r) : gaps ((a ++ [x]) ++ b) = (gaps (a ++ [x])).dropLast ++ [hi [x.f1, y.f0] + lo [x.f1, y.f0]] ++ (gaps b).drop 1 := by
  unfold gaps
  rw [List.append_assoc, show [x] ++ b = x :: b from rfl, jl_app a b x [] y r e]
  simp [List.map_dropLast, List.map_drop]
theorem one_sum (z : Int) : hi [z] + lo [z] = z := by
  unfold hi lo
  simp only [List.foldl, mx, mn]
  split <;> split <;> omega
/-- What the law lays together. -/
theorem parts_eq (a b : List S39) (ha : 0 < a.length) (hb : 0 < b.length) : gaps (a ++ b) = (gaps a).take a.length ++ [hi [rd (gaps a) (a.length : Int), rd (gaps b) 0] + lo [rd (gaps a) (a.length : Int), rd (gaps b) 0]] ++ (gaps b).drop 1 := by
  obtain ⟨a', x, rfl⟩ : ∃ a' x, a = a' ++ [x] := ⟨a.dropLast, a.getLast (by intro h; rw [h] at ha; simp at ha), (List.dropLast_concat_getLast _).symm⟩
  obtain ⟨y, r, rfl⟩ : ∃ y r, b = y :: r := by
    cases b with
    | nil => simp at hb
    | cons y r => exact ⟨y, r, rfl⟩
  rw [gaps_app a' (y :: r) x y r rfl]
  have h1 : rd (gaps (a' ++ [x])) ((a' ++ [x]).length : Int) = x.f1 := by
    have hl := gaps_length (a' ++ [x])
    have : gaps (a' ++ [x]) = (List.range' 0 ((a' ++ [x]).length + 1)).map fun i => hi (at_ (a' ++ [x]) i) + lo (at_ (a' ++ [x]) i) := gaps_eq _
    rw [this]
    simp only [rd, Int.toNat_natCast, List.getD_eq_getElem?_getD, List.getElem?_map]
    rw [List.getElem?_range' (by omega)]
    simp only [Option.map_some, Option.getD_some, Nat.zero_add, Nat.one_mul]
    have h2 : at_ (a' ++ [x]) (a' ++ [x]).length = [x.f1] := by
      unfold at_
      rw [if_pos ha, if_neg (by omega), show (((a' ++ [x]).length : Int) - 1) = ((a'.length : Nat) : Int) by simp, rd_nat39 _ _ (by simp)]
      simp
    rw [h2, one_sum]
  have h2 : rd (gaps (y :: r)) 0 = y.f0 := by
    show rd ((jl [] (y :: r)).map fun b => hi b + lo b) 0 = y.f0
    simp [jl, rd, one_sum]
  rw [h1, h2]
  congr 2
  have hl := gaps_length (a' ++ [x])
  rw [List.dropLast_eq_take, hl]
  simp
theorem gaps_in (l : List S39) (ok : l.all okItem = true) (i : Nat) (h : i = 0 ∨ i = l.length) (h0 : 0 < l.length) : inM (rd (gaps l) (i : Int)) = true := by
  have hi' : i ≤ l.length := by omega
  have hg : rd (gaps l) (i : Int) = hi (at_ l i) + lo (at_ l i) := by
    rw [gaps_eq]
    simp only [rd, Int.toNat_natCast, List.getD_eq_getElem?_getD, List.getElem?_map]
    rw [List.getElem?_range' (by omega)]
    simp
  have hk := (at_ok l ok i hi').1
  have hone : ∃ z, at_ l i = [z] := by
    rcases h with rfl | rfl
    · exact ⟨_, by unfold at_; rw [if_neg (by omega), if_pos h0]; rfl⟩
    · exact ⟨_, by unfold at_; rw [if_pos h0, if_neg (by omega)]; rfl⟩
  obtain ⟨z, hz⟩ := hone
  rw [hg, hz, one_sum]
  rw [hz] at hk
  simpa using hk
end Go.Proofs.Ytphdjlfnlcapcaa.Pure
