import Derived.Test.YtdmfhabhcagioaaProg
set_option linter.unusedVariables false
set_option linter.unusedSimpArgs false
namespace Go.Bidi
/-! The plain side of bidi: runs that are turned round, the directions of bytes. -/
section
variable {α β : Type}
/-- Each longest stretch of elements with a property is turned round. -/
def turnL (p : α → Bool) : List α → List α → List α
  | acc, [] => acc
  | acc, x :: r => if p x = true then turnL p (x :: acc) r else acc ++ x :: turnL p [] r
theorem turnL_perm (p : α → Bool) : ∀ (l acc : List α), (turnL p acc l).Perm (acc ++ l)
  | [], acc => by simp [turnL]
  | x :: r, acc => by
    unfold turnL
    split
    · refine (turnL_perm p r (x :: acc)).trans ?_
      simpa using (List.perm_middle (a := x) (l₁ := acc) (l₂ := r)).symm
    · exact List.Perm.append_left acc (List.Perm.cons x (by simpa using turnL_perm p r []))
theorem turnL_none {p : α → Bool} : ∀ {l : List α}, (∀ x ∈ l, p x = false) → turnL p [] l = l
  | [], _ => rfl
  | x :: r, h => by
    unfold turnL
    rw [if_neg (by rw [h x (by simp)]; decide), turnL_none (fun y hy => h y (by simp [hy]))]
    rfl
theorem turnL_all {p : α → Bool} : ∀ {l : List α} (acc : List α), (∀ x ∈ l, p x = true) → turnL p acc l = l.reverse ++ acc
  | [], _, _ => rfl
  | x :: r, acc, h => by
    unfold turnL
    rw [if_pos (h x (by simp)), turnL_all _ (fun y hy => h y (by simp [hy]))]
    simp
theorem turnL_low {p : α → Bool} {x : α} (hx : p x = false) (v : List α) : ∀ (u acc : List α), turnL p acc (u ++ x :: v) = turnL p acc u ++ x :: turnL p [] v
  | [], acc => by
    show turnL p acc (x :: v) = acc ++ _
    rw [turnL, if_neg (by rw [hx]; decide)]
  | y :: u, acc => by
    show turnL p acc (y :: (u ++ x :: v)) = turnL p acc (y :: u) ++ _
    rw [turnL, turnL]
    split
    · exact turnL_low hx v u (y :: acc)
    · rw [turnL_low hx v u []]; simp
/-- Behind an element without the property a new stretch begins. -/
theorem turnL_app {p : α → Bool} {u : List α} (v : List α) (h : ∀ x, u.getLast? = some x → p x = false) : turnL p [] (u ++ v) = turnL p [] u ++ turnL p [] v := by
  rcases List.eq_nil_or_concat u with rfl | ⟨u', x, rfl⟩
  · rfl
  · rw [List.concat_eq_append] at h ⊢
    have hx := h x (by simp)
    rw [List.append_assoc, show [x] ++ v = x :: v from rfl, turnL_low hx, turnL_low hx]
    simp [turnL]
theorem turnL_map {p : β → Bool} (f : α → β) : ∀ (l acc : List α), turnL p (acc.map f) (l.map f) = (turnL (fun x => p (f x)) acc l).map f
  | [], acc => rfl
  | x :: r, acc => by
    rw [List.map_cons, turnL, turnL]
    split
    · exact turnL_map f r (x :: acc)
    · rw [List.map_append, List.map_cons, ← turnL_map f r []]; rfl
theorem turnL_congr {p q : α → Bool} : ∀ {l : List α} (acc : List α), (∀ x ∈ l, p x = q x) → turnL p acc l = turnL q acc l
  | [], _, _ => rfl
  | x :: r, acc, h => by
    rw [turnL, turnL, h x (by simp), turnL_congr (x :: acc) (fun y hy => h y (by simp [hy])), turnL_congr [] (fun y hy => h y (by simp [hy]))]
theorem turnL_acc (p : α → Bool) : ∀ (l : List α), ∃ P Q, ∀ acc, turnL p acc l = P ++ acc ++ Q
  | [] => ⟨[], [], fun acc => by simp [turnL]⟩
  | x :: r => by
    obtain ⟨P, Q, h⟩ := turnL_acc p r
    by_cases hx : p x = true
    · exact ⟨P ++ [x], Q, fun acc => by rw [turnL, if_pos hx, h]; simp⟩
    · exact ⟨[], x :: turnL p [] r, fun acc => by rw [turnL, if_neg hx]; simp⟩
/-- Two neighbours with the property change places. -/
theorem turnL_high2 {p : α → Bool} {a b : α} (ha : p a = true) (hb : p b = true) (v : List α) : ∀ (u acc : List α), ∃ X Y, turnL p acc (u ++ a :: b :: v) = X ++ b :: a :: Y
  | [], acc => by
    obtain ⟨P, Q, h⟩ := turnL_acc p v
    refine ⟨P, acc ++ Q, ?_⟩
    show turnL p acc (a :: b :: v) = _
    rw [turnL, if_pos ha, turnL, if_pos hb, h]
    simp
  | y :: u, acc => by
    show ∃ X Y, turnL p acc (y :: (u ++ a :: b :: v)) = _
    rw [turnL]
    split
    · exact turnL_high2 ha hb v u (y :: acc)
    · obtain ⟨X, Y, h⟩ := turnL_high2 ha hb v u []
      exact ⟨acc ++ y :: X, Y, by rw [h]; simp⟩
theorem turnL_low2 {p : α → Bool} {a b : α} (ha : p a = false) (hb : p b = false) (v : List α) (u acc : List α) : ∃ X Y, turnL p acc (u ++ a :: b :: v) = X ++ a :: b :: Y :=
  ⟨turnL p acc u, turnL p [] v, by rw [turnL_low ha, show b :: v = [] ++ b :: v from rfl, turnL_low hb]; rfl⟩
/-- The longest stretches of elements with a property: from, to before until. st: where the one that is under way began. -/
def runsL (p : α → Bool) : Nat → Nat → List α → List (Nat × Nat)
  | st, i, [] => if st < i then [(st, i)] else []
  | st, i, x :: r => if p x = true then runsL p st (i + 1) r else (if st < i then [(st, i)] else []) ++ runsL p (i + 1) (i + 1) r
/-- A stretch is turned round. -/
def revSeg (l : List α) (x : Nat × Nat) : List α := l.take x.1 ++ ((l.take x.2).drop x.1).reverse ++ l.drop x.2
theorem revSeg_length (l : List α) (x : Nat × Nat) (h : x.1 ≤ x.2) (h2 : x.2 ≤ l.length) : (revSeg l x).length = l.length := by
  simp [revSeg]; omega
theorem runsL_bd (p : α → Bool) : ∀ (l : List α) (st i : Nat), st ≤ i → ∀ x ∈ runsL p st i l, st ≤ x.1 ∧ x.1 < x.2 ∧ x.2 ≤ i + l.length
  | [], st, i, h, x, hx => by
    unfold runsL at hx
    split at hx
    · simp at hx; subst hx; simp; omega
    · simp at hx
  | y :: r, st, i, h, x, hx => by
    unfold runsL at hx
    split at hx
    · have := runsL_bd p r st (i + 1) (by omega) x hx
      simp; omega
    · rcases List.mem_append.1 hx with hx | hx
      · split at hx
        · simp at hx; subst hx; simp; omega
        · simp at hx
      · have := runsL_bd p r (i + 1) (i + 1) (by omega) x hx
        simp; omega
/-- The stretches are turned round, one after the other. -/
theorem fold_runs (p : α → Bool) : ∀ (r a m : List α), (∀ x ∈ m, p x = true) → (runsL p a.length (a.length + m.length) r).foldl revSeg (a ++ m ++ r) = a ++ turnL p m.reverse r
  | [], a, m, hm => by
    unfold runsL
    split
    · have e : List.drop a.length (List.take (a.length + m.length) (a ++ m)) = m := by rw [List.take_of_length_le (by simp)]; simp
      simp [revSeg, turnL, e]
    · have : m = [] := List.eq_nil_of_length_eq_zero (by omega)
      subst this; simp [turnL]
  | x :: r, a, m, hm => by
    unfold runsL turnL
    by_cases hx : p x = true
    · rw [if_pos hx, if_pos hx]
      have := fold_runs p r a (m ++ [x]) (by intro y hy; rcases List.mem_append.1 hy with hy | hy; exact hm y hy; simp at hy; rw [hy]; exact hx)
      simpa [Nat.add_assoc] using this
    · rw [if_neg hx, if_neg hx, List.foldl_append]
      have e : (if a.length < a.length + m.length then [(a.length, a.length + m.length)] else []).foldl revSeg (a ++ m ++ x :: r) = a ++ m.reverse ++ x :: r := by
        split
        · simp [revSeg, List.take_append, List.drop_append]
        · have : m = [] := List.eq_nil_of_length_eq_zero (by omega)
          subst this; simp
      rw [e]
      have := fold_runs p r (a ++ m.reverse ++ [x]) [] (by simp)
      simp only [List.length_append, List.length_reverse, List.length_cons, List.length_nil, List.append_nil, List.append_assoc, List.reverse_nil, Nat.add_zero, Nat.zero_add] at this ⊢
      rw [show a.length + (m.length + 1) = a.length + m.length + 1 by omega] at this
      simpa using this
theorem turn_runs (p : α → Bool) (l : List α) : (runsL p 0 0 l).foldl revSeg l = turnL p [] l := fold_runs p l [] [] (by simp)
end
end Go.Bidi
namespace Go.Bidi
/-! Directions, levels and the order, of the classes of bytes. -/
def upd (now c : Int) : Int := if c = 1 then 0 else if c = 2 then 1 else now
/-- The direction of the next byte that is not neutral. -/
def nextD (dir now : Int) : List Int → Int
  | [] => dir
  | c :: r => if c > 3 then nextD dir now r else upd now c
def dirs (dir : Int) : Int → List Int → List Int
  | _, [] => []
  | now, c :: r => (if c > 3 then (if now = nextD dir now r then now else dir) else upd now c) :: dirs dir (upd now c) r
def lets : Int → List Int → List Int
  | _, [] => []
  | now, c :: r => upd now c :: lets (upd now c) r
theorem upd_neutral {now c : Int} (h : c > 3) : upd now c = now := by unfold upd; rw [if_neg (by omega), if_neg (by omega)]
theorem lets_length : ∀ (cs : List Int) (now : Int), (lets now cs).length = cs.length
  | [], _ => rfl
  | c :: r, now => by simp [lets, lets_length r]
theorem dirs_length (dir : Int) : ∀ (cs : List Int) (now : Int), (dirs dir now cs).length = cs.length
  | [], _ => rfl
  | c :: r, now => by simp [dirs, dirs_length dir r]
def neutral (c : Int) : Bool := decide (c > 3)
def fillSeg (l : List Int) (i k : Nat) (n : Int) : List Int := l.take i ++ List.replicate (k - i) n ++ l.drop k
def at_ (dir : Int) (l : List Int) (i : Int) : Int := if i < 0 ∨ i ≥ (l.length : Int) then dir else l.getD i.toNat 0
def fillStep (dir : Int) (l : List Int) (x : Nat × Nat) : List Int :=
  fillSeg l x.1 x.2 (if at_ dir l ((x.1 : Int) - 1) = at_ dir l (x.2 : Int) then at_ dir l ((x.1 : Int) - 1) else dir)
theorem fillStep_length (dir : Int) (l : List Int) (x : Nat × Nat) (h : x.1 ≤ x.2) (h2 : x.2 ≤ l.length) : (fillStep dir l x).length = l.length := by
  simp [fillStep, fillSeg]; omega
theorem at_before (dir : Int) (A B : List Int) : at_ dir (A ++ B) ((A.length : Int) - 1) = A.getLast?.getD dir := by
  rcases List.eq_nil_or_concat A with rfl | ⟨A', x, rfl⟩
  · simp [at_]
  · rw [List.concat_eq_append]
    unfold at_
    rw [if_neg (by simp; omega)]
    simp only [List.length_append, List.length_cons, List.length_nil]
    rw [show (((A'.length + (0 + 1) : Nat) : Int) - 1).toNat = A'.length by omega]
    simp [List.getD_eq_getElem?_getD]
theorem at_behind (dir : Int) (A : List Int) (B : List Int) : at_ dir (A ++ B) (A.length : Int) = B.headD dir := by
  cases B with
  | nil => simp [at_]
  | cons x B =>
    unfold at_
    rw [if_neg (by simp; omega)]
    simp [List.getD_eq_getElem?_getD]
theorem fill_at (dir now : Int) (A B : List Int) (m : Nat) (hA : A.getLast?.getD dir = now) :
    fillStep dir (A ++ List.replicate m now ++ B) (A.length, A.length + m) = A ++ List.replicate m (if now = B.headD dir then now else dir) ++ B := by
  have h1 : at_ dir (A ++ List.replicate m now ++ B) ((A.length : Int) - 1) = now := by rw [List.append_assoc, at_before, hA]
  have h2 : at_ dir (A ++ List.replicate m now ++ B) ((A.length + m : Nat) : Int) = B.headD dir := by
    have := at_behind dir (A ++ List.replicate m now) B
    rwa [List.length_append, List.length_replicate] at this
  unfold fillStep fillSeg
  simp only [h1, h2]
  rw [List.append_assoc A, List.take_left, show A ++ (List.replicate m now ++ B) = (A ++ List.replicate m now) ++ B by simp, List.drop_left' (by simp)]
  rw [show A.length + m - A.length = m by omega]
theorem fold_fill (dir : Int) : ∀ (r A : List Int) (m : Nat) (now : Int), A.getLast?.getD dir = now →
    (runsL neutral A.length (A.length + m) r).foldl (fillStep dir) (A ++ List.replicate m now ++ lets now r) = A ++ List.replicate m (if now = nextD dir now r then now else dir) ++ dirs dir now r
  | [], A, m, now, hA => by
    unfold runsL
    split
    · have := fill_at dir now A [] m hA
      show (fillStep dir (A ++ List.replicate m now ++ []) (A.length, A.length + m)) = A ++ List.replicate m (if now = dir then now else dir) ++ []
      exact this
    · have : m = 0 := by omega
      subst this; simp [lets, dirs]
  | c :: r, A, m, now, hA => by
    unfold runsL
    by_cases hc : c > 3
    · rw [if_pos (by simpa [neutral] using hc)]
      have := fold_fill dir r A (m + 1) now hA
      have hu := upd_neutral (now := now) hc
      simp only [lets, dirs, nextD, if_pos hc, hu]
      rw [List.replicate_succ', List.replicate_succ'] at this
      simpa [Nat.add_assoc] using this
    · rw [if_neg (by simpa [neutral] using hc), List.foldl_append]
      have e : (if A.length < A.length + m then [(A.length, A.length + m)] else []).foldl (fillStep dir) (A ++ List.replicate m now ++ lets now (c :: r)) =
          A ++ List.replicate m (if now = nextD dir now (c :: r) then now else dir) ++ lets now (c :: r) := by
        split
        · have := fill_at dir now A (lets now (c :: r)) m hA
          simpa [lets, nextD, hc] using this
        · have : m = 0 := by omega
          subst this; simp
      rw [e]
      have := fold_fill dir r (A ++ List.replicate m (if now = nextD dir now (c :: r) then now else dir) ++ [upd now c]) 0 (upd now c) (by simp)
      simp only [lets, dirs, if_neg hc]
      simp only [List.length_append, List.length_replicate, List.length_cons, List.length_nil, Nat.add_zero, Nat.zero_add, List.replicate_zero, List.append_nil, List.append_assoc] at this ⊢
      rw [show A.length + (m + 1) = A.length + m + 1 by omega] at this
      simpa using this
theorem fill_runs (dir : Int) (cs : List Int) : (runsL neutral 0 0 cs).foldl (fillStep dir) (lets dir cs) = dirs dir dir cs := by
  have := fold_fill dir cs [] 0 dir rfl
  simpa using this
/-- The level of a byte. -/
def lvl (dir d c : Int) : Int := if d = 1 then (if c = 3 then 2 else 1) else if dir = 0 then 0 else 2
def levels (dir : Int) (cs : List Int) : List Int := List.zipWith (lvl dir) (dirs dir dir cs) cs
theorem levels_length (dir : Int) (cs : List Int) : (levels dir cs).length = cs.length := by simp [levels, dirs_length]
theorem upd_01 {now c : Int} (h : now = 0 ∨ now = 1) : upd now c = 0 ∨ upd now c = 1 := by unfold upd; split; exact .inl rfl; split; exact .inr rfl; exact h
/-- What is true of each direction. -/
theorem dirs_all (dir : Int) (hd : dir = 0 ∨ dir = 1) : ∀ (cs : List Int) (now : Int), (now = 0 ∨ now = 1) → ∀ x ∈ (dirs dir now cs).zip cs, (x.1 = 0 ∨ x.1 = 1) ∧ (x.2 = 1 → x.1 = 0) ∧ (x.2 = 2 → x.1 = 1)
  | [], _, _, x, hx => by simp [dirs] at hx
  | c :: r, now, hn, x, hx => by
    simp only [dirs, List.zip_cons_cons, List.mem_cons] at hx
    rcases hx with rfl | hx
    · simp only
      by_cases hc : c > 3
      · rw [if_pos hc]
        refine ⟨?_, fun h => by omega, fun h => by omega⟩
        split
        · exact hn
        · exact hd
      · rw [if_neg hc]
        refine ⟨upd_01 hn, fun h => by unfold upd; rw [if_pos h], fun h => by unfold upd; rw [if_neg (by omega), if_pos h]⟩
    · exact dirs_all dir hd r _ (upd_01 hn) x hx
theorem levels_all {dir : Int} (hd : dir = 0 ∨ dir = 1) (cs : List Int) (i : Nat) (hi : i < cs.length) (n c : Int) (hn : (levels dir cs)[i]? = some n) (hc : cs[i]? = some c) :
    dir ≤ n ∧ n ≤ 2 ∧ (c = 2 → n = 1) ∧ (c = 1 ∨ c = 3 → n ≠ 1) := by
  obtain ⟨d, hdd⟩ : ∃ d, (dirs dir dir cs)[i]? = some d := ⟨_, List.getElem?_eq_getElem (by rw [dirs_length]; exact hi)⟩
  have h1 : (levels dir cs)[i]? = some (lvl dir d c) := by
    unfold levels
    rw [List.getElem?_zipWith, hdd, hc]
  rw [hn] at h1
  obtain rfl : n = lvl dir d c := by simpa using h1
  have hx := dirs_all dir hd cs dir hd (d, c) (by
    refine List.mem_of_getElem? (i := i) ?_
    rw [List.getElem?_zip_eq_some]
    exact ⟨hdd, hc⟩)
  simp only at hx
  obtain ⟨h1, h2, h3⟩ := hx
  unfold lvl
  rcases hd with rfl | rfl <;> rcases h1 with rfl | rfl <;> (simp; try omega)
def rdI (l : List Int) (i : Int) : Int := l.getD i.toNat 0
def iota (n : Nat) : List Int := (List.range n).map Int.ofNat
def high (lev : List Int) (n : Int) (i : Int) : Bool := decide (n ≤ rdI lev i)
def order (lev : List Int) : List Int := turnL (high lev 1) [] (turnL (high lev 2) [] (iota lev.length))
theorem iota_length (n : Nat) : (iota n).length = n := by simp [iota]
theorem iota_mem {n : Nat} {x : Int} (h : x ∈ iota n) : ∃ i : Nat, i < n ∧ x = (i : Int) := by
  simp [iota] at h
  obtain ⟨i, hi, rfl⟩ := h
  exact ⟨i, hi, rfl⟩
theorem order_perm (lev : List Int) : (order lev).Perm (iota lev.length) := by
  have h1 := turnL_perm (high lev 1) (turnL (high lev 2) [] (iota lev.length)) []
  have h2 := turnL_perm (high lev 2) (iota lev.length) []
  exact (by simpa [order] using h1 : (order lev).Perm (turnL (high lev 2) [] (iota lev.length))).trans (by simpa using h2)
theorem order_length (lev : List Int) : (order lev).length = lev.length := by rw [(order_perm lev).length_eq, iota_length]
theorem rdI_nat (l : List Int) (i : Nat) (v : Int) (h : l[i]? = some v) : rdI l (i : Int) = v := by simp [rdI, List.getD_eq_getElem?_getD, h]
/-- Levels that are all at least 1: the last step turns all round. -/
theorem order_pos {lev : List Int} (h : ∀ x ∈ lev, 1 ≤ x) : order lev = (turnL (high lev 2) [] (iota lev.length)).reverse := by
  unfold order
  rw [turnL_all]
  · simp
  · intro x hx
    have h2 := turnL_perm (high lev 2) (iota lev.length) []
    have hx : x ∈ iota lev.length := by simpa using h2.mem_iff.1 hx
    obtain ⟨i, hi, rfl⟩ := iota_mem hx
    rw [high, rdI_nat lev i _ (List.getElem?_eq_getElem hi)]
    exact decide_eq_true (h _ (List.getElem_mem hi))
/-- Levels that are all less than 2: the first step turns nothing. -/
theorem order_le1 {lev : List Int} (h : ∀ x ∈ lev, x ≤ 1) : order lev = turnL (high lev 1) [] (iota lev.length) := by
  unfold order
  rw [turnL_none (p := high lev 2)]
  intro x hx
  obtain ⟨i, hi, rfl⟩ := iota_mem hx
  rw [high, rdI_nat lev i _ (List.getElem?_eq_getElem hi)]
  have := h _ (List.getElem_mem hi)
  exact decide_eq_false (by omega)
theorem order_zero {lev : List Int} (h : ∀ x ∈ lev, x = 0) : order lev = iota lev.length := by
  rw [order_le1 (fun x hx => by rw [h x hx]; omega), turnL_none]
  intro x hx
  obtain ⟨i, hi, rfl⟩ := iota_mem hx
  rw [high, rdI_nat lev i _ (List.getElem?_eq_getElem hi), h _ (List.getElem_mem hi)]
  exact decide_eq_false (by omega)
theorem order_one {lev : List Int} (h : ∀ x ∈ lev, x = 1) : order lev = (iota lev.length).reverse := by
  rw [order_pos (fun x hx => by rw [h x hx]; omega), turnL_none]
  intro x hx
  obtain ⟨i, hi, rfl⟩ := iota_mem hx
  rw [high, rdI_nat lev i _ (List.getElem?_eq_getElem hi), h _ (List.getElem_mem hi)]
  exact decide_eq_false (by omega)
/-- Two neighbours of one level. -/
theorem iota_split {n i : Nat} (h : i + 1 < n) : iota n = iota i ++ (i : Int) :: ((i + 1 : Nat) : Int) :: ((List.range (n - i - 2)).map fun k => ((i + 2 + k : Nat) : Int)) := by
  refine List.ext_getElem? fun k => ?_
  by_cases h1 : k < i
  · rw [List.getElem?_append_left (by rw [iota_length]; exact h1)]
    simp [iota, show k < n by omega, h1]
  · rw [List.getElem?_append_right (by rw [iota_length]; omega), iota_length]
    by_cases h2 : k = i
    · subst h2; simp [iota, show k < n by omega]
    · by_cases h3 : k = i + 1
      · subst h3
        rw [show i + 1 - i = 1 by omega]
        simp [iota, h]
      · obtain ⟨q, rfl⟩ : ∃ q, k = i + 2 + q := ⟨k - i - 2, by omega⟩
        rw [show i + 2 + q - i = q + 2 by omega]
        simp only [iota, List.getElem?_map, List.getElem?_cons_succ]
        by_cases h4 : i + 2 + q < n
        · rw [List.getElem?_range h4, List.getElem?_range (by omega)]; rfl
        · rw [List.getElem?_eq_none (by simp; omega), List.getElem?_eq_none (by simp; omega)]; rfl
theorem order_next {lev : List Int} {i : Nat} {a : Int} (h0 : lev[i]? = some a) (h1 : lev[i + 1]? = some a) (ha : a = 0 ∨ a = 2) : ∃ X Y, order lev = X ++ (i : Int) :: ((i + 1 : Nat) : Int) :: Y := by
  have hl : i + 1 < lev.length := (List.getElem?_eq_some_iff.1 h1).1
  have r0 := rdI_nat _ _ _ h0
  have r1 := rdI_nat _ _ _ h1
  unfold order
  rw [iota_split hl]
  rcases ha with rfl | rfl
  · obtain ⟨X, Y, e⟩ := turnL_low2 (p := high lev 2) (a := (i : Int)) (b := ((i + 1 : Nat) : Int)) (by simp [high, r0]) (by simp only [high, r1]; decide) ((List.range (lev.length - i - 2)).map fun k => ((i + 2 + k : Nat) : Int)) (iota i) []
    rw [e]
    exact turnL_low2 (by simp [high, r0]) (by simp only [high, r1]; decide) _ _ _
  · obtain ⟨X, Y, e⟩ := turnL_high2 (p := high lev 2) (a := (i : Int)) (b := ((i + 1 : Nat) : Int)) (by simp [high, r0]) (by simp only [high, r1]; decide) ((List.range (lev.length - i - 2)).map fun k => ((i + 2 + k : Nat) : Int)) (iota i) []
    rw [e]
    exact turnL_high2 (by simp only [high, r1]; decide) (by simp [high, r0]) _ _ _
theorem order_prev {lev : List Int} {i : Nat} (h0 : lev[i]? = some 1) (h1 : lev[i + 1]? = some 1) : ∃ X Y, order lev = X ++ ((i + 1 : Nat) : Int) :: (i : Int) :: Y := by
  have hl : i + 1 < lev.length := (List.getElem?_eq_some_iff.1 h1).1
  have r0 := rdI_nat _ _ _ h0
  have r1 := rdI_nat _ _ _ h1
  unfold order
  rw [iota_split hl]
  obtain ⟨X, Y, e⟩ := turnL_low2 (p := high lev 2) (a := (i : Int)) (b := ((i + 1 : Nat) : Int)) (by simp [high, r0]) (by simp only [high, r1]; decide) ((List.range (lev.length - i - 2)).map fun k => ((i + 2 + k : Nat) : Int)) (iota i) []
  rw [e]
  exact turnL_high2 (by simp [high, r0]) (by simp only [high, r1]; decide) _ _ _
end Go.Bidi
namespace Go.Bidi
/-! Plain lines, exchanged letters, two lines beside each other. -/
theorem dirs_const (dir d : Int) : ∀ (cs : List Int) (now : Int), (∀ c ∈ cs, c > 3 ∨ upd now c = d) → now = d → dir = d → (∀ x, x = now → ∀ c ∈ cs, c > 3 ∨ upd x c = d) → ∀ x ∈ dirs dir now cs, x = d
  | [], _, _, _, _, _, x, hx => by simp [dirs] at hx
  | c :: r, now, h, hn, hd, _, x, hx => by
    subst hn
    have hu : upd now c = now := by
      rcases h c (by simp) with h1 | h1
      · exact upd_neutral h1
      · exact h1
    simp only [dirs, List.mem_cons, hu] at hx
    rcases hx with rfl | hx
    · split
      · split
        · rfl
        · exact hd
      · rfl
    · exact dirs_const dir now r now (fun c hc => h c (by simp [hc])) rfl hd (fun x e c hc => by subst e; exact h c (by simp [hc])) x hx
theorem levels_zero {cs : List Int} (h : ∀ c ∈ cs, c ≠ 2) : ∀ x ∈ levels 0 cs, x = 0 := by
  have hd := dirs_const 0 0 cs 0 (fun c hc => by
    by_cases h3 : c > 3
    · exact .inl h3
    · refine .inr ?_; unfold upd; split; rfl; rw [if_neg (h c hc)]) rfl rfl (fun x e c hc => by
    subst e
    by_cases h3 : c > 3
    · exact .inl h3
    · refine .inr ?_; unfold upd; split; rfl; rw [if_neg (h c hc)])
  intro x hx
  unfold levels at hx
  obtain ⟨i, hi, rfl⟩ := List.mem_iff_getElem.1 hx
  rw [List.getElem_zipWith, hd _ (List.getElem_mem _)]
  rfl
theorem levels_one {cs : List Int} (h : ∀ c ∈ cs, c ≠ 1 ∧ c ≠ 3) : ∀ x ∈ levels 1 cs, x = 1 := by
  have hu : ∀ c ∈ cs, c > 3 ∨ upd 1 c = 1 := fun c hc => by
    refine .inr ?_; unfold upd; rw [if_neg (h c hc).1]; split <;> rfl
  have hd := dirs_const 1 1 cs 1 hu rfl rfl (fun x e c hc => by subst e; exact hu c hc)
  intro x hx
  unfold levels at hx
  obtain ⟨i, hi, rfl⟩ := List.mem_iff_getElem.1 hx
  rw [List.getElem_zipWith, hd _ (List.getElem_mem _)]
  unfold lvl
  rw [if_pos rfl, if_neg]
  have hl : i < cs.length := by rw [List.length_zipWith] at hi; omega
  exact (h _ (List.getElem_mem hl)).2
/-- Letters exchanged. -/
def mir (c : Int) : Int := if c = 1 then 2 else if c = 2 then 1 else c
theorem mir_gt {c : Int} : mir c > 3 ↔ c > 3 := by unfold mir; split; omega; split <;> omega
theorem upd_mir {now c : Int} : upd (1 - now) (mir c) = 1 - upd now c := by
  unfold upd mir
  by_cases h1 : c = 1
  · simp [h1]
  · by_cases h2 : c = 2
    · simp [h2]
    · simp [h1, h2]
theorem nextD_mir (dir now : Int) : ∀ cs, nextD (1 - dir) (1 - now) (cs.map mir) = 1 - nextD dir now cs
  | [] => rfl
  | c :: r => by
    simp only [List.map_cons, nextD, mir_gt, nextD_mir dir now r, upd_mir]
    split <;> rfl
theorem dirs_mir (dir : Int) : ∀ (cs : List Int) (now : Int), dirs (1 - dir) (1 - now) (cs.map mir) = (dirs dir now cs).map (fun d => 1 - d)
  | [], _ => rfl
  | c :: r, now => by
    simp only [List.map_cons, dirs, mir_gt, nextD_mir, upd_mir, dirs_mir dir r]
    congr 1
    split
    · by_cases e : now = nextD dir now r
      · rw [if_pos e, if_pos (by omega)]
      · rw [if_neg e, if_neg (by omega)]
    · rfl
theorem levels_mir {dir : Int} (hd : dir = 0 ∨ dir = 1) {cs : List Int} (h : ∀ c ∈ cs, c ≠ 3) : levels (1 - dir) (cs.map mir) = (levels dir cs).map (fun x => x + 1 - 2 * dir) := by
  have hm := dirs_mir dir cs dir
  unfold levels
  rw [hm]
  refine List.ext_getElem (by simp [dirs_length]) fun i h1 h2 => ?_
  have hi : i < cs.length := by simp [dirs_length] at h1; omega
  simp only [List.getElem_zipWith, List.getElem_map]
  have hx := dirs_all dir hd cs dir hd ((dirs dir dir cs)[i]'(by rw [dirs_length]; exact hi), cs[i]) (by
    refine List.mem_of_getElem? (i := i) ?_
    rw [List.getElem?_zip_eq_some]
    exact ⟨List.getElem?_eq_getElem _, List.getElem?_eq_getElem _⟩)
  have hc := h _ (List.getElem_mem hi)
  have hc2 : mir cs[i] ≠ 3 := by unfold mir; split; omega; split <;> omega
  simp only at hx
  generalize (dirs dir dir cs)[i]'(by rw [dirs_length]; exact hi) = d at hx ⊢
  unfold lvl
  rw [if_neg hc, if_neg hc2]
  obtain ⟨hq, _, _⟩ := hx
  rcases hd with rfl | rfl <;> rcases hq with rfl | rfl <;> simp
theorem rdI_add (l : List Int) (k x : Int) (hx : ∃ i : Nat, i < l.length ∧ x = (i : Int)) : rdI (l.map (fun y => y + k)) x = rdI l x + k := by
  obtain ⟨i, hi, rfl⟩ := hx
  rw [rdI_nat _ _ _ (by rw [List.getElem?_map, List.getElem?_eq_getElem hi]; rfl), rdI_nat _ _ _ (List.getElem?_eq_getElem hi)]
theorem order_shift {lev : List Int} (h : ∀ x ∈ lev, x = 0 ∨ x = 1) : order (lev.map (fun x => x + 1)) = (order lev).reverse := by
  rw [order_pos (by
    intro x hx
    obtain ⟨y, hy, rfl⟩ := List.mem_map.1 hx
    rcases h y hy with rfl | rfl <;> omega), order_le1 (fun x hx => by rcases h x hx with rfl | rfl <;> omega), List.length_map]
  congr 1
  refine turnL_congr [] fun x hx => ?_
  obtain ⟨i, hi, rfl⟩ := iota_mem hx
  unfold high
  rw [rdI_add lev 1 _ ⟨i, hi, rfl⟩]
  rw [decide_eq_decide]; omega
theorem order_mir {dir : Int} (hd : dir = 0 ∨ dir = 1) {cs : List Int} (h : ∀ c ∈ cs, c ≠ 3) : order (levels (1 - dir) (cs.map mir)) = (order (levels dir cs)).reverse := by
  rw [levels_mir hd h]
  have hl : ∀ x ∈ levels dir cs, dir ≤ x ∧ x ≤ dir + 1 := by
    intro x hx
    unfold levels at hx
    obtain ⟨i, hi, rfl⟩ := List.mem_iff_getElem.1 hx
    have hi' : i < cs.length := by rw [List.length_zipWith] at hi; omega
    rw [List.getElem_zipWith]
    have hc := h _ (List.getElem_mem hi')
    have hx := dirs_all dir hd cs dir hd ((dirs dir dir cs)[i]'(by rw [dirs_length]; exact hi'), cs[i]) (by
      refine List.mem_of_getElem? (i := i) ?_
      rw [List.getElem?_zip_eq_some]
      exact ⟨List.getElem?_eq_getElem _, List.getElem?_eq_getElem _⟩)
    obtain ⟨h1, _, _⟩ := hx
    unfold lvl
    rw [if_neg hc]
    rcases hd with rfl | rfl <;> rcases h1 with h1 | h1 <;> simp only at h1 <;> rw [h1] <;> simp
  rcases hd with rfl | rfl
  · rw [show (fun x : Int => x + 1 - 2 * 0) = fun x => x + 1 by funext x; omega]
    exact order_shift (fun x hx => by have := hl x hx; omega)
  · obtain ⟨lev, e⟩ : ∃ lev : List Int, levels 1 cs = lev.map (fun x => x + 1) ∧ ∀ x ∈ lev, x = 0 ∨ x = 1 := by
      refine ⟨(levels 1 cs).map (fun x => x - 1), by
        rw [List.map_map]
        conv => lhs; rw [← List.map_id (levels 1 cs)]
        refine List.map_congr_left fun x _ => ?_
        simp only [Function.comp, id]; omega, fun x hx => ?_⟩
      obtain ⟨y, hy, rfl⟩ := List.mem_map.1 hx
      have := hl y hy
      omega
    rw [e.1, order_shift e.2, List.reverse_reverse, List.map_map]
    congr 1
    conv => rhs; rw [← List.map_id lev]
    refine List.map_congr_left fun x _ => ?_
    simp only [Function.comp, id]; omega
/-- The direction of the last letter. -/
def endD (now : Int) : List Int → Int
  | [] => now
  | c :: r => endD (upd now c) r
theorem nextD_app (dir now : Int) (b : List Int) : ∀ a : List Int, (∃ c ∈ a, ¬ c > 3) → nextD dir now (a ++ b) = nextD dir now a
  | [], h => by obtain ⟨c, hc, _⟩ := h; simp at hc
  | c :: r, h => by
    simp only [List.cons_append, nextD]
    split
    · refine nextD_app dir now b r ?_
      obtain ⟨d, hd, h3⟩ := h
      rcases List.mem_cons.1 hd with rfl | hd
      · contradiction
      · exact ⟨d, hd, h3⟩
    · rfl
theorem dirs_app (dir z : Int) (hz : ¬ z > 3) (b : List Int) : ∀ (a : List Int) (now : Int), dirs dir now (a ++ z :: b) = dirs dir now (a ++ [z]) ++ dirs dir (endD now (a ++ [z])) b
  | [], now => by simp [dirs, endD, hz]
  | c :: r, now => by
    simp only [List.cons_append, dirs, endD, dirs_app dir z hz b r]
    congr 1
    have h1 := nextD_app dir now b (r ++ [z]) ⟨z, by simp, hz⟩
    rw [List.append_assoc] at h1
    rw [show r ++ z :: b = r ++ ([z] ++ b) from rfl, h1]
theorem endD_last (z dir : Int) (hz : ∀ now, upd now z = dir) : ∀ (a : List Int) (now : Int), endD now (a ++ [z]) = dir
  | [], now => hz now
  | _ :: r, _ => endD_last z dir hz r _
theorem levels_app {dir : Int} (hd : dir = 0 ∨ dir = 1) (a b : List Int) (ha : a.getLast? = some (1 + dir)) : levels dir (a ++ b) = levels dir a ++ levels dir b := by
  obtain ⟨a', rfl⟩ : ∃ a', a = a' ++ [1 + dir] := by
    rcases List.eq_nil_or_concat a with rfl | ⟨a', x, rfl⟩
    · simp at ha
    · rw [List.concat_eq_append] at ha ⊢
      exact ⟨a', by simp at ha; rw [ha]⟩
  have hz : ∀ now, upd now (1 + dir) = dir := fun now => by rcases hd with rfl | rfl <;> simp [upd]
  unfold levels
  rw [List.append_assoc, show [1 + dir] ++ b = (1 + dir) :: b from rfl, dirs_app dir (1 + dir) (by omega), endD_last _ dir hz]
  rw [show (a' ++ (1 + dir) :: b) = (a' ++ [1 + dir]) ++ b by simp, List.zipWith_append (by simp [dirs_length])]
theorem iota_app (n m : Nat) : iota (n + m) = iota n ++ (iota m).map (fun x => x + (n : Int)) := by
  refine List.ext_getElem? fun k => ?_
  by_cases h1 : k < n
  · rw [List.getElem?_append_left (by rw [iota_length]; exact h1)]
    simp [iota, show k < n + m by omega, h1]
  · rw [List.getElem?_append_right (by rw [iota_length]; omega), iota_length]
    obtain ⟨q, rfl⟩ : ∃ q, k = n + q := ⟨k - n, by omega⟩
    rw [show n + q - n = q by omega]
    by_cases h2 : q < m
    · simp [iota, h2]; omega
    · rw [List.getElem?_eq_none (by simp [iota]; omega), List.getElem?_eq_none (by simp [iota]; omega)]
theorem high_app1 (u v : List Int) (n x : Int) (h : ∃ i : Nat, i < u.length ∧ x = (i : Int)) : high (u ++ v) n x = high u n x := by
  obtain ⟨i, hi, rfl⟩ := h
  unfold high
  rw [rdI_nat (u ++ v) i _ (by rw [List.getElem?_append_left hi, List.getElem?_eq_getElem hi]), rdI_nat u i _ (List.getElem?_eq_getElem hi)]
theorem high_app2 (u v : List Int) (n x : Int) (h : ∃ i : Nat, i < v.length ∧ x = (i : Int)) : high (u ++ v) n (x + (u.length : Int)) = high v n x := by
  obtain ⟨i, hi, rfl⟩ := h
  unfold high
  rw [show (i : Int) + (u.length : Int) = ((u.length + i : Nat) : Int) by omega, rdI_nat (u ++ v) (u.length + i) v[i] (by rw [List.getElem?_append_right (by omega), show u.length + i - u.length = i by omega, List.getElem?_eq_getElem hi]), rdI_nat v i _ (List.getElem?_eq_getElem hi)]
theorem turn_app (u v : List Int) (n : Int) (A B : List Int) (hA : A.Perm (iota u.length)) (hB : B.Perm (iota v.length)) (hl : ∀ x, A.getLast? = some x → high u n x = false) :
    turnL (high (u ++ v) n) [] (A ++ B.map (fun x => x + (u.length : Int))) = turnL (high u n) [] A ++ (turnL (high v n) [] B).map (fun x => x + (u.length : Int)) := by
  have mA : ∀ x ∈ A, ∃ i : Nat, i < u.length ∧ x = (i : Int) := fun x hx => iota_mem (hA.mem_iff.1 hx)
  have mB : ∀ x ∈ B, ∃ i : Nat, i < v.length ∧ x = (i : Int) := fun x hx => iota_mem (hB.mem_iff.1 hx)
  rw [turnL_app _ (fun x hx => by rw [high_app1 u v n x (mA x (List.mem_of_getLast? hx))]; exact hl x hx)]
  congr 1
  · exact turnL_congr [] fun x hx => high_app1 u v n x (mA x hx)
  · have := turnL_map (p := high (u ++ v) n) (fun x => x + (u.length : Int)) B []
    rw [List.map_nil] at this
    rw [this]
    congr 1
    exact turnL_congr [] fun x hx => high_app2 u v n x (mB x hx)
theorem turnL_last {α : Type} {p : α → Bool} {x : α} (hx : p x = false) (u acc : List α) : (turnL p acc (u ++ [x])).getLast? = some x := by
  rw [show u ++ [x] = u ++ x :: [] from rfl, turnL_low hx]
  simp [turnL]
theorem iota_last {n : Nat} (h : 0 < n) : iota n = iota (n - 1) ++ [((n - 1 : Nat) : Int)] := by
  obtain ⟨m, rfl⟩ : ∃ m, n = m + 1 := ⟨n - 1, by omega⟩
  rw [show m + 1 - 1 = m by omega, iota_app m 1]
  simp [iota]
theorem order_app0 {u v : List Int} (h0 : u.getLast? = some 0) : order (u ++ v) = order u ++ (order v).map (fun x => x + (u.length : Int)) := by
  have hu : 0 < u.length := by
    cases u with
    | nil => simp at h0
    | cons x u => simp
  have hlast : u[u.length - 1]? = some 0 := by rw [← List.getLast?_eq_getElem?]; exact h0
  have hlow : ∀ n : Int, 0 < n → high u n ((u.length - 1 : Nat) : Int) = false := fun n hn => by
    rw [high, rdI_nat _ _ _ hlast]; exact decide_eq_false (by omega)
  unfold order
  rw [List.length_append, iota_app]
  rw [turn_app u v 2 (iota u.length) (iota v.length) (.refl _) (.refl _) (fun x hx => by
    rw [iota_last hu] at hx
    obtain rfl : ((u.length - 1 : Nat) : Int) = x := by simpa using hx
    exact hlow 2 (by omega))]
  refine turn_app u v 1 _ _ (by simpa using turnL_perm (high u 2) (iota u.length) []) (by simpa using turnL_perm (high v 2) (iota v.length) []) (fun x hx => ?_)
  rw [iota_last hu, turnL_last (hlow 2 (by omega))] at hx
  obtain rfl : ((u.length - 1 : Nat) : Int) = x := by simpa using hx
  exact hlow 1 (by omega)
theorem order_app1 {u v : List Int} (h0 : u.getLast? = some 1) (hu : ∀ x ∈ u, 1 ≤ x) (hv : ∀ x ∈ v, 1 ≤ x) : order (u ++ v) = (order v).map (fun x => x + (u.length : Int)) ++ order u := by
  have hul : 0 < u.length := by
    cases u with
    | nil => simp at h0
    | cons x u => simp
  have hlast : u[u.length - 1]? = some 1 := by rw [← List.getLast?_eq_getElem?]; exact h0
  rw [order_pos (fun x hx => by rcases List.mem_append.1 hx with h | h; exact hu x h; exact hv x h), order_pos hu, order_pos hv, List.length_append, iota_app]
  rw [turn_app u v 2 (iota u.length) (iota v.length) (.refl _) (.refl _) (fun x hx => by
    rw [iota_last hul] at hx
    obtain rfl : ((u.length - 1 : Nat) : Int) = x := by simpa using hx
    rw [high, rdI_nat _ _ _ hlast]; decide)]
  simp
/-- What is seen: the bytes in the order. -/
def seen {α : Type} (d : α) (s : List α) (ord : List Int) : List α := ord.map fun i => s.getD i.toNat d
theorem seen_app1 {α : Type} (d : α) (a b : List α) (ord : List Int) (h : ∀ x ∈ ord, ∃ i : Nat, i < a.length ∧ x = (i : Int)) : seen d (a ++ b) ord = seen d a ord := by
  refine List.map_congr_left fun x hx => ?_
  obtain ⟨i, hi, rfl⟩ := h x hx
  simp [List.getD_eq_getElem?_getD, List.getElem?_append_left hi]
theorem seen_app2 {α : Type} (d : α) (a b : List α) (ord : List Int) (h : ∀ x ∈ ord, ∃ i : Nat, i < b.length ∧ x = (i : Int)) : seen d (a ++ b) (ord.map (fun x => x + (a.length : Int))) = seen d b ord := by
  unfold seen
  rw [List.map_map]
  refine List.map_congr_left fun x hx => ?_
  obtain ⟨i, hi, rfl⟩ := h x hx
  simp only [Function.comp, Int.toNat_natCast]
  rw [show ((i : Int) + (a.length : Int)).toNat = a.length + i by omega]
  rw [List.getD_eq_getElem?_getD, List.getD_eq_getElem?_getD, List.getElem?_append_right (by omega), show a.length + i - a.length = i by omega]
theorem levels_last {dir : Int} (hd : dir = 0 ∨ dir = 1) {cs : List Int} (h : cs.getLast? = some (1 + dir)) : (levels dir cs).getLast? = some dir := by
  have hne : 0 < cs.length := by
    cases cs with
    | nil => simp at h
    | cons => simp
  have hc : cs[cs.length - 1]? = some (1 + dir) := by rw [← List.getLast?_eq_getElem?]; exact h
  obtain ⟨n, hn⟩ : ∃ n, (levels dir cs)[cs.length - 1]? = some n := ⟨_, List.getElem?_eq_getElem (by rw [levels_length]; omega)⟩
  obtain ⟨d, hdd⟩ : ∃ d, (dirs dir dir cs)[cs.length - 1]? = some d := ⟨_, List.getElem?_eq_getElem (by rw [dirs_length]; omega)⟩
  have hx := dirs_all dir hd cs dir hd (d, 1 + dir) (by
    refine List.mem_of_getElem? (i := cs.length - 1) ?_
    rw [List.getElem?_zip_eq_some]
    exact ⟨hdd, hc⟩)
  simp only at hx
  have h1 : (levels dir cs)[cs.length - 1]? = some (lvl dir d (1 + dir)) := by
    unfold levels
    rw [List.getElem?_zipWith, hdd, hc]
  rw [List.getLast?_eq_getElem?, levels_length, h1]
  rcases hd with rfl | rfl
  · rw [hx.2.1 rfl]; rfl
  · rw [hx.2.2 rfl]; rfl
theorem order_mem {lev : List Int} {x : Int} (h : x ∈ order lev) : ∃ i : Nat, i < lev.length ∧ x = (i : Int) := iota_mem ((order_perm lev).mem_iff.1 h)
theorem levels_ge {dir : Int} (hd : dir = 0 ∨ dir = 1) (cs : List Int) : ∀ x ∈ levels dir cs, dir ≤ x := by
  intro x hx
  obtain ⟨i, hi, rfl⟩ := List.mem_iff_getElem.1 hx
  have hl : i < cs.length := by rw [levels_length] at hi; exact hi
  exact (levels_all hd cs i hl _ _ (List.getElem?_eq_getElem hi) (List.getElem?_eq_getElem hl)).1
/-- Two lines beside each other. -/
theorem seen_parts {α : Type} (d : α) (cls : α → Int) {dir : Int} (hd : dir = 0 ∨ dir = 1) (a b : List α) (ha : (a.map cls).getLast? = some (1 + dir)) :
    seen d (a ++ b) (order (levels dir ((a ++ b).map cls))) = if dir = 1 then seen d b (order (levels dir (b.map cls))) ++ seen d a (order (levels dir (a.map cls))) else seen d a (order (levels dir (a.map cls))) ++ seen d b (order (levels dir (b.map cls))) := by
  rw [List.map_append, levels_app hd _ _ ha]
  have hl := levels_last hd ha
  have ln : (levels dir (a.map cls)).length = a.length := by rw [levels_length, List.length_map]
  have lb : (levels dir (b.map cls)).length = b.length := by rw [levels_length, List.length_map]
  have m1 : ∀ x ∈ order (levels dir (a.map cls)), ∃ i : Nat, i < a.length ∧ x = (i : Int) := fun x hx => by rw [← ln]; exact order_mem hx
  have m2 : ∀ x ∈ order (levels dir (b.map cls)), ∃ i : Nat, i < b.length ∧ x = (i : Int) := fun x hx => by rw [← lb]; exact order_mem hx
  have app : ∀ u v : List Int, seen d (a ++ b) (u ++ v) = seen d (a ++ b) u ++ seen d (a ++ b) v := fun u v => by simp [seen]
  rcases hd with rfl | rfl
  · rw [if_neg (by decide), order_app0 hl, app, ln, seen_app1 d a b _ m1, seen_app2 d a b _ m2]
  · rw [if_pos rfl, order_app1 hl (fun x hx => levels_ge (.inr rfl) _ x hx) (fun x hx => levels_ge (.inr rfl) _ x hx), app, ln, seen_app1 d a b _ m1, seen_app2 d a b _ m2]
theorem seen_iota {α : Type} (d : α) (s : List α) : seen d s (iota s.length) = s := by
  unfold seen iota
  rw [List.map_map]
  refine List.ext_getElem? fun k => ?_
  by_cases h : k < s.length
  · simp [h, List.getD_eq_getElem?_getD]
  · rw [List.getElem?_eq_none (by simp; omega), List.getElem?_eq_none (by omega)]
end Go.Bidi
