import Derived.Test.YtdmfhabhcagioaaPx7
import Derived.Test.YtdmfhabhcagioaaPx2
import Derived.Test.YtdmfhabhcagioaaHEv
import Derived.KernelRfl
set_option linter.unusedVariables false
set_option linter.unusedSimpArgs false
namespace Go.Proofs.Ytdmfhabhcagioaa.Pure
open Go.RowKit Go.Proofs.Ytdmfhabhcagioaa.P Go.Proofs.YtdmfhabhcagioaaW.PrintWords Go.Proofs.YtdmfhabhcagioaaW.PrintLast Go.Bidi
theorem class_ev (c : Int) : Ev (fun k => formeref06_Class.f k c) (cls c) := by
  refine Ev.of (fun k => formeref06_Class.mono c k) (k := 3) ?_
  have h : c < 32 ∨ c = 32 ∨ (32 < c ∧ c < 48) ∨ (48 ≤ c ∧ c ≤ 57) ∨ (57 < c ∧ c < 65) ∨ (65 ≤ c ∧ c ≤ 90) ∨ (90 < c ∧ c < 97) ∨ (97 ≤ c ∧ c ≤ 122) ∨ (122 < c ∧ c < 126) ∨ c = 126 ∨ 126 < c := by omega
  unfold cls formeref06_Class.f
  simp only [formeref06_Class.j0, formeref06_Class.j1, formeref06_Class.j2]
  rcases h with h | h | h | h | h | h | h | h | h | h | h <;>
    (simp only [decide_eq_true_eq, Bool.false_eq_true, if_false]; repeat (first | rw [if_pos (by omega)] | rw [if_neg (by omega)]))
theorem sz_list (s : ByteArray) : s.data.toList.length = s.size := by rw [Array.length_toList]; rfl
theorem ok_at (s : ByteArray) (i : Nat) (h : i < s.size) : (s.data.toList.drop i).all okC = ((cls (bt s (i : Int)) != 0) && (s.data.toList.drop (i + 1)).all okC) := by
  have hl : i < s.data.toList.length := by rw [sz_list]; exact h
  rw [List.drop_eq_getElem_cons hl, List.all_cons]
  congr 1
  unfold okC
  congr 2
  have := bt_at s (i : Int) (by simpa using h)
  rw [← this]
  simp
  rfl
theorem valid_loop (s : ByteArray) (hs : s.size ≤ 9223372036854775806) : ∀ (d i : Nat), i + d = s.size → Ev (fun k => formeref06_Valid.l0 k s (i : Int)) ((s.data.toList.drop i).all okC && decide (s.size ≤ 2000))
  | 0, i, e => by
    obtain rfl : i = s.size := by omega
    rw [List.drop_of_length_le (by rw [sz_list]; exact Nat.le_refl _)]
    refine Ev.step (fun k => rfl) (EvT.ifn (by omega) ?_)
    have : decide ((s.size : Int) ≤ 2000) = decide (s.size ≤ 2000) := by rw [decide_eq_decide]; omega
    rw [this]
    exact Ev.now _
  | d + 1, i, e => by
    have hi : i < s.size := by omega
    have IH := valid_loop s hs d (i + 1) (by omega)
    rw [ok_at s i hi]
    refine Ev.step (fun k => rfl) (EvT.ifp (by omega) (EvT.ifp (by omega) (Ev.bind (class_ev _) (EvT.ite (fun h => ?_) (fun h => ?_)))))
    · have : (cls (bt s (i : Int)) != 0) = false := by rw [h]; rfl
      rw [this]
      exact Ev.now _
    · have : (cls (bt s (i : Int)) != 0) = true := bne_iff_ne.2 h
      rw [this, Bool.true_and, show wrap64 ((i : Int) + 1) = ((i + 1 : Nat) : Int) from EvT.w64 (by omega) (by omega)]
      exact IH
theorem valid_ev (s : ByteArray) (hs : s.size ≤ 140737488351232) : Ev (fun k => formeref06_Valid.f k s) (validB s) := by
  have := valid_loop s (by omega) s.size 0 (by omega)
  rw [List.drop_zero] at this
  exact this
theorem line_ev (s : ByteArray) (dir : Int) (hs : s.size ≤ 140737488351232) : Ev (fun k => formeref09_Line.f k s dir) (lineB s dir) := by
  unfold lineB
  refine Ev.bind (valid_ev s hs) ?_
  cases validB s
  · exact EvT.ifn (by decide) (Ev.now _)
  · refine EvT.ifp rfl (EvT.ite (fun h => ?_) (fun h => ?_))
    · rw [h]; exact Ev.now _
    · have : (dir == 0) = false := beq_eq_false_iff_ne.2 h
      rw [this]; exact Ev.now _
theorem line_of {s : ByteArray} {dir : Int} (h : lineB s dir = true) : s.size ≤ 2000 ∧ (dir = 0 ∨ dir = 1) := by
  unfold lineB validB at h
  simp only [Bool.and_eq_true, Bool.or_eq_true, decide_eq_true_eq, beq_iff_eq] at h
  exact ⟨h.1.2, h.2⟩
theorem head_ev : Ev (fun k => formelaw09_head.f k) true := Ev.of (fun k => formelaw09_head.mono k) (k := 60) (by kernel_rfl)
/-- The order of a line. -/
def ordOf (s : ByteArray) (dir : Int) : List Int := order (levels dir (classes s))
theorem ord_len (s : ByteArray) (dir : Int) : (ordOf s dir).length = s.size := by unfold ordOf; rw [order_length, lv_len]
theorem ord_mem {s : ByteArray} {dir x : Int} (h : x ∈ ordOf s dir) : ∃ i : Nat, i < s.size ∧ x = (i : Int) := by
  have := order_mem h
  rwa [lv_len] at this
theorem ord_at {s : ByteArray} {dir : Int} (i : Nat) (h : i < s.size) : ∃ j : Nat, j < s.size ∧ rd (ordOf s dir) (i : Int) = (j : Int) ∧ (ordOf s dir)[i]? = some (j : Int) := by
  have hl : i < (ordOf s dir).length := by rw [ord_len]; exact h
  obtain ⟨j, hj, e⟩ := ord_mem (List.getElem_mem hl)
  refine ⟨j, hj, ?_, ?_⟩
  · simp [rd, List.getD_eq_getElem?_getD, List.getElem?_eq_getElem hl, e]
  · rw [List.getElem?_eq_getElem hl, e]
theorem ord_f {s : ByteArray} {dir : Int} (h : lineB s dir = true) : bidi_Order.f s dir = some (ordOf s dir, 0) := by
  have := line_of h
  unfold bidi_Order.f
  rw [if_pos (by omega), if_pos h]
  rfl
theorem lev_f {s : ByteArray} {dir : Int} (h : lineB s dir = true) : bidi_Levels.f s dir = some (levels dir (classes s), 0) := by
  have := line_of h
  unfold bidi_Levels.f
  rw [if_pos (by omega), if_pos h]
theorem ord_no {s : ByteArray} {dir : Int} (hs : s.size ≤ 140737488351232) (h : lineB s dir = false) : bidi_Order.f s dir = some ([], 1) := by
  unfold bidi_Order.f
  rw [if_pos hs, h]; rfl
theorem lev_no {s : ByteArray} {dir : Int} (hs : s.size ≤ 140737488351232) (h : lineB s dir = false) : bidi_Levels.f s dir = some ([], 1) := by
  unfold bidi_Levels.f
  rw [if_pos hs, h]; rfl
/-- What is seen of a line. -/
def visOf (s : ByteArray) (dir : Int) : List Int := (ordOf s dir).map (bt s)
theorem vis_len (s : ByteArray) (dir : Int) : (visOf s dir).length = s.size := by unfold visOf; rw [List.length_map, ord_len]
theorem vis_at {s : ByteArray} {dir : Int} (i : Nat) (h : i < s.size) : (visOf s dir)[i]? = some (bt s (rd (ordOf s dir) (i : Int))) := by
  obtain ⟨j, hj, h1, h2⟩ := ord_at (s := s) (dir := dir) i h
  unfold visOf
  rw [List.getElem?_map, h2, h1]; rfl
theorem vis_loop (s : ByteArray) (dir : Int) (hs : s.size ≤ 2000) (e0 : Int) : ∀ (d i : Nat) (x : List Int), i + d = s.size → x.length = s.size → (∀ j, j < i → x[j]? = (visOf s dir)[j]?) →
    Ev (fun k => bidi_Visual.l0 k s e0 x (ordOf s dir) (s.size : Int) (i : Int)) (strOfNums (visOf s dir), e0)
  | 0, i, x, e, hx, hp => by
    obtain rfl : i = s.size := by omega
    have : x = visOf s dir := by
      refine List.ext_getElem? fun j => ?_
      by_cases hj : j < s.size
      · exact hp j hj
      · rw [List.getElem?_eq_none (by omega), List.getElem?_eq_none (by rw [vis_len]; omega)]
    rw [this]
    exact Ev.step (fun k => rfl) (EvT.ifn (by omega) (Ev.now _))
  | d + 1, i, x, e, hx, hp => by
    have hi : i < s.size := by omega
    obtain ⟨j, hj, h1, h2⟩ := ord_at (s := s) (dir := dir) i hi
    have hol := ord_len s dir
    have hv := vis_at (s := s) (dir := dir) i hi
    rw [h1] at hv
    refine Ev.step (fun k => rfl) (EvT.ifp (by omega) (EvT.ifp (by omega) (EvT.ifp (by omega) (EvT.ifp (by rw [h1]; omega) (EvT.ifp (by rw [h1]; omega) (EvT.ifp (by omega) ?_))))))
    rw [h1, Int.toNat_natCast, show wrap64 ((i : Int) + 1) = ((i + 1 : Nat) : Int) from EvT.w64 (by omega) (by omega)]
    refine vis_loop s dir hs e0 d (i + 1) (x.set i (bt s (j : Int))) (by omega) (by rw [List.length_set]; exact hx) (fun q hq => ?_)
    rw [List.getElem?_set]
    by_cases hqi : i = q
    · subst hqi
      rw [if_pos rfl, if_pos (by omega), hv]
    · rw [if_neg hqi]
      exact hp q (by omega)
theorem vis_ev {s : ByteArray} {dir : Int} (h : lineB s dir = true) : Ev (fun k => bidi_Visual.f k s dir) (strOfNums (visOf s dir), 0) := by
  have hl := line_of h
  refine EvT.bindc (ord_f h) ?_
  dsimp only
  rw [ord_len]
  refine EvT.ifp (by omega) (EvT.ifp (by rw [Int.toNat_natCast]; omega) ?_)
  rw [Int.toNat_natCast]
  exact vis_loop s dir hl.1 0 s.size 0 (List.replicate s.size 0) (by omega) (by simp) (fun j hj => by omega)
theorem vis_no {s : ByteArray} {dir : Int} (hs : s.size ≤ 140737488351232) (h : lineB s dir = false) : Ev (fun k => bidi_Visual.f k s dir) (strOfNums [], 1) := by
  refine EvT.bindc (ord_no hs h) ?_
  refine EvT.ifp (by decide) (EvT.ifp (by decide) ?_)
  exact Ev.step (fun k => rfl) (EvT.ifn (by decide) (Ev.now _))
/-- Where each byte is seen. -/
structure Places (ord x : List Int) (n : Nat) : Prop where
  len : x.length = n
  at_ : ∀ k, k < n → ∀ j : Nat, ord[k]? = some (j : Int) → rd x (j : Int) = (k : Int)
theorem ord_inj {s : ByteArray} {dir : Int} {a b : Nat} {x : Int} (ha : (ordOf s dir)[a]? = some x) (hb : (ordOf s dir)[b]? = some x) : a = b := by
  have hn : (ordOf s dir).Nodup := by
    refine (order_perm (levels dir (classes s))).nodup_iff.2 ?_
    unfold iota
    rw [List.Nodup, List.pairwise_map]
    exact List.Pairwise.imp (fun h e => h (Int.ofNat.inj e)) List.nodup_range
  obtain ⟨h1, e1⟩ := List.getElem?_eq_some_iff.1 ha
  obtain ⟨h2, e2⟩ := List.getElem?_eq_some_iff.1 hb
  exact (List.getElem_inj hn).1 (e1.trans e2.symm)
theorem ord_surj {s : ByteArray} {dir : Int} (i : Nat) (h : i < s.size) : ∃ k, k < s.size ∧ (ordOf s dir)[k]? = some (i : Int) := by
  have hm : (i : Int) ∈ ordOf s dir := by
    refine (order_perm (levels dir (classes s))).mem_iff.2 ?_
    rw [lv_len]
    simp [iota]
    exact ⟨i, h, rfl⟩
  obtain ⟨k, hk, e⟩ := List.mem_iff_getElem.1 hm
  exact ⟨k, by rw [ord_len] at hk; exact hk, by rw [List.getElem?_eq_getElem hk, e]⟩
theorem places_loop (s : ByteArray) (dir : Int) (hs : s.size ≤ 2000) : ∀ (d i : Nat) (x : List Int) (b : List Bool), i + d = s.size → x.length = s.size → b.length = s.size →
    (∀ k, k < i → ∀ j : Nat, (ordOf s dir)[k]? = some (j : Int) → rd x (j : Int) = (k : Int)) → (∀ j : Nat, rdOf false b (j : Int) = true → ∃ k, k < i ∧ (ordOf s dir)[k]? = some (j : Int)) →
    ∃ y, Places (ordOf s dir) y s.size ∧ Ev (fun k => formelaw09_places.l0 k s x b (ordOf s dir) (s.size : Int) (i : Int)) (y, true)
  | 0, i, x, b, e, hx, hb, h1, h2 => by
    obtain rfl : i = s.size := by omega
    exact ⟨x, ⟨hx, h1⟩, Ev.step (fun k => rfl) (EvT.ifn (by omega) (Ev.now _))⟩
  | d + 1, i, x, b, e, hx, hb, h1, h2 => by
    have hi : i < s.size := by omega
    obtain ⟨j, hj, e1, e2⟩ := ord_at (s := s) (dir := dir) i hi
    have hol := ord_len s dir
    have hnb : ¬ rdOf false b (j : Int) = true := fun hh => by
      obtain ⟨k, hk, hk2⟩ := h2 j hh
      have := ord_inj e2 hk2
      omega
    obtain ⟨y, hy, hE⟩ := places_loop s dir hs d (i + 1) (x.set j (i : Int)) (b.set j true) (by omega) (by rw [List.length_set]; exact hx) (by rw [List.length_set]; exact hb)
      (fun k hk q hq => by
        by_cases hki : k = i
        · subst hki
          rw [e2] at hq
          obtain rfl : j = q := by have := Option.some.inj hq; omega
          simp [rd, List.getD_eq_getElem?_getD, hx, hj]
        · have hne : j ≠ q := fun hh => hki (by subst hh; exact ord_inj hq e2)
          have := h1 k (by omega) q hq
          simpa [rd, List.getD_eq_getElem?_getD, List.getElem?_set, hne] using this)
      (fun q hq => by
        by_cases hqj : j = q
        · subst hqj
          exact ⟨i, by omega, e2⟩
        · have : rdOf false b (q : Int) = true := by simpa [rdOf, List.getD_eq_getElem?_getD, List.getElem?_set, hqj] using hq
          obtain ⟨k, hk, hk2⟩ := h2 q this
          exact ⟨k, by omega, hk2⟩)
    refine ⟨y, hy, ?_⟩
    refine Ev.step (fun k => rfl) (EvT.ifp (by omega) (EvT.ifp (by omega) (EvT.ifp (by omega) (EvT.ifn (by rw [e1]; omega) (EvT.ifn (by rw [e1]; omega) (EvT.ifp (by rw [e1]; omega) (EvT.ifp (by rw [e1]; omega) (EvT.ifn (by rw [e1]; exact hnb) (EvT.ifp (by rw [e1]; omega) ?_)))))))))
    rw [e1, Int.toNat_natCast, show wrap64 ((i : Int) + 1) = ((i + 1 : Nat) : Int) from EvT.w64 (by omega) (by omega)]
    exact hE
theorem places_ev {s : ByteArray} {dir : Int} (h : lineB s dir = true) : ∃ y, Places (ordOf s dir) y s.size ∧ Ev (fun k => formelaw09_places.f k s dir) (y, true) := by
  have hl := line_of h
  obtain ⟨y, hy, hE⟩ := places_loop s dir hl.1 s.size 0 (List.replicate s.size 0) (List.replicate s.size false) (by omega) (by simp) (by simp) (fun k hk => by omega) (fun j hj => by
    by_cases hjs : j < s.size
    · simp [rdOf, List.getD_eq_getElem?_getD, hjs] at hj
    · simp [rdOf, List.getD_eq_getElem?_getD, hjs] at hj)
  refine ⟨y, hy, ?_⟩
  refine EvT.bindc (ord_f h) ?_
  dsimp only
  rw [ord_len]
  have hne : ((s.size : Int) != (s.size : Int)) = false := by simp
  have hJ : ∀ b, b = false → Ev (fun k => formelaw09_places.j0 k s (ordOf s dir) b) (y, true) := fun b hb => by
    refine Ev.step (fun k => rfl) (EvT.ifn (by rw [hb]; decide) (EvT.ifp (by omega) (EvT.ifp (by rw [Int.toNat_natCast]; omega) (EvT.ifp (by rw [Int.toNat_natCast]; omega) ?_))))
    rw [Int.toNat_natCast, ord_len]
    exact hE
  exact EvT.ifp rfl (hJ _ hne)
/-- How each law begins. -/
theorem size_300 {s : ByteArray} (h : ¬ (s.size : Int) > 300) : s.size ≤ 300 := by omega
end Go.Proofs.Ytdmfhabhcagioaa.Pure
