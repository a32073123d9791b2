/- For every line without digits, and direction: with all letters exchanged, and the other direction, it is seen in the opposite order (up to 300 bytes). Conditions: those of the statement alone. -/
import Derived.Test.YtdmfhabhcagioaaPx12
import Derived.Test.YtdmfhabhcagioaaHPures2
set_option linter.unusedVariables false
set_option linter.unusedSimpArgs false
namespace Go.Proofs.Ytdmfhabhcagioaa.Pure
open Go.RowKit Go.Proofs.Ytdmfhabhcagioaa.P Go.Proofs.YtdmfhabhcagioaaW.PrintWords Go.Proofs.YtdmfhabhcagioaaW.PrintLast Go.Bidi
/-- How many bytes of a class there are from i on. -/
def cnt (c : Int) (l : List Int) : Nat := (l.filter fun x => decide (x = c)).length
theorem classes_loop (s : ByteArray) (c : Int) (hs : s.size ≤ 2000) : ∀ (d i : Nat) (n : Int), i + d = s.size → 0 ≤ n → n ≤ (i : Int) → Ev (fun k => formelaw09_classes.l0 k s c n (i : Int)) (n + (cnt c ((classes s).drop i) : Int))
  | 0, i, n, e, h0, h1 => by
    obtain rfl : i = s.size := by omega
    rw [List.drop_of_length_le (by rw [classes_length]; exact Nat.le_refl _)]
    have : n + (cnt c [] : Int) = n := by simp [cnt]
    rw [this]
    exact Ev.step (fun k => rfl) (EvT.ifn (by omega) (Ev.now _))
  | d + 1, i, n, e, h0, h1 => by
    have hi : i < s.size := by omega
    have hl : i < (classes s).length := by rw [classes_length]; exact hi
    have hc : (classes s)[i] = cls (bt s (i : Int)) := by
      have := cls_at s i hi
      rw [List.getElem?_eq_getElem hl] at this
      exact Option.some.inj this
    rw [List.drop_eq_getElem_cons hl, hc]
    have e2 : wrap64 ((i : Int) + 1) = ((i + 1 : Nat) : Int) := EvT.w64 (by omega) (by omega)
    refine Ev.step (fun k => rfl) (EvT.ifp (by omega) (EvT.ifp (by omega) (Ev.bind (class_ev _) (EvT.ite (fun h => ?_) (fun h => ?_)))))
    · rw [e2, show wrap64 (n + 1) = n + 1 from EvT.w64 (by omega) (by omega)]
      have := classes_loop s c hs d (i + 1) (n + 1) (by omega) (by omega) (by omega)
      have e3 : n + (cnt c (cls (bt s (i : Int)) :: (classes s).drop (i + 1)) : Int) = n + 1 + (cnt c ((classes s).drop (i + 1)) : Int) := by simp [cnt, h]; omega
      rw [e3]; exact this
    · rw [e2]
      have := classes_loop s c hs d (i + 1) n (by omega) (by omega) (by omega)
      have e3 : n + (cnt c (cls (bt s (i : Int)) :: (classes s).drop (i + 1)) : Int) = n + (cnt c ((classes s).drop (i + 1)) : Int) := by simp [cnt, h]
      rw [e3]; exact this
theorem classes_ev (s : ByteArray) (c : Int) (hs : s.size ≤ 2000) : Ev (fun k => formelaw09_classes.f k s c) (cnt c (classes s) : Int) := by
  have := classes_loop s c hs s.size 0 0 (by omega) (by omega) (by omega)
  rw [List.drop_zero, Int.zero_add] at this
  exact this
theorem cnt_zero {c : Int} {l : List Int} (h : cnt c l = 0) : ∀ x ∈ l, x ≠ c := by
  intro x hx e
  have : x ∈ l.filter fun x => decide (x = c) := List.mem_filter.2 ⟨hx, by simpa using e⟩
  unfold cnt at h
  rw [List.eq_nil_of_length_eq_zero h] at this
  simp at this
theorem cnt_le (c : Int) (l : List Int) : cnt c l ≤ l.length := List.length_filter_le _ _
/-- A byte with its letter exchanged. -/
def mb (b : Int) : Int := if cls b = 1 then (b - 97 + 65) % 256 else if cls b = 2 then (b - 65 + 97) % 256 else b
theorem cls1 {b : Int} (h : cls b = 1) : 97 ≤ b ∧ b ≤ 122 := by
  unfold cls at h
  repeat' split at h
  all_goals first | omega | contradiction
theorem cls2 {b : Int} (h : cls b = 2) : 65 ≤ b ∧ b ≤ 90 := by
  unfold cls at h
  repeat' split at h
  all_goals first | omega | contradiction
theorem cls_up {b : Int} (h : 97 ≤ b ∧ b ≤ 122) : cls b = 1 := by unfold cls; repeat (first | rw [if_pos (by omega)] | rw [if_neg (by omega)])
theorem cls_lo {b : Int} (h : 65 ≤ b ∧ b ≤ 90) : cls b = 2 := by unfold cls; repeat (first | rw [if_pos (by omega)] | rw [if_neg (by omega)])
theorem cls_mb (b : Int) (hb : 0 ≤ b ∧ b ≤ 255) : cls (mb b) = mir (cls b) ∧ 0 ≤ mb b ∧ mb b ≤ 255 := by
  unfold mb mir
  by_cases h1 : cls b = 1
  · have := cls1 h1
    rw [if_pos h1, if_pos h1]
    exact ⟨cls_lo (by omega), by omega, by omega⟩
  · rw [if_neg h1, if_neg h1]
    by_cases h2 : cls b = 2
    · have := cls2 h2
      rw [if_pos h2, if_pos h2]
      exact ⟨cls_up (by omega), by omega, by omega⟩
    · rw [if_neg h2, if_neg h2]
      exact ⟨rfl, hb⟩
def mirr (s : ByteArray) : List Int := (bytesOf s).map mb
theorem byte_rng (s : ByteArray) : ∀ x ∈ bytesOf s, 0 ≤ x ∧ x ≤ 255 := by
  intro x hx
  obtain ⟨b, _, rfl⟩ := List.mem_map.1 hx
  have := b.toNat_lt
  omega
theorem mirr_rng (s : ByteArray) : ∀ x ∈ mirr s, 0 ≤ x ∧ x ≤ 255 := by
  intro x hx
  obtain ⟨b, hb, rfl⟩ := List.mem_map.1 hx
  exact (cls_mb b (byte_rng s b hb)).2
theorem mirr_len (s : ByteArray) : (mirr s).length = s.size := by unfold mirr; rw [List.length_map, bytesOf_length]
theorem mirr_classes (s : ByteArray) : classes (strOfNums (mirr s)) = (classes s).map mir := by
  unfold classes
  rw [bytes_str _ (mirr_rng s)]
  unfold mirr
  rw [List.map_map, List.map_map]
  exact List.map_congr_left fun x hx => (cls_mb x (byte_rng s x hx)).1
theorem valid_classes (s : ByteArray) : validB s = ((classes s).all (fun c => c != 0) && decide (s.size ≤ 2000)) := by
  unfold validB classes bytesOf
  congr 1
  rw [List.map_map, List.all_map]
  rfl
theorem line_mirr {s : ByteArray} {dir : Int} (h : lineB s dir = true) : lineB (strOfNums (mirr s)) (1 - dir) = true := by
  have hl := line_of h
  unfold lineB at h ⊢
  rw [valid_classes] at h ⊢
  rw [mirr_classes, strOfNums_size, mirr_len]
  simp only [Bool.and_eq_true, Bool.or_eq_true, decide_eq_true_eq, beq_iff_eq, List.all_eq_true, bne_iff_ne, ne_eq] at h ⊢
  refine ⟨⟨fun x hx => ?_, hl.1⟩, by omega⟩
  obtain ⟨c, hc, rfl⟩ := List.mem_map.1 hx
  have := h.1.1 c hc
  unfold mir
  split
  · omega
  · split <;> omega
theorem mirror_loop (s : ByteArray) (hs : s.size ≤ 2000) : ∀ (d i : Nat), i + d = s.size → Ev (fun k => formelaw09_mirror.l0 k s ((mirr s).take i) (i : Int)) (strOfNums (mirr s))
  | 0, i, e => by
    obtain rfl : i = s.size := by omega
    rw [List.take_of_length_le (by rw [mirr_len]; exact Nat.le_refl _)]
    exact Ev.step (fun k => rfl) (EvT.ifn (by omega) (Ev.now _))
  | d + 1, i, e => by
    have hi : i < s.size := by omega
    have IH := mirror_loop s hs d (i + 1) (by omega)
    have hl : i < (mirr s).length := by rw [mirr_len]; exact hi
    have hlt : ((mirr s).take i).length = i := by rw [List.length_take, mirr_len]; omega
    have hm : (mirr s)[i] = mb (bt s (i : Int)) := by
      have := bt_nat s i hi
      have h2 : (mirr s)[i]? = some (mb (bt s (i : Int))) := by unfold mirr; rw [List.getElem?_map, this]; rfl
      rw [List.getElem?_eq_getElem hl] at h2
      exact Option.some.inj h2
    rw [List.take_succ_eq_append_getElem hl, hm] at IH
    have e2 : wrap64 ((i : Int) + 1) = ((i + 1 : Nat) : Int) := EvT.w64 (by omega) (by omega)
    refine Ev.step (fun k => rfl) (EvT.ifp (by omega) (EvT.ifp (by omega) (Ev.bind (class_ev _) (EvT.ite (fun h => EvT.ifp (by omega) ?_) (fun h => EvT.ite (fun h2 => EvT.ifp (by omega) ?_) (fun h2 => EvT.ifp (by omega) ?_))))))
    · unfold mb at IH
      rw [if_pos h] at IH
      rw [e2]; exact IH
    · unfold mb at IH
      rw [if_neg h, if_pos h2] at IH
      rw [e2]; exact IH
    · unfold mb at IH
      rw [if_neg h, if_neg h2] at IH
      rw [e2]; exact IH
theorem mirror_ev (s : ByteArray) (hs : s.size ≤ 2000) : Ev (fun k => formelaw09_mirror.f k s) (strOfNums (mirr s)) := mirror_loop s hs s.size 0 (by omega)
theorem same_loop (n : Nat) (hn : n ≤ 2000) (a : List Int) (ha : a.length = n) : ∀ (d i : Nat), i + d = n → Ev (fun k => formelaw09_BidiMirror.l0 k true a a.reverse (n : Int) (i : Int)) true
  | 0, i, e => by
    obtain rfl : i = n := by omega
    exact Ev.step (fun k => rfl) (EvT.ifn (by omega) (Ev.now _))
  | d + 1, i, e => by
    have hi : i < n := by omega
    have IH := same_loop n hn a ha d (i + 1) (by omega)
    have hr : a.reverse.length = n := by rw [List.length_reverse, ha]
    have e1 : wrap64 (wrap64 ((a.reverse.length : Int) - 1) - (i : Int)) = ((n - 1 - i : Nat) : Int) := by
      rw [hr, show wrap64 ((n : Int) - 1) = (n : Int) - 1 from EvT.w64 (by omega) (by omega), EvT.w64 (by omega) (by omega)]; omega
    refine Ev.step (fun k => rfl) (EvT.ifp (by omega) (EvT.ifp rfl (EvT.ifp (by omega) (EvT.ifp (by omega) (EvT.ifp (by rw [e1]; omega) (EvT.ifp (by rw [e1]; omega) ?_))))))
    rw [e1]
    have : rd a.reverse ((n - 1 - i : Nat) : Int) = rd a (i : Int) := by
      simp only [rd, Int.toNat_natCast, List.getD_eq_getElem?_getD]
      rw [List.getElem?_reverse (by omega), ha, show n - 1 - (n - 1 - i) = i by omega]
    rw [this, beq_self_eq_true, show wrap64 ((i : Int) + 1) = ((i + 1 : Nat) : Int) from EvT.w64 (by omega) (by omega)]
    exact IH
theorem BidiMirror : formelaw09_BidiMirror.Pure := fun s dir hs _ => Ev.rounds (by
  refine Ev.bind head_ev (EvT.ifp rfl (EvT.ite (fun h => Ev.step (fun k => rfl) (Ev.now _)) (fun h => Ev.bind (line_ev s dir hs) ?_)))
  cases hb : lineB s dir
  · exact EvT.ifn (by decide) (Ev.step (fun k => rfl) (Ev.now _))
  · have hl := line_of hb
    refine EvT.ifp rfl (Ev.bind (classes_ev s 3 hl.1) ?_)
    have hJ : ∀ b, decide ((cnt 3 (classes s) : Int) > 0) = b → Ev (fun k => formelaw09_BidiMirror.j0 k s dir true b) true := fun b hd => by
      cases b
      · have h3 := cnt_zero (c := 3) (l := classes s) (by have := of_decide_eq_false hd; omega)
        have hlm := line_mirr hb
        have hw : wrap64 (1 - dir) = 1 - dir := EvT.w64 (by omega) (by omega)
        have hom : ordOf (strOfNums (mirr s)) (1 - dir) = (ordOf s dir).reverse := by
          unfold ordOf
          rw [mirr_classes]
          exact order_mir hl.2 h3
        have hne : (((ordOf s dir).reverse.length : Int) != (s.size : Int)) = false := by rw [List.length_reverse, ord_len]; simp
        have hK : ∀ b, b = false → Ev (fun k => formelaw09_BidiMirror.j1 k true (ordOf s dir) (ordOf s dir).reverse b) true := fun b hb => by
          refine Ev.step (fun k => rfl) (EvT.ifn (by rw [hb]; decide) ?_)
          rw [ord_len]
          exact same_loop s.size hl.1 (ordOf s dir) (ord_len s dir) s.size 0 (by omega)
        have hM : ∀ b, b = false → Ev (fun k => formelaw09_BidiMirror.j0 k s dir true b) true := fun b hb2 => by
          refine Ev.step (fun k => rfl) (EvT.ifn (by rw [hb2]; decide) (EvT.bindc (ord_f hb) (Ev.bind (mirror_ev s hl.1) ?_)))
          rw [hw]
          refine EvT.bindc (ord_f hlm) ?_
          dsimp only
          rw [hom]
          exact EvT.ifp rfl (EvT.ifp rfl (EvT.ifp (by rw [ord_len]) (hK _ hne)))
        exact hM _ rfl
      · exact Ev.step (fun k => rfl) (Ev.now _)
    exact hJ _ rfl)
end Go.Proofs.Ytdmfhabhcagioaa.Pure
