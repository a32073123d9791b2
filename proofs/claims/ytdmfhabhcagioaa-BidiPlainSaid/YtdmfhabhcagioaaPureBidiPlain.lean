/- For every line: without letters of class 2 it is seen as it is, for the direction 0; without letters of class 1 and digits it is seen turned round, for the direction 1 (up to 300 bytes). Conditions: those of the statement alone. -/
import Derived.Test.YtdmfhabhcagioaaPx10
import Derived.Test.YtdmfhabhcagioaaHPures2
set_option linter.unusedVariables false
set_option linter.unusedSimpArgs false
namespace Go.Proofs.Ytdmfhabhcagioaa.Pure
open Go.RowKit Go.Proofs.Ytdmfhabhcagioaa.P Go.Proofs.YtdmfhabhcagioaaW.PrintWords Go.Proofs.YtdmfhabhcagioaaW.PrintLast Go.Bidi
/-- How many bytes of a class there are from i on. -/
def cnt (c : Int) (l : List Int) : Nat := (l.filter fun x => decide (x = c)).length
theorem classes_loop (s : ByteArray) (c : Int) (hs : s.size ≤ 2000) : ∀ (d i : Nat) (n : Int), i + d = s.size → 0 ≤ n → n ≤ (i : Int) → Ev (fun k => formelaw09_classes.l0 k s c n (i : Int)) (n + (cnt c ((classes s).drop i) : Int))
  | 0, i, n, e, h0, h1 => by
    obtain rfl : i = s.size := by omega
    rw [List.drop_of_length_le (by rw [classes_length]; exact Nat.le_refl _)]
    have : n + (cnt c [] : Int) = n := by simp [cnt]
    rw [this]
    exact Ev.step (fun k => rfl) (EvT.ifn (by omega) (Ev.now _))
  | d + 1, i, n, e, h0, h1 => by
    have hi : i < s.size := by omega
    have hl : i < (classes s).length := by rw [classes_length]; exact hi
    have hc : (classes s)[i] = cls (bt s (i : Int)) := by
      have := cls_at s i hi
      rw [List.getElem?_eq_getElem hl] at this
      exact Option.some.inj this
    rw [List.drop_eq_getElem_cons hl, hc]
    have e2 : wrap64 ((i : Int) + 1) = ((i + 1 : Nat) : Int) := EvT.w64 (by omega) (by omega)
    refine Ev.step (fun k => rfl) (EvT.ifp (by omega) (EvT.ifp (by omega) (Ev.bind (class_ev _) (EvT.ite (fun h => ?_) (fun h => ?_)))))
    · rw [e2, show wrap64 (n + 1) = n + 1 from EvT.w64 (by omega) (by omega)]
      have := classes_loop s c hs d (i + 1) (n + 1) (by omega) (by omega) (by omega)
      have e3 : n + (cnt c (cls (bt s (i : Int)) :: (classes s).drop (i + 1)) : Int) = n + 1 + (cnt c ((classes s).drop (i + 1)) : Int) := by simp [cnt, h]; omega
      rw [e3]; exact this
    · rw [e2]
      have := classes_loop s c hs d (i + 1) n (by omega) (by omega) (by omega)
      have e3 : n + (cnt c (cls (bt s (i : Int)) :: (classes s).drop (i + 1)) : Int) = n + (cnt c ((classes s).drop (i + 1)) : Int) := by simp [cnt, h]
      rw [e3]; exact this
theorem classes_ev (s : ByteArray) (c : Int) (hs : s.size ≤ 2000) : Ev (fun k => formelaw09_classes.f k s c) (cnt c (classes s) : Int) := by
  have := classes_loop s c hs s.size 0 0 (by omega) (by omega) (by omega)
  rw [List.drop_zero, Int.zero_add] at this
  exact this
theorem cnt_zero {c : Int} {l : List Int} (h : cnt c l = 0) : ∀ x ∈ l, x ≠ c := by
  intro x hx e
  have : x ∈ l.filter fun x => decide (x = c) := List.mem_filter.2 ⟨hx, by simpa using e⟩
  unfold cnt at h
  rw [List.eq_nil_of_length_eq_zero h] at this
  simp at this
theorem cnt_le (c : Int) (l : List Int) : cnt c l ≤ l.length := List.length_filter_le _ _
theorem line0 {s : ByteArray} (h : validB s = true) : lineB s 0 = true ∧ lineB s 1 = true := by
  unfold lineB; rw [h]; exact ⟨rfl, rfl⟩
theorem vis_same {s : ByteArray} (h : ∀ x ∈ classes s, x ≠ 2) : strOfNums (visOf s 0) = s := by
  have : visOf s 0 = bytesOf s := by
    rw [vis_seen]
    show Go.Bidi.seen 0 (bytesOf s) (order (levels 0 (classes s))) = bytesOf s
    rw [order_zero (levels_zero h), lv_len]
    have := seen_iota 0 (bytesOf s)
    rwa [bytesOf_length] at this
  rw [this, str_bytes]
theorem ord_turned {s : ByteArray} (h : ∀ x ∈ classes s, x ≠ 1 ∧ x ≠ 3) (i : Nat) (hi : i < s.size) : rd (ordOf s 1) (i : Int) = (s.size : Int) - 1 - (i : Int) := by
  unfold ordOf
  rw [order_one (levels_one h), lv_len]
  have hl : i < (iota s.size).reverse.length := by rw [List.length_reverse, iota_length]; exact hi
  simp only [rd, Int.toNat_natCast, List.getD_eq_getElem?_getD]
  rw [List.getElem?_reverse (by rw [iota_length]; exact hi), iota_length]
  simp [iota, show s.size - 1 - i < s.size by omega]
  omega
theorem plain_loop (s : ByteArray) (hs : s.size ≤ 2000) (h : ∀ x ∈ classes s, x ≠ 1 ∧ x ≠ 3) : ∀ (d i : Nat), i + d = s.size → Ev (fun k => formelaw09_BidiPlain.l0 k s true (ordOf s 1) (s.size : Int) (i : Int)) true
  | 0, i, e => by
    obtain rfl : i = s.size := by omega
    exact Ev.step (fun k => rfl) (EvT.ifn (by omega) (Ev.now _))
  | d + 1, i, e => by
    have hi : i < s.size := by omega
    have IH := plain_loop s hs h d (i + 1) (by omega)
    have hol := ord_len s 1
    refine Ev.step (fun k => rfl) (EvT.ifp (by omega) (EvT.ifp (by omega) (EvT.ifp (by omega) (EvT.ifp rfl ?_))))
    rw [ord_turned h i hi, show wrap64 ((s.size : Int) - 1) = (s.size : Int) - 1 from EvT.w64 (by omega) (by omega), show wrap64 ((s.size : Int) - 1 - (i : Int)) = (s.size : Int) - 1 - (i : Int) from EvT.w64 (by omega) (by omega), beq_self_eq_true, show wrap64 ((i : Int) + 1) = ((i + 1 : Nat) : Int) from EvT.w64 (by omega) (by omega)]
    exact IH
theorem plain_rest (s : ByteArray) (hs : s.size ≤ 2000) (hv : validB s = true) : Ev (fun k => formelaw09_BidiPlain.j1 k s true) true := by
  refine Ev.step (fun k => rfl) (Ev.bind (classes_ev s 1 hs) (Ev.bind (classes_ev s 3 hs) ?_))
  have l1 := cnt_le 1 (classes s)
  have l3 := cnt_le 3 (classes s)
  rw [classes_length] at l1 l3
  rw [show wrap64 ((cnt 1 (classes s) : Int) + (cnt 3 (classes s) : Int)) = (cnt 1 (classes s) : Int) + (cnt 3 (classes s) : Int) from EvT.w64 (by omega) (by omega)]
  refine EvT.ite (fun _ => Ev.now _) (fun h => EvT.bindc (ord_f (line0 hv).2) ?_)
  have h1 := cnt_zero (c := 1) (l := classes s) (by omega)
  have h3 := cnt_zero (c := 3) (l := classes s) (by omega)
  dsimp only
  rw [ord_len]
  have hne : ((s.size : Int) != (s.size : Int)) = false := by simp
  have hK : ∀ b, b = false → Ev (fun k => formelaw09_BidiPlain.j2 k s true (ordOf s 1) b) true := fun b hb => by
    refine Ev.step (fun k => rfl) (EvT.ifn (by rw [hb]; decide) ?_)
    rw [ord_len]
    exact plain_loop s hs (fun x hx => ⟨h1 x hx, h3 x hx⟩) s.size 0 (by omega)
  exact EvT.ifp rfl (hK _ hne)
theorem BidiPlain : formelaw09_BidiPlain.Pure := fun s hs => Ev.rounds (by
  refine Ev.bind head_ev (EvT.ifp rfl (EvT.ite (fun h => Ev.step (fun k => rfl) (Ev.now _)) (fun h => Ev.bind (valid_ev s hs) ?_)))
  have hJ : ∀ b, validB s = b → Ev (fun k => formelaw09_BidiPlain.j0 k s true (!b)) true := fun b hb => by
    cases b
    · exact Ev.step (fun k => rfl) (Ev.now _)
    · have h2000 : s.size ≤ 2000 := by omega
      have hM : ∀ b, b = false → Ev (fun k => formelaw09_BidiPlain.j0 k s true b) true := fun b hb2 => by
        refine Ev.step (fun k => rfl) (EvT.ifn (by rw [hb2]; decide) (Ev.bind (classes_ev s 2 h2000) (EvT.ite (fun h0 => ?_) (fun _ => plain_rest s h2000 hb))))
        have hz := cnt_zero (c := 2) (l := classes s) (by omega)
        refine Ev.bind (vis_ev (line0 hb).1) (EvT.ifp rfl (EvT.ifp rfl ?_))
        rw [vis_same hz, beq_self_eq_true]
        exact plain_rest s h2000 hb
      exact hM _ rfl
  exact hJ _ rfl)
end Go.Proofs.Ytdmfhabhcagioaa.Pure
