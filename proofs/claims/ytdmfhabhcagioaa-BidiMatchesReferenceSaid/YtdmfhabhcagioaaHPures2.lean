import Derived.Test.YtdmfhabhcagioaaHPures
set_option linter.unusedVariables false
set_option linter.unusedSimpArgs false
namespace Go.Proofs.Ytdmfhabhcagioaa.Pure
open Go.RowKit Go.Proofs.Ytdmfhabhcagioaa.P Go.Proofs.YtdmfhabhcagioaaW.PrintWords Go.Proofs.YtdmfhabhcagioaaW.PrintLast Go.Bidi
theorem byte_back (x : Int) (h : 0 ≤ x ∧ x ≤ 255) : (((UInt8.ofNat x.toNat).toNat : Nat) : Int) = x := by
  rw [UInt8.toNat_ofNat']
  omega
theorem bytes_str (xs : List Int) (h : ∀ x ∈ xs, 0 ≤ x ∧ x ≤ 255) : bytesOf (strOfNums xs) = xs := by
  unfold bytesOf
  rw [strOfNums_data, List.map_map]
  conv => rhs; rw [← List.map_id xs]
  exact List.map_congr_left fun x hx => byte_back x (h x hx)
theorem str_bytes (s : ByteArray) : strOfNums (bytesOf s) = s := by
  obtain ⟨⟨l⟩⟩ := s
  unfold strOfNums bytesOf
  congr 2
  rw [List.map_map]
  conv => rhs; rw [← List.map_id l]
  refine List.map_congr_left fun x _ => ?_
  simp
theorem vis_byte (s : ByteArray) (dir : Int) : ∀ x ∈ visOf s dir, 0 ≤ x ∧ x ≤ 255 := by
  intro x hx
  obtain ⟨y, _, rfl⟩ := List.mem_map.1 hx
  exact bt_range s y
theorem bt_vis {s : ByteArray} {dir : Int} {k j : Nat} (hk : k < s.size) (h : (ordOf s dir)[k]? = some (j : Int)) : bt (strOfNums (visOf s dir)) (k : Int) = bt s (j : Int) := by
  have h1 : (visOf s dir)[k]? = some (bt s (j : Int)) := by unfold visOf; rw [List.getElem?_map, h]; rfl
  rw [← rd_bytesOf, bytes_str _ (vis_byte s dir)]
  simp [rd, List.getD_eq_getElem?_getD, h1]
theorem vis_size (s : ByteArray) (dir : Int) : (strOfNums (visOf s dir)).size = s.size := by rw [strOfNums_size, vis_len]
/-- What is seen, by the plain word. -/
theorem vis_seen (s : ByteArray) (dir : Int) : visOf s dir = Go.Bidi.seen (0 : Int) (bytesOf s) (order (levels dir ((bytesOf s).map cls))) := by
  unfold visOf Go.Bidi.seen ordOf classes
  refine List.map_congr_left fun x hx => ?_
  rw [← rd_bytesOf]
  rfl
theorem bt_nat (s : ByteArray) (i : Nat) (h : i < s.size) : (bytesOf s)[i]? = some (bt s (i : Int)) := by
  have hl : i < (bytesOf s).length := by rw [bytesOf_length]; exact h
  rw [List.getElem?_eq_getElem hl, ← rd_bytesOf]
  simp [rd, List.getD_eq_getElem?_getD, List.getElem?_eq_getElem hl]
theorem cls_at (s : ByteArray) (i : Nat) (h : i < s.size) : (classes s)[i]? = some (cls (bt s (i : Int))) := by
  unfold classes
  rw [List.getElem?_map, bt_nat s i h]; rfl
theorem lev_at {s : ByteArray} {dir : Int} (i : Nat) (h : i < s.size) : ∃ n : Int, rd (levels dir (classes s)) (i : Int) = n ∧ (levels dir (classes s))[i]? = some n := by
  have hl : i < (levels dir (classes s)).length := by rw [lv_len]; exact h
  refine ⟨(levels dir (classes s))[i], ?_, List.getElem?_eq_getElem hl⟩
  simp [rd, List.getD_eq_getElem?_getD, List.getElem?_eq_getElem hl]
end Go.Proofs.Ytdmfhabhcagioaa.Pure
