import Derived.Test.YtpggngomdemdgaaHPure2
import Derived.Test.YtpggngomdemdgaaHFrames
set_option linter.unusedVariables false
set_option linter.unusedSimpArgs false
namespace Go.Proofs.Ytpggngomdemdgaa.P
open Go.RowKit Go.Proofs.YtpggngomdemdgaaW.PrintWords Go.Codec
theorem n3_pack (p r : List Int) (h : p.length < 16777216) : n3 (pack p ++ r) = (p.length : Int) := by
  show (p.length : Int) / 65536 % 256 * 65536 + (p.length : Int) / 256 % 256 * 256 + (p.length : Int) % 256 = _
  omega
theorem pack_len (p : List Int) : (pack p).length = 3 + p.length := by simp [pack, head3]; omega
theorem frame_len (l : List Int) : (frame l).length = 3 + (enc l).length + 8 := by unfold frame; rw [List.length_append, pack_len]; rfl
/-- A whole frame is read, whatever stands behind it. -/
theorem whole_frame {l : List Int} (hi : ∀ x ∈ l, i64 x) (hl : l.length ≤ 4000) (r : List Int) : whole (frame l ++ r) = (l, ((frame l).length : Int)) := by
  have hle := enc_len l
  have hpos := enc_pos l
  have hn : n3 (frame l ++ r) = ((enc l).length : Int) := by
    unfold frame; rw [List.append_assoc]; exact n3_pack _ _ (by omega)
  have hf := frame_len l
  have hpk := pack_len (enc l)
  have he : (3 + ((enc l).length : Int)).toNat = (pack (enc l)).length := by omega
  have ht : (frame l ++ r).take (pack (enc l)).length = pack (enc l) := by
    unfold frame; rw [List.append_assoc, List.take_left']; rfl
  have hd : ((frame l ++ r).drop (pack (enc l)).length).take 8 = be8 (fnv (pack (enc l))) := by
    unfold frame; rw [List.append_assoc, List.drop_left' rfl, List.take_left']; rfl
  have hg : getL ((pack (enc l)).drop 3) = some l := by
    have := getL_enc hi hl []
    rw [List.append_nil, if_pos rfl] at this
    exact this
  unfold whole
  rw [hn, he, ht, hd, hg, if_neg (by rw [List.length_append]; omega), if_neg (by rw [List.length_append]; omega), if_neg (by simp), hf]
  refine Prod.ext rfl ?_
  show 3 + ((enc l).length : Int) + 8 = _
  omega
/-- A frame that is cut is none. -/
theorem whole_cut {l : List Int} (hl : l.length ≤ 4000) {m : Nat} (hm : m < (frame l).length) : whole ((frame l).take m) = ([], 0) := by
  have hle := enc_len l
  have hf := frame_len l
  have hlen : ((frame l).take m).length = m := by rw [List.length_take]; omega
  unfold whole
  by_cases h : m < 11
  · rw [if_pos (by omega)]
  · rw [if_neg (by omega)]
    have hn : n3 ((frame l).take m) = ((enc l).length : Int) := by
      have h3 : ∀ i : Nat, i < 3 → rd ((frame l).take m) (i : Int) = rd (frame l) (i : Int) := fun i hi => by
        simp [rd, List.getD_eq_getElem?_getD, List.getElem?_take, show i < m by omega]
      have h0 := h3 0 (by omega)
      have h1 := h3 1 (by omega)
      have h2 := h3 2 (by omega)
      have := n3_pack (enc l) (be8 (fnv (pack (enc l)))) (by omega)
      unfold n3 at this ⊢
      rw [show ((0 : Nat) : Int) = 0 from rfl] at h0
      rw [show ((1 : Nat) : Int) = 1 from rfl] at h1
      rw [show ((2 : Nat) : Int) = 2 from rfl] at h2
      rw [h0, h1, h2]
      exact this
    rw [hn, if_pos (by omega)]
end Go.Proofs.Ytpggngomdemdgaa.P
