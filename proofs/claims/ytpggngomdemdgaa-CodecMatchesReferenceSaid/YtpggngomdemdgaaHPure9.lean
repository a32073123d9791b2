import Derived.Laws.BitsAllLaws
import Derived.Test.YtpggngomdemdgaaHPure8
set_option linter.unusedVariables false
set_option linter.unusedSimpArgs false
namespace Go.Proofs.Ytpggngomdemdgaa.P
open Go.RowKit Go.Proofs.YtpggngomdemdgaaW.PrintWords Go.Codec
theorem xor_cancel_r {a b c : Nat} (h : a ^^^ c = b ^^^ c) : a = b := by
  have h2 := congrArg (· ^^^ c) h
  simpa [Nat.xor_assoc] using h2
theorem xor_cancel_l {a b c : Nat} (h : c ^^^ a = c ^^^ b) : a = b := xor_cancel_r (by rwa [Nat.xor_comm a c, Nat.xor_comm b c])
theorem mul_back (a : Int) (h0 : 0 ≤ a) (h1 : a < 18446744073709551616) : (a * 1099511628211 % 18446744073709551616) * 14886173955864302971 % 18446744073709551616 = a := by
  have e : a * 1099511628211 * 14886173955864302971 = a + 18446744073709551616 * (a * 887285111055) := by omega
  rw [← Int.emod_emod_of_dvd _ (Int.dvd_refl 18446744073709551616), Int.emod_emod_of_dvd _ (Int.dvd_refl _), Int.mul_emod, Int.emod_emod_of_dvd _ (Int.dvd_refl _), ← Int.mul_emod, e, Int.add_mul_emod_self_left]
  omega
theorem fnvS_eq (h x : Int) : fnvS h x = (bits .xor .u64 h (IntKind.u64.wrap x)) * 1099511628211 % 18446744073709551616 := by
  unfold fnvS; rw [IntKind.wrap_u64]
theorem fnvS_bd (h x : Int) : 0 ≤ fnvS h x ∧ fnvS h x < 18446744073709551616 := by
  rw [fnvS_eq]; exact ⟨Int.emod_nonneg _ (by decide), Int.emod_lt_of_pos _ (by decide)⟩
theorem xor_u64 {h x : Int} (h0 : 0 ≤ h) (h1 : h < 18446744073709551616) (x0 : 0 ≤ x) (x1 : x ≤ 255) : bits .xor .u64 h (IntKind.u64.wrap x) = ((h.toNat ^^^ x.toNat : Nat) : Int) := by
  rw [show IntKind.u64.wrap x = x by rw [IntKind.wrap_u64]; omega]
  exact u64_xor h x h0 h1 x0 (by omega)
theorem xor_bd {h x : Int} (h0 : 0 ≤ h) (h1 : h < 18446744073709551616) (x0 : 0 ≤ x) (x1 : x ≤ 255) : ((h.toNat ^^^ x.toNat : Nat) : Int) < 18446744073709551616 := by
  have : h.toNat ^^^ x.toNat < 2 ^ 64 := Nat.xor_lt_two_pow (by omega) (by omega)
  omega
theorem fnvS_inj {h x h' x' : Int} (a : 0 ≤ h ∧ h < 18446744073709551616) (a' : 0 ≤ h' ∧ h' < 18446744073709551616) (b : 0 ≤ x ∧ x ≤ 255) (b' : 0 ≤ x' ∧ x' ≤ 255) (e : fnvS h x = fnvS h' x') : h.toNat ^^^ x.toNat = h'.toNat ^^^ x'.toNat := by
  rw [fnvS_eq, fnvS_eq, xor_u64 a.1 a.2 b.1 b.2, xor_u64 a'.1 a'.2 b'.1 b'.2] at e
  have c := mul_back _ (Int.natCast_nonneg _) (xor_bd a.1 a.2 b.1 b.2)
  have c' := mul_back _ (Int.natCast_nonneg _) (xor_bd a'.1 a'.2 b'.1 b'.2)
  rw [e] at c
  exact Int.ofNat.inj (c.symm.trans c')
theorem fold_ne : ∀ (p : List Int) (h h' : Int), (∀ x ∈ p, 0 ≤ x ∧ x ≤ 255) → (0 ≤ h ∧ h < 18446744073709551616) → (0 ≤ h' ∧ h' < 18446744073709551616) → h ≠ h' → p.foldl fnvS h ≠ p.foldl fnvS h'
  | [], h, h', hp, a, a', hn => hn
  | x :: p, h, h', hp, a, a', hn => by
    have hx := hp x (by simp)
    refine fold_ne p (fnvS h x) (fnvS h' x) (fun y hy => hp y (by simp [hy])) (fnvS_bd _ _) (fnvS_bd _ _) (fun e => hn ?_)
    have := xor_cancel_r (fnvS_inj a a' hx hx e)
    omega
theorem fold_set : ∀ (p : List Int) (j : Nat) (v h : Int) (hj : j < p.length), (∀ x ∈ p, 0 ≤ x ∧ x ≤ 255) → (0 ≤ v ∧ v ≤ 255) → (0 ≤ h ∧ h < 18446744073709551616) → v ≠ p[j] → (p.set j v).foldl fnvS h ≠ p.foldl fnvS h
  | [], j, v, h, hj, hp, hv, a, hn => by simp at hj
  | x :: p, 0, v, h, hj, hp, hv, a, hn => by
    have hx := hp x (by simp)
    refine fold_ne p (fnvS h v) (fnvS h x) (fun y hy => hp y (by simp [hy])) (fnvS_bd _ _) (fnvS_bd _ _) (fun e => hn ?_)
    have := xor_cancel_l (fnvS_inj a a hv hx e)
    show v = x
    omega
  | x :: p, j + 1, v, h, hj, hp, hv, a, hn => fold_set p j v (fnvS h x) (by simpa using hj) (fun y hy => hp y (by simp [hy])) hv (fnvS_bd _ _) hn
theorem fold_bd : ∀ (p : List Int) (h : Int), (0 ≤ h ∧ h < 18446744073709551616) → 0 ≤ p.foldl fnvS h ∧ p.foldl fnvS h < 18446744073709551616
  | [], h, a => a
  | x :: p, h, a => fold_bd p (fnvS h x) (fnvS_bd _ _)
theorem fnv_bd (p : List Int) : 0 ≤ fnv p ∧ fnv p < 18446744073709551616 := fold_bd p _ (by decide)
theorem be8_back {r : Int} (h0 : 0 ≤ r) (h1 : r < 18446744073709551616) : (be8 r).foldl (fun a x => a * 256 + x) 0 = r := by
  have e7 : r / 256 / 256 = r / 65536 := by omega
  have e6 : r / 65536 / 256 = r / 16777216 := by omega
  have e5 : r / 16777216 / 256 = r / 4294967296 := by omega
  have e4 : r / 4294967296 / 256 = r / 1099511627776 := by omega
  have e3 : r / 1099511627776 / 256 = r / 281474976710656 := by omega
  have e2 : r / 281474976710656 / 256 = r / 72057594037927936 := by omega
  have e1 : r / 72057594037927936 % 256 = r / 72057594037927936 := by omega
  have s : ∀ a : Int, a / 256 * 256 + a % 256 = a := fun a => by omega
  simp only [be8, List.foldl_cons, List.foldl_nil]
  rw [e1, Int.zero_mul, Int.zero_add, ← e2, s, ← e3, s, ← e4, s, ← e5, s, ← e6, s, ← e7, s, s]
theorem be8_inj {r s : Int} (hr : 0 ≤ r ∧ r < 18446744073709551616) (hs : 0 ≤ s ∧ s < 18446744073709551616) (h : be8 r = be8 s) : r = s := by
  rw [← be8_back hr.1 hr.2, h, be8_back hs.1 hs.2]
theorem pack_byte {l : List Int} (hi : ∀ x ∈ l, i64 x) (hl : l.length ≤ 4000) : ∀ x ∈ pack (enc l), 0 ≤ x ∧ x ≤ 255 := fun x hx => frame_byte hi hl x (by unfold frame; exact List.mem_append_left _ hx)
theorem rd_set {b : List Int} {i j : Nat} {v : Int} (h : i ≠ j) : rd (b.set j v) (i : Int) = rd b (i : Int) := by
  simp [rd, List.getD_eq_getElem?_getD, List.getElem?_set, Ne.symm h]
theorem set_self_ne {p : List Int} {j : Nat} {v : Int} (hj : j < p.length) (hv : v ≠ p[j]) : p.set j v ≠ p := fun e => hv (by
  have h2 := congrArg (fun q => q[j]?) e
  simpa [hj] using h2)
/-- A frame of which one byte behind its third has changed is none. -/
theorem whole_changed {l : List Int} (hi : ∀ x ∈ l, i64 x) (hl : l.length ≤ 4000) {j : Nat} {v : Int} (h3 : 3 ≤ j) (hj : j < (frame l).length) (hv : 0 ≤ v ∧ v ≤ 255) (hn : v ≠ (frame l)[j]) : (whole ((frame l).set j v)).2 = 0 := by
  have hle := enc_len l
  have hn3 : n3 ((frame l).set j v) = ((enc l).length : Int) := by
    have := n3_pack (enc l) (be8 (fnv (pack (enc l)))) (by omega)
    unfold n3 at this ⊢
    have h0 := rd_set (b := frame l) (i := 0) (j := j) (v := v) (by omega)
    have h1 := rd_set (b := frame l) (i := 1) (j := j) (v := v) (by omega)
    have h2 := rd_set (b := frame l) (i := 2) (j := j) (v := v) (by omega)
    rw [show ((0 : Nat) : Int) = 0 from rfl] at h0
    rw [show ((1 : Nat) : Int) = 1 from rfl] at h1
    rw [show ((2 : Nat) : Int) = 2 from rfl] at h2
    rw [h0, h1, h2]
    exact this
  have hpb := pack_byte hi hl
  have hf := frame_len l
  have hpk := pack_len (enc l)
  have he : (3 + ((enc l).length : Int)).toNat = (pack (enc l)).length := by clear hn; omega
  unfold whole
  rw [hn3, he, List.length_set]
  by_cases c : j < (pack (enc l)).length
  · have hs : (frame l).set j v = (pack (enc l)).set j v ++ be8 (fnv (pack (enc l))) := by
      unfold frame; rw [List.set_append_left _ _ c]
    have hg : (frame l)[j] = (pack (enc l))[j] := (List.getElem_of_eq (show frame l = pack (enc l) ++ be8 (fnv (pack (enc l))) from rfl) hj).trans (List.getElem_append_left c)
    rw [hg] at hn
    have ht : ((frame l).set j v).take (pack (enc l)).length = (pack (enc l)).set j v := by rw [hs, List.take_left' (by rw [List.length_set])]
    have hd : (((frame l).set j v).drop (pack (enc l)).length).take 8 = be8 (fnv (pack (enc l))) := by rw [hs, List.drop_left' (by rw [List.length_set]), List.take_of_length_le (by simp [be8])]
    have hne : be8 (fnv ((pack (enc l)).set j v)) ≠ be8 (fnv (pack (enc l))) := fun e => fold_set _ j v _ c hpb hv (by decide) hn (be8_inj (fnv_bd _) (fnv_bd _) e)
    rw [ht, hd]
    split
    · rfl
    · split
      · rfl
      · first | rfl | rw [if_pos hne]
  · have c' : (pack (enc l)).length ≤ j := by clear hn; omega
    have hs : (frame l).set j v = pack (enc l) ++ (be8 (fnv (pack (enc l)))).set (j - (pack (enc l)).length) v := by
      unfold frame; rw [List.set_append_right _ _ c']
    have hjb : j - (pack (enc l)).length < (be8 (fnv (pack (enc l)))).length := by
      show j - _ < 8
      clear hn; omega
    have hg : (frame l)[j] = (be8 (fnv (pack (enc l))))[j - (pack (enc l)).length] := (List.getElem_of_eq (show frame l = pack (enc l) ++ be8 (fnv (pack (enc l))) from rfl) hj).trans (List.getElem_append_right c')
    rw [hg] at hn
    have ht : ((frame l).set j v).take (pack (enc l)).length = pack (enc l) := by rw [hs, List.take_left' rfl]
    have hd : (((frame l).set j v).drop (pack (enc l)).length).take 8 = (be8 (fnv (pack (enc l)))).set (j - (pack (enc l)).length) v := by rw [hs, List.drop_left' rfl, List.take_of_length_le (by rw [List.length_set]; simp [be8])]
    have hne := (set_self_ne hjb hn).symm
    rw [ht, hd]
    split
    · rfl
    · split
      · rfl
      · first | rfl | rw [if_pos hne]
theorem u8_change {x y : Int} (hx : 0 ≤ x ∧ x ≤ 255) (hy : 0 ≤ y ∧ y ≤ 255) (h : y ≠ 0) : (0 ≤ bits .xor .u8 x y ∧ bits .xor .u8 x y ≤ 255) ∧ bits .xor .u8 x y ≠ x := by
  rw [u8_xor x y hx.1 (by omega) hy.1 (by omega)]
  have hb : x.toNat ^^^ y.toNat < 2 ^ 8 := Nat.xor_lt_two_pow (by omega) (by omega)
  refine ⟨by omega, fun e => h ?_⟩
  have e2 : x.toNat ^^^ y.toNat = x.toNat ^^^ 0 := by rw [Nat.xor_zero]; omega
  have := xor_cancel_l e2
  omega
end Go.Proofs.Ytpggngomdemdgaa.P
