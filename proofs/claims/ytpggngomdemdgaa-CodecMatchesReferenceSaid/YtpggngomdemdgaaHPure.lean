import Derived.Test.YtpggngomdemdgaaPx1
import Derived.Test.YtpggngomdemdgaaHMath
set_option linter.unusedVariables false
set_option linter.unusedSimpArgs false
namespace Go.Proofs.Ytpggngomdemdgaa.P
open Go.RowKit Go.Proofs.YtpggngomdemdgaaW.PrintWords Go.Codec
set_option maxRecDepth 20000 in
theorem nat_or128 : ∀ a : Fin 256, a.val ||| 128 = a.val % 128 + 128 := by decide
theorem or128 {x : Int} (h0 : 0 ≤ x) (h1 : x < 256) : bits .or .u8 x 128 = x % 128 + 128 := by
  rw [u8_or x 128 h0 h1 (by decide) (by decide)]
  have h := nat_or128 ⟨x.toNat, by omega⟩
  have h2 : x.toNat ||| 128 = x.toNat % 128 + 128 := h
  show ((x.toNat ||| 128 : Nat) : Int) = _
  rw [h2]; omega
theorem put_l0 : ∀ (f u : Nat) (x0 : List Int) (k : Nat), f < k → x0.length + f < 100000 → u < 2 * 128 ^ f → codec_put.l0 k x0 (u : Int) = some (x0 ++ vbN f u)
  | 0, u, x0, k + 1, hk, hx, hu => by
    have hu' : u < 2 := by simpa using hu
    unfold codec_put.l0
    rw [if_neg (show ¬ (u : Int) > 127 by omega), if_pos (show x0.length < 140737488355328 by omega), show (u : Int) % 256 = (u : Int) by omega]
    rfl
  | f + 1, u, x0, k + 1, hk, hx, hu => by
    unfold codec_put.l0
    unfold vbN
    by_cases h : 127 < u
    · rw [if_pos (show (u : Int) > 127 by omega), if_pos (show x0.length < 140737488355328 by omega), if_pos h]
      have e : (u : Int) / 128 = ((u / 128 : Nat) : Int) := by omega
      rw [e, put_l0 f (u / 128) _ k (by omega) (by simp; omega) (Nat.div_lt_of_lt_mul (by rw [Nat.pow_succ] at hu; omega)), or128 (by omega) (by omega), List.append_assoc]
      have e2 : (u : Int) % 256 % 128 + 128 = ((u % 128 + 128 : Nat) : Int) := by omega
      rw [e2]; rfl
    · rw [if_neg (show ¬ (u : Int) > 127 by omega), if_neg h, if_pos (show x0.length < 140737488355328 by omega), show (u : Int) % 256 = (u : Int) by omega]
theorem put_f {n : Int} (hn : i64 n) (x0 : List Int) (k : Nat) (hk : 10 ≤ k) (hx : x0.length < 90000) : codec_put.f k x0 n = some (x0 ++ vb (zz n)) := by
  have hb := zz_bd hn.1 hn.2
  unfold codec_put.f codec_number.f
  rw [Option.bind_some, zz_bits hn.1 hn.2, show zz n = ((zz n).toNat : Int) by omega]
  exact put_l0 9 (zz n).toNat x0 k (by omega) (by omega) (show (zz n).toNat < 18446744073709551616 by omega)
theorem vbN_len : ∀ (f u : Nat), (vbN f u).length ≤ f + 1
  | 0, u => by simp [vbN]
  | f + 1, u => by
    unfold vbN
    split
    · have := vbN_len f (u / 128); simp; omega
    · simp
theorem body_cons (x : Int) (l : List Int) : body (x :: l) = vb (zz x) ++ body l := rfl
theorem Put_l0 : ∀ (m : Nat) (l x4 : List Int) (i k : Nat), i + m = l.length → m + 10 < k → x4.length + 10 * m < 80000 ∧ l.length < 100000 → (∀ x ∈ l, i64 x) → codec_Put.l0 k x4 l (l.length : Int) (i : Int) = some (x4 ++ body (l.drop i), 0)
  | 0, l, x4, i, k + 1, hi, hk, hx, hl => by
    unfold codec_Put.l0
    rw [if_neg (by omega), List.drop_of_length_le (by omega)]
    simp [body]
  | m + 1, l, x4, i, k + 1, hi, hk, hx, hl => by
    unfold codec_Put.l0
    rw [if_pos (by omega), if_pos (by omega), if_pos (by omega)]
    have hil : i < l.length := by omega
    have hd : l.drop i = l[i] :: l.drop (i + 1) := List.drop_eq_getElem_cons hil
    have hr : rd l (i : Int) = l[i] := by simp [rd, List.getD_eq_getElem?_getD, List.getElem?_eq_getElem hil]
    rw [hr, put_f (hl _ (List.getElem_mem hil)) x4 k (by omega) (by omega), Option.bind_some]
    have hw : wrap64 ((i : Int) + 1) = ((i + 1 : Nat) : Int) := by unfold wrap64; omega
    have hv : (vb (zz l[i])).length ≤ 10 := vbN_len 9 _
    rw [hw, Put_l0 m l _ (i + 1) k (by omega) (by omega) (by rw [List.length_append]; omega) hl, hd, body_cons, List.append_assoc]
theorem Put_f {l : List Int} (hl : ∀ x ∈ l, i64 x) {k : Nat} (hk : 5000 ≤ k) : codec_Put.f k l = some (if 4000 < l.length then ([], 2) else (enc l, 0)) := by
  unfold codec_Put.f
  by_cases h : 4000 < l.length
  · rw [if_pos (by omega), if_pos h]
  · rw [if_neg (by omega), if_neg h, put_f ⟨by omega, by omega⟩ [] k (by omega) (by simp), Option.bind_some]
    have hv : (vb (zz (l.length : Int))).length ≤ 10 := vbN_len 9 _
    have := Put_l0 l.length l ([] ++ vb (zz (l.length : Int))) 0 k (by omega) (by omega) (by simp; omega) hl
    rw [List.drop_zero] at this
    rw [show (0 : Int) = ((0 : Nat) : Int) from rfl, this]
    simp [enc]
/-- FNV-1a. -/
def fnvS (h x : Int) : Int := IntKind.u64.wrap ((bits .xor .u64 h (IntKind.u64.wrap x)) * 1099511628211)
def fnv (b : List Int) : Int := b.foldl fnvS 14695981039346656037
theorem more_l0 : ∀ (m : Nat) (b : List Int) (h : Int) (i k : Nat), i + m = b.length → m < k → b.length < 1000000000 → digest_more.l0 k h b (b.length : Int) (i : Int) = some ((b.drop i).foldl fnvS h)
  | 0, b, h, i, k + 1, hi, hk, hb => by
    unfold digest_more.l0
    rw [if_neg (by omega), List.drop_of_length_le (by omega)]
    rfl
  | m + 1, b, h, i, k + 1, hi, hk, hb => by
    unfold digest_more.l0
    rw [if_pos (by omega), if_pos (by omega), if_pos (by omega)]
    have hil : i < b.length := by omega
    have hd : b.drop i = b[i] :: b.drop (i + 1) := List.drop_eq_getElem_cons hil
    have hr : rd b (i : Int) = b[i] := by simp [rd, List.getD_eq_getElem?_getD, List.getElem?_eq_getElem hil]
    have hw : wrap64 ((i : Int) + 1) = ((i + 1 : Nat) : Int) := by unfold wrap64; omega
    rw [hr, hw, more_l0 m b _ (i + 1) k (by omega) (by omega) hb, hd]
    rfl
theorem Sum_f {b : List Int} (hb : b.length < 1000000000) {k : Nat} (hk : b.length < k) : digest_Sum.f k b = some (fnv b) := by
  unfold digest_Sum.f digest_more.f
  rw [show (0 : Int) = ((0 : Nat) : Int) from rfl, more_l0 b.length b _ 0 k (by omega) hk hb]
  rfl
theorem body_len : ∀ l : List Int, (body l).length ≤ 10 * l.length
  | [] => by simp [body]
  | x :: l => by
    have h1 := body_len l
    have h2 : (vb (zz x)).length ≤ 10 := vbN_len 9 _
    simp [body] at h1 ⊢
    omega
theorem enc_len (l : List Int) : (enc l).length ≤ 10 * l.length + 10 := by
  have h1 := body_len l
  have h2 : (vb (zz (l.length : Int))).length ≤ 10 := vbN_len 9 _
  unfold enc
  rw [List.length_append]; omega
/-- The eight bytes of a sum, the greatest first. -/
def be8 (r : Int) : List Int := [r / 72057594037927936 % 256, r / 281474976710656 % 256, r / 1099511627776 % 256, r / 4294967296 % 256, r / 16777216 % 256, r / 65536 % 256, r / 256 % 256, r % 256]
def head3 (n : Int) : List Int := [n / 65536 % 256, n / 256 % 256, n % 256]
def pack (p : List Int) : List Int := head3 (p.length : Int) ++ p
def frame (l : List Int) : List Int := pack (enc l) ++ be8 (fnv (pack (enc l)))
def codec_Frame.f (l : List Int) : Option (List Int × Int) :=
  if l.all (fun x => decide (-9223372036854775808 ≤ x) && decide (x ≤ 9223372036854775807)) then (if 4000 < l.length then some ([], 2) else some (frame l, 0)) else none
end Go.Proofs.Ytpggngomdemdgaa.P
