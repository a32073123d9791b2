import Derived.Test.YtpggngomdemdgaaProg
import Derived.Laws.BitsAllLaws
import Derived.Laws.DeepNot64
import Derived.Laws.Bits128
import Derived.Laws.Bits64
import Derived.RowKit
set_option linter.unusedVariables false
set_option linter.unusedSimpArgs false
namespace Go.Codec
/-! The plain side of codec: the bytes of an integer, and back. -/
def zz (n : Int) : Int := if n < 0 then -2 * n - 1 else 2 * n
def unzz (u : Int) : Int := if u % 2 = 1 then -(u / 2) - 1 else u / 2
theorem unzz_zz (n : Int) : unzz (zz n) = n := by unfold zz unzz; split <;> split <;> omega
theorem zz_unzz {u : Int} (h : 0 ≤ u) : zz (unzz u) = u := by unfold zz unzz; split <;> split <;> omega
theorem zz_bd {n : Int} (h1 : -9223372036854775808 ≤ n) (h2 : n ≤ 9223372036854775807) : 0 ≤ zz n ∧ zz n < 18446744073709551616 := by unfold zz; split <;> omega
theorem unzz_bd {u : Int} (h1 : 0 ≤ u) (h2 : u < 18446744073709551616) : -9223372036854775808 ≤ unzz u ∧ unzz u ≤ 9223372036854775807 := by unfold unzz; split <;> omega
/-- The bytes of a number: seven bits each, the least first. -/
def vbN : Nat → Nat → List Int
  | 0, u => [(u : Int)]
  | f + 1, u => if 127 < u then ((u % 128 + 128 : Nat) : Int) :: vbN f (u / 128) else [(u : Int)]
def vb (u : Int) : List Int := vbN 9 u.toNat
/-- A number is read: i bytes have been read, u is their number. -/
def dec : Nat → Int → List Int → Option (Int × Nat)
  | _, _, [] => none
  | i, u, c :: r => if (i = 9 ∧ 1 < c) ∨ 9 < i then none else if 127 < c then dec (i + 1) (u + (c % 128) * 128 ^ i) r else if c = 0 ∧ 0 < i then none else some (u + c * 128 ^ i, i + 1)
theorem vbN_pos (f u : Nat) : 0 < (vbN f u).length := by
  cases f with
  | zero => simp [vbN]
  | succ f => unfold vbN; split <;> simp
theorem vbN_byte : ∀ (f u : Nat), u < 128 ^ (f + 1) → ∀ x ∈ vbN f u, 0 ≤ x ∧ x ≤ 255
  | 0, u, h, x, hx => by
    simp [vbN] at hx h
    omega
  | f + 1, u, h, x, hx => by
    unfold vbN at hx
    split at hx
    · rcases List.mem_cons.1 hx with rfl | hx
      · omega
      · exact vbN_byte f (u / 128) (Nat.div_lt_of_lt_mul (by rw [Nat.pow_succ] at h; omega)) x hx
    · simp at hx; omega
theorem dec_vbN : ∀ (f u i : Nat) (acc : Int) (r : List Int), f + i = 9 → (i = 0 ∨ 0 < u) → u < 2 * 128 ^ f →
    dec i acc (vbN f u ++ r) = some (acc + (u : Int) * 128 ^ i, i + (vbN f u).length)
  | 0, u, i, acc, r, hf, h0, hb => by
    have : u < 2 := by simpa using hb
    simp only [vbN, List.cons_append, List.nil_append, dec]
    rw [if_neg (by omega), if_neg (by omega), if_neg (by omega)]
    rfl
  | f + 1, u, i, acc, r, hf, h0, hb => by
    unfold vbN
    split
    · rename_i hu
      simp only [List.cons_append, dec]
      rw [if_neg (by omega), if_pos (by omega)]
      have hd : u / 128 < 2 * 128 ^ f := Nat.div_lt_of_lt_mul (by rw [Nat.pow_succ] at hb; omega)
      have hdm := Nat.div_add_mod u 128
      rw [dec_vbN f (u / 128) (i + 1) _ r (by omega) (.inr (by omega)) hd]
      have e1 : (((u % 128 + 128 : Nat) : Int)) % 128 = ((u % 128 : Nat) : Int) := by omega
      rw [e1, Int.pow_succ]
      refine congrArg some (Prod.ext ?_ ?_)
      · show acc + ((u % 128 : Nat) : Int) * 128 ^ i + ((u / 128 : Nat) : Int) * (128 ^ i * 128) = acc + (u : Int) * 128 ^ i
        have : (u : Int) = 128 * ((u / 128 : Nat) : Int) + ((u % 128 : Nat) : Int) := by omega
        rw [this]
        generalize (128 : Int) ^ i = z
        generalize ((u / 128 : Nat) : Int) = a
        generalize ((u % 128 : Nat) : Int) = b
        rw [Int.add_mul, Int.add_assoc]
        congr 1
        rw [Int.add_comm]
        congr 1
        rw [Int.mul_comm z 128, ← Int.mul_assoc, Int.mul_comm a 128]
      · simp; omega
    · simp only [List.cons_append, List.nil_append, dec]
      rw [if_neg (by omega), if_neg (by omega), if_neg (by omega)]
      rfl
theorem dec_vb {u : Int} (h1 : 0 ≤ u) (h2 : u < 18446744073709551616) (r : List Int) : dec 0 0 (vb u ++ r) = some (u, (vb u).length) := by
  unfold vb
  rw [dec_vbN 9 u.toNat 0 0 r rfl (.inl rfl) (by omega)]
  refine congrArg some (Prod.ext ?_ ?_)
  · show (0 : Int) + (u.toNat : Int) * 128 ^ 0 = u
    rw [Int.pow_zero, Int.mul_one, Int.zero_add]; omega
  · simp
/-- What is read is what stands there. -/
theorem vbN_dec : ∀ (f i : Nat) (acc v : Int) (b : List Int) (k : Nat), f + i = 9 → (∀ x ∈ b, 0 ≤ x ∧ x ≤ 255) → dec i acc b = some (v, k) →
    ∃ u : Nat, v = acc + (u : Int) * 128 ^ i ∧ i < k ∧ k - i ≤ b.length ∧ b.take (k - i) = vbN f u ∧ u < 2 * 128 ^ f ∧ (0 < i → 0 < u)
  | f, i, acc, v, [], k, hf, hb, h => by simp [dec] at h
  | f, i, acc, v, c :: r, k, hf, hb, h => by
    have hc := hb c (by simp)
    unfold dec at h
    split at h
    · cases h
    · rename_i h9
      split at h
      · rename_i hc2
        obtain ⟨f', rfl⟩ : ∃ f', f = f' + 1 := ⟨f - 1, by omega⟩
        obtain ⟨u, e, hik, hkl, ht, hu, hpos⟩ := vbN_dec f' (i + 1) _ v r k (by omega) (fun x hx => hb x (by simp [hx])) h
        have hu0 := hpos (by omega)
        refine ⟨u * 128 + (c % 128).toNat, ?_, by omega, by simp; omega, ?_, ?_, fun _ => by omega⟩
        · rw [e, Int.pow_succ]
          have e2 : ((u * 128 + (c % 128).toNat : Nat) : Int) = (u : Int) * 128 + c % 128 := by omega
          rw [e2, Int.add_mul, Int.add_assoc]
          congr 1
          rw [Int.add_comm]
          congr 1
          generalize (128 : Int) ^ i = z
          rw [Int.mul_comm z 128, ← Int.mul_assoc]
        · obtain ⟨m, hm⟩ : ∃ m, k - i = m + 1 := ⟨k - i - 1, by omega⟩
          rw [hm, List.take_succ_cons]
          unfold vbN
          rw [if_pos (by omega), show (u * 128 + (c % 128).toNat) / 128 = u by omega, ← ht, show k - (i + 1) = m by omega]
          congr 1
          omega
        · rw [Nat.pow_succ]; omega
      · rename_i hc2
        split at h
        · cases h
        · rename_i h0
          simp only [Option.some.injEq, Prod.mk.injEq] at h
          obtain ⟨rfl, rfl⟩ := h
          refine ⟨c.toNat, ?_, by omega, by simp, ?_, ?_, fun hi => by omega⟩
          · rw [show (c.toNat : Int) = c by omega]
          · rw [show i + 1 - i = 0 + 1 by omega, List.take_succ_cons, List.take_zero]
            cases f with
            | zero => simp [vbN]; omega
            | succ f => unfold vbN; rw [if_neg (by omega)]; simp; omega
          · cases f with
            | zero => simp; omega
            | succ f =>
              have : 0 < 128 ^ f := Nat.pow_pos (by omega)
              rw [Nat.pow_succ]; omega
theorem vb_dec {b : List Int} {v : Int} {k : Nat} (hb : ∀ x ∈ b, 0 ≤ x ∧ x ≤ 255) (h : dec 0 0 b = some (v, k)) : 0 ≤ v ∧ v < 18446744073709551616 ∧ 0 < k ∧ k ≤ b.length ∧ b.take k = vb v := by
  obtain ⟨u, e, hik, hkl, ht, hu, _⟩ := vbN_dec 9 0 0 v b k rfl hb h
  have hv : v = (u : Int) := by rw [e, Int.pow_zero, Int.mul_one, Int.zero_add]
  subst hv
  refine ⟨by omega, by omega, hik, by omega, ?_⟩
  unfold vb
  rw [Int.toNat_natCast, ← ht]
  simp
theorem vb_pos (u : Int) : 0 < (vb u).length := vbN_pos _ _
/-- Some integers are read. -/
def decs : Nat → List Int → Option (List Int × List Int)
  | 0, b => some ([], b)
  | n + 1, b => match dec 0 0 b with
    | none => none
    | some (u, k) => match decs n (b.drop k) with
      | none => none
      | some (l, r) => some (unzz u :: l, r)
def body (l : List Int) : List Int := (l.map fun n => vb (zz n)).flatten
def enc (l : List Int) : List Int := vb (zz (l.length : Int)) ++ body l
def i64 (n : Int) : Prop := -9223372036854775808 ≤ n ∧ n ≤ 9223372036854775807
theorem decs_body : ∀ (l r : List Int), (∀ n ∈ l, i64 n) → decs l.length (body l ++ r) = some (l, r)
  | [], r, _ => rfl
  | n :: l, r, h => by
    have hn := h n (by simp)
    have hz := zz_bd hn.1 hn.2
    have e : body (n :: l) = vb (zz n) ++ body l := rfl
    rw [e, List.append_assoc]
    show (match dec 0 0 (vb (zz n) ++ (body l ++ r)) with | none => none | some (u, k) => match decs l.length ((vb (zz n) ++ (body l ++ r)).drop k) with | none => none | some (l', r') => some (unzz u :: l', r')) = _
    rw [dec_vb hz.1 hz.2]
    simp only
    rw [List.drop_left, decs_body l r (fun x hx => h x (by simp [hx])), unzz_zz]
theorem body_decs : ∀ (n : Nat) (b l r : List Int), (∀ x ∈ b, 0 ≤ x ∧ x ≤ 255) → decs n b = some (l, r) → l.length = n ∧ b = body l ++ r ∧ ∀ x ∈ l, i64 x
  | 0, b, l, r, hb, h => by
    simp only [decs, Option.some.injEq, Prod.mk.injEq] at h
    obtain ⟨rfl, rfl⟩ := h
    simp [body]
  | n + 1, b, l, r, hb, h => by
    unfold decs at h
    split at h
    · cases h
    · rename_i u k hd
      obtain ⟨h1, h2, h3, h4, h5⟩ := vb_dec hb hd
      split at h
      · cases h
      · rename_i l' r' hd2
        simp only [Option.some.injEq, Prod.mk.injEq] at h
        obtain ⟨rfl, rfl⟩ := h
        obtain ⟨e1, e2, e3⟩ := body_decs n (b.drop k) l' r' (fun x hx => hb x (List.mem_of_mem_drop hx)) hd2
        refine ⟨by simp [e1], ?_, fun x hx => ?_⟩
        · show b = (vb (zz (unzz u)) ++ body l') ++ r'
          rw [zz_unzz h1, ← h5, List.append_assoc, ← e2, List.take_append_drop]
        · rcases List.mem_cons.1 hx with rfl | hx
          · exact unzz_bd h1 h2
          · exact e3 x hx
/-- A list is read: none, if the bytes are those of no list. -/
def getL (b : List Int) : Option (List Int) := match dec 0 0 b with
  | none => none
  | some (u, k) => if unzz u < 0 ∨ 4000 < unzz u then none else match decs (unzz u).toNat (b.drop k) with
    | none => none
    | some (l, r) => if r = [] then some l else none
theorem getL_enc {l : List Int} (h : ∀ n ∈ l, i64 n) (hl : l.length ≤ 4000) (r : List Int) : getL (enc l ++ r) = if r = [] then some l else none := by
  unfold getL enc
  have hz := zz_bd (n := (l.length : Int)) (by omega) (by omega)
  rw [List.append_assoc, dec_vb hz.1 hz.2]
  simp only [unzz_zz]
  rw [if_neg (by omega), List.drop_left, Int.toNat_natCast, decs_body l r h]
theorem enc_getL {b l : List Int} (hb : ∀ x ∈ b, 0 ≤ x ∧ x ≤ 255) (h : getL b = some l) : enc l = b ∧ l.length ≤ 4000 ∧ ∀ x ∈ l, i64 x := by
  unfold getL at h
  split at h
  · cases h
  · rename_i u k hd
    obtain ⟨h1, h2, h3, h4, h5⟩ := vb_dec hb hd
    split at h
    · cases h
    · rename_i hn
      split at h
      · cases h
      · rename_i l' r' hd2
        split at h
        · rename_i hr
          obtain rfl := Option.some.inj h
          subst hr
          obtain ⟨e1, e2, e3⟩ := body_decs _ _ _ _ (fun x hx => hb x (List.mem_of_mem_drop hx)) hd2
          refine ⟨?_, by omega, e3⟩
          unfold enc
          rw [e1, show (((unzz u).toNat : Nat) : Int) = unzz u by omega, zz_unzz h1, ← h5]
          rw [List.append_nil] at e2
          rw [← e2, List.take_append_drop]
        · cases h
theorem vb_byte {u : Int} (h1 : 0 ≤ u) (h2 : u < 18446744073709551616) : ∀ x ∈ vb u, 0 ≤ x ∧ x ≤ 255 := vbN_byte 9 u.toNat (by omega)
theorem enc_byte {l : List Int} (h : ∀ n ∈ l, i64 n) (hl : l.length ≤ 4000) : ∀ x ∈ enc l, 0 ≤ x ∧ x ≤ 255 := by
  intro x hx
  rcases List.mem_append.1 hx with hx | hx
  · have hz := zz_bd (n := (l.length : Int)) (by omega) (by omega)
    exact vb_byte hz.1 hz.2 x hx
  · obtain ⟨m, hm, hx⟩ := List.mem_flatten.1 hx
    obtain ⟨n, hn, rfl⟩ := List.mem_map.1 hm
    have hn := h n hn
    have hz := zz_bd hn.1 hn.2
    exact vb_byte hz.1 hz.2 x hx
theorem vbN_le (f : Nat) : ∀ u, (vbN f u).length ≤ f + 1 := by
  induction f with
  | zero => intro u; simp [vbN]
  | succ f ih => intro u; unfold vbN; split; simp; exact ih _; simp
theorem vb_le (u : Int) : (vb u).length ≤ 10 := vbN_le 9 _
theorem body_le : ∀ l : List Int, (body l).length ≤ 10 * l.length
  | [] => by simp [body]
  | n :: l => by
    have e : body (n :: l) = vb (zz n) ++ body l := rfl
    have := vb_le (zz n)
    have := body_le l
    rw [e, List.length_append, List.length_cons]; omega
theorem enc_le (l : List Int) : (enc l).length ≤ 10 * l.length + 10 := by
  unfold enc
  have := vb_le (zz (l.length : Int))
  have := body_le l
  rw [List.length_append]; omega
theorem enc_pos (l : List Int) : 0 < (enc l).length := by unfold enc; have := vb_pos (zz (l.length : Int)); rw [List.length_append]; omega
end Go.Codec
namespace Go.Codec
open Go
theorem wraps_u64_64 (n : Int) (h₀ : 0 ≤ n) (h₁ : n < 2 ^ 64) : IntKind.u64.wrap n = n := by rw [IntKind.wrap_u64]; omega
theorem bits_or_comm (k : IntKind) (x y : Int) : bits .or k x y = bits .or k y x := by simp only [bits, BitVec.or_comm]
theorem bits_and_comm (k : IntKind) (x y : Int) : bits .and k x y = bits .and k y x := by simp only [bits, BitVec.and_comm]
theorem bits_xor_comm (k : IntKind) (x y : Int) : bits .xor k x y = bits .xor k y x := by simp only [bits, BitVec.xor_comm]
theorem u8_and127 {x : Int} (h₀ : 0 ≤ x) (h₁ : x < 256) : bits .and .u8 x 127 = x % 128 := bits_mask .u8 8 (by decide) wraps_u8 7 (by decide) x h₀ h₁
theorem u64_and1 {x : Int} (h₀ : 0 ≤ x) (h₁ : x < 18446744073709551616) : bits .and .u64 x 1 = x % 2 := bits_mask .u64 64 (by decide) wraps_u64_64 1 (by decide) x h₀ h₁
theorem or_at (n : Nat) (u c : Int) (hn : n ≤ 64) (h0 : 0 ≤ u) (h1 : u < 2 ^ n) (hc : 0 ≤ c) (hb : c * 2 ^ n < 18446744073709551616) (hu : (2 : Int) ^ n ≤ 2 ^ 64) : bits .or .u64 u (IntKind.u64.wrap (c * 2 ^ n)) = u + c * 2 ^ n := by
  have hp : (0 : Int) ≤ 2 ^ n := Int.pow_nonneg (by decide)
  have hm : 0 ≤ c * 2 ^ n := Int.mul_nonneg hc hp
  rw [wraps_u64_64 _ hm hb, bits_or_comm, bits_join .u64 64 (by decide) wraps_u64_64 n _ u hm (Int.mul_emod_left c _) hb h0 h1 (Int.lt_of_lt_of_le h1 hu), Int.add_comm]
theorem or7 {i : Nat} {u c : Int} (h0 : 0 ≤ u) (h1 : u < 128 ^ i) (hc : 0 ≤ c) (hi : (i ≤ 8 ∧ c < 128) ∨ (i ≤ 9 ∧ c ≤ 1)) :
    bits .or .u64 u (IntKind.u64.wrap (c * 2 ^ (7 * i))) = u + c * 128 ^ i := by
  have e : (128 : Int) ^ i = 2 ^ (7 * i) := by rw [Int.pow_mul]; rfl
  rw [e] at h1 ⊢
  have hi' : i = 0 ∨ i = 1 ∨ i = 2 ∨ i = 3 ∨ i = 4 ∨ i = 5 ∨ i = 6 ∨ i = 7 ∨ i = 8 ∨ (i = 9 ∧ c ≤ 1) := by omega
  have hc' : c < 128 := by omega
  rcases hi' with rfl | rfl | rfl | rfl | rfl | rfl | rfl | rfl | rfl | ⟨rfl, hc1⟩ <;>
    exact or_at _ u c (by omega) h0 h1 hc (by omega) (by decide)
theorem or7_bd {i : Nat} {u c : Int} (h0 : 0 ≤ u) (h1 : u < 128 ^ i) (hc : 0 ≤ c) (h : c < 128) : 0 ≤ u + c * 128 ^ i ∧ u + c * 128 ^ i < 128 ^ (i + 1) := by
  have hp : (0 : Int) < 128 ^ i := Int.pow_pos (by decide)
  have h2 := Int.mul_nonneg hc (Int.le_of_lt hp)
  refine ⟨by omega, ?_⟩
  rw [Int.pow_succ]
  have h3 : c * 128 ^ i ≤ 127 * 128 ^ i := Int.mul_le_mul_of_nonneg_right (by omega) (Int.le_of_lt hp)
  omega
theorem i64_xm1 {a : Int} (h0 : 0 ≤ a) (h1 : a < 9223372036854775808) : bits .xor .i64 a (-1) = -1 - a := by
  obtain ⟨n, rfl⟩ := Int.eq_ofNat_of_zero_le h0
  rw [bits_xor_comm]; exact i64_not n (by omega)
theorem i64_x0 {a : Int} (h0 : 0 ≤ a) (h1 : a < 9223372036854775808) : bits .xor .i64 a 0 = a := by
  obtain ⟨n, rfl⟩ := Int.eq_ofNat_of_zero_le h0
  show IntKind.i64.wrap ((BitVec.ofInt 64 (n : Int) ^^^ BitVec.ofInt 64 0).toNat : Int) = _
  have h0 : BitVec.ofInt 64 0 = 0#64 := by decide
  rw [h0, BitVec.xor_zero, BitVec.ofInt_natCast, BitVec.toNat_ofNat, Nat.mod_eq_of_lt (by omega), IntKind.wrap_i64]
  omega
theorem unzz_bits {u : Int} (h0 : 0 ≤ u) (h1 : u < 18446744073709551616) : bits .xor .i64 (u / 2) (-(u % 2)) = unzz u := by
  unfold unzz
  rcases Int.emod_two_eq u with h | h
  · rw [h, if_neg (by decide)]; exact i64_x0 (by omega) (by omega)
  · rw [h, if_pos rfl]; exact (i64_xm1 (by omega) (by omega)).trans (by omega)
theorem unzz_walk {u : Int} (h0 : 0 ≤ u) (h1 : u < 18446744073709551616) : bits .xor .i64 (Go.RowKit.wrap64 (u / 2)) (Go.RowKit.wrap64 (-Go.RowKit.wrap64 (bits .and .u64 u 1))) = unzz u := by
  rw [u64_and1 h0 h1]
  have e1 : Go.RowKit.wrap64 (u / 2) = u / 2 := by unfold Go.RowKit.wrap64; omega
  have e2 : Go.RowKit.wrap64 (u % 2) = u % 2 := by unfold Go.RowKit.wrap64; omega
  have e3 : Go.RowKit.wrap64 (-(u % 2)) = -(u % 2) := by unfold Go.RowKit.wrap64; omega
  rw [e1, e2, e3]; exact unzz_bits h0 h1
/-- What number makes. -/
theorem zz_bits {n : Int} (h1 : -9223372036854775808 ≤ n) (h2 : n ≤ 9223372036854775807) :
    bits .xor .u64 (IntKind.u64.wrap ((IntKind.u64.wrap n) * 2)) (IntKind.u64.wrap (n / 9223372036854775808)) = zz n := by
  unfold zz
  split
  · rename_i hn
    have e1 : IntKind.u64.wrap ((IntKind.u64.wrap n) * 2) = ((2 * n + 18446744073709551616).toNat : Int) := by simp only [IntKind.wrap_u64]; omega
    have e2 : IntKind.u64.wrap (n / 9223372036854775808) = ((18446744073709551615 : Nat) : Int) := by rw [IntKind.wrap_u64]; omega
    rw [e1, e2, bits_xor_u64_nat _ _ (by omega) (by omega)]
    have h3 : (2 * n + 18446744073709551616).toNat ^^^ 18446744073709551615 = 18446744073709551615 - (2 * n + 18446744073709551616).toNat := by
      have hlt : (2 * n + 18446744073709551616).toNat < 2 ^ 64 := by omega
      generalize (2 * n + 18446744073709551616).toNat = m at hlt
      have := BitVec.toNat_not (x := BitVec.ofNat 64 m)
      rw [← BitVec.xor_allOnes, BitVec.toNat_xor, BitVec.toNat_ofNat, Nat.mod_eq_of_lt hlt] at this
      exact this
    rw [h3]; omega
  · rename_i hn
    have e1 : IntKind.u64.wrap ((IntKind.u64.wrap n) * 2) = ((2 * n).toNat : Int) := by simp only [IntKind.wrap_u64]; omega
    have e2 : IntKind.u64.wrap (n / 9223372036854775808) = ((0 : Nat) : Int) := by rw [IntKind.wrap_u64]; omega
    rw [e1, e2, bits_xor_u64_nat _ _ (by omega) (by omega), Nat.xor_zero]; omega
end Go.Codec
