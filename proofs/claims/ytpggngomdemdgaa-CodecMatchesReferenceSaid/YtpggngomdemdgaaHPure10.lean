import Derived.Test.YtpggngomdemdgaaPx4
import Derived.Test.YtpggngomdemdgaaPx6
import Derived.Test.YtpggngomdemdgaaPx3
import Derived.Test.YtpggngomdemdgaaPx2
import Derived.Test.YtpggngomdemdgaaHPure9
set_option linter.unusedVariables false
set_option linter.unusedSimpArgs false
namespace Go.Proofs.Ytpggngomdemdgaa.P
open Go.RowKit Go.Proofs.YtpggngomdemdgaaW.PrintWords Go.Proofs.YtpggngomdemdgaaW.PrintMore Go.Codec
/-! The reference implementation computes the same. -/
theorem tdiv_nat (u : Nat) (c : Nat) : Int.tdiv (u : Int) (c : Int) = ((u / c : Nat) : Int) := by rw [Int.tdiv_eq_ediv_of_nonneg (Int.natCast_nonneg _)]; rfl
theorem tmod_nat (u : Nat) (c : Nat) : Int.tmod (u : Int) (c : Int) = ((u % c : Nat) : Int) := by rw [Int.tmod_eq_emod_of_nonneg (Int.natCast_nonneg _)]; rfl
theorem one_loop : ∀ (f u : Nat) (acc : List Int), acc.length + f < 100000 → u < 2 * 128 ^ f → u < 18446744073709551616 → Ev (fun k => formeref05_one.l0 k (u : Int) acc) (acc ++ vbN f u)
  | 0, u, acc, ha, hu, hb => by
    have hu' : u < 2 := by simpa using hu
    refine Ev.step (fun k => rfl) (EvT.ifn (by omega) (EvT.ifp (by omega) ?_))
    rw [show (u : Int) % 256 = (u : Int) by omega]
    exact Ev.now _
  | f + 1, u, acc, ha, hu, hb => by
    unfold vbN
    by_cases h : 127 < u
    · refine Ev.step (fun k => rfl) (EvT.ifp (by omega) (EvT.ifp (by omega) ?_))
      have e1 : IntKind.u64.wrap (Int.tdiv (u : Int) 128) = ((u / 128 : Nat) : Int) := by rw [show Int.tdiv (u : Int) 128 = ((u / 128 : Nat) : Int) from tdiv_nat u 128, IntKind.wrap_u64]; omega
      have e2 : (Int.tmod (u : Int) 128 + 128) % 256 = ((u % 128 + 128 : Nat) : Int) := by rw [show Int.tmod (u : Int) 128 = ((u % 128 : Nat) : Int) from tmod_nat u 128]; omega
      rw [e1, e2, if_pos h]
      have := one_loop f (u / 128) (acc ++ [((u % 128 + 128 : Nat) : Int)]) (by rw [List.length_append]; simp; omega) (Nat.div_lt_of_lt_mul (by rw [Nat.pow_succ] at hu; omega)) (by omega)
      rwa [List.append_assoc] at this
    · refine Ev.step (fun k => rfl) (EvT.ifn (by omega) (EvT.ifp (by omega) ?_))
      rw [if_neg h, show (u : Int) % 256 = (u : Int) by omega]
      exact Ev.now _
theorem one_ev {n : Int} (hn : i64 n) : Ev (fun k => formeref05_one.f k n) (vb (zz n)) := by
  have hb := zz_bd hn.1 hn.2
  have hm : zz n = ((zz n).toNat : Int) := by omega
  have hl := one_loop 9 (zz n).toNat [] (by simp) (show (zz n).toNat < 18446744073709551616 by omega) (by omega)
  rw [← hm] at hl
  have hj : ∀ x, x = zz n → Ev (fun k => formeref05_one.j0 k x) (vb (zz n)) := fun x hx => by rw [hx]; exact Ev.step (fun k => rfl) hl
  unfold formeref05_one.f
  refine EvT.ite (fun h => hj _ ?_) (fun h => hj _ ?_)
  · unfold zz wrap64; rw [if_pos h]; simp only [IntKind.wrap_u64]; have := hn.1; omega
  · unfold zz; rw [if_neg h]; simp only [IntKind.wrap_u64]; have := hn.2; omega
theorem RPut_loop : ∀ (d : Nat) (l acc : List Int) (i : Nat), i + d = l.length → l.length < 5000 → acc.length ≤ 10 * i + 10 → (∀ x ∈ l, i64 x) → Ev (fun k => formeref05_Put.l0 k l acc (i : Int)) (acc ++ body (l.drop i), 0)
  | 0, l, acc, i, h, hl, ha, hi => by
    rw [List.drop_of_length_le (by omega)]
    refine Ev.step (fun k => rfl) (EvT.ifn (by omega) ?_)
    simp only [body, List.map_nil, List.flatten_nil, List.append_nil]
    exact Ev.now _
  | d + 1, l, acc, i, h, hl, ha, hi => by
    have hil : i < l.length := by omega
    have hd : l.drop i = l[i] :: l.drop (i + 1) := List.drop_eq_getElem_cons hil
    have hr : rd l (i : Int) = l[i] := by simp [rd, List.getD_eq_getElem?_getD, List.getElem?_eq_getElem hil]
    have hv : (vb (zz l[i])).length ≤ 10 := vbN_len 9 _
    refine Ev.step (fun k => rfl) (EvT.ifp (by omega) (EvT.ifp (by omega) ?_))
    rw [hr]
    refine Ev.bind (one_ev (hi _ (List.getElem_mem hil))) (EvT.ifp (by omega) ?_)
    rw [show wrap64 ((i : Int) + 1) = ((i + 1 : Nat) : Int) from EvT.w64 (by omega) (by omega)]
    have := RPut_loop d l (acc ++ vb (zz l[i])) (i + 1) (by omega) hl (by rw [List.length_append]; omega) hi
    rw [List.append_assoc] at this
    rw [hd, body_cons]; exact this
theorem RPut_ev {l : List Int} (hi : ∀ x ∈ l, i64 x) : Ev (fun k => formeref05_Put.f k l) (if 4000 < l.length then ([], 2) else (enc l, 0)) := by
  unfold formeref05_Put.f
  by_cases h : 4000 < l.length
  · rw [if_pos h]; exact EvT.ifp (by omega) (Ev.now _)
  · rw [if_neg h]
    have hv : (vb (zz (l.length : Int))).length ≤ 10 := vbN_len 9 _
    refine EvT.ifn (by omega) (Ev.bind (one_ev (n := (l.length : Int)) ⟨by omega, by omega⟩) ?_)
    have := RPut_loop l.length l (vb (zz (l.length : Int))) 0 (by omega) (by omega) (by omega) hi
    rwa [List.drop_zero] at this
theorem PutAll_ev {l : List Int} (hi : ∀ x ∈ l, i64 x) : Ev (fun k => codec_Put.f k l) (if 4000 < l.length then ([], 2) else (enc l, 0)) := ⟨5000, fun k hk => Put_f hi hk⟩
theorem RSum_loop : ∀ (d : Nat) (b : List Int) (h : Int) (i : Nat), i + d = b.length → b.length < 1000000000 → Ev (fun k => formeref04_Sum.l0 k b h (i : Int)) ((b.drop i).foldl fnvS h)
  | 0, b, h, i, hi, hb => by
    rw [List.drop_of_length_le (by omega)]
    exact Ev.step (fun k => rfl) (EvT.ifn (by omega) (Ev.now _))
  | d + 1, b, h, i, hi, hb => by
    have hil : i < b.length := by omega
    have hd : b.drop i = b[i] :: b.drop (i + 1) := List.drop_eq_getElem_cons hil
    have hr : rd b (i : Int) = b[i] := by simp [rd, List.getD_eq_getElem?_getD, List.getElem?_eq_getElem hil]
    refine Ev.step (fun k => rfl) (EvT.ifp (by omega) (EvT.ifp (by omega) ?_))
    rw [hr, show wrap64 ((i : Int) + 1) = ((i + 1 : Nat) : Int) from EvT.w64 (by omega) (by omega), hd]
    exact RSum_loop d b (fnvS h b[i]) (i + 1) (by omega) hb
theorem RSum_ev {b : List Int} (hb : b.length < 1000000000) : Ev (fun k => formeref04_Sum.f k b) (fnv b) := by
  have := RSum_loop b.length b 14695981039346656037 0 (by omega) hb
  rwa [List.drop_zero] at this
theorem RBytes_ev {r : Int} : Ev (fun k => formeref04_Bytes.f k r) (be8 r) := by
  have s : ∀ (i : Nat) (acc : List Int), acc.length = i → i < 8 → Ev (fun k => formeref04_Bytes.l0 k r (acc ++ [r / 2 ^ (56 - 8 * i) % 256]) ((i + 1 : Nat) : Int)) (be8 r) → Ev (fun k => formeref04_Bytes.l0 k r acc (i : Int)) (be8 r) := fun i acc ha hi h => by
    have e : IntKind.u64.wrap (56 - (IntKind.u64.wrap (8 * (IntKind.u64.wrap (i : Int))))) = ((56 - 8 * i : Nat) : Int) := by simp only [IntKind.wrap_u64]; omega
    refine Ev.step (fun k => rfl) (EvT.ifp (by omega) (EvT.ifp (by rw [e]; omega) (EvT.ifp (by omega) ?_)))
    rw [e, show wrap64 ((i : Int) + 1) = ((i + 1 : Nat) : Int) from EvT.w64 (by omega) (by omega)]
    unfold shr
    rw [Int.toNat_natCast, show min (56 - 8 * i) IntKind.u64.bits = 56 - 8 * i from Nat.min_eq_left (by show _ ≤ 64; omega)]
    exact h
  refine s 0 _ rfl (by decide) ?_
  refine s 1 _ rfl (by decide) ?_
  refine s 2 _ rfl (by decide) ?_
  refine s 3 _ rfl (by decide) ?_
  refine s 4 _ rfl (by decide) ?_
  refine s 5 _ rfl (by decide) ?_
  refine s 6 _ rfl (by decide) ?_
  refine s 7 _ rfl (by decide) ?_
  refine Ev.step (fun k => rfl) (EvT.ifn (by decide) ?_)
  have e : r / 2 ^ (56 - 8 * 7) = r := by simp
  rw [e]
  exact Ev.now _
theorem RFrame_ev {l : List Int} (hi : ∀ x ∈ l, i64 x) : Ev (fun k => formeref05_Frame.f k l) (if 4000 < l.length then ([], 2) else (frame l, 0)) := by
  have hp := RPut_ev hi
  unfold formeref05_Frame.f
  by_cases h : 4000 < l.length
  · rw [if_pos h] at hp ⊢
    exact Ev.bind hp (EvT.ifn (by decide) (Ev.now _))
  · rw [if_neg h] at hp ⊢
    have hle := enc_len l
    refine Ev.bind hp (EvT.ifp rfl (EvT.bindc rfl ?_))
    show Ev (fun k => if 3 + (enc l).length < 140737488355328 then _ else none) _
    refine EvT.ifp (by omega) (EvT.bindc rfl ?_)
    have e1 : (wrap64 (((enc l).length : Int) / 65536)) % 256 = ((enc l).length : Int) / 65536 % 256 := by rw [EvT.w64 (by omega) (by omega)]
    have e2 : (Int.tmod (wrap64 (((enc l).length : Int) / 256)) 256) % 256 = ((enc l).length : Int) / 256 % 256 := by
      rw [EvT.w64 (by omega) (by omega), Int.tmod_eq_emod_of_nonneg (by omega)]; omega
    show Ev (fun k => (formeref04_Sum.f k ([(wrap64 (((enc l).length : Int) / 65536)) % 256, (Int.tmod (wrap64 (((enc l).length : Int) / 256)) 256) % 256, ((enc l).length : Int) % 256] ++ enc l)).bind _) _
    rw [e1, e2]
    have hpk := pack_len (enc l)
    refine Ev.bind (RSum_ev (b := pack (enc l)) (by omega)) (Ev.bind RBytes_ev (EvT.ifp (by show (pack (enc l)).length + 8 < _; omega) (Ev.now _)))
theorem Frame_ev {l : List Int} (hi : ∀ x ∈ l, i64 x) : Ev (fun k => codec_Frame.f l) (if 4000 < l.length then ([], 2) else (frame l, 0)) := by
  unfold codec_Frame.f
  rw [if_pos (List.all_eq_true.2 fun x hx => by have := hi x hx; simpa [i64] using this)]
  by_cases h : 4000 < l.length
  · rw [if_pos h, if_pos h]; exact Ev.now _
  · rw [if_neg h, if_neg h]; exact Ev.now _
theorem SameBytes_ev {a b : List Int} (ha : ∀ x ∈ a, 0 ≤ x ∧ x ≤ 255) (hb : ∀ x ∈ b, 0 ≤ x ∧ x ≤ 255) : formeref05_SameBytes.f a b = some (decide (a = b)) := by
  have inj : ∀ (a b : List Int), (∀ x ∈ a, 0 ≤ x ∧ x ≤ 255) → (∀ x ∈ b, 0 ≤ x ∧ x ≤ 255) → (a.map fun n => UInt8.ofNat n.toNat) = (b.map fun n => UInt8.ofNat n.toNat) → a = b := by
    intro a
    induction a with
    | nil => intro b _ _ h; cases b with | nil => rfl | cons y b => cases h
    | cons x a ih =>
      intro b ha hb h
      cases b with
      | nil => cases h
      | cons y b =>
        rw [List.map_cons, List.map_cons, List.cons.injEq] at h
        have hx := ha x (by simp)
        have hy := hb y (by simp)
        have e := congrArg UInt8.toNat h.1
        rw [UInt8.toNat_ofNat_of_lt' (by show x.toNat < 256; omega), UInt8.toNat_ofNat_of_lt' (by show y.toNat < 256; omega)] at e
        rw [ih b (fun z hz => ha z (by simp [hz])) (fun z hz => hb z (by simp [hz])) h.2, show x = y by omega]
  unfold formeref05_SameBytes.f
  rw [ByteArray.toList_eq, ByteArray.toList_eq, strOfNums_data, strOfNums_data]
  by_cases h : a = b
  · subst h; simp
  · have : ¬ (a.map fun n => UInt8.ofNat n.toNat) = (b.map fun n => UInt8.ofNat n.toNat) := fun e => h (inj a b ha hb e)
    rw [decide_eq_false h]
    exact congrArg some (beq_eq_false_iff_ne.2 this)
end Go.Proofs.Ytpggngomdemdgaa.P
