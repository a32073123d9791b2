import Derived.Test.YtpggngomdemdgaaHPure10
set_option linter.unusedVariables false
set_option linter.unusedSimpArgs false
namespace Go.Proofs.Ytpggngomdemdgaa.P
open Go.RowKit Go.Proofs.YtpggngomdemdgaaW.PrintWords Go.Proofs.YtpggngomdemdgaaW.PrintMore Go.Codec
theorem rd_get {l : List Int} {i : Nat} (h : i < l.length) : rd l (i : Int) = l[i] := by simp [rd, List.getD_eq_getElem?_getD, List.getElem?_eq_getElem h]
/-- What read answers to what dec says. -/
def ans : Option (Int × Nat) → Int × Int
  | none => (0, 0)
  | some (u, k) => (unzz u, (k : Int))
theorem read_j3 {u : Int} {i : Nat} (h0 : 0 ≤ u) (h1 : u < 18446744073709551616) (hi : i ≤ 9) : ∀ q, q = false → Ev (fun k => formeref05_read.j3 k u (i : Int) q) (unzz u, ((i + 1 : Nat) : Int)) := fun q hq => by
  have e1 : Int.tmod u 2 = u % 2 := Int.tmod_eq_emod_of_nonneg h0
  have e2 : IntKind.u64.wrap (Int.tdiv u 2) = u / 2 := by rw [Int.tdiv_eq_ediv_of_nonneg h0, IntKind.wrap_u64]; omega
  have e3 : wrap64 (u / 2) = u / 2 := EvT.w64 (by omega) (by omega)
  have e4 : wrap64 ((i : Int) + 1) = ((i + 1 : Nat) : Int) := EvT.w64 (by omega) (by omega)
  refine Ev.step (fun k => rfl) (EvT.ifn (by rw [hq]; decide) ?_)
  rw [e1, e2, e3, e4]
  unfold unzz
  by_cases h : u % 2 = 1
  · rw [if_pos h, if_pos h, show wrap64 (wrap64 (-(u / 2)) - 1) = -(u / 2) - 1 by rw [EvT.w64 (x := -(u / 2)) (by omega) (by omega), EvT.w64 (by omega) (by omega)]]
    exact Ev.now _
  · rw [if_neg h, if_neg h]
    exact Ev.now _
theorem read_loop : ∀ (d i : Nat) (b : List Int) (u : Int), i + d = b.length → (∀ x ∈ b, 0 ≤ x ∧ x ≤ 255) → 0 ≤ u → u < 128 ^ i → i ≤ 10 → Ev (fun k => formeref05_read.l0 k b u (i : Int)) (ans (dec i u (b.drop i)))
  | 0, i, b, u, h, hb, h0, h1, hi => by
    have hJ : ∀ q, q = false → Ev (fun k => formeref05_read.j1 k b u (i : Int) q) (0, 0) := fun q hq => Ev.step (fun k => rfl) (EvT.ifn (by rw [hq]; decide) (Ev.now _))
    rw [List.drop_of_length_le (by omega)]
    exact Ev.step (fun k => rfl) (EvT.ifn (by omega) (hJ _ rfl))
  | d + 1, i, b, u, h, hb, h0, h1, hi => by
    have hil : i < b.length := by omega
    have hd : b.drop i = b[i] :: b.drop (i + 1) := List.drop_eq_getElem_cons hil
    have hr : rd b (i : Int) = b[i] := rd_get hil
    have hx := hb _ (List.getElem_mem hil)
    have ih := fun u' => read_loop d (i + 1) b u' (by omega) hb
    rw [hd]
    clear hd
    generalize b[i] = c at hr hx
    refine Ev.step (fun k => rfl) (EvT.ifp (by omega) ?_)
    by_cases h10 : i < 10
    · have e7 : IntKind.u64.wrap (7 * (IntKind.u64.wrap (i : Int))) = ((7 * i : Nat) : Int) := by simp only [IntKind.wrap_u64]; omega
      have ec : IntKind.u64.wrap (Int.tmod c 128) = c % 128 := by rw [Int.tmod_eq_emod_of_nonneg hx.1, IntKind.wrap_u64]; omega
      have hJ2 : ∀ q, q = decide (i = 9 ∧ 1 < c) → Ev (fun k => formeref05_read.j2 k b u (i : Int) q) (ans (dec i u (c :: b.drop (i + 1)))) := fun q hq => by
        by_cases hn : i = 9 ∧ 1 < c
        · have e : dec i u (c :: b.drop (i + 1)) = none := by unfold dec; rw [if_pos (Or.inl hn)]
          rw [e]
          exact Ev.step (fun k => rfl) (EvT.ifp (by rw [hq, decide_eq_true hn]) (Ev.now _))
        · have eo : bits .or .u64 u (shl .u64 (IntKind.u64.wrap (Int.tmod c 128)) (IntKind.u64.wrap (7 * (IntKind.u64.wrap (i : Int))))) = u + (c % 128) * 128 ^ i := by
            unfold shl
            rw [ec, e7, Int.toNat_natCast, show min (7 * i) IntKind.u64.bits = 7 * i from Nat.min_eq_left (by show _ ≤ 64; omega)]
            exact or7 h0 h1 (by omega) (by omega)
          obtain ⟨b0, b1⟩ := or7_bd (i := i) h0 h1 (show 0 ≤ c % 128 by omega) (show c % 128 < 128 by omega)
          have hn2 : ¬ ((i = 9 ∧ 1 < c) ∨ 9 < i) := by omega
          refine Ev.step (fun k => rfl) (EvT.ifn (by rw [hq, decide_eq_false hn]; decide) (EvT.ifp (by omega) (EvT.ifp (by omega) (EvT.ifp (by rw [e7]; omega) ?_))))
          rw [hr, eo]
          by_cases hc : 127 < c
          · have e : dec i u (c :: b.drop (i + 1)) = dec (i + 1) (u + (c % 128) * 128 ^ i) (b.drop (i + 1)) := by
              conv => lhs; unfold dec
              rw [if_neg hn2, if_pos hc]
            rw [e]
            refine EvT.ifp (by omega) ?_
            rw [show wrap64 ((i : Int) + 1) = ((i + 1 : Nat) : Int) from EvT.w64 (by omega) (by omega)]
            exact ih _ b0 b1 (by omega)
          · refine EvT.ifn (by omega) ?_
            have ecc : c % 128 = c := by omega
            rw [ecc] at b0 b1 ⊢
            have hbd : u + c * 128 ^ i < 18446744073709551616 := by
              by_cases h9 : i = 9
              · subst h9
                have : c = 0 ∨ c = 1 := by omega
                have e9 : (128 : Int) ^ 9 = 9223372036854775808 := by decide
                rw [e9] at h1 ⊢
                rcases this with rfl | rfl <;> omega
              · have : (128 : Int) ^ (i + 1) ≤ 128 ^ 9 := by
                  have := Nat.pow_le_pow_right (show 0 < 128 by decide) (show i + 1 ≤ 9 by omega)
                  exact_mod_cast this
                have e9 : (128 : Int) ^ 9 = 9223372036854775808 := by decide
                omega
            by_cases hz : c = 0 ∧ 0 < i
            · have e : dec i u (c :: b.drop (i + 1)) = none := by unfold dec; rw [if_neg hn2, if_neg hc, if_pos hz]
              rw [e]
              have hJ3 : ∀ q, q = true → Ev (fun k => formeref05_read.j3 k (u + c * 128 ^ i) (i : Int) q) (0, 0) := fun q hq => Ev.step (fun k => rfl) (EvT.ifp hq (Ev.now _))
              exact EvT.ifp (by omega) (hJ3 _ (by rw [hz.1]; rfl))
            · have e : dec i u (c :: b.drop (i + 1)) = some (u + c * 128 ^ i, i + 1) := by unfold dec; rw [if_neg hn2, if_neg hc, if_neg hz]
              rw [e]
              have h3 := read_j3 (i := i) b0 hbd (by omega)
              by_cases hp : 0 < i
              · refine EvT.ifp (by omega) (h3 _ (beq_eq_false_iff_ne.2 (fun e => hz ⟨e, hp⟩)))
              · exact EvT.ifn (by omega) (h3 _ rfl)
      have hJ1 : ∀ q, q = true → Ev (fun k => formeref05_read.j1 k b u (i : Int) q) (ans (dec i u (c :: b.drop (i + 1)))) := fun q hq => by
        refine Ev.step (fun k => rfl) (EvT.ifp hq ?_)
        by_cases h9 : i = 9
        · refine EvT.ifp (by omega) (EvT.ifp (by omega) (EvT.ifp (by omega) (hJ2 _ ?_)))
          rw [hr]
          exact Bool.eq_iff_iff.2 (by simp [h9])
        · exact EvT.ifn (by omega) (hJ2 _ (by simp [h9]))
      exact hJ1 _ (decide_eq_true (by omega))
    · have hJ : ∀ q, q = false → Ev (fun k => formeref05_read.j1 k b u (i : Int) q) (0, 0) := fun q hq => Ev.step (fun k => rfl) (EvT.ifn (by rw [hq]; decide) (Ev.now _))
      have e : dec i u (c :: b.drop (i + 1)) = none := by unfold dec; rw [if_pos (Or.inr (by omega))]
      rw [e]
      exact hJ _ (decide_eq_false (by omega))
theorem rread_ev {b : List Int} (hb : ∀ x ∈ b, 0 ≤ x ∧ x ≤ 255) : Ev (fun k => formeref05_read.f k b) (ans (dec 0 0 b)) := by
  have := read_loop b.length 0 b 0 (by omega) hb (by decide) (by decide) (by decide)
  rwa [List.drop_zero] at this
theorem dec_pos {b : List Int} {v : Int} {k : Nat} (hb : ∀ x ∈ b, 0 ≤ x ∧ x ≤ 255) (h : dec 0 0 b = some (v, k)) : 0 < k ∧ k ≤ b.length := by
  have := vb_dec hb h
  exact ⟨this.2.2.1, this.2.2.2.1⟩
theorem RGet_loop {b : List Int} (hb : ∀ x ∈ b, 0 ≤ x ∧ x ≤ 255) (hbl : b.length ≤ 1000000) {n : Nat} (hn : n ≤ 4000) : ∀ (d i at_ : Nat) (acc : List Int), i + d = n → at_ ≤ b.length → acc.length = i →
    Ev (fun k => formeref05_Get.l0 k b (n : Int) (at_ : Int) acc (i : Int)) (match decs d (b.drop at_) with | none => ([], 7) | some (l, r) => if r = [] then (acc ++ l, 0) else ([], 7))
  | 0, i, at_, acc, h, ha, hl => by
    refine Ev.step (fun k => rfl) (EvT.ifn (by omega) ?_)
    show Ev _ (if b.drop at_ = [] then (acc ++ [], 0) else ([], 7))
    by_cases e : at_ = b.length
    · have hd : b.drop at_ = [] := List.drop_of_length_le (by omega)
      rw [if_pos hd, List.append_nil]
      exact EvT.ifp (by omega) (Ev.now _)
    · have hd : ¬ b.drop at_ = [] := fun h => by have := congrArg List.length h; rw [List.length_drop, List.length_nil] at this; omega
      rw [if_neg hd]
      exact EvT.ifn (by omega) (Ev.now _)
  | d + 1, i, at_, acc, h, ha, hl => by
    have hbd : ∀ x ∈ b.drop at_, 0 ≤ x ∧ x ≤ 255 := fun x hx => hb x (List.drop_subset _ _ hx)
    have hlen : (b.drop at_).length = b.length - at_ := List.length_drop
    have hr := rread_ev hbd
    refine Ev.step (fun k => rfl) (EvT.ifp (by omega) (EvT.ifp (by omega) (EvT.ifp (by omega) ?_)))
    rw [Int.toNat_natCast]
    unfold decs
    cases e : dec 0 0 (b.drop at_) with
    | none =>
      rw [e] at hr
      exact Ev.bind hr (EvT.ifp rfl (Ev.now _))
    | some p =>
      obtain ⟨u, q⟩ := p
      rw [e] at hr
      obtain ⟨hq0, hq1⟩ := dec_pos hbd e
      refine Ev.bind hr (EvT.ifn (by show ¬ (q : Int) = 0; omega) (EvT.ifp (by omega) ?_))
      show Ev (fun k => formeref05_Get.l0 k b (n : Int) (wrap64 ((at_ : Int) + (q : Int))) (acc ++ [unzz u]) (wrap64 ((i : Int) + 1))) _
      rw [show wrap64 ((at_ : Int) + (q : Int)) = ((at_ + q : Nat) : Int) from (EvT.w64 (by omega) (by omega)).trans (by omega), show wrap64 ((i : Int) + 1) = ((i + 1 : Nat) : Int) from EvT.w64 (by omega) (by omega)]
      have := RGet_loop hb hbl hn d (i + 1) (at_ + q) (acc ++ [unzz u]) (by omega) (by omega) (by simp [hl])
      simp only [List.drop_drop]
      cases e2 : decs d (b.drop (at_ + q)) with
      | none => rw [e2] at this; exact this
      | some p2 =>
        obtain ⟨l, r⟩ := p2
        rw [e2] at this
        simp only [List.append_assoc, List.singleton_append] at this
        exact this
theorem RGet_ev {b : List Int} (hb : ∀ x ∈ b, 0 ≤ x ∧ x ≤ 255) (hbl : b.length ≤ 1000000) : Ev (fun k => formeref05_Get.f k b) (match getL b with | some l => (l, 0) | none => ([], 7)) := by
  have hr := rread_ev hb
  have hJt : ∀ (n a : Int) q, q = true → Ev (fun k => formeref05_Get.j0 k b n a q) ([], 7) := fun n a q hq => Ev.step (fun k => rfl) (EvT.ifp hq (Ev.now _))
  unfold formeref05_Get.f getL
  cases e : dec 0 0 b with
  | none =>
    rw [e] at hr
    exact Ev.bind hr (EvT.ifp rfl (hJt _ _ _ rfl))
  | some p =>
    obtain ⟨u, q⟩ := p
    rw [e] at hr
    obtain ⟨hq0, hq1⟩ := dec_pos hb e
    refine Ev.bind hr (EvT.ifn (by show ¬ (q : Int) = 0; omega) ?_)
    show Ev (fun k => if unzz u < 0 then formeref05_Get.j0 k b (unzz u) (q : Int) true else formeref05_Get.j0 k b (unzz u) (q : Int) (decide (unzz u > 4000))) _
    simp only
    by_cases h0 : unzz u < 0
    · have e : unzz u < 0 ∨ 4000 < unzz u := Or.inl h0
      rw [if_pos e]
      exact EvT.ifp h0 (hJt _ _ _ rfl)
    · by_cases h4 : 4000 < unzz u
      · have e : unzz u < 0 ∨ 4000 < unzz u := Or.inr h4
        rw [if_pos e]
        exact EvT.ifn h0 (hJt _ _ _ (decide_eq_true h4))
      · have e : ¬ (unzz u < 0 ∨ 4000 < unzz u) := by omega
        rw [if_neg e]
        have hJ : ∀ q', q' = false → Ev (fun k => formeref05_Get.j0 k b (unzz u) (q : Int) q') (match decs (unzz u).toNat (b.drop q) with | none => ([], 7) | some (l, r) => if r = [] then (l, 0) else ([], 7)) := fun q' hq' => by
          refine Ev.step (fun k => rfl) (EvT.ifn (by rw [hq']; decide) ?_)
          have := RGet_loop hb hbl (n := (unzz u).toNat) (by omega) (unzz u).toNat 0 q [] (by omega) (by omega) rfl
          rw [show (((unzz u).toNat : Nat) : Int) = unzz u by omega] at this
          simp only [List.nil_append] at this
          exact this
        refine EvT.ifn h0 ?_
        have h2 := hJ _ (decide_eq_false h4)
        cases e2 : decs (unzz u).toNat (b.drop q) with
        | none => rw [e2] at h2; exact h2
        | some p2 =>
          obtain ⟨l, r⟩ := p2
          rw [e2] at h2
          by_cases hrr : r = []
          · simp only [if_pos hrr] at h2 ⊢; exact h2
          · simp only [if_neg hrr] at h2 ⊢; exact h2
end Go.Proofs.Ytpggngomdemdgaa.P
