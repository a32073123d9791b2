import Derived.Test.YtpggngomdemdgaaHPure11
set_option linter.unusedVariables false
set_option linter.unusedSimpArgs false
namespace Go.Proofs.Ytpggngomdemdgaa.P
open Go.RowKit Go.Proofs.YtpggngomdemdgaaW.PrintWords Go.Proofs.YtpggngomdemdgaaW.PrintMore Go.Codec
theorem rd_byte {b : List Int} (hb : ∀ x ∈ b, 0 ≤ x ∧ x ≤ 255) (i : Nat) : 0 ≤ rd b (i : Int) ∧ rd b (i : Int) ≤ 255 := by
  by_cases hi : i < b.length
  · rw [rd_get hi]; exact hb _ (List.getElem_mem hi)
  · simp [rd, List.getD_eq_getElem?_getD, List.getElem?_eq_none (show b.length ≤ i by omega)]
theorem RWhole_ev {b : List Int} (hb : ∀ x ∈ b, 0 ≤ x ∧ x ≤ 255) (hbl : b.length ≤ 1000000) : Ev (fun k => formeref05_whole.f k b) (whole b) := by
  have hn0 := n3_pos hb
  have e0 : wrap64 ((wrap64 ((wrap64 ((wrap64 (rd b 0)) * 65536)) + (wrap64 ((wrap64 (rd b 1)) * 256)))) + (wrap64 (rd b 2))) = n3 b := by
    have h0 := rd_byte hb 0
    have h1 := rd_byte hb 1
    have h2 := rd_byte hb 2
    rw [show ((0 : Nat) : Int) = 0 from rfl] at h0
    rw [show ((1 : Nat) : Int) = 1 from rfl] at h1
    rw [show ((2 : Nat) : Int) = 2 from rfl] at h2
    unfold n3 wrap64
    omega
  unfold formeref05_whole.f
  rw [e0]
  by_cases c1 : b.length < 11
  · have e : whole b = ([], 0) := by unfold whole; rw [if_pos c1]
    rw [e]
    exact EvT.ifp (by omega) (Ev.now _)
  by_cases c2 : (b.length : Int) < 3 + n3 b + 8
  · have e : whole b = ([], 0) := by unfold whole; rw [if_neg c1, if_pos c2]
    have w1 : n3 b < 9223372036854775797 ∨ ¬ n3 b < 9223372036854775797 := Decidable.em _
    have hn1 : n3 b ≤ 16777215 := by
      have h0 := rd_byte hb 0
      have h1 := rd_byte hb 1
      have h2 := rd_byte hb 2
      rw [show ((0 : Nat) : Int) = 0 from rfl] at h0
      rw [show ((1 : Nat) : Int) = 1 from rfl] at h1
      rw [show ((2 : Nat) : Int) = 2 from rfl] at h2
      unfold n3; omega
    rw [e]
    exact EvT.ifn (by omega) (EvT.ifp (by omega) (EvT.ifp (by omega) (EvT.ifp (by omega) (EvT.ifp (by rw [EvT.w64 (by omega) (by omega)]; omega) (Ev.now _)))))
  · have w1 : wrap64 (n3 b + 11) = n3 b + 11 := EvT.w64 (by omega) (by omega)
    have w2 : wrap64 (3 + n3 b) = 3 + n3 b := EvT.w64 (by omega) (by omega)
    have w3 : wrap64 (11 + n3 b) = 11 + n3 b := EvT.w64 (by omega) (by omega)
    rw [w1, w2, w3]
    obtain ⟨e, he⟩ : ∃ e : Nat, 3 + n3 b = (e : Int) := ⟨(3 + n3 b).toNat, by omega⟩
    have h11 : 11 + n3 b = ((e + 8 : Nat) : Int) := by omega
    have hbt : ∀ x ∈ b.take e, 0 ≤ x ∧ x ≤ 255 := fun x hx => hb x (List.take_subset _ _ hx)
    have hsl : (b.take (e + 8)).drop e = (b.drop e).take 8 := by rw [List.drop_take]; congr 1; omega
    refine EvT.ifn (by omega) (EvT.ifp (by omega) (EvT.ifp (by omega) (EvT.ifp (by omega) (EvT.ifn (by omega) (EvT.ifp (by omega) (EvT.ifp (by omega) (EvT.ifp (by omega) (EvT.ifp (by omega) ?_))))))))
    rw [h11, he, Int.toNat_natCast, Int.toNat_natCast, hsl]
    refine Ev.bind (RSum_ev (by rw [List.length_take]; omega)) (Ev.bind RBytes_ev (EvT.bindc (SameBytes_ev (fun x hx => hb x (List.drop_subset _ _ (List.take_subset _ _ hx))) (be8_byte _)) ?_))
    have hw : whole b = if be8 (fnv (b.take e)) ≠ (b.drop e).take 8 then ([], 0) else match getL ((b.take e).drop 3) with | none => ([], 0) | some l => (l, (e : Int) + 8) := by
      unfold whole
      rw [if_neg c1, if_neg c2, he, Int.toNat_natCast]
      cases getL ((b.take e).drop 3) <;> rfl
    by_cases c3 : (b.drop e).take 8 = be8 (fnv (b.take e))
    · have hne : ¬ be8 (fnv (b.take e)) ≠ (b.drop e).take 8 := fun h => h c3.symm
      rw [if_neg hne] at hw
      have hg := RGet_ev (b := (b.take e).drop 3) (fun x hx => hbt x (List.drop_subset _ _ hx)) (by rw [List.length_drop, List.length_take]; omega)
      refine EvT.ifp (decide_eq_true c3) (EvT.ifp (by omega) ?_)
      cases hgl : getL ((b.take e).drop 3) with
      | none =>
        rw [hgl] at hg hw
        rw [hw]
        exact Ev.bind hg (EvT.ifn (by decide) (Ev.now _))
      | some l =>
        rw [hgl] at hg hw
        rw [hw, show (e : Int) + 8 = n3 b + 11 by omega]
        exact Ev.bind hg (EvT.ifp rfl (Ev.now _))
    · have hne : be8 (fnv (b.take e)) ≠ (b.drop e).take 8 := fun h => c3 h.symm
      rw [hw, if_pos hne]
      exact EvT.ifn (by rw [decide_eq_false c3]; decide) (Ev.now _)
theorem RFrames_loop {b : List Int} (hb : ∀ x ∈ b, 0 ≤ x ∧ x ≤ 255) (hl : b.length ≤ 200000) : ∀ (f at_ : Nat) (acc : List (List Int)), at_ ≤ b.length → b.length - at_ < f → acc.length ≤ at_ →
    Ev (fun k => formeref05_Frames.l0 k b acc (at_ : Int)) (acc ++ (framesP f (b.drop at_)).1, (at_ : Int) + (framesP f (b.drop at_)).2, 0)
  | 0, at_, acc, h1, h2, h3 => by omega
  | f + 1, at_, acc, h1, h2, h3 => by
    have hbd : ∀ x ∈ b.drop at_, 0 ≤ x ∧ x ≤ 255 := fun x hx => hb x (List.drop_subset _ _ hx)
    have hlen : (b.drop at_).length = b.length - at_ := List.length_drop
    have hw := whole_bd hbd
    have hf := RWhole_ev hbd (by omega)
    refine Ev.step (fun k => rfl) (EvT.ifp (by omega) (EvT.ifp (by omega) ?_))
    rw [Int.toNat_natCast]
    refine Ev.bind hf (EvT.ite (fun h => ?_) (fun h => EvT.ifp (by omega) ?_))
    · unfold framesP
      rw [if_pos h]
      simp only [List.append_nil, Int.add_zero]
      exact Ev.now _
    · unfold framesP
      rw [if_neg h]
      have hw2 : 11 ≤ (whole (b.drop at_)).2 ∧ (whole (b.drop at_)).2 ≤ ((b.drop at_).length : Int) := by
        rcases hw with h' | h'
        · exact absurd h' h
        · exact h'
      obtain ⟨m, hm⟩ : ∃ m : Nat, (whole (b.drop at_)).2 = (m : Int) := ⟨(whole (b.drop at_)).2.toNat, by omega⟩
      rw [hm] at hw2 ⊢
      have hwr : wrap64 ((at_ : Int) + (m : Int)) = ((at_ + m : Nat) : Int) := by rw [EvT.w64 (by omega) (by omega)]; omega
      rw [hwr, Int.toNat_natCast, List.drop_drop]
      have := RFrames_loop hb hl f (at_ + m) (acc ++ [(whole (b.drop at_)).1]) (by omega) (by omega) (by simp; omega)
      have e : ((at_ + m : Nat) : Int) + (framesP f (b.drop (at_ + m))).2 = (at_ : Int) + ((m : Int) + (framesP f (b.drop (at_ + m))).2) := by omega
      rw [e, List.append_assoc] at this
      exact this
/-- Both read the same frames. -/
theorem frames_both {b : List Int} (hb : ∀ x ∈ b, 0 ≤ x ∧ x ≤ 255) : ∃ r : List (List Int) × Int × Int, Ev (fun k => codec_Frames.f k b) r ∧ Ev (fun k => formeref05_Frames.f k b) r ∧ r.1.length ≤ 1000000 ∧ ∀ x ∈ r.1, x.length ≤ 4000 := by
  by_cases h : b.length ≤ 200000
  · have h1 := Frames_ev hb h
    have h2 := RFrames_loop hb h (b.length + 1) 0 [] (by omega) (by omega) (by simp)
    rw [List.drop_zero, List.nil_append, show ((0 : Nat) : Int) + (framesP (b.length + 1) b).2 = (framesP (b.length + 1) b).2 by omega] at h2
    obtain ⟨f1, f2, _, _⟩ := framesP_facts (b.length + 1) b hb
    refine ⟨_, h1, ?_, by show (framesP (b.length + 1) b).1.length ≤ _; omega, f2⟩
    unfold formeref05_Frames.f
    exact EvT.ifn (by omega) h2
  · refine ⟨([], 0, 2), ?_, ?_, by decide, fun x hx => by cases hx⟩
    · unfold codec_Frames.f; exact EvT.ifp (by omega) (Ev.now _)
    · unfold formeref05_Frames.f; exact EvT.ifp (by omega) (Ev.now _)
theorem bt_get (s : ByteArray) {i : Nat} (h : i < (bytesOf s).length) : (bytesOf s)[i] = bt s (i : Int) := by
  have hs : i < s.size := by rwa [bytesOf_length] at h
  simp [bytesOf, bt, hs, ByteArray.getElem_eq_getElem_data]
theorem RText_loop (s : ByteArray) (hs : s.size ≤ 2000) : ∀ (d i : Nat), i + d = s.size → Ev (fun k => formeref05_Text.l0 k s ((s.size : Int) :: (bytesOf s).take i) (i : Int)) ((s.size : Int) :: bytesOf s, 0)
  | 0, i, h => by
    rw [List.take_of_length_le (by rw [bytesOf_length]; omega)]
    exact Ev.step (fun k => rfl) (EvT.ifn (by omega) (Ev.now _))
  | d + 1, i, h => by
    have hil : i < (bytesOf s).length := by rw [bytesOf_length]; omega
    have hr := bt_range s (i : Int)
    refine Ev.step (fun k => rfl) (EvT.ifp (by omega) (EvT.ifp (by omega) (EvT.ifp (by rw [List.length_cons, List.length_take]; omega) ?_)))
    rw [show wrap64 ((i : Int) + 1) = ((i + 1 : Nat) : Int) from EvT.w64 (by omega) (by omega), show wrap64 (bt s (i : Int)) = bt s (i : Int) from EvT.w64 (by omega) (by omega)]
    have := RText_loop s hs d (i + 1) (by omega)
    rw [List.take_succ_eq_append_getElem hil, bt_get s hil] at this
    exact this
theorem text_both (s : ByteArray) : ∃ r : List Int × Int, codec_Text.f s = some r ∧ Ev (fun k => formeref05_Text.f k s) r ∧ r.1.length ≤ 3000 := by
  unfold codec_Text.f formeref05_Text.f
  by_cases h : s.size > 2000
  · rw [if_pos h]
    exact ⟨_, rfl, EvT.ifp (by omega) (Ev.now _), by decide⟩
  · rw [if_neg h]
    refine ⟨_, rfl, EvT.ifn (by omega) ?_, by show ((s.size : Int) :: bytesOf s).length ≤ 3000; rw [List.length_cons, bytesOf_length]; omega⟩
    exact RText_loop s (by omega) s.size 0 (by omega)
/-- The string that integers are, if they are bytes. -/
def rdL (n : Int) : List Int → List Int → ByteArray × Int × Int
  | acc, [] => (strOfNums acc, n + 1, 0)
  | acc, x :: r => if x < 0 then (⟨#[]⟩, 0, 7) else if x > 255 then (⟨#[]⟩, 0, 7) else rdL n (acc ++ [x % 256]) r
theorem Read_loopA {x0 B : List Int} {n : Int} (h0 : 0 < x0.length) (hr : rd x0 0 = n) (hn : 0 ≤ n ∧ n ≤ 2000) (hl : B.length ≤ 2000) : ∀ (d i : Nat) (acc : List Int), i + d = B.length → acc.length = i → Ev (fun k => codec_Read.l0 k x0 acc B (B.length : Int) (i : Int)) (rdL n acc (B.drop i))
  | 0, i, acc, h, ha => by
    rw [List.drop_of_length_le (by omega)]
    have hw : wrap64 (1 + rd x0 0) = n + 1 := by rw [hr, EvT.w64 (by omega) (by omega)]; omega
    refine Ev.step (fun k => rfl) (EvT.ifn (by omega) (EvT.ifp (by omega) ?_))
    rw [hw]; exact Ev.now _
  | d + 1, i, acc, h, ha => by
    have hil : i < B.length := by omega
    have hd : B.drop i = B[i] :: B.drop (i + 1) := List.drop_eq_getElem_cons hil
    have ih := Read_loopA h0 hr hn hl d (i + 1) (acc ++ [B[i] % 256]) (by omega) (by simp [ha])
    have hrd := rd_get hil
    refine Ev.step (fun k => rfl) (EvT.ifp (by omega) (EvT.ifp (by omega) (EvT.ifp (by omega) ?_)))
    rw [hd, hrd]
    unfold rdL
    by_cases c1 : B[i] < 0
    · rw [if_pos c1]; exact EvT.ifp c1 (Ev.now _)
    · by_cases c2 : B[i] > 255
      · rw [if_neg c1, if_pos c2]; exact EvT.ifn c1 (EvT.ifp c2 (Ev.now _))
      · rw [if_neg c1, if_neg c2]
        refine EvT.ifn c1 (EvT.ifn c2 (EvT.ifp (by omega) ?_))
        rw [show wrap64 ((i : Int) + 1) = ((i + 1 : Nat) : Int) from EvT.w64 (by omega) (by omega)]
        exact ih
theorem Read_loopR {x0 B : List Int} {n : Nat} (h0 : n + 1 ≤ x0.length) (hr : rd x0 0 = (n : Int)) (hn : n ≤ 2000) (hB : B = (x0.take (n + 1)).drop 1) : ∀ (d i : Nat) (acc : List Int), i + d = n → acc.length = i → Ev (fun k => formeref05_Read.l0 k x0 acc ((i + 1 : Nat) : Int)) (rdL (n : Int) acc (B.drop i))
  | 0, i, acc, h, ha => by
    have hBl : B.length = n := by rw [hB, List.length_drop, List.length_take]; omega
    rw [List.drop_of_length_le (by omega)]
    have hw : wrap64 (rd x0 0 + 1) = (n : Int) + 1 := by rw [hr, EvT.w64 (by omega) (by omega)]
    refine Ev.step (fun k => rfl) (EvT.ifp (by omega) (EvT.ifn (by rw [hr]; omega) ?_))
    rw [hw]; exact Ev.now _
  | d + 1, i, acc, h, ha => by
    have hBl : B.length = n := by rw [hB, List.length_drop, List.length_take]; omega
    have hil : i < B.length := by omega
    have hd : B.drop i = B[i] :: B.drop (i + 1) := List.drop_eq_getElem_cons hil
    have ih := Read_loopR h0 hr hn hB d (i + 1) (acc ++ [B[i] % 256]) (by omega) (by simp [ha])
    have hrd : rd x0 ((i + 1 : Nat) : Int) = B[i] := by
      rw [rd_get (show i + 1 < x0.length by omega)]
      subst hB
      rw [List.getElem_drop, List.getElem_take]
      congr 1; omega
    refine Ev.step (fun k => rfl) (EvT.ifp (by omega) (EvT.ifp (by rw [hr]; omega) (EvT.ifp (by omega) (EvT.ifp (by omega) ?_))))
    rw [hd, hrd]
    unfold rdL
    by_cases c1 : B[i] < 0
    · rw [if_pos c1]; exact EvT.ifp c1 (Ev.now _)
    · by_cases c2 : B[i] > 255
      · rw [if_neg c1, if_pos c2]; exact EvT.ifn c1 (EvT.ifp c2 (Ev.now _))
      · rw [if_neg c1, if_neg c2]
        refine EvT.ifn c1 (EvT.ifn c2 (EvT.ifp (by omega) ?_))
        rw [show wrap64 (((i + 1 : Nat) : Int) + 1) = ((i + 1 + 1 : Nat) : Int) from EvT.w64 (by omega) (by omega)]
        exact ih
theorem read_both {l : List Int} (hi : ∀ x ∈ l, i64 x) (hl : l.length ≤ 9223372036854775807) : ∃ r : ByteArray × Int × Int, Ev (fun k => codec_Read.f k l) r ∧ Ev (fun k => formeref05_Read.f k l) r := by
  have jA : ∀ q, q = true → Ev (fun k => codec_Read.j0 k l q) (⟨#[]⟩, 0, 7) := fun q hq => Ev.step (fun k => rfl) (EvT.ifp hq (Ev.now _))
  have jR : ∀ q, q = true → Ev (fun k => formeref05_Read.j0 k l q) (⟨#[]⟩, 0, 7) := fun q hq => Ev.step (fun k => rfl) (EvT.ifp hq (Ev.now _))
  unfold codec_Read.f formeref05_Read.f
  by_cases h0 : l.length = 0
  · exact ⟨_, EvT.ifp (by omega) (jA _ rfl), EvT.ifp (by omega) (jR _ rfl)⟩
  have w1 : wrap64 ((l.length : Int) - 1) = (l.length : Int) - 1 := EvT.w64 (by omega) (by omega)
  by_cases h1 : rd l 0 < 0
  · exact ⟨_, EvT.ifn (by omega) (EvT.ifp (by omega) (EvT.ifp h1 (jA _ rfl))), EvT.ifn (by omega) (EvT.ifp (by omega) (EvT.ifp h1 (jR _ rfl)))⟩
  by_cases h2 : rd l 0 > 2000
  · exact ⟨_, EvT.ifn (by omega) (EvT.ifp (by omega) (EvT.ifn h1 (jA _ (decide_eq_true (by rw [w1]; unfold mn; split <;> omega))))), EvT.ifn (by omega) (EvT.ifp (by omega) (EvT.ifn h1 (EvT.ifp h2 (jR _ rfl))))⟩
  by_cases h3 : rd l 0 > (l.length : Int) - 1
  · exact ⟨_, EvT.ifn (by omega) (EvT.ifp (by omega) (EvT.ifn h1 (jA _ (decide_eq_true (by rw [w1]; unfold mn; split <;> omega))))), EvT.ifn (by omega) (EvT.ifp (by omega) (EvT.ifn h1 (EvT.ifn h2 (jR _ (decide_eq_true (by rw [w1]; exact h3))))))⟩
  obtain ⟨n, hn⟩ : ∃ n : Nat, rd l 0 = (n : Int) := ⟨(rd l 0).toNat, by omega⟩
  have hw : wrap64 (1 + rd l 0) = ((n + 1 : Nat) : Int) := by rw [hn, EvT.w64 (by omega) (by omega)]; omega
  have hBl : ((l.take (n + 1)).drop 1).length = n := by rw [List.length_drop, List.length_take]; omega
  have kA : ∀ q, q = false → Ev (fun k => codec_Read.j0 k l q) (rdL (n : Int) [] ((l.take (n + 1)).drop 1)) := fun q hq => by
    refine Ev.step (fun k => rfl) (EvT.ifn (by rw [hq]; decide) (EvT.ifp (by omega) ?_))
    rw [hw, Int.toNat_natCast]
    have := Read_loopA (x0 := l) (B := (l.take (n + 1)).drop 1) (by omega) hn (by omega) (by omega) ((l.take (n + 1)).drop 1).length 0 [] (by omega) rfl
    rw [List.drop_zero] at this
    exact EvT.ifp (by omega) (EvT.ifp (by omega) this)
  have kR : ∀ q, q = false → Ev (fun k => formeref05_Read.j0 k l q) (rdL (n : Int) [] ((l.take (n + 1)).drop 1)) := fun q hq => by
    refine Ev.step (fun k => rfl) (EvT.ifn (by rw [hq]; decide) ?_)
    have := Read_loopR (x0 := l) (B := (l.take (n + 1)).drop 1) (by omega) hn (by omega) rfl n 0 [] (by omega) rfl
    rw [List.drop_zero] at this
    exact this
  exact ⟨_, EvT.ifn (by omega) (EvT.ifp (by omega) (EvT.ifn h1 (kA _ (decide_eq_false (by rw [w1]; unfold mn; split <;> omega))))), EvT.ifn (by omega) (EvT.ifp (by omega) (EvT.ifn h1 (EvT.ifn h2 (kR _ (decide_eq_false (by rw [w1]; exact h3))))))⟩
end Go.Proofs.Ytpggngomdemdgaa.P
