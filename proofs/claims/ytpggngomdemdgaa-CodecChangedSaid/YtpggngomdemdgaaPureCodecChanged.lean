/- If one byte of the last frame is changed, but not one of its first three, all frames before it are read, and it is not (packages digest and codec; up to 10 lists of 30 integers). Conditions: those of the statement alone. -/
import Derived.Test.YtpggngomdemdgaaPx13
import Derived.Test.YtpggngomdemdgaaHPure9
set_option linter.unusedVariables false
set_option linter.unusedSimpArgs false
namespace Go.Proofs.Ytpggngomdemdgaa.Pure
open Go.RowKit Go.Proofs.Ytpggngomdemdgaa.P Go.Proofs.YtpggngomdemdgaaW.PrintWords Go.Proofs.YtpggngomdemdgaaW.PrintLast Go.Codec
theorem framesP_none {g : Nat} {b : List Int} (h : (whole b).2 = 0) : framesP g b = ([], 0) := by
  cases g with
  | zero => rfl
  | succ g => unfold framesP; rw [if_pos h]
theorem fr_last (ini : List (List Int)) (x : List Int) : fr (ini ++ [x]) = fr ini ++ frame x := by simp [fr]
theorem ch_tail {ini : List (List Int)} {x : List Int} {y e : Int} (h : okL ini) (hx : (∀ z ∈ x, i64 z) ∧ x.length ≤ 30) (hl : ini.length ≤ 9) (hy : 0 ≤ y ∧ y ≤ 255) (hy0 : y ≠ 0) {m : Nat} (hm : 3 + m < (frame x).length) (he : e = ((fr ini).length : Int)) :
    Ev (fun k => (codec_Frames.f k ((fr (ini ++ [x])).set ((fr ini).length + (3 + m)) (Go.bits .xor .u8 (rd (fr (ini ++ [x])) (((fr ini).length + (3 + m) : Nat) : Int)) y))).bind fun bt => (if true = true then (if bt.2.2 = 0 then (if bt.2.1 = e then (if 0 ≤ (wrap64 (((ini ++ [x]).length : Int) - 1)) then (if (wrap64 (((ini ++ [x]).length : Int) - 1)) ≤ ((ini ++ [x]).length : Int) then ((formeref05_SameLists.f k bt.1 ((ini ++ [x]).take (wrap64 (((ini ++ [x]).length : Int) - 1)).toNat)).bind fun t => (some t)) else none) else none) else (some false)) else (some false)) else (some false))) true := by
  have hfl := fr_len h
  have hF := frame_len x
  have hle := enc_len x
  have hxb := frame_byte hx.1 (by omega : x.length ≤ 4000)
  have hr : rd (fr (ini ++ [x])) (((fr ini).length + (3 + m) : Nat) : Int) = (frame x)[3 + m] := by
    unfold rd
    rw [Int.toNat_natCast, fr_last, List.getD_eq_getElem?_getD, List.getElem?_append_right (Nat.le_add_right _ _), Nat.add_sub_cancel_left, List.getElem?_eq_getElem hm]
    rfl
  obtain ⟨hv, hn⟩ := u8_change (hxb _ (List.getElem_mem hm)) hy hy0
  have hw := whole_changed hx.1 (by omega) (by omega) hm hv hn
  rw [hr]
  generalize bits .xor .u8 (frame x)[3 + m] y = v at hv hn hw
  have hs : (fr (ini ++ [x])).set ((fr ini).length + (3 + m)) v = fr ini ++ (frame x).set (3 + m) v := by
    rw [fr_last, List.set_append_right _ _ (by omega), Nat.add_sub_cancel_left]
  rw [hs]
  have hlen : (fr ini ++ (frame x).set (3 + m) v).length = (fr ini).length + (frame x).length := by rw [List.length_append, List.length_set]
  have hby : ∀ z ∈ fr ini ++ (frame x).set (3 + m) v, 0 ≤ z ∧ z ≤ 255 := fun z hz => by
    rcases List.mem_append.1 hz with hz | hz
    · exact fr_byte h z hz
    · rcases List.mem_or_eq_of_mem_set hz with hz | rfl
      · exact hxb z hz
      · exact hv
  obtain ⟨g, hg, eq⟩ := framesP_app ini ((frame x).set (3 + m) v) ((fr ini ++ (frame x).set (3 + m) v).length + 1) h (by omega)
  rw [framesP_none hw] at eq
  have h1 := Frames_ev hby (by omega)
  rw [eq] at h1
  have hal : (((ini ++ [x]).length : Nat) : Int) = (ini.length : Int) + 1 := by rw [List.length_append]; simp
  have hw64 : wrap64 (((ini ++ [x]).length : Int) - 1) = (ini.length : Int) := by rw [hal, EvT.w64 (by omega) (by omega)]; omega
  refine Ev.bind h1 (EvT.ifp rfl (EvT.ifp rfl (EvT.ifp (by rw [he]; exact Int.add_zero _) ?_)))
  rw [hw64, hal]
  refine EvT.ifp (by omega) (EvT.ifp (by omega) ?_)
  rw [Int.toNat_natCast, List.take_left' rfl, List.append_nil]
  exact Ev.bind (SameL_ev ini (by omega) (fun z hz => by have := (h z hz).2; omega)) (Ev.now _)
theorem frame_bd {x : List Int} (h : x.length ≤ 30) : 11 ≤ (frame x).length ∧ (frame x).length ≤ 400 := by
  have h1 := frame_len x
  have h2 := enc_len x
  generalize (enc x).length = E at h1 h2
  generalize (frame x).length = F at h1
  omega
theorem nums {A F m : Nat} (hA : A ≤ 3600) (h11 : 11 ≤ F) (hF : F ≤ 400) (hm : 3 + m < F) :
    wrap64 (((A + F : Nat) : Int) - (A : Int)) = (F : Int) ∧ wrap64 (F : Int) = (F : Int) ∧ wrap64 ((F : Int) - 3) = (F : Int) - 3 ∧ wrap64 ((A : Int) + 3) = (A : Int) + 3 ∧ wrap64 ((A : Int) + 3 + (m : Int)) = ((A + (3 + m) : Nat) : Int) ∧ wrap64 (3 + (m : Int)) = ((3 + m : Nat) : Int)
    ∧ ¬ ((F : Int) - 3 = 0) ∧ ((A + (3 + m) : Nat) : Int) < ((A + F : Nat) : Int) ∧ ((3 + m : Nat) : Int) < ((F : Nat) : Int) ∧ 0 + (A + F) < 140737488355328 ∧ 0 + F < 140737488355328 :=
  ⟨(EvT.w64 (by omega) (by omega)).trans (by omega), EvT.w64 (by omega) (by omega), EvT.w64 (by omega) (by omega), EvT.w64 (by omega) (by omega), (EvT.w64 (by omega) (by omega)).trans (by omega), (EvT.w64 (by omega) (by omega)).trans (by omega), by omega, by omega, by omega, by omega, by omega⟩
theorem nums2 {n : Nat} (h : n ≤ 9) (h0 : n ≠ 0) : wrap64 (((n + 1 : Nat) : Int) - 2) = ((n - 1 : Nat) : Int) ∧ ((n + 1 : Nat) : Int) > 1 ∧ ((n - 1 : Nat) : Int) < ((n + 1 : Nat) : Int) ∧ n - 1 < n + 1 ∧ n - 1 + 1 = n :=
  ⟨(EvT.w64 (by omega) (by omega)).trans (by omega), by omega, by omega, by omega, by omega⟩
theorem tm {a F : Nat} (h : 11 ≤ F) : ∃ m : Nat, Int.tmod (a : Int) ((F : Int) - 3) = (m : Int) ∧ 3 + m < F := by
  have m0 : 0 ≤ Int.tmod (a : Int) ((F : Int) - 3) := Int.tmod_nonneg _ (by omega)
  have m1 : Int.tmod (a : Int) ((F : Int) - 3) < (F : Int) - 3 := Int.tmod_lt_of_pos _ (by omega)
  exact ⟨_, (Int.toNat_of_nonneg m0).symm, by omega⟩
theorem ch1 {ini : List (List Int)} {x : List Int} {a : Nat} {y : Int} (h : okL ini) (hx : (∀ z ∈ x, i64 z) ∧ x.length ≤ 30) (hl : ini.length ≤ 9) (e2 : wrap64 (a : Int) = (a : Int)) (hy : 0 ≤ y ∧ y ≤ 255) (hy0 : y ≠ 0) :
    ∀ q, q = false → Ev (fun k => formelaw05_CodecChanged.j1 k (ini ++ [x]) (a : Int) y true (fr (ini ++ [x])) (endsOf 0 (ini ++ [x])) q) true := fun q hq => by
  have hA : (fr ini).length ≤ 3600 := Nat.le_trans (fr_len h) (Nat.mul_le_mul_left 400 hl)
  obtain ⟨h11, h400⟩ := frame_bd hx.2
  have hal : (ini ++ [x]).length = ini.length + 1 := List.length_append
  have hel : (endsOf 0 (ini ++ [x])).length = ini.length + 1 := (endsOf_len (ini ++ [x]) 0).trans hal
  have hbl : (fr (ini ++ [x])).length = (fr ini).length + (frame x).length := by rw [fr_last, List.length_append]
  obtain ⟨m, hm, hm3⟩ := tm (a := a) h11
  obtain ⟨w1, w1', w2, w4, w3, w5, n1, n2, n3, n4, n5⟩ := nums hA h11 h400 hm3
  have ht := fun e he => ch_tail (e := e) h hx hl hy hy0 hm3 he
  refine Ev.step (fun k => rfl) (EvT.ifn (by rw [hq]; decide) ?_)
  by_cases hi : ini.length = 0
  · obtain rfl : ini = [] := List.length_eq_zero_iff.1 hi
    have hb0 : (fr ([] ++ [x])).length = (frame x).length := hbl.trans (Nat.zero_add _)
    refine EvT.ifn (by rw [hel]; decide) (EvT.bindc rfl (EvT.ifp (by rw [hb0]; exact n5) (EvT.bindc rfl ?_)))
    rw [hb0, w1', w2, e2, hm, w5]
    refine EvT.ifn n1 (EvT.ifp (Int.natCast_nonneg _) (EvT.ifp (by rw [List.nil_append, hb0]; exact n3) ?_))
    have := ht 0 rfl
    rw [show (fr []).length = 0 from rfl, Nat.zero_add] at this
    exact this
  · obtain ⟨o1, o2, o3, o4, o5⟩ := nums2 hl hi
    have hr := endsOf_get (ini ++ [x]) 0 (ini.length - 1) (by rw [hal]; exact o4)
    rw [o5, List.take_left' rfl] at hr
    have hr' : rd (endsOf 0 (ini ++ [x])) ((ini.length - 1 : Nat) : Int) = ((fr ini).length : Int) := hr.trans (Int.zero_add _)
    refine EvT.ifp (by rw [hel]; exact o2) ?_
    rw [hel, o1, hr', hbl, w1, w2, w4, e2, hm, w3]
    refine EvT.ifp (Int.natCast_nonneg _) (EvT.ifp o3 (EvT.bindc rfl (EvT.ifp n4 (EvT.bindc rfl ?_))))
    refine EvT.ifn n1 (EvT.ifp (Int.natCast_nonneg _) (EvT.ifp (by rw [List.nil_append, hbl]; exact n2) ?_))
    exact ht _ rfl
theorem ch0 {ls : List (List Int)} {a y : Int} (h : okL ls) (hl : ls.length ≤ 10) (h0 : 0 < ls.length) (ha : 0 ≤ a ∧ a ≤ 65535) (hy : 0 ≤ y ∧ y ≤ 255) : ∀ q, (y == 0) = q → Ev (fun k => formelaw05_CodecChanged.j0 k ls a y true q) true := fun q hq => by
  refine Ev.step (fun k => rfl) (EvT.ite (fun _ => Ev.now _) (fun hf => ?_))
  have hy0 : y ≠ 0 := fun e => hf (by rw [← hq, e]; rfl)
  refine Ev.bind (frames_ev h hl) (EvT.ifp rfl ?_)
  obtain ⟨ini, x, rfl⟩ : ∃ ini x, ls = ini ++ [x] := ⟨ls.dropLast, ls.getLast (by intro e; subst e; simp at h0), (List.dropLast_concat_getLast _).symm⟩
  have hal : (ini ++ [x]).length = ini.length + 1 := by simp
  obtain ⟨a', rfl⟩ := Int.eq_ofNat_of_zero_le ha.1
  refine ch1 (fun l hl => h l (by simp [hl])) (h x (by simp)) (by omega) (EvT.w64 (by omega) (by omega)) hy hy0 _ ?_
  show (((endsOf 0 (ini ++ [x])).length : Int) != ((ini ++ [x]).length : Int)) = false
  rw [endsOf_len, bne_self_eq_false]
theorem CodecChanged {ls : List (List Int)} {a y : Int} (hl : ls.length ≤ 9223372036854775807) (hi : ∀ l ∈ ls, ∀ x ∈ l, i64 x) (ha : 0 ≤ a ∧ a ≤ 65535) (hy : 0 ≤ y ∧ y ≤ 255) : ∃ k, formelaw05_CodecChanged.f k ls a y = some true := by
  refine Ev.rounds ?_
  unfold formelaw05_CodecChanged.f
  obtain ⟨q, hq, hqt⟩ := small_ev ls hl
  have hJ : ∀ q, q = true → Ev (fun k => formelaw05_CodecChanged.j0 k ls a y true q) true := fun q hq => Ev.step (fun k => rfl) (EvT.ifp hq (Ev.now _))
  refine Ev.bind head_ev (EvT.ifp rfl (Ev.bind hq (EvT.ite (fun ht => ?_) (fun _ => hJ _ rfl))))
  obtain ⟨h1, h2⟩ := hqt ht
  refine EvT.ite (fun _ => hJ _ rfl) (fun hn => ?_)
  exact ch0 (fun l hl => ⟨hi l hl, h2 l hl⟩) h1 (by omega) ha hy _ rfl
end Go.Proofs.Ytpggngomdemdgaa.Pure
