/- Frames that are cut at any byte are read as those that are whole, and the bytes of these (package codec alone; up to 10 lists of 30 integers). Conditions: those of the statement alone. -/
import Derived.Test.YtpggngomdemdgaaPx11
import Derived.Test.YtpggngomdemdgaaHPure8
set_option linter.unusedVariables false
set_option linter.unusedSimpArgs false
namespace Go.Proofs.Ytpggngomdemdgaa.Pure
open Go.RowKit Go.Proofs.Ytpggngomdemdgaa.P Go.Proofs.YtpggngomdemdgaaW.PrintWords Go.Proofs.YtpggngomdemdgaaW.PrintLast Go.Codec
theorem torn_zero : ∀ ls m, (tornP ls m).1 = 0 → tornP ls m = (0, 0)
  | [], m, _ => rfl
  | x :: ls, m, h => by
    unfold tornP at h ⊢
    split
    · rename_i hc; rw [if_pos hc] at h; simp at h
    · rfl
theorem fr_append (a b : List (List Int)) : fr (a ++ b) = fr a ++ fr b := by simp [fr]
theorem fr_snoc {ls : List (List Int)} {i : Nat} (h : i < ls.length) : (fr (ls.take (i + 1))).length = (fr (ls.take i)).length + (frame ls[i]).length := by
  rw [List.take_succ_eq_append_getElem h, fr_append, List.length_append, show fr [ls[i]] = frame ls[i] by simp [fr]]
/-- What is left when the frames have been counted. -/
theorem torn_end {ls : List (List Int)} {m : Nat} (h : okL ls) (hl : ls.length ≤ 10) (hm : m ≤ (fr ls).length) :
    Ev (fun k => (codec_Frames.f k ((fr ls).take (m : Int).toNat)).bind fun bt => (if true = true then (if bt.2.2 = 0 then (if bt.2.1 = (((tornP ls m).2 : Nat) : Int) then (if 0 ≤ (((tornP ls m).1 : Nat) : Int) then (if (((tornP ls m).1 : Nat) : Int) ≤ (ls.length : Int) then ((formeref05_SameLists.f k bt.1 (ls.take (((tornP ls m).1 : Nat) : Int).toNat)).bind fun t => (some t)) else none) else none) else (some false)) else (some false)) else (some false))) true := by
  have hfl := fr_len h
  have hlen : ((fr ls).take m).length = m := by rw [List.length_take]; omega
  have h1 := Frames_ev (b := (fr ls).take m) (fun x hx => fr_byte h x (List.take_subset _ _ hx)) (by omega)
  rw [framesP_torn ls m _ h hm (by omega)] at h1
  have hc := tornP_le ls m
  rw [Int.toNat_natCast]
  refine Ev.bind h1 (EvT.ifp rfl (EvT.ifp rfl (EvT.ifp rfl (EvT.ifp (by omega) (EvT.ifp (by omega) ?_)))))
  rw [Int.toNat_natCast]
  exact Ev.bind (SameL_ev _ (by rw [List.length_take]; omega) (fun x hx => by have := (h x (List.take_subset _ _ hx)).2; omega)) (Ev.now _)
theorem torn_yes {x : List Int} {ls : List (List Int)} {m a F : Nat} (hF : (frame x).length = F) (h : a + F ≤ m) : tornP (x :: ls) (m - a) = ((tornP ls (m - (a + F))).1 + 1, (tornP ls (m - (a + F))).2 + F) := by
  conv => lhs; unfold tornP
  rw [hF]
  clear hF
  rw [if_pos (by omega), Nat.sub_sub]
theorem torn_no {x : List Int} {ls : List (List Int)} {m a F : Nat} (hF : (frame x).length = F) (h : ¬ a + F ≤ m) : tornP (x :: ls) (m - a) = (0, 0) := by
  have hp := frame_len x
  unfold tornP
  rw [hF] at hp ⊢
  clear hF
  rw [if_neg (by omega)]
def TornAt (ls : List (List Int)) (m i want size : Nat) : Prop := (if 0 < (tornP (ls.drop i) (m - (fr (ls.take i)).length)).1 then (i + (tornP (ls.drop i) (m - (fr (ls.take i)).length)).1, (fr (ls.take i)).length + (tornP (ls.drop i) (m - (fr (ls.take i)).length)).2) else (want, size)) = tornP ls m
theorem torn_loop {ls : List (List Int)} {m : Nat} (h : okL ls) (hl : ls.length ≤ 10) (hm : m ≤ (fr ls).length) : ∀ (d i want size : Nat), i + d = ls.length →
    TornAt ls m i want size →
    Ev (fun k => formelaw05_CodecTorn.l0 k ls true (fr ls) (endsOf 0 ls) (m : Int) (want : Int) (size : Int) (i : Int)) true
  | 0, i, want, size, hi, hf => by
    unfold TornAt at hf
    rw [List.drop_of_length_le (by omega), show tornP [] (m - (fr (ls.take i)).length) = (0, 0) from rfl, if_neg (by decide)] at hf
    have e1 : want = (tornP ls m).1 := congrArg Prod.fst hf
    have e2 : size = (tornP ls m).2 := congrArg Prod.snd hf
    subst e1 e2
    have hel := endsOf_len ls 0
    refine Ev.step (fun k => rfl) (EvT.ifn (by omega) (EvT.ifp (by omega) (EvT.ifp (by omega) ?_)))
    exact torn_end h hl hm
  | d + 1, i, want, size, hi, hf => by
    have hil : i < ls.length := by clear hf hm; omega
    have hel := endsOf_len ls 0
    have hd : ls.drop i = ls[i] :: ls.drop (i + 1) := List.drop_eq_getElem_cons hil
    have hr := endsOf_get ls 0 i hil
    have hs := fr_snoc hil
    have ihf := torn_loop h hl hm d (i + 1)
    unfold TornAt at hf ihf
    clear hm
    rw [hd] at hf
    clear hd
    obtain ⟨F, hF⟩ : ∃ F, (frame ls[i]).length = F := ⟨_, rfl⟩
    obtain ⟨A, hA⟩ : ∃ A, (fr (ls.take i)).length = A := ⟨_, rfl⟩
    obtain ⟨B, hB⟩ : ∃ B, (fr (ls.take (i + 1))).length = B := ⟨_, rfl⟩
    rw [hF, hA, hB] at hs
    rw [hA] at hf
    rw [hB] at hr ihf
    have hy := torn_yes (ls := ls.drop (i + 1)) (m := m) (a := A) hF
    have hn := torn_no (ls := ls.drop (i + 1)) (m := m) (a := A) hF
    clear hF hA hB
    obtain ⟨X, hX⟩ : ∃ X, tornP (ls[i] :: ls.drop (i + 1)) (m - A) = X := ⟨_, rfl⟩
    rw [hX] at hf hy hn
    clear hX
    refine Ev.step (fun k => rfl) (EvT.ifp ?_ (EvT.ifp ?_ ?_))
    · clear hf ihf hr hy hn; omega
    · clear hf ihf hr hy hn; omega
    rw [hr]
    clear hr
    by_cases hc : B ≤ m
    · refine EvT.ifp (by clear hf ihf hy hn; omega) ?_
      rw [show (0 : Int) + (B : Int) = ((B : Nat) : Int) from Int.zero_add _, show wrap64 ((i : Int) + 1) = ((i + 1 : Nat) : Int) from EvT.w64 (by clear hf ihf hy hn; omega) (by clear hf ihf hy hn; omega)]
      refine ihf (i + 1) B (by clear hf ihf hy hn; omega) ?_
      rw [hy (by clear hf ihf hy hn; omega), if_pos (Nat.succ_pos _)] at hf
      rw [← hf, ← hs]
      by_cases h0 : 0 < (tornP (ls.drop (i + 1)) (m - B)).1
      · rw [if_pos h0]
        generalize tornP (ls.drop (i + 1)) (m - B) = Y
        refine Prod.ext ?_ ?_
        · show i + 1 + Y.1 = i + (Y.1 + 1); omega
        · show B + Y.2 = A + (Y.2 + F); clear hf ihf hy hn; omega
      · rw [if_neg h0, torn_zero _ _ (Nat.eq_zero_of_not_pos h0)]
        refine Prod.ext rfl ?_
        show B = A + (0 + F); clear hf ihf hy hn h0; omega
    · refine EvT.ifn (by clear hf ihf hy hn; omega) ?_
      rw [show wrap64 ((i : Int) + 1) = ((i + 1 : Nat) : Int) from EvT.w64 (by clear hf ihf hy hn; omega) (by clear hf ihf hy hn; omega)]
      refine ihf want size (by clear hf ihf hy hn; omega) ?_
      rw [hn (by clear hf ihf hy hn; omega), if_neg (Nat.lt_irrefl 0)] at hf
      rw [show m - B = 0 from Nat.sub_eq_zero_of_le (Nat.le_of_lt (Nat.lt_of_not_le hc)), tornP_zero, if_neg (Nat.lt_irrefl 0)]
      exact hf
theorem CodecTorn {ls : List (List Int)} {a : Int} (hl : ls.length ≤ 9223372036854775807) (hi : ∀ l ∈ ls, ∀ x ∈ l, i64 x) (ha : 0 ≤ a ∧ a ≤ 65535) : ∃ k, formelaw05_CodecTorn.f k ls a = some true := by
  refine Ev.rounds ?_
  unfold formelaw05_CodecTorn.f
  obtain ⟨q, hq, hqt⟩ := small_ev ls hl
  refine Ev.bind head_ev (EvT.ifp rfl (Ev.bind hq (EvT.ite (fun ht => ?_) (fun _ => Ev.now _))))
  obtain ⟨h1, h2⟩ := hqt ht
  have h : okL ls := fun l hl => ⟨hi l hl, h2 l hl⟩
  have hfl := fr_len h
  refine Ev.bind (frames_ev h h1) (EvT.ifp rfl ?_)
  have e1 : wrap64 (((fr ls).length : Int) + 1) = ((fr ls).length : Int) + 1 := EvT.w64 (by omega) (by omega)
  have e2 : wrap64 a = a := EvT.w64 (by omega) (by omega)
  show Ev (fun k => if wrap64 (((fr ls).length : Int) + 1) = 0 then none else formelaw05_CodecTorn.l0 k ls true (fr ls) (endsOf 0 ls) (Int.tmod (wrap64 a) (wrap64 (((fr ls).length : Int) + 1))) 0 0 0) true
  rw [e1, e2]
  have m0 : 0 ≤ Int.tmod a (((fr ls).length : Int) + 1) := Int.tmod_nonneg _ ha.1
  have m1 : Int.tmod a (((fr ls).length : Int) + 1) < ((fr ls).length : Int) + 1 := Int.tmod_lt_of_pos _ (by omega)
  obtain ⟨m, hm⟩ : ∃ m : Nat, Int.tmod a (((fr ls).length : Int) + 1) = (m : Int) := ⟨_, (Int.toNat_of_nonneg m0).symm⟩
  rw [hm] at m0 m1 ⊢
  refine EvT.ifn (by omega) ?_
  exact torn_loop h h1 (by omega) ls.length 0 0 0 (by omega) (by
    unfold TornAt
    rw [List.drop_zero, show m - (fr (ls.take 0)).length = m from rfl]
    by_cases h0 : 0 < (tornP ls m).1
    · rw [if_pos h0]
      refine Prod.ext ?_ ?_
      · show 0 + _ = _; omega
      · show 0 + _ = _; omega
    · rw [if_neg h0, torn_zero _ _ (by omega)])
end Go.Proofs.Ytpggngomdemdgaa.Pure
