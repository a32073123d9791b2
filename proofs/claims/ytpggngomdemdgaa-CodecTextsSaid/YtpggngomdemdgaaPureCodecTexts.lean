/- The integers of a string, and whatever stands behind them, are read as this string and no more (package codec alone; up to 300 bytes and integers). Conditions: those of the statement alone. -/
import Derived.Test.YtpggngomdemdgaaPx10
import Derived.Test.YtpggngomdemdgaaHPure2
set_option linter.unusedVariables false
set_option linter.unusedSimpArgs false
namespace Go.Proofs.Ytpggngomdemdgaa.Pure
open Go.RowKit Go.Proofs.Ytpggngomdemdgaa.P Go.Proofs.YtpggngomdemdgaaW.PrintWords Go.Proofs.YtpggngomdemdgaaW.PrintLast Go.Proofs.YtpggngomdemdgaaW.PrintMore Go.Codec
theorem str_bytes (t : ByteArray) : strOfNums (bytesOf t) = t := by
  obtain ⟨⟨l⟩⟩ := t
  have h : ∀ l : List UInt8, l.map ((fun n : Int => UInt8.ofNat n.toNat) ∘ fun b : UInt8 => (b.toNat : Int)) = l := by
    intro l
    induction l with
    | nil => rfl
    | cons a l ih => rw [List.map_cons, ih]; simp
  simp [strOfNums, bytesOf, h]
theorem bytes_byte (t : ByteArray) : ∀ x ∈ bytesOf t, 0 ≤ x ∧ x ≤ 255 := by
  intro x hx
  obtain ⟨b, _, rfl⟩ := List.mem_map.1 hx
  have := b.toNat_lt
  omega
theorem read_loop (x0 B : List Int) (n : Int) (h0 : 0 < x0.length) (hr : rd x0 0 = n) (hn : 0 ≤ n ∧ n ≤ 2000) (hB : ∀ x ∈ B, 0 ≤ x ∧ x ≤ 255) (hl : B.length ≤ 2000) : ∀ (d i : Nat) (acc : List Int), i + d = B.length → acc ++ B.drop i = B → Ev (fun k => codec_Read.l0 k x0 acc B (B.length : Int) (i : Int)) (strOfNums B, n + 1, 0)
  | 0, i, acc, h, ha => by
    rw [List.drop_of_length_le (by omega), List.append_nil] at ha
    have hw : wrap64 (1 + rd x0 0) = n + 1 := by rw [hr, EvT.w64 (by omega) (by omega)]; omega
    refine Ev.step (fun k => rfl) (EvT.ifn (by omega) (EvT.ifp (by omega) ?_))
    rw [ha, hw]; exact Ev.now _
  | d + 1, i, acc, h, ha => by
    have hil : i < B.length := by omega
    have hd : B.drop i = B[i] :: B.drop (i + 1) := List.drop_eq_getElem_cons hil
    have hrd : rd B (i : Int) = B[i] := by simp [rd, List.getD_eq_getElem?_getD, List.getElem?_eq_getElem hil]
    have hb := hB _ (List.getElem_mem hil)
    have hal : acc.length ≤ B.length := by have := congrArg List.length ha; rw [List.length_append] at this; omega
    refine Ev.step (fun k => rfl) (EvT.ifp (by omega) (EvT.ifp (by omega) (EvT.ifp (by omega) (EvT.ifn (by rw [hrd]; omega) (EvT.ifn (by rw [hrd]; omega) (EvT.ifp (by omega) ?_))))))
    rw [show wrap64 ((i : Int) + 1) = ((i + 1 : Nat) : Int) from EvT.w64 (by omega) (by omega), hrd, show B[i] % 256 = B[i] by omega]
    exact read_loop x0 B n h0 hr hn hB hl d (i + 1) _ (by omega) (by rw [List.append_assoc, List.singleton_append, ← hd, ha])
theorem read_ev (s : ByteArray) (l1 : List Int) (hs : s.size ≤ 2000) (hl : l1.length ≤ 1000) : Ev (fun k => codec_Read.f k (((s.size : Int) :: bytesOf s) ++ l1)) (s, (s.size : Int) + 1, 0) := by
  obtain ⟨x0, hx0⟩ : ∃ x0, ((s.size : Int) :: bytesOf s) ++ l1 = x0 := ⟨_, rfl⟩
  have hr : rd x0 0 = (s.size : Int) := by rw [← hx0]; rfl
  have hlen : x0.length = s.size + 1 + l1.length := by rw [← hx0]; simp [bytesOf_length]; omega
  have hcut : (x0.take (s.size + 1)).drop 1 = bytesOf s := by
    rw [← hx0, List.cons_append, List.take_succ_cons, List.drop_succ_cons, List.drop_zero, List.take_append_of_le_length (by rw [bytesOf_length]; exact Nat.le_refl _), List.take_of_length_le (by rw [bytesOf_length]; exact Nat.le_refl _)]
  rw [hx0]
  have hw : wrap64 (1 + rd x0 0) = ((s.size + 1 : Nat) : Int) := by rw [hr, EvT.w64 (by omega) (by omega)]; omega
  have hw2 : wrap64 ((x0.length : Int) - 1) = (x0.length : Int) - 1 := EvT.w64 (by omega) (by omega)
  have hq : decide (rd x0 0 > mn 2000 (wrap64 ((x0.length : Int) - 1))) = false := decide_eq_false (by
    rw [hr, hw2]; unfold mn; split <;> omega)
  have hJ : ∀ q, q = false → Ev (fun k => codec_Read.j0 k x0 q) (s, (s.size : Int) + 1, 0) := fun q hq => by
    refine Ev.step (fun k => rfl) (EvT.ifn (by rw [hq]; decide) (EvT.ifp (by omega) ?_))
    rw [hw, Int.toNat_natCast, hcut]
    refine EvT.ifp (by omega) (EvT.ifp (by omega) ?_)
    have := read_loop x0 (bytesOf s) (s.size : Int) (by omega) hr (by omega) (bytes_byte s) (by rw [bytesOf_length]; omega) (bytesOf s).length 0 [] (by omega) (by simp)
    rw [str_bytes] at this
    exact this
  unfold codec_Read.f
  exact EvT.ifn (by omega) (EvT.ifp (by omega) (EvT.ifn (by rw [hr]; omega) (hJ _ hq)))
theorem CodecTexts : formelaw05_CodecTexts.Pure := by
  intro s l1 _ _ _ _
  refine Ev.rounds ?_
  unfold formelaw05_CodecTexts.f
  have hJ : ∀ q, q = true → Ev (fun k => formelaw05_CodecTexts.j0 k s l1 true q) true := fun q hq => Ev.step (fun k => rfl) (EvT.ifp hq (Ev.now _))
  refine Ev.bind head_ev (EvT.ifp rfl (EvT.ite (fun h => hJ _ rfl) (fun h => ?_)))
  have hM : ∀ q, decide ((l1.length : Int) > 300) = q → Ev (fun k => formelaw05_CodecTexts.j0 k s l1 true q) true := fun q hq => by
    refine Ev.step (fun k => rfl) (EvT.ite (fun _ => Ev.now _) (fun hf => ?_))
    have hl : l1.length ≤ 300 := by
      have : ¬ (l1.length : Int) > 300 := fun hgt => hf (hq.symm.trans (decide_eq_true hgt))
      omega
    have hl2 : ((s.size : Int) :: bytesOf s).length = s.size + 1 := by rw [List.length_cons, bytesOf_length]
    refine EvT.bindc (x := ((s.size : Int) :: bytesOf s, 0)) (by unfold codec_Text.f; rw [if_neg (by omega)]) (EvT.bindc rfl (EvT.ifp (by show ([] : List Int).length + ((s.size : Int) :: bytesOf s).length < _; rw [hl2, List.length_nil]; omega) (EvT.bindc rfl (EvT.ifp (by show ([] ++ ((s.size : Int) :: bytesOf s)).length + l1.length < _; rw [List.nil_append, hl2]; omega) ?_))))
    refine Ev.bind (read_ev s l1 (by omega) (by omega)) (EvT.ifp rfl (EvT.ifp rfl (EvT.ifp rfl (EvT.ifp rfl (EvT.ifp (by show (s.size : Int) + 1 = (((s.size : Int) :: bytesOf s).length : Int); rw [hl2]; omega) ?_)))))
    have hw : wrap64 ((s.size : Int) + 1) = (s.size : Int) + 1 := EvT.w64 (by omega) (by omega)
    rw [hw]
    show Ev (fun _ => some ((s.size : Int) + 1 == (s.size : Int) + 1)) true
    rw [beq_self_eq_true]; exact Ev.now _
  exact hM _ rfl
end Go.Proofs.Ytpggngomdemdgaa.Pure
