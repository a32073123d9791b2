import Derived.Test.YtbllpiboodlepaaPx6
import Derived.Test.YtbllpiboodlepaaHWhere
import Derived.Test.YtbllpiboodlepaaPx7
import Derived.Test.YtbllpiboodlepaaHEv
import Derived.Test.YtbllpiboodlepaaHPures2
set_option linter.unusedVariables false
set_option linter.unusedSimpArgs false
namespace Go.Proofs.Ytbllpiboodlepaa.Pure
open Go.RowKit Go.Proofs.Ytbllpiboodlepaa.P Go.Proofs.YtbllpiboodlepaaW.PrintWords Go.Proofs.YtbllpiboodlepaaW.PrintLast Go.Proofs.YtbllpiboodlepaaW.PrintMore

theorem head_ev : Ev (fun k => formelaw42_head.f k) true := Ev.of (fun k => formelaw42_head.mono k) (k := 20) (by decide +kernel)

/-- The face at a place. -/
def face (n : Int) (K i : Nat) : S29 := if i % 2 = 0 then front n K (i / 2) else backf n K (i / 2)
theorem pairs_faces (n : Int) (K : Nat) : ∀ m, flat (pairs n K m) = (List.range (2 * m)).map (face n K)
  | 0 => rfl
  | m + 1 => by
    rw [pairs_succ, flat_snoc, pairs_faces n K m, show 2 * (m + 1) = 2 * m + 1 + 1 by omega, List.range_succ, List.range_succ]
    simp [face, show (2 * m + 1) / 2 = m by omega, show (2 * m + 1) % 2 = 1 by omega]
def faces (n : Int) (K : Nat) : List S29 := (List.range (2 * K)).map (face n K)
theorem faces_length (n : Int) (K : Nat) : (faces n K).length = 2 * K := by simp [faces]
theorem faces_get (n : Int) (K i : Nat) (h : i < 2 * K) : rd_T29 (faces n K) (i : Int) = face n K i := by
  simp [rd_T29, faces, List.getD_eq_getElem?_getD, h]
theorem faces_f (n : Int) (K : Nat) (h0 : 0 ≤ n) (h1 : n ≤ 500) (hK : (K : Int) = (n + 3) / 4) : impose_Faces.f n = some (faces n K, 0) := by
  unfold impose_Faces.f
  rw [if_neg (by omega), ← hK, Int.toNat_natCast, pairs_faces]
  rfl
/-- What is known of a face. -/
theorem face_even (n : Int) (K i : Nat) (h : i % 2 = 0) : face n K i = ⟨(i / 2 : Nat) + 1, false, clip n (4 * K - i), i + 1⟩ := by
  unfold face front
  rw [if_pos h]
  congr 2 <;> omega
theorem face_odd (n : Int) (K i : Nat) (h : i % 2 = 1) : face n K i = ⟨(i / 2 : Nat) + 1, true, clip n (i + 1), clip n (4 * K - i)⟩ := by
  unfold face backf
  rw [if_neg (by omega)]
  congr 2 <;> omega
theorem law_faces (n : Int) (K : Nat) (h0 : 0 ≤ n) (h1 : n ≤ 500) (hK : (K : Int) = (n + 3) / 4) : formelaw42_faces.f n = some (faces n K, true, true) := by
  unfold formelaw42_faces.f
  rw [if_neg (by omega), if_neg (by omega), faces_f n K h0 h1 hK]
  simp only [Option.bind_some, if_true, faces_length]
  have e : wrap64 (n + 3) = n + 3 := EvT.w64 (by omega) (by omega)
  have e2 : Int.tdiv (n + 3) 4 = (K : Int) := by rw [Int.tdiv_eq_ediv_of_nonneg (by omega), hK]
  have h3 : (K : Int) ≤ 126 := by omega
  rw [e, e2, EvT.w64 (x := (K : Int)) (by omega) (by omega), EvT.w64 (by omega) (by omega)]
  simp
  omega
theorem law_none (n : Int) (h : n < 0 ∨ 500 < n) : formelaw42_faces.f n = some ([], false, true) := by
  unfold formelaw42_faces.f
  by_cases h0 : n < 0
  · rw [if_pos h0]
  · rw [if_neg h0, if_pos (by omega)]
/-- What a face says, as one puts it to omega. -/
theorem face_cases (n : Int) (K i : Nat) : (i % 2 = 0 ∧ (face n K i).f1 = false ∧ (face n K i).f3 = i + 1 ∧ (face n K i).f2 = clip n (4 * K - i) ∧ (face n K i).f0 = (i / 2 : Nat) + 1) ∨
    (i % 2 = 1 ∧ (face n K i).f1 = true ∧ (face n K i).f2 = clip n (i + 1) ∧ (face n K i).f3 = clip n (4 * K - i) ∧ (face n K i).f0 = (i / 2 : Nat) + 1) := by
  rcases Nat.mod_two_eq_zero_or_one i with h | h
  · left; rw [face_even n K i h]; exact ⟨h, rfl, rfl, rfl, rfl⟩
  · right; rw [face_odd n K i h]; exact ⟨h, rfl, rfl, rfl, rfl⟩
/-- The place of a page. -/
theorem lastAt_range (p : Int) (g : Nat → S29) (j : Nat) : ∀ m, (∀ i, i < m → i ≠ j → (g i).f3 ≠ p ∧ (g i).f2 ≠ p) →
    lastAt p ((List.range m).map g) = if j < m then (if (g j).f3 = p then some (g j, true) else if (g j).f2 = p then some (g j, false) else none) else none
  | 0, _ => rfl
  | m + 1, h => by
    rw [List.range_succ, List.map_append, List.map_cons, List.map_nil, lastAt_snoc, lastAt_range p g j m (fun i hi => h i (by omega))]
    by_cases hj : j = m
    · subst hj; rw [if_neg (Nat.lt_irrefl _), if_pos (Nat.lt_succ_self _)]
    · obtain ⟨h3, h2⟩ := h m (by omega) (Ne.symm hj)
      rw [if_neg h3, if_neg h2]
      by_cases hl : j < m
      · rw [if_pos hl, if_pos (show j < m + 1 by omega)]
      · rw [if_neg hl, if_neg (show ¬ j < m + 1 by omega)]
def idx (K p : Nat) : Nat := if p ≤ 2 * K then p - 1 else 4 * K - p
theorem lastAt_page (n : Int) (K p : Nat) (h0 : 0 ≤ n) (h1 : n ≤ 500) (hK : (K : Int) = (n + 3) / 4) (hp : 1 ≤ p) (hpn : (p : Int) ≤ n) :
    lastAt (p : Int) (faces n K) = some (face n K (idx K p), decide (p % 2 = 1)) ∧ idx K p < 2 * K := by
  have hi : idx K p < 2 * K := by unfold idx; split <;> omega
  refine ⟨?_, hi⟩
  unfold faces
  rw [lastAt_range (p : Int) (face n K) (idx K p) (2 * K) (fun i h hne => ?_), if_pos hi]
  · have hf := face_cases n K (idx K p)
    unfold clip at hf
    by_cases ho : p % 2 = 1
    · rw [if_pos (by unfold idx at hf ⊢; split at hf <;> rename_i hx <;> simp only [hx, if_true, if_false] <;> omega), decide_eq_true ho]
    · rw [if_neg (by unfold idx at hf ⊢; split at hf <;> rename_i hx <;> simp only [hx, if_true, if_false] <;> omega), if_pos (by unfold idx at hf ⊢; split at hf <;> rename_i hx <;> simp only [hx, if_true, if_false] <;> omega), decide_eq_false ho]
  · have hf := face_cases n K i
    unfold clip at hf
    unfold idx at hne
    split at hne <;> omega
theorem lastAt_off (n : Int) (K : Nat) (p : Int) (h0 : 0 ≤ n) (h1 : n ≤ 500) (hK : (K : Int) = (n + 3) / 4) (hp : p < 0 ∨ n < p) : lastAt p (faces n K) = none := by
  unfold faces
  rw [lastAt_range p (face n K) (2 * K) (2 * K) (fun i h hne => ?_), if_neg (by omega)]
  have hf := face_cases n K i
  unfold clip at hf
  omega
theorem wf_of (a : Int) (h0 : -9223372036854775808 ≤ a) (h1 : a ≤ 9223372036854775807) : (Lit.int .i64 a).wf = true := by
  have m1 : IntKind.i64.min = -9223372036854775808 := by decide +kernel
  have m2 : IntKind.i64.max = 9223372036854775807 := by decide +kernel
  simp [Lit.wf, m1, m2]; omega
theorem where_on (n : Int) (K p : Nat) (h0 : 0 ≤ n) (h1 : n ≤ 500) (hK : (K : Int) = (n + 3) / 4) (hp : 1 ≤ p) (hpn : (p : Int) ≤ n) :
    impose_Where.f n (p : Int) = some ((face n K (idx K p)).f0, (face n K (idx K p)).f1, (face n K (idx K p)).f2, (face n K (idx K p)).f3, decide (p % 2 = 1), 0) := by
  unfold impose_Where.f
  rw [if_pos (wf_of _ (by omega) (by omega)), faces_f n K h0 h1 hK]
  simp only [Option.bind_some, if_true, (lastAt_page n K p h0 h1 hK hp hpn).1]
  rw [if_neg (by omega)]
theorem where_off (n : Int) (K : Nat) (p : Int) (hw : (Lit.int .i64 p).wf = true) (h0 : 0 ≤ n) (h1 : n ≤ 500) (hK : (K : Int) = (n + 3) / 4) (hp : p < 1 ∨ n < p) : impose_Where.f n p = some (0, false, 0, 0, false, 4) := by
  unfold impose_Where.f
  rw [if_pos hw, faces_f n K h0 h1 hK]
  simp only [Option.bind_some, if_true]
  by_cases hz : p = 0
  · subst hz
    cases lastAt 0 (faces n K) <;> rfl
  · rw [lastAt_off n K p h0 h1 hK (by omega)]
/-- The laws over the faces of a booklet begin alike. -/
theorem begin_ev {g : Nat → List S29 → Bool → Bool → Option Bool} (n : Int)
    (hbad : Ev (fun k => g k [] true true) true) (hgood : ∀ K : Nat, 0 ≤ n → n ≤ 500 → (K : Int) = (n + 3) / 4 → Ev (fun k => g k (faces n K) true false) true) :
    Ev (fun k => (formelaw42_head.f k).bind fun t => if t = true then ((formelaw42_faces.f n).bind fun bt => if bt.2.1 = true then g k bt.1 bt.2.2 (!bt.2.2) else g k bt.1 bt.2.2 true) else none) true := by
  refine Ev.bind head_ev (EvT.ifp rfl ?_)
  by_cases h : 0 ≤ n ∧ n ≤ 500
  · obtain ⟨K, hK⟩ : ∃ K : Nat, (K : Int) = (n + 3) / 4 := ⟨((n + 3) / 4).toNat, by omega⟩
    exact EvT.bindc (law_faces n K h.1 h.2 hK) (EvT.ifp rfl (hgood K h.1 h.2 hK))
  · exact EvT.bindc (law_none n (by omega)) (EvT.ifn (by decide) hbad)
end Go.Proofs.Ytbllpiboodlepaa.Pure
