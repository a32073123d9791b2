import Derived.Test.YtdmfhabhcagioaaHLevels
import Derived.Lib.SliceRun
set_option linter.unusedVariables false
set_option linter.unusedSimpArgs false
namespace Go.Proofs.Ytdmfhabhcagioaa.P
open Go.RowKit Go.Proofs.YtdmfhabhcagioaaW.PrintWords Go.Proofs.YtdmfhabhcagioaaW.PrintLast Go.Proofs.YtdmfhabhcagioaaW.PrintMore Go.Proofs.Ytdmfhabhcagioaa.Rng Go.Bidi
attribute [local go_sem] Oper.semAt_some
def ClonePost (xs : List Int) (w : World) (e : Ending) (w' : World) : Prop := ∃ v : Value, e = .returned v ∧ Kd.R (Kd.int .i64) 3 w' w.heap.size (fun _ => True) v xs ∧ Below w.heap.size w w'
set_option maxRecDepth 100000 in
set_option maxHeartbeats 1000000 in
theorem clone38_calls (A : Option Addr) (c : Nat) (xs : List Int) (w : World) (hC : Kd.C (Kd.int .i64) w A xs.length xs) (hl : xs.length ≤ 1000000) : Calls Try.prog 38 #[.slice A xs.length c] w (ClonePost xs w) := by
  cases A with
  | none =>
    have h0 : xs = [] := by
      rcases Nat.eq_zero_or_pos xs.length with h | h
      · exact List.eq_nil_of_length_eq_zero h
      · obtain ⟨ad, e, _⟩ := Kd.at_int hC 0 (by omega) (by omega)
        cases e
    subst h0
    have heq := fun W => Lib.run_eql_slice_nil (P := Try.prog) W 23 3 none 0 c 0 0 Try.underlying23
    clear hC hl
    go_enter Try.func38, Try.ntmps38
    go_wp2
    go_ret
    exact ⟨_, rfl, Kd.R_nil _ _ _ _ _, Below.refl _ _⟩
  | some ad =>
    have heq := fun W => Lib.run_eql_slice_nil (P := Try.prog) W 23 3 (some ad) xs.length c 0 0 Try.underlying23
    have HC := Aside0.mk hC
    have HL := Aside0.mk hl
    clear hC hl
    go_enter Try.func38, Try.ntmps38
    go_wp2_with (first | ((with_reducible refine gate_dst (N := 5) rfl ?_); refine Kd.R_lit (Kd.int .i64) (w0 := w) w.heap.size 3 ?hg (N := 5) ?hd (xs := ([] : List Int)) (inner := []) (ok := fun _ => True) (okp := fun _ => True) ?hr (Reps.none _ _) (fun _ hk => hk) trivial (Below.refl _ _) (Nat.le_refl _) (by simp) ?_; (case hd => rfl); (case hg => rfl); (case hr => first | (go_simp; done) | (go_simp; rfl)); intro v1 w1 ho hb hg_ hnew_; obtain ⟨A1, c1, e1⟩ := Kd.R_slice ho; simp only [List.length_nil] at e1; subst e1; have HO := Aside0.mk ho; have HB := Aside0.mk hb; clear ho hb hg_ hnew_) | (at_builtin; refine Kd.R_append_rows (Kd.int .i64) (w0 := w) w.heap.size rfl (.tmp 5) (.tmp 6) 23 3 (.int .i64 0) 8 rfl Try.underlying23 info3 rfl (by decide) (by omega) (.slice A1 0 c1) [] xs _ _ _ (fun _ => True) (fun _ => False) rfl rfl HO.out (Kd.C_below HC.out HB.out) (fun _ _ h => h) (fun _ h => h.elim) (fun _ _ => trivial) HB.out HB.out.size (by have := HL.out; simp; omega) ?_; intro v2 w2 ho hb hg hat; have HO2 := Aside0.mk ho; have HB2 := Aside0.mk hb; clear ho hb hg hat))
    go_ret
    exact ⟨_, rfl, by have := HO2.out; rwa [List.nil_append] at this, HB2.out⟩
/-- A stretch, of which j elements at each end have changed places. -/
def revTo (l : List Int) (i k j : Nat) : List Int := (List.range l.length).map fun p => if (i ≤ p ∧ p < i + j) ∨ (k - j ≤ p ∧ p < k) then l.getD (i + k - 1 - p) 0 else l.getD p 0
theorem revTo_length (l : List Int) (i k j : Nat) : (revTo l i k j).length = l.length := by simp [revTo]
theorem revTo_get (l : List Int) (i k j p : Nat) (h : p < l.length) : (revTo l i k j)[p]? = some (if (i ≤ p ∧ p < i + j) ∨ (k - j ≤ p ∧ p < k) then l.getD (i + k - 1 - p) 0 else l.getD p 0) := by
  simp [revTo, h]
theorem getD_self (l : List Int) (p : Nat) (h : p < l.length) : l[p]? = some (l.getD p 0) := by simp [List.getD_eq_getElem?_getD, h]
theorem revTo_zero (l : List Int) (i k : Nat) (h : i ≤ k) : revTo l i k 0 = l := by
  refine List.ext_getElem? fun p => ?_
  by_cases hp : p < l.length
  · rw [revTo_get l i k 0 p hp, if_neg (by omega), getD_self l p hp]
  · rw [List.getElem?_eq_none (by rw [revTo_length]; omega), List.getElem?_eq_none (by omega)]
theorem revTo_succ (l : List Int) (i k j : Nat) (hk : k ≤ l.length) (hj : i + j < k - 1 - j) :
    revTo l i k (j + 1) = ((revTo l i k j).set (i + j) (l.getD (k - 1 - j) 0)).set (k - 1 - j) (l.getD (i + j) 0) := by
  refine List.ext_getElem? fun p => ?_
  by_cases hp : p < l.length
  · rw [revTo_get l i k (j + 1) p hp, List.getElem?_set, List.getElem?_set, revTo_get l i k j p hp]
    by_cases h1 : k - 1 - j = p
    · rw [if_pos h1, if_pos (show k - 1 - j < _ by simp [revTo_length]; omega), if_pos (show (i ≤ p ∧ p < i + (j + 1)) ∨ (k - (j + 1) ≤ p ∧ p < k) from .inr (by omega)), show i + k - 1 - p = i + j by omega]
    · rw [if_neg h1]
      by_cases h2 : i + j = p
      · rw [if_pos h2, if_pos (show i + j < _ by rw [revTo_length]; omega), if_pos (show (i ≤ p ∧ p < i + (j + 1)) ∨ (k - (j + 1) ≤ p ∧ p < k) from .inl (by omega)), show i + k - 1 - p = k - 1 - j by omega]
      · rw [if_neg h2]
        by_cases h3 : (i ≤ p ∧ p < i + j) ∨ (k - j ≤ p ∧ p < k)
        · rw [if_pos h3, if_pos (show (i ≤ p ∧ p < i + (j + 1)) ∨ (k - (j + 1) ≤ p ∧ p < k) by omega)]
        · rw [if_neg h3, if_neg (show ¬ ((i ≤ p ∧ p < i + (j + 1)) ∨ (k - (j + 1) ≤ p ∧ p < k)) by omega)]
  · rw [List.getElem?_eq_none (by rw [revTo_length]; omega), List.getElem?_eq_none (by simp [revTo_length]; omega)]
theorem revTo_at (l : List Int) (i k j p : Nat) (hp : p < l.length) (h1 : i + j ≤ p) (h2 : p < k - j) : rdOf 0 (revTo l i k j) (p : Int) = l.getD p 0 := by
  unfold rdOf
  rw [Int.toNat_natCast, List.getD_eq_getElem?_getD, revTo_get l i k j p hp, if_neg (by omega)]
  rfl
theorem revTo_end (l : List Int) (i k j : Nat) (hik : i ≤ k) (hk : k ≤ l.length) (h1 : k - i ≤ 2 * j + 1) (h2 : 2 * j ≤ k - i) : revTo l i k j = revSeg l (i, k) := by
  refine List.ext_getElem? fun p => ?_
  by_cases hp : p < l.length
  · rw [revTo_get l i k j p hp]
    unfold revSeg
    simp only
    by_cases h3 : p < i
    · rw [if_neg (by omega), List.append_assoc, List.getElem?_append_left (by simp; omega), List.getElem?_take, if_pos h3, getD_self l p hp]
    · by_cases h4 : p < k
      · have hlen : (l.take i).length = i := by simp; omega
        have hlen2 : ((l.take k).drop i).length = k - i := by simp; omega
        have hlen3 : ((l.take k).drop i).reverse.length = k - i := by rw [List.length_reverse, hlen2]
        rw [List.getElem?_append_left (by rw [List.length_append, hlen, hlen3]; omega), List.getElem?_append_right (by rw [hlen]; omega), hlen, List.getElem?_reverse (by rw [hlen2]; omega), hlen2, List.getElem?_drop, List.getElem?_take]
        have e0 : i + (k - i - 1 - (p - i)) = i + k - 1 - p := by omega
        rw [e0, if_pos (show i + k - 1 - p < k by omega), getD_self l (i + k - 1 - p) (by omega)]
        by_cases h5 : (i ≤ p ∧ p < i + j) ∨ (k - j ≤ p ∧ p < k)
        · rw [if_pos h5]
        · rw [if_neg h5, show i + k - 1 - p = p by omega]
      · have hlen : (l.take i ++ ((l.take k).drop i).reverse).length = k := by simp; omega
        rw [if_neg (by omega), List.getElem?_append_right (by rw [hlen]; omega), hlen, List.getElem?_drop, show k + (p - k) = p by omega, getD_self l p hp]
  · rw [List.getElem?_eq_none (by rw [revTo_length]; omega), List.getElem?_eq_none (by rw [revSeg_length l (i, k) hik hk]; omega)]
set_option maxRecDepth 100000 in
set_option maxHeartbeats 2000000 in
theorem rev39_calls (g i k cap c2 : Nat) (xs : List Int) (w : World) (base : Nat) (ok : Nat → Prop) (hR : Kd.R (Kd.int .i64) 3 w base ok (.slice (some ⟨g, 0, none⟩) xs.length cap) xs) (hik : i < k) (hk : k ≤ xs.length) (hl : xs.length ≤ 1000000) (hgb : base ≤ g) (hglt : g < w.heap.size) :
    Calls Try.prog 39 #[.slice (some ⟨g, i, none⟩) (k - i) c2] w fun e w' => (∃ v, e = .returned v) ∧ Kd.R (Kd.int .i64) 3 w' base ok (.slice (some ⟨g, 0, none⟩) xs.length cap) (revSeg xs (i, k)) ∧ w.grownBy w' (some g) := by
  have HR := Aside0.mk hR
  have HK := Aside0.mk (And.intro hik hk)
  have HL := Aside0.mk hl
  obtain ⟨m, hm⟩ : ∃ m, k - i = m := ⟨_, rfl⟩
  rw [hm]
  have HM := Aside0.mk hm
  have hsub : IntKind.i64.wrap ((m : Int) - 1) = (m : Int) - 1 := IntWalk.i64_in _ (by omega)
  have hsub2 : wrap64 ((m : Int) - 1) = (m : Int) - 1 := by unfold wrap64; omega
  clear hR hik hk hl hm hgb hglt
  go_enter Try.func39, Try.ntmps39
  go_wp2
  go_loopg [2, 3] m (fun kq v2 v3 w' => ∃ j : Nat, v2 = .int .i64 (j : Int) ∧ v3 = .int .i64 ((m : Int) - 1 - (j : Int)) ∧ Aside0 (kq + j = m ∧ 2 * j ≤ m) ∧ Aside0 (Kd.R (Kd.int .i64) 3 w' base ok (.slice (some ⟨g, 0, none⟩) xs.length cap) (revTo xs i k j)) ∧ Aside0 (w.grownBy w' (some g)))
  case atStart => exact ⟨0, rfl, by simp [hsub, hsub2], ⟨⟨rfl, by omega⟩⟩, ⟨by rw [revTo_zero _ _ _ (by have := HK.out; omega)]; exact HR.out⟩, ⟨World.grownBy.refl _ _⟩⟩
  case round =>
    clear hsub hsub2
    obtain ⟨j, rfl, rfl, HQ, HO, HG⟩ := hrel
    by_cases hlt : (j : Int) < (m : Int) - 1 - (j : Int)
    · have d1 : decide ((j : Int) < (m : Int) - 1 - (j : Int)) = true := decide_eq_true hlt
      cases gk with
      | zero => exact absurd HQ.out.1 (by omega)
      | succ k1 =>
        obtain ⟨jb, hjb⟩ : ∃ jb : Nat, (m : Int) - 1 - (j : Int) = (jb : Int) := ⟨m - 1 - j, by omega⟩
        have HJ : Aside0 (j < jb ∧ jb < m ∧ i + jb = k - 1 - j ∧ k ≤ xs.length ∧ i + j < k - 1 - j) := ⟨by have := HM.out; have := HK.out; omega⟩
        rw [hjb] at d1 ⊢
        have d1b : decide (j < jb) = true := decide_eq_true HJ.out.1
        have hsum : IntKind.i64.wrap ((j : Int) + 1) = ((j + 1 : Nat) : Int) := IntWalk.i64_in _ (by have := HM.out; have := HK.out; have := HL.out; omega)
        have hsum2 : wrap64 ((j : Int) + 1) = ((j + 1 : Nat) : Int) := by have := HM.out; have := HK.out; have := HL.out; unfold wrap64; omega
        have hsb : IntKind.i64.wrap ((jb : Int) - 1) = (m : Int) - 1 - ((j + 1 : Nat) : Int) := by rw [← hjb]; rw [IntWalk.i64_in _ (by have := HM.out; have := HK.out; have := HL.out; omega)]; omega
        have hsb2 : wrap64 ((jb : Int) - 1) = (m : Int) - 1 - ((j + 1 : Nat) : Int) := by rw [← hjb]; have := HM.out; have := HK.out; have := HL.out; unfold wrap64; omega
        have p1 : (0 ≤ (j : Int)) = True := eq_true (by omega)
        have q1 : ((j : Int) < (m : Int)) = True := eq_true (by omega)
        have p2 : (0 ≤ (jb : Int)) = True := eq_true (by omega)
        have q2 : ((jb : Int) < (m : Int)) = True := eq_true (by omega)
        have hNX := revTo_succ xs i k j HJ.out.2.2.2.1 HJ.out.2.2.2.2
        have ha := (Kd.R_celln 0 HO.out ((i + j : Nat) : Int) (by omega) (by have := HJ.out; omega))
        have hb := (Kd.R_celln 0 HO.out ((i + jb : Nat) : Int) (by omega) (by have := HJ.out; omega))
        rw [revTo_at xs i k j (i + j) (by have := HJ.out; omega) (Nat.le_refl _) (by have := HJ.out; omega)] at ha
        rw [revTo_at xs i k j (i + jb) (by have := HJ.out; omega) (by have := HJ.out; omega) (by have := HJ.out; omega)] at hb
        rw [Int.toNat_natCast] at ha hb
        rw [← HJ.out.2.2.1] at hNX
        obtain ⟨X, hX⟩ : ∃ X, xs.getD (i + j) 0 = X := ⟨_, rfl⟩
        obtain ⟨Y, hY⟩ : ∃ Y, xs.getD (i + jb) 0 = Y := ⟨_, rfl⟩
        rw [hX] at ha hNX
        rw [hY] at hb hNX
        obtain ⟨ha1, ha2⟩ := ha
        obtain ⟨hb1, hb2⟩ := hb
        have hadd1 : (⟨g, i, none⟩ : Addr).add j = ⟨g, i + j, none⟩ := by simp [Addr.add]; try omega
        have hadd2 : (⟨g, i, none⟩ : Addr).add jb = ⟨g, i + jb, none⟩ := by simp [Addr.add]; try omega
        have HNX := Aside0.mk hNX
        have HAB := Aside0.mk (And.intro ha1 hb1)
        clear hNX hX hY hlt hjb
        go_wp2
        refine start_ (n := 16) (S := fun w' => w'.cell? ⟨g, i + jb, none⟩ = some (.int .i64 Y) ∧ w'.cell? ⟨g, i + j, none⟩ = some (.int .i64 X)) (ds := [13, 15]) #[false, false, false, false, false, false, false, false, false, false, false, false, false, false, false, false] (by kernel_rfl) rfl rfl ⟨HAB.out.2, HAB.out.1⟩ (fun hHeld => ?_)
        have HO1 := Aside0.mk (Kd.R_drew HO.out)
        have HG1 := Aside0.mk (HG.out.trans (show wr.grownBy wr.drew (some g) from ⟨rfl, rfl, rfl, Nat.le_refl _, fun _ _ _ => rfl⟩))
        clear HO HG HAB
        generalize World.drew _ = w25 at HO1 HG1 hHeld ha1 ha2 hb1 hb2 ⊢
        have hfa := (Kd.R_celln 0 HO1.out ((i + j : Nat) : Int) (by omega) (by have := HJ.out; omega)).2
        rw [Int.toNat_natCast] at hfa
        have hp := Kd.R_putg HO1.out ((i + j : Nat) : Int) Y
        rw [Int.toNat_natCast] at hp
        have hq := Kd.R_putg hp.1 ((i + jb : Nat) : Int) X
        rw [Int.toNat_natCast] at hq
        have hf2 := (Kd.R_celln 0 hp.1 ((i + jb : Nat) : Int) (by omega) (by have := HJ.out; omega))
        rw [Int.toNat_natCast] at hf2
        obtain ⟨hf3, hf4⟩ := hf2
        have HP := Aside0.mk hp
        have HQ2 := Aside0.mk hq
        clear hp hq
        refine pure_ (i := 0) (N := some 14) (v := ?_) (a' := ?_) #[true, false, false, false, false, false, false, false, false, false, false, false, false, false, false, false] rfl rfl (by kernel_rfl) (fun _ _ _ h => h) (Or.inl ⟨by rfl, ?_⟩) ?_ ?_
        rotate_left
        · intro w' 
          go_simp
          with_reducible rfl
        rotate_left
        · simp only [Act.put, List.setIfInBounds_toArray, List.set_cons_zero, List.set_cons_succ, i64_w, i32_w]
          rfl
        refine pure_ (i := 1) (N := some 15) (v := ?_) (a' := ?_) #[true, true, false, false, false, false, false, false, false, false, false, false, false, false, false, false] rfl rfl (by kernel_rfl) (fun _ _ _ h => h) (Or.inl ⟨by rfl, ?_⟩) ?_ ?_
        rotate_left
        · intro w' 
          go_simp
          with_reducible rfl
        rotate_left
        · simp only [Act.put, List.setIfInBounds_toArray, List.set_cons_zero, List.set_cons_succ, i64_w, i32_w]
          rfl
        refine pure_ (i := 2) (N := some 16) (v := ?_) (a' := ?_) #[true, true, true, false, false, false, false, false, false, false, false, false, false, false, false, false] rfl rfl (by kernel_rfl) (fun _ _ _ h => h) (Or.inl ⟨by rfl, ?_⟩) ?_ ?_
        rotate_left
        · intro w' 
          go_simp
          with_reducible rfl
        rotate_left
        · simp only [Act.put, List.setIfInBounds_toArray, List.set_cons_zero, List.set_cons_succ, i64_w, i32_w]
          rfl
        refine pure_ (i := 3) (N := some 17) (v := ?_) (a' := ?_) #[true, true, true, true, false, false, false, false, false, false, false, false, false, false, false, false] rfl rfl (by kernel_rfl) (fun _ _ _ h => h) (Or.inl ⟨by rfl, ?_⟩) ?_ ?_
        rotate_left
        · intro w' 
          go_simp
          with_reducible rfl
        rotate_left
        · simp only [Act.put, List.setIfInBounds_toArray, List.set_cons_zero, List.set_cons_succ, i64_w, i32_w]
          rfl
        refine pure_ (i := 4) (N := some 18) (v := ?_) (a' := ?_) #[true, true, true, true, true, false, false, false, false, false, false, false, false, false, false, false] rfl rfl (by kernel_rfl) (fun _ _ _ h => h) (Or.inl ⟨by rfl, ?_⟩) ?_ ?_
        rotate_left
        · intro w' 
          go_simp
          with_reducible rfl
        rotate_left
        · simp only [Act.put, List.setIfInBounds_toArray, List.set_cons_zero, List.set_cons_succ, i64_w, i32_w]
          rfl
        refine pure_ (i := 5) (N := some 19) (v := ?_) (a' := ?_) #[true, true, true, true, true, true, false, false, false, false, false, false, false, false, false, false] rfl rfl (by kernel_rfl) (fun _ _ _ h => h) (Or.inl ⟨by rfl, ?_⟩) ?_ ?_
        rotate_left
        · intro w' 
          go_simp
          with_reducible rfl
        rotate_left
        · simp only [Act.put, List.setIfInBounds_toArray, List.set_cons_zero, List.set_cons_succ, i64_w, i32_w]
          rfl
        refine pure_ (i := 6) (N := some 20) (v := ?_) (a' := ?_) #[true, true, true, true, true, true, true, false, false, false, false, false, false, false, false, false] rfl rfl (by kernel_rfl) (fun _ _ _ h => h) (Or.inl ⟨by rfl, ?_⟩) ?_ ?_
        rotate_left
        · intro w' 
          go_simp
          with_reducible rfl
        rotate_left
        · simp only [Act.put, List.setIfInBounds_toArray, List.set_cons_zero, List.set_cons_succ, i64_w, i32_w]
          rfl
        refine pure_ (i := 8) (N := some 22) (v := ?_) (a' := ?_) #[true, true, true, true, true, true, true, false, true, false, false, false, false, false, false, false] rfl rfl (by kernel_rfl) (fun _ _ _ h => h) (Or.inl ⟨by rfl, ?_⟩) ?_ ?_
        rotate_left
        · intro w' 
          go_simp
          with_reducible rfl
        rotate_left
        · simp only [Act.put, List.setIfInBounds_toArray, List.set_cons_zero, List.set_cons_succ, i64_w, i32_w]
          rfl
        refine pure_ (i := 9) (N := some 23) (v := ?_) (a' := ?_) #[true, true, true, true, true, true, true, false, true, true, false, false, false, false, false, false] rfl rfl (by kernel_rfl) (fun _ _ _ h => h) (Or.inl ⟨by rfl, ?_⟩) ?_ ?_
        rotate_left
        · intro w' 
          go_simp
          with_reducible rfl
        rotate_left
        · simp only [Act.put, List.setIfInBounds_toArray, List.set_cons_zero, List.set_cons_succ, i64_w, i32_w]
          rfl
        refine pure_ (i := 10) (N := some 24) (v := ?_) (a' := ?_) #[true, true, true, true, true, true, true, false, true, true, true, false, false, false, false, false] rfl rfl (by kernel_rfl) (fun _ _ _ h => h) (Or.inl ⟨by rfl, ?_⟩) ?_ ?_
        rotate_left
        · intro w' 
          go_simp
          with_reducible rfl
        rotate_left
        · simp only [Act.put, List.setIfInBounds_toArray, List.set_cons_zero, List.set_cons_succ, i64_w, i32_w]
          rfl
        refine take_ (i := 7) (N := some 21) (v := ?_) (a' := ?_) #[true, true, true, true, true, true, true, true, true, true, true, false, false, false, false, false] rfl rfl (by kernel_rfl) (fun _ _ _ h => h) (Or.inl ⟨by rfl, ?_⟩) hHeld ?_ ?_
        rotate_left
        · rintro w' ⟨s0, s1⟩
          go_simp
          with_reducible rfl
        rotate_left
        · simp only [Act.put, List.setIfInBounds_toArray, List.set_cons_zero, List.set_cons_succ, i64_w, i32_w]
          rfl
        refine take_ (i := 11) (N := some 25) (v := ?_) (a' := ?_) #[true, true, true, true, true, true, true, true, true, true, true, true, false, false, false, false] rfl rfl (by kernel_rfl) (fun _ _ _ h => h) (Or.inl ⟨by rfl, ?_⟩) hHeld ?_ ?_
        rotate_left
        · rintro w' ⟨s0, s1⟩
          go_simp
          with_reducible rfl
        rotate_left
        · simp only [Act.put, List.setIfInBounds_toArray, List.set_cons_zero, List.set_cons_succ, i64_w, i32_w]
          rfl
        refine pure_ (i := 12) (N := some 26) (v := ?_) (a' := ?_) #[true, true, true, true, true, true, true, true, true, true, true, true, true, false, false, false] rfl rfl (by kernel_rfl) (fun _ _ _ h => h) (Or.inl ⟨by rfl, ?_⟩) ?_ ?_
        rotate_left
        · intro w' 
          go_simp
          with_reducible rfl
        rotate_left
        · simp only [Act.put, List.setIfInBounds_toArray, List.set_cons_zero, List.set_cons_succ, i64_w, i32_w]
          rfl
        refine last_ (i := 13) (N := none) #[true, true, true, true, true, true, true, true, true, true, true, true, true, true, false, false] rfl rfl (by kernel_rfl) (by decide) (fun K hK => ?_)
        refine skip_ (w1 := w25.setCell ⟨g, i + j, none⟩ (.int .i64 Y)) (by rfl) rfl (by go_simp) ?_
        refine hK.out _ _ ?_
        clear hK K
        refine pure_ (i := 14) (N := some 27) (v := ?_) (a' := ?_) #[true, true, true, true, true, true, true, true, true, true, true, true, true, true, true, false] rfl rfl (by kernel_rfl) (fun _ _ _ h => h) (Or.inl ⟨by rfl, ?_⟩) ?_ ?_
        rotate_left
        · intro w' 
          go_simp
          with_reducible rfl
        rotate_left
        · simp only [Act.put, List.setIfInBounds_toArray, List.set_cons_zero, List.set_cons_succ, i64_w, i32_w]
          rfl
        refine last_ (i := 15) (N := none) #[true, true, true, true, true, true, true, true, true, true, true, true, true, true, true, true] rfl rfl (by kernel_rfl) (by decide) (fun K hK => ?_)
        refine skip_ (w1 := (w25.setCell ⟨g, i + j, none⟩ (.int .i64 Y)).setCell ⟨g, i + jb, none⟩ (.int .i64 X)) (by rfl) rfl (by go_simp) ?_
        refine hK.out _ _ ?_
        clear hK K
        refine done_ (by kernel_rfl) ?_
        go_wp2
        go_roundg k1
        case measure => omega
        case rel => exact ⟨j + 1, by simp [hsum, hsum2], by simp [hsb, hsb2], ⟨by have := HQ.out; have := HJ.out; have := HM.out; omega⟩, ⟨by rw [HNX.out]; exact HQ2.out.1⟩, ⟨(HG1.out.trans HP.out.2).trans HQ2.out.2⟩⟩
    · have d1 : decide ((j : Int) < (m : Int) - 1 - (j : Int)) = false := decide_eq_false hlt
      have HE : Aside0 (revTo xs i k j = revSeg xs (i, k)) := ⟨revTo_end xs i k j (by have := HK.out; omega) HK.out.2 (by have := HM.out; omega) (by have := HM.out; have := HQ.out; omega)⟩
      clear hlt
      go_wp2
      first | go_end0 | ((try simp only [Exit.inBlock, Exit.then]); refine bodyPost_ret (results_none rfl _ _ _) rfl ?_)
      exact ⟨⟨_, rfl⟩, by rw [← HE.out]; exact HO.out, HG.out⟩
end Go.Proofs.Ytdmfhabhcagioaa.P
