/- For any string and direction, all functions return what the reference implementation returns (up to 300 bytes, or more than 2000). Conditions: those of the statement alone. -/
import Derived.Test.YtdmfhabhcagioaaPx8
import Derived.Test.YtdmfhabhcagioaaHPures2
set_option linter.unusedVariables false
set_option linter.unusedSimpArgs false
namespace Go.Proofs.Ytdmfhabhcagioaa.Pure
open Go.RowKit Go.Proofs.Ytdmfhabhcagioaa.P Go.Proofs.YtdmfhabhcagioaaW.PrintWords Go.Proofs.YtdmfhabhcagioaaW.PrintLast Go.Bidi
theorem neut_ev (c : Int) : Ev (fun k => formeref09_Neutral.f k c) (neutC c) := Ev.bind (class_ev c) (Ev.now _)
theorem up1 {n : Nat} (h : n ≤ 5000) : wrap64 ((n : Int) + 1) = ((n + 1 : Nat) : Int) := EvT.w64 (by omega) (by omega)
theorem same_loop (a : List Int) (hn : a.length ≤ 5000) : ∀ (d i : Nat), i + d = a.length → Ev (fun k => formeref09_SameInts.l0 k a a (i : Int)) true
  | 0, i, e => by
    obtain rfl : i = a.length := by omega
    exact Ev.step (fun k => rfl) (EvT.ifn (by omega) (Ev.now _))
  | d + 1, i, e => by
    have IH := same_loop a hn d (i + 1) (by omega)
    refine Ev.step (fun k => rfl) (EvT.ifp (by omega) (EvT.ifp (by omega) (EvT.ifp (by omega) (EvT.ifp rfl ?_))))
    rw [up1 (by omega)]
    exact IH
theorem same_ev (a : List Int) (hn : a.length ≤ 5000) : Ev (fun k => formeref09_SameInts.f k a a) true := EvT.ifp rfl (same_loop a hn a.length 0 (by omega))
/-- The first pass. -/
theorem dirs_loop0 (s : ByteArray) (dir : Int) (hs : s.size ≤ 2000) {r : List Int} (hr : Ev (fun k => formeref09_directions.l1 k s dir (lets dir (classes s)) 0) r) : ∀ (d i : Nat), i + d = s.size →
    Ev (fun k => formeref09_directions.l0 k s dir (letsTo s dir i) (endD dir ((classes s).take i)) (i : Int)) r
  | 0, i, e => by
    obtain rfl : i = s.size := by omega
    rw [letsTo_all]
    exact Ev.step (fun k => rfl) (EvT.ifn (by omega) hr)
  | d + 1, i, e => by
    have hi : i < s.size := by omega
    have IH := dirs_loop0 s dir hs hr d (i + 1) (by omega)
    have hl := letsTo_length s dir i (by omega)
    rw [letsTo_succ s dir i hi, class_at s i hi, endD_snoc] at IH
    refine Ev.step (fun k => rfl) (EvT.ifp (by omega) (EvT.ifp (by omega) (Ev.bind (class_ev _) (EvT.ite (fun h => EvT.ifp (by omega) ?_) (fun h => EvT.ite (fun h2 => EvT.ifp (by omega) ?_) (fun h2 => EvT.ifp (by omega) ?_))))))
    · rw [show upd (endD dir ((classes s).take i)) (cls (bt s (i : Int))) = 0 by unfold upd; rw [if_pos h]] at IH
      rw [Int.toNat_natCast, up1 (by omega)]; exact IH
    · rw [show upd (endD dir ((classes s).take i)) (cls (bt s (i : Int))) = 1 by unfold upd; rw [if_neg h, if_pos h2]] at IH
      rw [Int.toNat_natCast, up1 (by omega)]; exact IH
    · rw [show upd (endD dir ((classes s).take i)) (cls (bt s (i : Int))) = endD dir ((classes s).take i) by unfold upd; rw [if_neg h, if_neg h2]] at IH
      rw [Int.toNat_natCast, up1 (by omega)]; exact IH
/-- Where a stretch ends. -/
theorem run_end {α : Type} (p : α → Bool) (l : List α) (i : Nat) (hi : i < l.length) (hp : p l[i] = true) : ∃ k, i < k ∧ k ≤ l.length ∧ (∀ j (h : j < l.length), i ≤ j → j < k → p l[j] = true) ∧ (∀ h : k < l.length, p l[k] = false) := by
  have : ∀ (d k : Nat), k + d = l.length → i < k → (∀ j (h : j < l.length), i ≤ j → j < k → p l[j] = true) → ∃ k, i < k ∧ k ≤ l.length ∧ (∀ j (h : j < l.length), i ≤ j → j < k → p l[j] = true) ∧ (∀ h : k < l.length, p l[k] = false) := by
    intro d
    induction d with
    | zero => intro k hk hik hj; exact ⟨k, hik, by omega, hj, fun h => by omega⟩
    | succ d ih =>
      intro k hk hik hj
      have hkl : k < l.length := by omega
      by_cases hpk : p l[k] = true
      · refine ih (k + 1) (by omega) (by omega) (fun j h h1 h2 => ?_)
        by_cases hjk : j = k
        · subst hjk; exact hpk
        · exact hj j h h1 (by omega)
      · exact ⟨k, hik, by omega, hj, fun h => by simpa using hpk⟩
  exact this (l.length - (i + 1)) (i + 1) (by omega) (by omega) (fun j h h1 h2 => by obtain rfl : j = i := by omega
                                                                                     exact hp)
theorem runs_of {α : Type} (p : α → Bool) (l : List α) (i k : Nat) (hik : i < k) (hk : k ≤ l.length) (h1 : ∀ j (h : j < l.length), i ≤ j → j < k → p l[j] = true) (h2 : ∀ h : k < l.length, p l[k] = false) : runsL p i i (l.drop i) = (i, k) :: runsL p (k + 1) (k + 1) (l.drop (k + 1)) := by
  have go : ∀ (d j : Nat), j + d = k → i ≤ j → runsL p i i (l.drop i) = runsL p i j (l.drop j) → runsL p i i (l.drop i) = runsL p i k (l.drop k) := by
    intro d
    induction d with
    | zero => intro j e _ h; obtain rfl : j = k := by omega
              exact h
    | succ d ih =>
      intro j e hij h
      have hjl : j < l.length := by omega
      exact ih (j + 1) (by omega) (by omega) (h.trans (runs_in p l i j l[j] (List.getElem?_eq_getElem hjl) (h1 j hjl hij (by omega))))
  rw [go (k - i) i (by omega) (Nat.le_refl _) rfl]
  by_cases hkl : k < l.length
  · rw [runs_out p l i k l[k] (List.getElem?_eq_getElem hkl) (h2 hkl), if_pos hik]; rfl
  · rw [runs_end p l i k (by omega), if_pos hik]; rfl
theorem neut_at (s : ByteArray) (j : Nat) (h : j < (bytesOf s).length) : neutC (bytesOf s)[j] = neutC (bt s (j : Int)) := by
  have := bt_nat s j (by rw [bytesOf_length] at h; exact h)
  rw [List.getElem?_eq_getElem h] at this
  rw [Option.some.inj this]
/-- A stretch is filled. -/
theorem fill_loop (s : ByteArray) (dir b a : Int) (x : List Int) (hs : s.size ≤ 2000) (hx : x.length = s.size) (i k : Nat) (hk : k ≤ s.size) {r : List Int}
    (hr : Ev (fun n => formeref09_directions.l1 n s dir (fillSeg x i k (if b = a then b else dir)) ((i + 1 : Nat) : Int)) r) : ∀ (d j : Nat), j + d = k → i ≤ j →
    Ev (fun n => formeref09_directions.l3 n s dir (fillSeg x i j (if b = a then b else dir)) (i : Int) b (k : Int) a (j : Int)) r
  | 0, j, e, hij => by
    obtain rfl : j = k := by omega
    refine Ev.step (fun k => rfl) (EvT.ifn (by omega) ?_)
    rw [up1 (by omega)]
    exact hr
  | d + 1, j, e, hij => by
    have IH := fill_loop s dir b a x hs hx i k hk hr d (j + 1) (by omega) (by omega)
    have hl := fillSeg_length x i j (if b = a then b else dir) hij (by omega)
    rw [fillSeg_succ x i j _ hij (by omega)] at IH
    refine Ev.step (fun k => rfl) (EvT.ifp (by omega) (EvT.ifp (by omega) (EvT.ifp (by omega) (EvT.bindc rfl (EvT.ite (fun h => ?_) (fun h => ?_))))))
    · rw [Int.toNat_natCast, List.set_set, up1 (by omega)]
      rw [if_pos h] at IH ⊢
      exact IH
    · rw [Int.toNat_natCast, up1 (by omega)]
      rw [if_neg h] at IH ⊢
      exact IH
/-- The end of a stretch is sought. -/
theorem seek_loop (s : ByteArray) (dir b : Int) (x : List Int) (hs : s.size ≤ 2000) (i k : Nat) (hk : k ≤ s.size) (h1 : ∀ j : Nat, i ≤ j → j < k → neutC (bt s (j : Int)) = true) (h2 : k < s.size → neutC (bt s (k : Int)) = false) {r : List Int}
    (hr : Ev (fun n => formeref09_directions.j5 n s dir x (i : Int) b (k : Int)) r) : ∀ (d j : Nat), j + d = k → i ≤ j → Ev (fun n => formeref09_directions.l2 n s dir x (i : Int) b (j : Int)) r
  | 0, j, e, hij => by
    obtain rfl : j = k := by omega
    by_cases hjs : j < s.size
    · refine Ev.step (fun k => rfl) (EvT.ifp (by omega) (EvT.ifp (by omega) (Ev.bind (neut_ev _) (EvT.ifn (by rw [h2 hjs]; decide) hr))))
    · exact Ev.step (fun k => rfl) (EvT.ifn (by omega) hr)
  | d + 1, j, e, hij => by
    refine Ev.step (fun k => rfl) (EvT.ifp (by omega) (EvT.ifp (by omega) (Ev.bind (neut_ev _) (EvT.ifp (h1 j hij (by omega)) ?_))))
    rw [up1 (by omega)]
    exact seek_loop s dir b x hs i k hk h1 h2 hr d (j + 1) (by omega) (by omega)
theorem j2_true (s : ByteArray) (dir : Int) (x : List Int) (j : Nat) (hj : j ≤ 5000) {r : List Int} (hr : Ev (fun n => formeref09_directions.l1 n s dir x ((j + 1 : Nat) : Int)) r) : ∀ q, q = true → Ev (fun n => formeref09_directions.j2 n s dir x (j : Int) q) r := fun q hq => by
  refine Ev.step (fun k => rfl) (EvT.ifp hq ?_)
  rw [up1 hj]
  exact hr
/-- The rest of a stretch that has been filled is passed over. -/
theorem pass_loop (s : ByteArray) (dir : Int) (x : List Int) (hs : s.size ≤ 2000) (i k : Nat) (hk : k ≤ s.size) (h1 : ∀ j : Nat, i ≤ j → j < k → neutC (bt s (j : Int)) = true) {r : List Int}
    (hr : Ev (fun n => formeref09_directions.l1 n s dir x (k : Int)) r) : ∀ (d j : Nat), j + d = k → i < j → Ev (fun n => formeref09_directions.l1 n s dir x (j : Int)) r
  | 0, j, e, hij => by
    obtain rfl : j = k := by omega
    exact hr
  | d + 1, j, e, hij => by
    have IH := pass_loop s dir x hs i k hk h1 hr d (j + 1) (by omega) (by omega)
    have e1 : wrap64 ((j : Int) - 1) = ((j - 1 : Nat) : Int) := by rw [EvT.w64 (by omega) (by omega)]; omega
    refine Ev.step (fun k => rfl) (EvT.ifp (by omega) (EvT.ifp (by omega) (Ev.bind (neut_ev _) (EvT.ifp (h1 j (by omega) (by omega)) (EvT.ifp (by omega) (EvT.ifp (by rw [e1]; omega) (EvT.ifp (by rw [e1]; omega) ?_)))))))
    rw [e1]
    exact Ev.bind (neut_ev _) (j2_true s dir x j (by omega) IH _ (h1 (j - 1) (by omega) (by omega)))
theorem at_zero (dir : Int) (x : List Int) : at_ dir x (((0 : Nat) : Int) - 1) = dir := by unfold at_; rw [if_pos (.inl (by omega))]
/-- The second pass. -/
theorem dirs_loop1 (s : ByteArray) (dir : Int) (hs : s.size ≤ 2000) : ∀ (n i : Nat), s.size ≤ i + n → i ≤ s.size → ∀ (x : List Int) (pre : List (Nat × Nat)), pre.foldl (fillStep dir) (lets dir (classes s)) = x →
    runsL neutC 0 0 (bytesOf s) = pre ++ runsL neutC i i ((bytesOf s).drop i) → (∀ j : Nat, j + 1 = i → neutC (bt s (j : Int)) = false) → Ev (fun k => formeref09_directions.l1 k s dir x (i : Int)) (dirs dir dir (classes s))
  | 0, i, hn, hi, x, pre, hx, hp, hq => by
    obtain rfl : i = s.size := by omega
    rw [runs_nil _ _ _ (by rw [bytesOf_length]; exact Nat.le_refl _), List.append_nil] at hp
    rw [← hp, runs_classes, fill_runs] at hx
    rw [← hx]
    exact Ev.step (fun k => rfl) (EvT.ifn (by omega) (Ev.now _))
  | n + 1, i, hn, hi, x, pre, hx, hp, hq => by
    by_cases his : i = s.size
    · exact dirs_loop1 s dir hs 0 i (by omega) hi x pre hx hp hq
    · have hil : i < (bytesOf s).length := by rw [bytesOf_length]; omega
      have hb := bt_nat s i (by omega)
      cases hnt : neutC (bt s (i : Int))
      · rw [runs_out neutC (bytesOf s) i i _ hb hnt, if_neg (Nat.lt_irrefl _), List.nil_append] at hp
        have IH := dirs_loop1 s dir hs n (i + 1) (by omega) (by omega) x pre hx hp (fun j hj => by rw [show j = i by omega]; exact hnt)
        refine Ev.step (fun k => rfl) (EvT.ifp (by omega) (EvT.ifp (by omega) (Ev.bind (neut_ev _) (EvT.ifn (by rw [hnt]; decide) ?_))))
        exact j2_true s dir x i (by omega) IH _ rfl
      · obtain ⟨k, hik, hkl, hin, hout⟩ := run_end neutC (bytesOf s) i hil (by rw [neut_at]; exact hnt)
        have hru := runs_of neutC (bytesOf s) i k hik hkl hin hout
        rw [bytesOf_length] at hkl
        have hin' : ∀ j : Nat, i ≤ j → j < k → neutC (bt s (j : Int)) = true := fun j h1 h2 => by rw [← neut_at s j (by rw [bytesOf_length]; omega)]; exact hin j _ h1 h2
        have hout' : k < s.size → neutC (bt s (k : Int)) = false := fun h => by rw [← neut_at s k (by rw [bytesOf_length]; omega)]; exact hout _
        rw [hru] at hp
        have hxl : x.length = s.size := by
          rw [← hx, fold_len dir neutC (bytesOf s) (lets dir (classes s)) (by rw [lets_length, classes_length, bytesOf_length]) pre _ hp, lets_length, classes_length]
        have hx2 : (pre ++ [(i, k)]).foldl (fillStep dir) (lets dir (classes s)) = fillStep dir x (i, k) := by rw [List.foldl_append, hx]; rfl
        have hp2 : runsL neutC 0 0 (bytesOf s) = (pre ++ [(i, k)]) ++ runsL neutC (k + 1) (k + 1) ((bytesOf s).drop (k + 1)) := by rw [hp]; simp
        have hend : Ev (fun m => formeref09_directions.l1 m s dir (fillStep dir x (i, k)) (k : Int)) (dirs dir dir (classes s)) := by
          by_cases hks : k < s.size
          · have IH := dirs_loop1 s dir hs n (k + 1) (by omega) (by omega) _ _ hx2 hp2 (fun j hj => by rw [show j = k by omega]; exact hout' hks)
            refine Ev.step (fun k => rfl) (EvT.ifp (by omega) (EvT.ifp (by omega) (Ev.bind (neut_ev _) (EvT.ifn (by rw [hout' hks]; decide) ?_))))
            exact j2_true s dir _ k (by omega) IH _ rfl
          · obtain rfl : k = s.size := by omega
            rw [runs_nil _ _ _ (by rw [bytesOf_length]; omega), List.append_nil] at hp2
            rw [← hp2, runs_classes, fill_runs] at hx2
            rw [← hx2]
            exact Ev.step (fun k => rfl) (EvT.ifn (by omega) (Ev.now _))
        have hpass := pass_loop s dir _ hs i k hkl hin' hend (k - (i + 1)) (i + 1) (by omega) (by omega)
        obtain ⟨b, hbe⟩ : ∃ b, at_ dir x ((i : Int) - 1) = b := ⟨_, rfl⟩
        obtain ⟨a, hae⟩ : ∃ a, at_ dir x (k : Int) = a := ⟨_, rfl⟩
        have hfs : fillStep dir x (i, k) = fillSeg x i k (if b = a then b else dir) := by unfold fillStep; simp only [hbe, hae]
        rw [hfs] at hpass
        have hfill := fill_loop s dir b a x hs hxl i k hkl hpass (k - i) i (by omega) (Nat.le_refl _)
        rw [fillSeg_nil _ _ _ (by omega)] at hfill
        have hj6 : Ev (fun m => formeref09_directions.j6 m s dir x (i : Int) b (k : Int) a) (dirs dir dir (classes s)) := Ev.step (fun k => rfl) hfill
        have hj5 : Ev (fun m => formeref09_directions.j5 m s dir x (i : Int) b (k : Int)) (dirs dir dir (classes s)) := by
          by_cases hks : k < s.size
          · refine Ev.step (fun k => rfl) (EvT.ifp (by omega) (EvT.ifp (by omega) (EvT.ifp (by omega) ?_)))
            rw [at_len dir x (k : Int) (by omega) (by omega)] at hae
            rw [hae]; exact hj6
          · have : a = dir := by rw [← hae]; unfold at_; rw [if_pos (.inr (by omega))]
            rw [this] at hj6
            exact Ev.step (fun k => rfl) (EvT.ifn (by omega) hj6)
        have hseek := seek_loop s dir b x hs i k hkl hin' hout' hj5 (k - i) i (by omega) (Nat.le_refl _)
        have hj3 : Ev (fun m => formeref09_directions.j3 m s dir x (i : Int) b) (dirs dir dir (classes s)) := Ev.step (fun k => rfl) hseek
        have hj2 : ∀ q, q = false → Ev (fun m => formeref09_directions.j2 m s dir x (i : Int) q) (dirs dir dir (classes s)) := fun q hq => by
          refine Ev.step (fun k => rfl) (EvT.ifn (by rw [hq]; decide) (EvT.ite (fun h0 => ?_) (fun h0 => ?_)))
          · have e1 : wrap64 ((i : Int) - 1) = (i : Int) - 1 := EvT.w64 (by omega) (by omega)
            refine EvT.ifp (by rw [e1]; omega) (EvT.ifp (by rw [e1]; omega) ?_)
            rw [e1]
            rw [at_len dir x ((i : Int) - 1) (by omega) (by omega)] at hbe
            rw [hbe]; exact hj3
          · obtain rfl : i = 0 := by omega
            rw [at_zero] at hbe
            subst hbe; exact hj3
        refine Ev.step (fun k => rfl) (EvT.ifp (by omega) (EvT.ifp (by omega) (Ev.bind (neut_ev _) (EvT.ifp hnt (EvT.ite (fun h0 => ?_) (fun h0 => hj2 _ rfl))))))
        have e1 : wrap64 ((i : Int) - 1) = ((i - 1 : Nat) : Int) := by rw [EvT.w64 (by omega) (by omega)]; omega
        refine EvT.ifp (by rw [e1]; omega) (EvT.ifp (by rw [e1]; omega) ?_)
        rw [e1]
        exact Ev.bind (neut_ev _) (hj2 _ (hq (i - 1) (by omega)))
theorem ref_dirs (s : ByteArray) (dir : Int) (hs : s.size ≤ 2000) : Ev (fun k => formeref09_directions.f k s dir) (dirs dir dir (classes s)) := by
  refine EvT.ifp (by omega) (EvT.ifp (by rw [Int.toNat_natCast]; omega) ?_)
  rw [Int.toNat_natCast]
  have h1 := dirs_loop1 s dir hs s.size 0 (by omega) (by omega) _ [] rfl (by simp) (fun j hj => by omega)
  have := dirs_loop0 s dir hs h1 s.size 0 (by omega)
  simpa [letsTo, lets, endD] using this
theorem ref_lev_loop (s : ByteArray) (dir : Int) (hd : dir = 0 ∨ dir = 1) (hs : s.size ≤ 2000) : ∀ (d i : Nat), i + d = s.size → Ev (fun k => formeref09_Levels.l0 k s dir (levTo s dir i) (i : Int)) (levels dir (classes s), 0)
  | 0, i, e => by
    obtain rfl : i = s.size := by omega
    rw [levTo_all]
    exact Ev.step (fun k => rfl) (EvT.ifn (by omega) (Ev.now _))
  | d + 1, i, e => by
    have hi : i < s.size := by omega
    have IH := ref_lev_loop s dir hd hs d (i + 1) (by omega)
    have hl := levTo_length s dir i (by omega)
    obtain ⟨dd, hdd, hrd, hnx⟩ := levTo_step s dir hd i hi
    rw [hnx] at IH
    have hrd : rd (levTo s dir i) (i : Int) = dd := hrd
    obtain ⟨c, hc⟩ : ∃ c, cls (bt s (i : Int)) = c := ⟨_, rfl⟩
    rw [hc] at IH
    refine Ev.step (fun k => rfl) (EvT.ifp (by omega) (EvT.ifp (by omega) (Ev.bind (class_ev _) (EvT.ifp (by omega) ?_))))
    rw [hrd, hc]
    have hF : ∀ q, q = false → lvl dir dd c ≠ 1 → (dd = 0 ∨ (dd = 1 ∧ c = 3)) → Ev (fun k => formeref09_Levels.j1 k s dir (levTo s dir i) (i : Int) q) (levels dir (classes s), 0) := fun q hq hv hdc => by
      refine Ev.step (fun k => rfl) (EvT.ifn (by rw [hq]; decide) (EvT.ite (fun h0 => EvT.ifp (by omega) (EvT.ifp (by omega) ?_)) (fun h0 => EvT.ifp (by omega) (EvT.ifp (by omega) ?_))))
      · rw [hrd]
        refine EvT.ite (fun h1 => ?_) (fun h1 => ?_)
        · rw [show lvl dir dd c = 0 by unfold lvl; rw [if_neg (by omega), if_pos h0]] at IH
          rw [Int.toNat_natCast, up1 (by omega)]; exact IH
        · rw [show lvl dir dd c = 2 by unfold lvl; rw [if_pos (by omega), if_pos (by omega)]] at IH
          rw [Int.toNat_natCast, up1 (by omega)]; exact IH
      · rw [show lvl dir dd c = 2 by
          unfold lvl
          rcases hdc with h | ⟨h, h3⟩
          · rw [if_neg (by omega), if_neg h0]
          · rw [if_pos h, if_pos h3]] at IH
        rw [Int.toNat_natCast, up1 (by omega)]; exact IH
    refine EvT.ite (fun h1 => ?_) (fun h1 => ?_)
    · by_cases h3 : c = 3
      · have hq : (!(c == 3)) = false := by rw [h3]; rfl
        exact hF _ hq (by unfold lvl; rw [if_pos h1, if_pos h3]; decide) (.inr ⟨h1, h3⟩)
      · have hq : (!(c == 3)) = true := by rw [beq_eq_false_iff_ne.2 h3]; rfl
        have hT : ∀ q, q = true → Ev (fun k => formeref09_Levels.j1 k s dir (levTo s dir i) (i : Int) q) (levels dir (classes s), 0) := fun q hq => by
          refine Ev.step (fun k => rfl) (EvT.ifp hq (EvT.ifp (by omega) (EvT.ifp (by omega) ?_)))
          rw [show lvl dir dd c = 1 by unfold lvl; rw [if_pos h1, if_neg h3]] at IH
          rw [Int.toNat_natCast, up1 (by omega)]; exact IH
        exact hT _ hq
    · have h0 : dd = 0 := by omega
      exact hF _ rfl (by unfold lvl; rw [if_neg h1]; split <;> decide) (.inl h0)
theorem ref_lev {s : ByteArray} {dir : Int} (h : lineB s dir = true) : Ev (fun k => formeref09_Levels.f k s dir) (levels dir (classes s), 0) := by
  have hl := line_of h
  have h1 := line_ev s dir (by omega)
  rw [h] at h1
  refine Ev.bind h1 (EvT.ifp rfl (Ev.bind (ref_dirs s dir hl.1) ?_))
  have := ref_lev_loop s dir hl.2 hl.1 s.size 0 (by omega)
  rwa [levTo_zero] at this
theorem ref_lev_no {s : ByteArray} {dir : Int} (hs : s.size ≤ 140737488351232) (h : lineB s dir = false) : Ev (fun k => formeref09_Levels.f k s dir) ([], 1) := by
  have h1 := line_ev s dir hs
  rw [h] at h1
  exact Ev.bind h1 (EvT.ifn (by decide) (Ev.now _))
/-- Turning, one stretch after the other. -/
def okI (n : Nat) (x0 : List Int) : Prop := ∀ (i : Nat) (h : i < x0.length), 0 ≤ x0[i] ∧ x0[i] < (n : Int)
theorem rd_get (x0 : List Int) (i : Nat) (h : i < x0.length) : rd x0 (i : Int) = x0[i] := by simp [rd, List.getD_eq_getElem?_getD, h]
theorem back_loop (x0 lev : List Int) (m : Int) (i k : Nat) (hik : i ≤ k) (hk : k ≤ x0.length) (hn : x0.length ≤ 2000) {r : List Int} (out : List Int) (hol : out.length + (k - i) ≤ 2000)
    (hr : Ev (fun n => formeref09_turn.l0 n x0 lev m (out ++ ((x0.take k).drop i).reverse) (k : Int)) r) : ∀ (d j : Nat), i + d = j → j ≤ k →
    Ev (fun n => formeref09_turn.l2 n x0 lev m (out ++ ((x0.take k).drop j).reverse) (i : Int) (k : Int) ((j : Int) - 1)) r
  | 0, j, e, hj => by
    obtain rfl : j = i := by omega
    refine Ev.step (fun k => rfl) (EvT.ifn (by omega) ?_)
    rw [show wrap64 ((k : Int) - 1) = (k : Int) - 1 from EvT.w64 (by omega) (by omega), show wrap64 ((k : Int) - 1 + 1) = (k : Int) by rw [EvT.w64 (by omega) (by omega)]; omega]
    exact hr
  | d + 1, j, e, hj => by
    have IH := back_loop x0 lev m i k hik hk hn out hol hr d (j - 1) (by omega) (by omega)
    have hjl : j - 1 < (x0.take k).length := by rw [List.length_take]; omega
    have hg : (x0.take k)[j - 1] = rd x0 ((j : Int) - 1) := by
      rw [List.getElem_take, show (j : Int) - 1 = ((j - 1 : Nat) : Int) by omega, rd_get x0 (j - 1) (by omega)]
    have hdr : (x0.take k).drop (j - 1) = rd x0 ((j : Int) - 1) :: (x0.take k).drop j := by
      rw [List.drop_eq_getElem_cons hjl, hg, show j - 1 + 1 = j by omega]
    rw [hdr, List.reverse_cons, ← List.append_assoc, show ((j - 1 : Nat) : Int) - 1 = (j : Int) - 1 - 1 by omega] at IH
    have hlen : (out ++ ((x0.take k).drop j).reverse).length < 17592186044416 := by simp; omega
    refine Ev.step (fun k => rfl) (EvT.ifp (by omega) (EvT.ifp (by omega) (EvT.ifp (by omega) (EvT.ifp hlen ?_))))
    rw [show wrap64 ((j : Int) - 1 - 1) = (j : Int) - 1 - 1 from EvT.w64 (by omega) (by omega)]
    exact IH
theorem far_loop (x0 lev : List Int) (m : Int) (hok : okI lev.length x0) (i k : Nat) (hk : k ≤ x0.length) (hn : x0.length ≤ 2000) (h1 : ∀ j (h : j < x0.length), i ≤ j → j < k → high lev m x0[j] = true) (h2 : ∀ h : k < x0.length, high lev m x0[k] = false)
    {r : List Int} (out : List Int) (hr : Ev (fun n => formeref09_turn.j2 n x0 lev m out (i : Int) (k : Int)) r) : ∀ (d j : Nat), j + d = k → i ≤ j → Ev (fun n => formeref09_turn.l1 n x0 lev m out (i : Int) (j : Int)) r
  | 0, j, e, hij => by
    obtain rfl : j = k := by omega
    by_cases hjl : j < x0.length
    · have ho := hok j hjl
      have hh := h2 hjl
      have hlt : ¬ rd lev x0[j] ≥ m := by unfold high at hh; exact of_decide_eq_false hh
      refine Ev.step (fun k => rfl) (EvT.ifp (by omega) (EvT.ifp (by omega) (EvT.ifp (by rw [rd_get x0 j hjl]; exact ho.1) (EvT.ifp (by rw [rd_get x0 j hjl]; exact ho.2) (EvT.ifn (by rw [rd_get x0 j hjl]; exact hlt) hr)))))
    · exact Ev.step (fun k => rfl) (EvT.ifn (by omega) hr)
  | d + 1, j, e, hij => by
    have hjl : j < x0.length := by omega
    have ho := hok j hjl
    have hh := h1 j hjl hij (by omega)
    have hge : rd lev x0[j] ≥ m := by unfold high at hh; exact of_decide_eq_true hh
    refine Ev.step (fun k => rfl) (EvT.ifp (by omega) (EvT.ifp (by omega) (EvT.ifp (by rw [rd_get x0 j hjl]; exact ho.1) (EvT.ifp (by rw [rd_get x0 j hjl]; exact ho.2) (EvT.ifp (by rw [rd_get x0 j hjl]; exact hge) ?_)))))
    rw [up1 (by omega)]
    exact far_loop x0 lev m hok i k hk hn h1 h2 out hr d (j + 1) (by omega) (by omega)
theorem take_run {α : Type} (p : α → Bool) (l : List α) (i k : Nat) (hik : i ≤ k) (hk : k ≤ l.length) (h1 : ∀ j (h : j < l.length), i ≤ j → j < k → p l[j] = true) (hq : ∀ y, (l.take i).getLast? = some y → p y = false) :
    turnL p [] (l.take k) = turnL p [] (l.take i) ++ ((l.take k).drop i).reverse := by
  have e : l.take k = l.take i ++ (l.take k).drop i := by
    conv => lhs; rw [← List.take_append_drop i (l.take k)]
    rw [List.take_take, show min i k = i by omega]
  conv => lhs; rw [e]
  have ha : turnL p [] ((l.take k).drop i) = ((l.take k).drop i).reverse := by
    rw [turnL_all, List.append_nil]
    intro x hx
    obtain ⟨j, hj, rfl⟩ := List.mem_iff_getElem.1 hx
    have hjk : j < k - i := by simp at hj; omega
    rw [List.getElem_drop, List.getElem_take]
    exact h1 (i + j) (by omega) (by omega) (by omega)
  rw [turnL_app _ hq, ha]
theorem ref_turn_loop (x0 lev : List Int) (m : Int) (hok : okI lev.length x0) (hn : x0.length ≤ 2000) : ∀ (n i : Nat), x0.length ≤ i + n → i ≤ x0.length → (∀ h : i < x0.length, high lev m x0[i] = true → ∀ y, (x0.take i).getLast? = some y → high lev m y = false) →
    Ev (fun k => formeref09_turn.l0 k x0 lev m (turnL (high lev m) [] (x0.take i)) (i : Int)) (turnL (high lev m) [] x0)
  | 0, i, hn2, hi, hq => by
    obtain rfl : i = x0.length := by omega
    rw [List.take_length]
    exact Ev.step (fun k => rfl) (EvT.ifn (by omega) (Ev.now _))
  | n + 1, i, hn2, hi, hq => by
    by_cases hil : i < x0.length
    · have ho := hok i hil
      have hlen : (turnL (high lev m) [] (x0.take i)).length = i := by rw [turnL_len, List.length_take]; omega
      have hrd := rd_get x0 i hil
      cases hh : high lev m x0[i]
      · have hlt : rd lev x0[i] < m := by unfold high at hh; have := of_decide_eq_false hh; show rdI lev x0[i] < m; omega
        have IH := ref_turn_loop x0 lev m hok hn n (i + 1) (by omega) (by omega) (fun h _ y hy => by
          rw [List.take_succ_eq_append_getElem hil, List.getLast?_concat] at hy
          obtain rfl := Option.some.inj hy
          exact hh)
        rw [List.take_succ_eq_append_getElem hil, show x0.take i ++ [x0[i]] = x0.take i ++ x0[i] :: [] from rfl, turnL_low hh] at IH
        refine Ev.step (fun k => rfl) (EvT.ifp (by omega) (EvT.ifp (by omega) (EvT.ifp (by rw [hrd]; exact ho.1) (EvT.ifp (by rw [hrd]; exact ho.2) (EvT.ifp (by rw [hrd]; exact hlt) (EvT.ifp (by omega) ?_))))))
        rw [hrd, up1 (by omega)]
        exact IH
      · have hge : ¬ rd lev x0[i] < m := by unfold high at hh; have := of_decide_eq_true hh; show ¬ rdI lev x0[i] < m; omega
        obtain ⟨k, hik, hkl, hin, hout⟩ := run_end (high lev m) x0 i hil hh
        have htk := take_run (high lev m) x0 i k (by omega) hkl hin (hq hil hh)
        have IH := ref_turn_loop x0 lev m hok hn n k (by omega) hkl (fun h hk => by rw [hout h] at hk; cases hk)
        rw [htk] at IH
        have hb := back_loop x0 lev m i k (by omega) hkl hn (turnL (high lev m) [] (x0.take i)) (by omega) IH (k - i) k (by omega) (Nat.le_refl _)
        rw [List.drop_of_length_le (by simp; omega), List.reverse_nil, List.append_nil] at hb
        have hj2 : Ev (fun q => formeref09_turn.j2 q x0 lev m (turnL (high lev m) [] (x0.take i)) (i : Int) (k : Int)) (turnL (high lev m) [] x0) := by
          refine Ev.step (f := fun q => formeref09_turn.l2 q x0 lev m (turnL (high lev m) [] (x0.take i)) (i : Int) (k : Int) (wrap64 ((k : Int) - 1))) (fun _ => rfl) ?_
          rw [show wrap64 ((k : Int) - 1) = (k : Int) - 1 from EvT.w64 (by omega) (by omega)]
          exact hb
        have hfar := far_loop x0 lev m hok i k hkl hn hin hout _ hj2 (k - i) i (by omega) (Nat.le_refl _)
        exact Ev.step (fun k => rfl) (EvT.ifp (by omega) (EvT.ifp (by omega) (EvT.ifp (by rw [hrd]; exact ho.1) (EvT.ifp (by rw [hrd]; exact ho.2) (EvT.ifn (by rw [hrd]; exact hge) hfar)))))
    · obtain rfl : i = x0.length := by omega
      rw [List.take_length]
      exact Ev.step (fun k => rfl) (EvT.ifn (by omega) (Ev.now _))
theorem ref_turn (x0 lev : List Int) (m : Int) (hok : okI lev.length x0) (hn : x0.length ≤ 2000) : Ev (fun k => formeref09_turn.f k x0 lev m) (turnL (high lev m) [] x0) :=
  ref_turn_loop x0 lev m hok hn x0.length 0 (by omega) (by omega) (fun h _ y hy => by simp at hy)
theorem okI_of {n : Nat} {x0 : List Int} (h : ∀ x ∈ x0, ∃ i : Nat, i < n ∧ x = (i : Int)) : okI n x0 := fun i hi => by
  obtain ⟨j, hj, e⟩ := h _ (List.getElem_mem hi)
  rw [e]; omega
theorem ref_ord_loop (s : ByteArray) (lev : List Int) (hs : s.size ≤ 2000) (hl : lev.length = s.size) : ∀ (d i : Nat), i + d = s.size → Ev (fun k => formeref09_Order.l0 k s lev (iota i) (i : Int)) (order lev, 0)
  | 0, i, e => by
    obtain rfl : i = s.size := by omega
    have h1 := ref_turn (iota s.size) lev 2 (okI_of (fun x hx => by rw [hl]; exact iota_mem hx)) (by rw [iota_length]; exact hs)
    have h2 := ref_turn (turnL (high lev 2) [] (iota s.size)) lev 1 (okI_of (fun x hx => by rw [hl]; exact iota_mem (turnL_mem hx))) (by rw [turnL_len, iota_length]; exact hs)
    refine Ev.step (fun k => rfl) (EvT.ifn (by omega) (Ev.bind h1 (Ev.bind h2 ?_)))
    unfold order
    rw [hl]
    exact Ev.now _
  | d + 1, i, e => by
    have IH := ref_ord_loop s lev hs hl d (i + 1) (by omega)
    have hi := iota_length i
    refine Ev.step (fun k => rfl) (EvT.ifp (by omega) (EvT.ifp (by omega) ?_))
    rw [up1 (by omega), show iota i ++ [(i : Int)] = iota (i + 1) by rw [iota_app i 1]; simp [iota]]
    exact IH
theorem ref_ord {s : ByteArray} {dir : Int} (h : lineB s dir = true) : Ev (fun k => formeref09_Order.f k s dir) (ordOf s dir, 0) :=
  Ev.bind (ref_lev h) (EvT.ifp rfl (ref_ord_loop s _ (line_of h).1 (lv_len s dir) s.size 0 (by omega)))
theorem ref_ord_no {s : ByteArray} {dir : Int} (hs : s.size ≤ 140737488351232) (h : lineB s dir = false) : Ev (fun k => formeref09_Order.f k s dir) ([], 1) :=
  Ev.bind (ref_lev_no hs h) (EvT.ifn (by decide) (Ev.now _))
theorem ref_vis_loop (s : ByteArray) (dir : Int) (hs : s.size ≤ 2000) : ∀ (d i : Nat), i + d = s.size → Ev (fun k => formeref09_Visual.l0 k s (ordOf s dir) ((visOf s dir).take i) (i : Int)) (strOfNums (visOf s dir), 0)
  | 0, i, e => by
    obtain rfl : i = s.size := by omega
    have hol := ord_len s dir
    rw [List.take_of_length_le (by rw [vis_len]; exact Nat.le_refl _)]
    exact Ev.step (fun k => rfl) (EvT.ifn (by omega) (Ev.now _))
  | d + 1, i, e => by
    have hi : i < s.size := by omega
    have IH := ref_vis_loop s dir hs d (i + 1) (by omega)
    have hol := ord_len s dir
    have hvl : i < (visOf s dir).length := by rw [vis_len]; exact hi
    have hv := vis_at (s := s) (dir := dir) i hi
    rw [List.getElem?_eq_getElem hvl] at hv
    rw [List.take_succ_eq_append_getElem hvl, Option.some.inj hv] at IH
    obtain ⟨j, hj, h1, _⟩ := ord_at (s := s) (dir := dir) i hi
    have hlen : ((visOf s dir).take i).length < 140737488355328 := by rw [List.length_take]; omega
    refine Ev.step (fun k => rfl) (EvT.ifp (by omega) (EvT.ifp (by omega) (EvT.ifp (by rw [h1]; omega) (EvT.ifp (by rw [h1]; omega) (EvT.ifp hlen ?_)))))
    rw [up1 (by omega)]
    exact IH
theorem ref_vis {s : ByteArray} {dir : Int} (h : lineB s dir = true) : Ev (fun k => formeref09_Visual.f k s dir) (strOfNums (visOf s dir), 0) :=
  Ev.bind (ref_ord h) (EvT.ifp rfl (ref_vis_loop s dir (line_of h).1 s.size 0 (by omega)))
theorem ref_vis_no {s : ByteArray} {dir : Int} (hs : s.size ≤ 140737488351232) (h : lineB s dir = false) : Ev (fun k => formeref09_Visual.f k s dir) (⟨#[]⟩, 1) :=
  Ev.bind (ref_ord_no hs h) (EvT.ifn (by decide) (Ev.now _))
theorem match_yes {s : ByteArray} {dir : Int} (h : lineB s dir = true) : ∀ q, q = false → Ev (fun k => formelaw09_BidiMatchesReference.j0 k s dir true q) true := fun q hq => by
  have hl := line_of h
  have hJ : ∀ q, q = true → Ev (fun k => formelaw09_BidiMatchesReference.j1 k s dir q) true := fun q hq => by
    refine Ev.step (fun k => rfl) (EvT.bindc (ord_f h) (Ev.bind (ref_ord h) (EvT.ifp hq (Ev.bind (same_ev _ (by rw [ord_len]; omega)) (EvT.ifp rfl (Ev.bind (vis_ev h) (Ev.bind (ref_vis h) (EvT.ifp rfl (EvT.ifp rfl (Ev.now _))))))))))
  refine Ev.step (fun k => rfl) (EvT.ifn (by rw [hq]; decide) (EvT.bindc (lev_f h) (Ev.bind (ref_lev h) (EvT.ifp rfl (Ev.bind (same_ev _ (by rw [lv_len]; omega)) (EvT.ifp rfl (hJ _ rfl)))))))
theorem match_no {s : ByteArray} {dir : Int} (hs : s.size ≤ 140737488351232) (h : lineB s dir = false) : ∀ q, q = false → Ev (fun k => formelaw09_BidiMatchesReference.j0 k s dir true q) true := fun q hq => by
  have hJ : ∀ q, q = true → Ev (fun k => formelaw09_BidiMatchesReference.j1 k s dir q) true := fun q hq => by
    refine Ev.step (fun k => rfl) (EvT.bindc (ord_no hs h) (Ev.bind (ref_ord_no hs h) (EvT.ifp hq (Ev.bind (same_ev [] (by decide)) (EvT.ifp rfl (Ev.bind (vis_no hs h) (Ev.bind (ref_vis_no hs h) (EvT.ifp rfl (EvT.ifp rfl (Ev.now _))))))))))
  refine Ev.step (fun k => rfl) (EvT.ifn (by rw [hq]; decide) (EvT.bindc (lev_no hs h) (Ev.bind (ref_lev_no hs h) (EvT.ifp rfl (Ev.bind (same_ev [] (by decide)) (EvT.ifp rfl (hJ _ rfl)))))))
theorem BidiMatchesReference : formelaw09_BidiMatchesReference.Pure := fun s dir hs _ => Ev.rounds (by
  refine Ev.bind head_ev (EvT.ifp rfl ?_)
  have all : ∀ q, q = false → Ev (fun k => formelaw09_BidiMatchesReference.j0 k s dir true q) true := by
    cases h : lineB s dir
    · exact match_no hs h
    · exact match_yes h
  refine EvT.ite (fun h => ?_) (fun h => all _ rfl)
  have hJ : ∀ q, decide ((s.size : Int) ≤ 2000) = q → Ev (fun k => formelaw09_BidiMatchesReference.j0 k s dir true q) true := fun q hq => by
    cases q
    · exact all _ rfl
    · exact Ev.step (fun k => rfl) (Ev.now _)
  exact hJ _ rfl)
end Go.Proofs.Ytdmfhabhcagioaa.Pure
