import Derived.Test.YtaclpkcoaifjfaaHPosB
set_option linter.unusedVariables false
set_option linter.unusedSimpArgs false
namespace Go.Proofs.Ytaclpkcoaifjfaa.P
open Go.RowKit Go.Proofs.YtaclpkcoaifjfaaW.PrintWords Go.Proofs.YtaclpkcoaifjfaaW.PrintLast Go.Proofs.YtaclpkcoaifjfaaW.PrintMore
attribute [local go_sem] Oper.semAt_some
set_option maxRecDepth 100000 in
set_option maxHeartbeats 8000000 in
theorem rright_calls (s : Nat → Int) (w : World) : Calls Try.prog 18 #[sv s] w fun e w' => e = .returned (.bool (rightP s)) ∧ Below w.heap.size w w' := by
  unfold rightP offP
  have hk : ∀ x : Int, decide (x ≥ -100000) = decide (-100000 ≤ x) := fun x => rfl
  cases h4 : sizeP (s 4)
  · clear hk
    go_enter Try.func18, Try.ntmps18
    go_wp2_with (first | ((with_reducible refine gate_dst (N := 1) rfl ?_); refine wp_box rfl (N := 1) rfl 23 _ rfl s rfl ?_; intro gb hg w1 hbox hb; have BX := Aside0.mk hbox; have HB := Aside0.mk hb; clear hbox hb; clear hg; have hc3 := cell_at BX.out 3 (by omega); have hc4 := cell_at BX.out 4 (by omega); have hc5 := cell_at BX.out 5 (by omega); have hc6 := cell_at BX.out 6 (by omega); have hc18 := cell_at BX.out 18 (by omega); have hc19 := cell_at BX.out 19 (by omega)) | (go_at_call 27; with_reducible refine (rsizeC _ _ (by assumption) _).mono ?_; rintro e wc ⟨rfl, hd⟩; have BX := Aside0.mk (blk_below BX.out hd.below); have HB := Aside0.mk (HB.out.trans (hd.below.mono HB.out.size)); clear hd; have hc3 := cell_at BX.out 3 (by omega); have hc4 := cell_at BX.out 4 (by omega); have hc5 := cell_at BX.out 5 (by omega); have hc6 := cell_at BX.out 6 (by omega); have hc18 := cell_at BX.out 18 (by omega); have hc19 := cell_at BX.out 19 (by omega)))
    go_ret
    exact ⟨by first | rfl | simp, HB.out⟩
  · cases h5 : sizeP (s 5)
    · clear hk
      go_enter Try.func18, Try.ntmps18
      go_wp2_with (first | ((with_reducible refine gate_dst (N := 1) rfl ?_); refine wp_box rfl (N := 1) rfl 23 _ rfl s rfl ?_; intro gb hg w1 hbox hb; have BX := Aside0.mk hbox; have HB := Aside0.mk hb; clear hbox hb; clear hg; have hc3 := cell_at BX.out 3 (by omega); have hc4 := cell_at BX.out 4 (by omega); have hc5 := cell_at BX.out 5 (by omega); have hc6 := cell_at BX.out 6 (by omega); have hc18 := cell_at BX.out 18 (by omega); have hc19 := cell_at BX.out 19 (by omega)) | (go_at_call 27; with_reducible refine (rsizeC _ _ (by assumption) _).mono ?_; rintro e wc ⟨rfl, hd⟩; have BX := Aside0.mk (blk_below BX.out hd.below); have HB := Aside0.mk (HB.out.trans (hd.below.mono HB.out.size)); clear hd; have hc3 := cell_at BX.out 3 (by omega); have hc4 := cell_at BX.out 4 (by omega); have hc5 := cell_at BX.out 5 (by omega); have hc6 := cell_at BX.out 6 (by omega); have hc18 := cell_at BX.out 18 (by omega); have hc19 := cell_at BX.out 19 (by omega)))
      go_ret
      exact ⟨by first | rfl | simp, HB.out⟩
    · cases h6 : sizeP (s 6)
      · clear hk
        go_enter Try.func18, Try.ntmps18
        go_wp2_with (first | ((with_reducible refine gate_dst (N := 1) rfl ?_); refine wp_box rfl (N := 1) rfl 23 _ rfl s rfl ?_; intro gb hg w1 hbox hb; have BX := Aside0.mk hbox; have HB := Aside0.mk hb; clear hbox hb; clear hg; have hc3 := cell_at BX.out 3 (by omega); have hc4 := cell_at BX.out 4 (by omega); have hc5 := cell_at BX.out 5 (by omega); have hc6 := cell_at BX.out 6 (by omega); have hc18 := cell_at BX.out 18 (by omega); have hc19 := cell_at BX.out 19 (by omega)) | (go_at_call 27; with_reducible refine (rsizeC _ _ (by assumption) _).mono ?_; rintro e wc ⟨rfl, hd⟩; have BX := Aside0.mk (blk_below BX.out hd.below); have HB := Aside0.mk (HB.out.trans (hd.below.mono HB.out.size)); clear hd; have hc3 := cell_at BX.out 3 (by omega); have hc4 := cell_at BX.out 4 (by omega); have hc5 := cell_at BX.out 5 (by omega); have hc6 := cell_at BX.out 6 (by omega); have hc18 := cell_at BX.out 18 (by omega); have hc19 := cell_at BX.out 19 (by omega)))
        go_ret
        exact ⟨by first | rfl | simp, HB.out⟩
      · cases h3 : sizeP (s 3)
        · clear hk
          go_enter Try.func18, Try.ntmps18
          go_wp2_with (first | ((with_reducible refine gate_dst (N := 1) rfl ?_); refine wp_box rfl (N := 1) rfl 23 _ rfl s rfl ?_; intro gb hg w1 hbox hb; have BX := Aside0.mk hbox; have HB := Aside0.mk hb; clear hbox hb; clear hg; have hc3 := cell_at BX.out 3 (by omega); have hc4 := cell_at BX.out 4 (by omega); have hc5 := cell_at BX.out 5 (by omega); have hc6 := cell_at BX.out 6 (by omega); have hc18 := cell_at BX.out 18 (by omega); have hc19 := cell_at BX.out 19 (by omega)) | (go_at_call 27; with_reducible refine (rsizeC _ _ (by assumption) _).mono ?_; rintro e wc ⟨rfl, hd⟩; have BX := Aside0.mk (blk_below BX.out hd.below); have HB := Aside0.mk (HB.out.trans (hd.below.mono HB.out.size)); clear hd; have hc3 := cell_at BX.out 3 (by omega); have hc4 := cell_at BX.out 4 (by omega); have hc5 := cell_at BX.out 5 (by omega); have hc6 := cell_at BX.out 6 (by omega); have hc18 := cell_at BX.out 18 (by omega); have hc19 := cell_at BX.out 19 (by omega)))
          go_ret
          exact ⟨by first | rfl | simp, HB.out⟩
        · cases d1 : decide (-100000 ≤ s 18)
          · have e1 : decide (s 18 ≥ -100000) = false := d1
            clear hk
            go_enter Try.func18, Try.ntmps18
            go_wp2_with (first | ((with_reducible refine gate_dst (N := 1) rfl ?_); refine wp_box rfl (N := 1) rfl 23 _ rfl s rfl ?_; intro gb hg w1 hbox hb; have BX := Aside0.mk hbox; have HB := Aside0.mk hb; clear hbox hb; clear hg; have hc3 := cell_at BX.out 3 (by omega); have hc4 := cell_at BX.out 4 (by omega); have hc5 := cell_at BX.out 5 (by omega); have hc6 := cell_at BX.out 6 (by omega); have hc18 := cell_at BX.out 18 (by omega); have hc19 := cell_at BX.out 19 (by omega)) | (go_at_call 27; with_reducible refine (rsizeC _ _ (by assumption) _).mono ?_; rintro e wc ⟨rfl, hd⟩; have BX := Aside0.mk (blk_below BX.out hd.below); have HB := Aside0.mk (HB.out.trans (hd.below.mono HB.out.size)); clear hd; have hc3 := cell_at BX.out 3 (by omega); have hc4 := cell_at BX.out 4 (by omega); have hc5 := cell_at BX.out 5 (by omega); have hc6 := cell_at BX.out 6 (by omega); have hc18 := cell_at BX.out 18 (by omega); have hc19 := cell_at BX.out 19 (by omega)))
            go_ret
            exact ⟨by first | rfl | simp, HB.out⟩
          · have e1 : decide (s 18 ≥ -100000) = true := d1
            cases d2 : decide (s 18 ≤ 100000)
            · clear hk
              go_enter Try.func18, Try.ntmps18
              go_wp2_with (first | ((with_reducible refine gate_dst (N := 1) rfl ?_); refine wp_box rfl (N := 1) rfl 23 _ rfl s rfl ?_; intro gb hg w1 hbox hb; have BX := Aside0.mk hbox; have HB := Aside0.mk hb; clear hbox hb; clear hg; have hc3 := cell_at BX.out 3 (by omega); have hc4 := cell_at BX.out 4 (by omega); have hc5 := cell_at BX.out 5 (by omega); have hc6 := cell_at BX.out 6 (by omega); have hc18 := cell_at BX.out 18 (by omega); have hc19 := cell_at BX.out 19 (by omega)) | (go_at_call 27; with_reducible refine (rsizeC _ _ (by assumption) _).mono ?_; rintro e wc ⟨rfl, hd⟩; have BX := Aside0.mk (blk_below BX.out hd.below); have HB := Aside0.mk (HB.out.trans (hd.below.mono HB.out.size)); clear hd; have hc3 := cell_at BX.out 3 (by omega); have hc4 := cell_at BX.out 4 (by omega); have hc5 := cell_at BX.out 5 (by omega); have hc6 := cell_at BX.out 6 (by omega); have hc18 := cell_at BX.out 18 (by omega); have hc19 := cell_at BX.out 19 (by omega)))
              go_ret
              exact ⟨by first | rfl | simp, HB.out⟩
            · cases d3 : decide (-100000 ≤ s 19)
              · have e3 : decide (s 19 ≥ -100000) = false := d3
                clear hk
                go_enter Try.func18, Try.ntmps18
                go_wp2_with (first | ((with_reducible refine gate_dst (N := 1) rfl ?_); refine wp_box rfl (N := 1) rfl 23 _ rfl s rfl ?_; intro gb hg w1 hbox hb; have BX := Aside0.mk hbox; have HB := Aside0.mk hb; clear hbox hb; clear hg; have hc3 := cell_at BX.out 3 (by omega); have hc4 := cell_at BX.out 4 (by omega); have hc5 := cell_at BX.out 5 (by omega); have hc6 := cell_at BX.out 6 (by omega); have hc18 := cell_at BX.out 18 (by omega); have hc19 := cell_at BX.out 19 (by omega)) | (go_at_call 27; with_reducible refine (rsizeC _ _ (by assumption) _).mono ?_; rintro e wc ⟨rfl, hd⟩; have BX := Aside0.mk (blk_below BX.out hd.below); have HB := Aside0.mk (HB.out.trans (hd.below.mono HB.out.size)); clear hd; have hc3 := cell_at BX.out 3 (by omega); have hc4 := cell_at BX.out 4 (by omega); have hc5 := cell_at BX.out 5 (by omega); have hc6 := cell_at BX.out 6 (by omega); have hc18 := cell_at BX.out 18 (by omega); have hc19 := cell_at BX.out 19 (by omega)))
                go_ret
                exact ⟨by first | rfl | simp, HB.out⟩
              · have e3 : decide (s 19 ≥ -100000) = true := d3
                cases d4 : decide (s 19 ≤ 100000)
                · clear hk
                  go_enter Try.func18, Try.ntmps18
                  go_wp2_with (first | ((with_reducible refine gate_dst (N := 1) rfl ?_); refine wp_box rfl (N := 1) rfl 23 _ rfl s rfl ?_; intro gb hg w1 hbox hb; have BX := Aside0.mk hbox; have HB := Aside0.mk hb; clear hbox hb; clear hg; have hc3 := cell_at BX.out 3 (by omega); have hc4 := cell_at BX.out 4 (by omega); have hc5 := cell_at BX.out 5 (by omega); have hc6 := cell_at BX.out 6 (by omega); have hc18 := cell_at BX.out 18 (by omega); have hc19 := cell_at BX.out 19 (by omega)) | (go_at_call 27; with_reducible refine (rsizeC _ _ (by assumption) _).mono ?_; rintro e wc ⟨rfl, hd⟩; have BX := Aside0.mk (blk_below BX.out hd.below); have HB := Aside0.mk (HB.out.trans (hd.below.mono HB.out.size)); clear hd; have hc3 := cell_at BX.out 3 (by omega); have hc4 := cell_at BX.out 4 (by omega); have hc5 := cell_at BX.out 5 (by omega); have hc6 := cell_at BX.out 6 (by omega); have hc18 := cell_at BX.out 18 (by omega); have hc19 := cell_at BX.out 19 (by omega)))
                  go_ret
                  exact ⟨by first | rfl | simp, HB.out⟩
                · clear hk
                  go_enter Try.func18, Try.ntmps18
                  go_wp2_with (first | ((with_reducible refine gate_dst (N := 1) rfl ?_); refine wp_box rfl (N := 1) rfl 23 _ rfl s rfl ?_; intro gb hg w1 hbox hb; have BX := Aside0.mk hbox; have HB := Aside0.mk hb; clear hbox hb; clear hg; have hc3 := cell_at BX.out 3 (by omega); have hc4 := cell_at BX.out 4 (by omega); have hc5 := cell_at BX.out 5 (by omega); have hc6 := cell_at BX.out 6 (by omega); have hc18 := cell_at BX.out 18 (by omega); have hc19 := cell_at BX.out 19 (by omega)) | (go_at_call 27; with_reducible refine (rsizeC _ _ (by assumption) _).mono ?_; rintro e wc ⟨rfl, hd⟩; have BX := Aside0.mk (blk_below BX.out hd.below); have HB := Aside0.mk (HB.out.trans (hd.below.mono HB.out.size)); clear hd; have hc3 := cell_at BX.out 3 (by omega); have hc4 := cell_at BX.out 4 (by omega); have hc5 := cell_at BX.out 5 (by omega); have hc6 := cell_at BX.out 6 (by omega); have hc18 := cell_at BX.out 18 (by omega); have hc19 := cell_at BX.out 19 (by omega)))
                  go_ret
                  exact ⟨by first | rfl | simp, HB.out⟩
def w0P (s : Nat → Int) (room : Int) : Int := if s 4 = 0 then room else s 4
def widthP (s : Nat → Int) (room : Int) : Int := mx (if s 6 = 0 then w0P s room else mn (w0P s room) (s 6)) (s 5)
def widthR (s : Nat → Int) (room : Int) : Int := mx (if s 6 > 0 then mn (w0P s room) (s 6) else w0P s room) (s 5)
set_option maxRecDepth 100000 in
set_option maxHeartbeats 8000000 in
theorem width_calls (s : Nat → Int) (room : Int) (w : World) : Calls Try.prog 22 #[sv s, .int .i64 room] w fun e w' => e = .returned (.int .i64 (widthP s room)) ∧ Below w.heap.size w w' := by
  unfold widthP w0P
  by_cases h4 : s 4 = 0
  · have e4 : (s 4 == 0) = true := by simpa using h4
    rw [if_pos h4]
    clear h4
    by_cases h6 : s 6 = 0
    · rw [if_pos h6]
      have e6 : (s 6 == 0) = true := by simpa using h6
      have e6b : (s 6 != 0) = false := by simpa using h6
      clear h6
      obtain ⟨R, hR⟩ : ∃ R, mx room (s 5) = R := ⟨_, rfl⟩
      have hR_ : (if room < s 5 then s 5 else room) = R := hR
      rw [hR]
      clear hR
      go_enter Try.func22, Try.ntmps22
      go_wp2_with (first | ((with_reducible refine gate_dst (N := 2) rfl ?_); refine wp_box rfl (N := 2) rfl 45 _ rfl s rfl ?_; intro gb hg w1 hbox hb; have BX := Aside0.mk hbox; have HB := Aside0.mk hb; clear hbox hb; clear hg; have hc3 := cell_at BX.out 3 (by omega); have hc4 := cell_at BX.out 4 (by omega); have hc5 := cell_at BX.out 5 (by omega); have hc6 := cell_at BX.out 6 (by omega); have hc18 := cell_at BX.out 18 (by omega); have hc19 := cell_at BX.out 19 (by omega)))
      go_ret
      exact ⟨by first | rfl | simp, HB.out⟩
    · rw [if_neg h6]
      have e6 : (s 6 == 0) = false := by simpa using h6
      have e6b : (s 6 != 0) = true := by simpa using h6
      clear h6
      obtain ⟨M, hM⟩ : ∃ M, mn room (s 6) = M := ⟨_, rfl⟩
      have hM_ : (if s 6 < room then s 6 else room) = M := hM
      rw [hM]
      obtain ⟨R, hR⟩ : ∃ R, mx M (s 5) = R := ⟨_, rfl⟩
      have hR_ : (if M < s 5 then s 5 else M) = R := hR
      rw [hR]
      clear hR hM
      go_enter Try.func22, Try.ntmps22
      go_wp2_with (first | ((with_reducible refine gate_dst (N := 2) rfl ?_); refine wp_box rfl (N := 2) rfl 45 _ rfl s rfl ?_; intro gb hg w1 hbox hb; have BX := Aside0.mk hbox; have HB := Aside0.mk hb; clear hbox hb; clear hg; have hc3 := cell_at BX.out 3 (by omega); have hc4 := cell_at BX.out 4 (by omega); have hc5 := cell_at BX.out 5 (by omega); have hc6 := cell_at BX.out 6 (by omega); have hc18 := cell_at BX.out 18 (by omega); have hc19 := cell_at BX.out 19 (by omega)))
      go_ret
      exact ⟨by first | rfl | simp, HB.out⟩
  · have e4 : (s 4 == 0) = false := by simpa using h4
    rw [if_neg h4]
    clear h4
    by_cases h6 : s 6 = 0
    · rw [if_pos h6]
      have e6 : (s 6 == 0) = true := by simpa using h6
      have e6b : (s 6 != 0) = false := by simpa using h6
      clear h6
      obtain ⟨R, hR⟩ : ∃ R, mx (s 4) (s 5) = R := ⟨_, rfl⟩
      have hR_ : (if (s 4) < s 5 then s 5 else (s 4)) = R := hR
      rw [hR]
      clear hR
      go_enter Try.func22, Try.ntmps22
      go_wp2_with (first | ((with_reducible refine gate_dst (N := 2) rfl ?_); refine wp_box rfl (N := 2) rfl 45 _ rfl s rfl ?_; intro gb hg w1 hbox hb; have BX := Aside0.mk hbox; have HB := Aside0.mk hb; clear hbox hb; clear hg; have hc3 := cell_at BX.out 3 (by omega); have hc4 := cell_at BX.out 4 (by omega); have hc5 := cell_at BX.out 5 (by omega); have hc6 := cell_at BX.out 6 (by omega); have hc18 := cell_at BX.out 18 (by omega); have hc19 := cell_at BX.out 19 (by omega)))
      go_ret
      exact ⟨by first | rfl | simp, HB.out⟩
    · rw [if_neg h6]
      have e6 : (s 6 == 0) = false := by simpa using h6
      have e6b : (s 6 != 0) = true := by simpa using h6
      clear h6
      obtain ⟨M, hM⟩ : ∃ M, mn (s 4) (s 6) = M := ⟨_, rfl⟩
      have hM_ : (if s 6 < (s 4) then s 6 else (s 4)) = M := hM
      rw [hM]
      obtain ⟨R, hR⟩ : ∃ R, mx M (s 5) = R := ⟨_, rfl⟩
      have hR_ : (if M < s 5 then s 5 else M) = R := hR
      rw [hR]
      clear hR hM
      go_enter Try.func22, Try.ntmps22
      go_wp2_with (first | ((with_reducible refine gate_dst (N := 2) rfl ?_); refine wp_box rfl (N := 2) rfl 45 _ rfl s rfl ?_; intro gb hg w1 hbox hb; have BX := Aside0.mk hbox; have HB := Aside0.mk hb; clear hbox hb; clear hg; have hc3 := cell_at BX.out 3 (by omega); have hc4 := cell_at BX.out 4 (by omega); have hc5 := cell_at BX.out 5 (by omega); have hc6 := cell_at BX.out 6 (by omega); have hc18 := cell_at BX.out 18 (by omega); have hc19 := cell_at BX.out 19 (by omega)))
      go_ret
      exact ⟨by first | rfl | simp, HB.out⟩
set_option maxRecDepth 100000 in
set_option maxHeartbeats 8000000 in
theorem rwidth_calls (s : Nat → Int) (room : Int) (w : World) : Calls Try.prog 24 #[sv s, .int .i64 room] w fun e w' => e = .returned (.int .i64 (widthR s room)) ∧ Below w.heap.size w w' := by
  unfold widthR w0P
  by_cases h4 : s 4 = 0
  · have e4 : (s 4 == 0) = true := by simpa using h4
    rw [if_pos h4]
    clear h4
    by_cases h6 : s 6 > 0
    · rw [if_pos h6]
      have e6 : decide (s 6 > 0) = true := decide_eq_true h6
      clear h6
      obtain ⟨M, hM⟩ : ∃ M, mn room (s 6) = M := ⟨_, rfl⟩
      have hM_ : (if s 6 < room then s 6 else room) = M := hM
      rw [hM]
      obtain ⟨R, hR⟩ : ∃ R, mx M (s 5) = R := ⟨_, rfl⟩
      have hR_ : (if M < s 5 then s 5 else M) = R := hR
      rw [hR]
      clear hR hM
      go_enter Try.func24, Try.ntmps24
      go_wp2_with (first | ((with_reducible refine gate_dst (N := 2) rfl ?_); refine wp_box rfl (N := 2) rfl 23 _ rfl s rfl ?_; intro gb hg w1 hbox hb; have BX := Aside0.mk hbox; have HB := Aside0.mk hb; clear hbox hb; clear hg; have hc3 := cell_at BX.out 3 (by omega); have hc4 := cell_at BX.out 4 (by omega); have hc5 := cell_at BX.out 5 (by omega); have hc6 := cell_at BX.out 6 (by omega); have hc18 := cell_at BX.out 18 (by omega); have hc19 := cell_at BX.out 19 (by omega)))
      go_ret
      exact ⟨by first | rfl | simp, HB.out⟩
    · rw [if_neg h6]
      have e6 : decide (s 6 > 0) = false := decide_eq_false h6
      clear h6
      obtain ⟨R, hR⟩ : ∃ R, mx room (s 5) = R := ⟨_, rfl⟩
      have hR_ : (if room < s 5 then s 5 else room) = R := hR
      rw [hR]
      clear hR
      go_enter Try.func24, Try.ntmps24
      go_wp2_with (first | ((with_reducible refine gate_dst (N := 2) rfl ?_); refine wp_box rfl (N := 2) rfl 23 _ rfl s rfl ?_; intro gb hg w1 hbox hb; have BX := Aside0.mk hbox; have HB := Aside0.mk hb; clear hbox hb; clear hg; have hc3 := cell_at BX.out 3 (by omega); have hc4 := cell_at BX.out 4 (by omega); have hc5 := cell_at BX.out 5 (by omega); have hc6 := cell_at BX.out 6 (by omega); have hc18 := cell_at BX.out 18 (by omega); have hc19 := cell_at BX.out 19 (by omega)))
      go_ret
      exact ⟨by first | rfl | simp, HB.out⟩
  · have e4 : (s 4 == 0) = false := by simpa using h4
    rw [if_neg h4]
    clear h4
    by_cases h6 : s 6 > 0
    · rw [if_pos h6]
      have e6 : decide (s 6 > 0) = true := decide_eq_true h6
      clear h6
      obtain ⟨M, hM⟩ : ∃ M, mn (s 4) (s 6) = M := ⟨_, rfl⟩
      have hM_ : (if s 6 < (s 4) then s 6 else (s 4)) = M := hM
      rw [hM]
      obtain ⟨R, hR⟩ : ∃ R, mx M (s 5) = R := ⟨_, rfl⟩
      have hR_ : (if M < s 5 then s 5 else M) = R := hR
      rw [hR]
      clear hR hM
      go_enter Try.func24, Try.ntmps24
      go_wp2_with (first | ((with_reducible refine gate_dst (N := 2) rfl ?_); refine wp_box rfl (N := 2) rfl 23 _ rfl s rfl ?_; intro gb hg w1 hbox hb; have BX := Aside0.mk hbox; have HB := Aside0.mk hb; clear hbox hb; clear hg; have hc3 := cell_at BX.out 3 (by omega); have hc4 := cell_at BX.out 4 (by omega); have hc5 := cell_at BX.out 5 (by omega); have hc6 := cell_at BX.out 6 (by omega); have hc18 := cell_at BX.out 18 (by omega); have hc19 := cell_at BX.out 19 (by omega)))
      go_ret
      exact ⟨by first | rfl | simp, HB.out⟩
    · rw [if_neg h6]
      have e6 : decide (s 6 > 0) = false := decide_eq_false h6
      clear h6
      obtain ⟨R, hR⟩ : ∃ R, mx (s 4) (s 5) = R := ⟨_, rfl⟩
      have hR_ : (if (s 4) < s 5 then s 5 else (s 4)) = R := hR
      rw [hR]
      clear hR
      go_enter Try.func24, Try.ntmps24
      go_wp2_with (first | ((with_reducible refine gate_dst (N := 2) rfl ?_); refine wp_box rfl (N := 2) rfl 23 _ rfl s rfl ?_; intro gb hg w1 hbox hb; have BX := Aside0.mk hbox; have HB := Aside0.mk hb; clear hbox hb; clear hg; have hc3 := cell_at BX.out 3 (by omega); have hc4 := cell_at BX.out 4 (by omega); have hc5 := cell_at BX.out 5 (by omega); have hc6 := cell_at BX.out 6 (by omega); have hc18 := cell_at BX.out 18 (by omega); have hc19 := cell_at BX.out 19 (by omega)))
      go_ret
      exact ⟨by first | rfl | simp, HB.out⟩
end Go.Proofs.Ytaclpkcoaifjfaa.P
