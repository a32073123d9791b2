import Derived.Test.YtdmfhabhcagioaaHDirs
set_option linter.unusedVariables false
set_option linter.unusedSimpArgs false
namespace Go.Proofs.Ytdmfhabhcagioaa.P
open Go.RowKit Go.Proofs.YtdmfhabhcagioaaW.PrintWords Go.Proofs.YtdmfhabhcagioaaW.PrintLast Go.Proofs.YtdmfhabhcagioaaW.PrintMore Go.Proofs.Ytdmfhabhcagioaa.Rng Go.Bidi
attribute [local go_sem] Oper.semAt_some
def bidi_Levels.f (s : ByteArray) (dir : Int) : Option (List Int × Int) :=
  if s.size ≤ 140737488351232 then (if lineB s dir = true then some (levels dir (classes s), 0) else some ([], 1)) else none
def levTo (s : ByteArray) (dir : Int) (i : Nat) : List Int := (levels dir (classes s)).take i ++ (dirs dir dir (classes s)).drop i
theorem lv_len (s : ByteArray) (dir : Int) : (levels dir (classes s)).length = s.size := by rw [levels_length, classes_length]
theorem dr_len (s : ByteArray) (dir : Int) : (dirs dir dir (classes s)).length = s.size := by rw [dirs_length, classes_length]
theorem levTo_length (s : ByteArray) (dir : Int) (i : Nat) (h : i ≤ s.size) : (levTo s dir i).length = s.size := by simp [levTo, lv_len, dr_len]; omega
theorem levTo_zero (s : ByteArray) (dir : Int) : levTo s dir 0 = dirs dir dir (classes s) := by simp [levTo]
theorem levTo_all (s : ByteArray) (dir : Int) : levTo s dir s.size = levels dir (classes s) := by
  unfold levTo
  rw [List.take_of_length_le (by rw [lv_len]; exact Nat.le_refl _), List.drop_of_length_le (by rw [dr_len]; exact Nat.le_refl _), List.append_nil]
/-- One round: what is read, and what is written. -/
theorem levTo_step (s : ByteArray) (dir : Int) (hd : dir = 0 ∨ dir = 1) (i : Nat) (h : i < s.size) : ∃ d : Int, (d = 0 ∨ d = 1) ∧ rdOf 0 (levTo s dir i) (i : Int) = d ∧ levTo s dir (i + 1) = (levTo s dir i).set i (lvl dir d (cls (bt s (i : Int)))) := by
  have hl1 : i < (levels dir (classes s)).length := by rw [lv_len]; exact h
  have hl2 : i < (dirs dir dir (classes s)).length := by rw [dr_len]; exact h
  have hl3 : i < (classes s).length := by rw [classes_length]; exact h
  have hc : (classes s)[i] = cls (bt s (i : Int)) := by
    have h1 := class_at s i h
    rw [List.take_succ_eq_append_getElem hl3] at h1
    have := List.append_cancel_left h1
    simpa using this
  have htl : ((levels dir (classes s)).take i).length = i := by simp [lv_len]; omega
  refine ⟨(dirs dir dir (classes s))[i], ?_, ?_, ?_⟩
  · exact (dirs_all dir hd (classes s) dir hd ((dirs dir dir (classes s))[i], (classes s)[i]) (by
      refine List.mem_of_getElem? (i := i) ?_
      rw [List.getElem?_zip_eq_some]
      exact ⟨List.getElem?_eq_getElem _, List.getElem?_eq_getElem _⟩)).1
  · unfold levTo rdOf
    rw [Int.toNat_natCast, List.getD_eq_getElem?_getD, List.getElem?_append_right (by rw [htl]; exact Nat.le_refl _), htl, Nat.sub_self, List.getElem?_drop, Nat.add_zero, List.getElem?_eq_getElem hl2]
    rfl
  · unfold levTo
    rw [List.take_succ_eq_append_getElem hl1, List.set_append_right _ _ (by rw [htl]; exact Nat.le_refl _), htl, Nat.sub_self, List.drop_eq_getElem_cons hl2, List.set_cons_zero]
    have : ∀ h' : i < (levels dir (classes s)).length, (levels dir (classes s))[i]'h' = lvl dir (dirs dir dir (classes s))[i] (cls (bt s (i : Int))) := by
      rw [← hc]
      unfold levels
      intro h'
      rw [List.getElem_zipWith]
    rw [this]
    simp
set_option maxRecDepth 100000 in
set_option maxHeartbeats 4000000 in
theorem bidi_Levels.calls (a0 : ByteArray) (a1 : Int) (r1 : List Int) (r2 : Int) (w : World) (h : bidi_Levels.f a0 a1 = some (r1, r2)) :
    Calls Try.prog 11 #[.string a0, .int .i64 a1] w fun e w' => ∃ v0_ : Value, e = .returned (.tuple #[v0_, .int .i64 r2]) ∧ Kd.R (Kd.int .i64) 3 w' w.heap.size (fun _ => True) v0_ r1 ∧ Below w.heap.size w w' := by
  unfold bidi_Levels.f at h
  by_cases hs : a0.size ≤ 140737488351232
  case neg =>
    rw [if_neg hs] at h
    cases h
  rw [if_pos hs] at h
  have hline := fun W => isLine_calls a0 a1 W hs
  cases hb : lineB a0 a1
  · rw [hb] at h hline
    obtain ⟨rfl, rfl⟩ : [] = r1 ∧ 1 = r2 := by simpa using h
    clear h hb hs
    go_enter Try.func11, Try.ntmps11
    go_wp2_with (first | (go_at_call 24; (with_reducible refine (hline _).mono ?_); rintro e w1 ⟨rfl, hb1⟩; have HB1 := Aside0.mk hb1; clear hb1))
    refine bodyPost_ret (results_tmp2 rfl _ _ _) rfl ?_
    exact ⟨.slice none 0 0, rfl, Kd.R_nil _ _ _ _ _, HB1.out⟩
  · rw [hb, if_pos rfl] at h
    rw [hb] at hline
    obtain ⟨rfl, rfl⟩ : levels a1 (classes a0) = r1 ∧ 0 = r2 := by simpa using h
    have hsz : a0.size ≤ 2000 ∧ (a1 = 0 ∨ a1 = 1) := by
      unfold lineB validB at hb
      simp only [Bool.and_eq_true, Bool.or_eq_true, decide_eq_true_eq, beq_iff_eq] at hb
      exact ⟨hb.1.2, hb.2⟩
    have hdirs := fun W => dirs25_calls a0 a1 W hsz.1
    have HS := Aside0.mk hsz.1
    have HD := Aside0.mk hsz.2
    clear h hb hs
    obtain ⟨hs0, hd01⟩ := hsz
    clear hs0
    have hms : a0.size ≤ 9223372036854775807 := by have := HS.out; omega
    rcases hd01 with rfl | rfl
    · have HD2 : Aside0 ((0 : Int) = 0 ∨ (0 : Int) = 1) := ⟨by decide⟩
      clear HD
      go_enter Try.func11, Try.ntmps11
      go_upto_region 5 with (first | (go_at_call 24; (with_reducible refine (hline _).mono ?_); rintro e w1 ⟨rfl, hb1⟩; have HB1 := Aside0.mk hb1; clear hb1) | (go_at_call 25; (with_reducible refine (hdirs _).mono ?_); rintro e w2 ⟨v, rfl, hR, hb2⟩; obtain ⟨A, c, ev⟩ := Kd.R_slice hR; rw [dr_len] at ev; subst ev; have HR := Aside0.mk hR; have HB2 := Aside0.mk hb2; clear hR hb2))
      have BV : Aside0 (w2.heap[w1.heap.size]? = some (.cells #[.int .i64 0, .int .i64 1, .int .i64 2, .int .i64 1] 39 (0, 0))) := ⟨by
        refine (HB2.out.block _ (by simp)).trans ?_
        exact World.alloc_heap_new w1 _⟩
      have HSZ : Aside0 (w.heap.size ≤ w1.heap.size ∧ w1.heap.size < w2.heap.size) := ⟨HB1.out.size, by have := HB2.out.size; simp at this; omega⟩
      have HO : Aside0 (Kd.R (Kd.int .i64) 3 w2 (w1.heap.size + 1) (fun _ => True) (.slice A a0.size c) (levTo a0 0 0)) := ⟨by rw [levTo_zero]; have := HR.out; simpa using this⟩
      have HBL : Aside0 (Below w.heap.size w w2) := ⟨HB1.out.trans (((Below.refl _ w1).alloc (Nat.le_refl _) _).trans (HB2.out.mono (by simp)) |>.mono HB1.out.size)⟩
      clear HR HB1 HB2 hline hdirs
      go_wp2
      go_loopg [22] a0.size (fun kq v22 w' => ∃ i : Nat, v22 = .int .i64 (i : Int) ∧ Aside0 (kq + i = a0.size) ∧ Aside0 (w'.heap[w1.heap.size]? = some (.cells #[.int .i64 0, .int .i64 1, .int .i64 2, .int .i64 1] 39 (0, 0))) ∧ Aside0 (Kd.R (Kd.int .i64) 3 w' (w1.heap.size + 1) (fun _ => True) (.slice A a0.size c) (levTo a0 0 i)) ∧ Aside0 (Below w.heap.size w w'))
      case atStart => exact ⟨0, rfl, ⟨rfl⟩, BV, HO, HBL⟩
      case round =>
        clear BV HO HBL
        obtain ⟨i, rfl, HK, BV, HO, HBL⟩ := hrel
        cases gk with
        | zero =>
          obtain rfl : i = a0.size := by have := HK.out; omega
          have d1 : decide ((a0.size : Int) < (a0.size : Int)) = false := by simp
          have hO := HO.out
          rw [levTo_all] at hO
          have HO := Aside0.mk hO
          clear hO
          go_wp2
          refine bodyPost_ret (results_tmp2 rfl _ _ _) rfl ?_
          exact ⟨_, rfl, Kd.R_lower HO.out (by have := HSZ.out; omega), HBL.out⟩
        | succ k1 =>
          have hi : i < a0.size := by have := HK.out; omega
          have d1 : decide ((i : Int) < (a0.size : Int)) = true := decide_eq_true (by omega)
          have p1 : (0 ≤ (i : Int)) = True := eq_true (by omega)
          have q1 : ((i : Int) < (a0.size : Int)) = True := eq_true (by omega)
          have hsum : IntKind.i64.wrap ((i : Int) + 1) = ((i + 1 : Nat) : Int) := IntWalk.i64_in _ (by have := HS.out; omega)
          have hsum2 : wrap64 ((i : Int) + 1) = ((i + 1 : Nat) : Int) := by have := HS.out; unfold wrap64; omega
          obtain ⟨d, hd, hrd, hnx⟩ := levTo_step a0 0 (by decide) i hi
          obtain ⟨g, cap, eg, hgb, hgl, cells, hcells⟩ := Kd.R_form HO.out (by rw [levTo_length a0 0 i (by omega)]; omega)
          rw [levTo_length a0 0 i (by omega)] at eg
          cases eg
          have hf := blk_frozen hcells i
          have hc := (Kd.R_celln 0 HO.out (i : Int) (by omega) (by omega)).1
          rw [Int.toNat_natCast, hrd] at hc
          have hb := bt_at a0 (i : Int)
          simp only [Int.toNat_natCast] at hb
          obtain ⟨b, hbb⟩ : ∃ b, bt a0 (i : Int) = b := ⟨_, rfl⟩
          simp only [hbb] at hb hnx
          have v0 : wr.cell? ⟨w1.heap.size, 0, none⟩ = some (.int .i64 0) := (blk_cell BV.out 0).trans rfl
          have v1 : wr.cell? ⟨w1.heap.size, 1, none⟩ = some (.int .i64 1) := (blk_cell BV.out 1).trans rfl
          have v2 : wr.cell? ⟨w1.heap.size, 2, none⟩ = some (.int .i64 2) := (blk_cell BV.out 2).trans rfl
          have v3 : wr.cell? ⟨w1.heap.size, 3, none⟩ = some (.int .i64 1) := (blk_cell BV.out 3).trans rfl
          have HNX := Aside0.mk hnx
          have HG := Aside0.mk (And.intro hgb hgl)
          have hcl := class_calls b
          obtain ⟨cl, hcc⟩ : ∃ cl, cls b = cl := ⟨_, rfl⟩
          rw [hcc] at HNX hcl
          have hne : g ≠ w1.heap.size := by omega
          have HNE := Aside0.mk hne
          clear hrd hnx hbb hgb hgl hcells hcc hne
          rcases hd with rfl | rfl
          · have HU : Aside0 (lvl 0 0 cl = 0) := ⟨by unfold lvl; rfl⟩
            have e1 : ((0 : Int) == 1) = false := rfl
            rw [HU.out] at HNX
            have hp := Kd.R_putg HO.out (i : Int) (0 : Int)
            rw [Int.toNat_natCast] at hp
            have HP := Aside0.mk hp
            clear hp
            go_wp2_with (first | (go_at_call 26; (with_reducible refine (hcl _).mono ?_); rintro e w2 ⟨rfl, rfl⟩))
            go_roundg k1
            case measure => omega
            case rel => exact ⟨i + 1, by simp [hsum, hsum2], ⟨by have := HK.out; omega⟩, ⟨(Below.heap_setCell _ _ _ _ (Ne.symm HNE.out)).trans BV.out⟩, ⟨by rw [HNX.out]; exact HP.out.1⟩, ⟨HBL.out.setCell (p := ⟨g, i, none⟩) (by have := HG.out; have := HSZ.out; show w.heap.size ≤ g; omega) _⟩⟩
          · by_cases h3 : cl = 3
            · have HU : Aside0 (lvl 0 1 cl = 2) := ⟨by unfold lvl; rw [if_pos rfl, if_pos h3]⟩
              have e3 : (cl == 3) = true := beq_iff_eq.2 h3
              rw [HU.out] at HNX
              have hp := Kd.R_putg HO.out (i : Int) (1 : Int)
              rw [Int.toNat_natCast] at hp
              have hq := Kd.R_putg hp.1 (i : Int) (2 : Int)
              rw [Int.toNat_natCast, List.set_set] at hq
              have HP := Aside0.mk hp
              have HQ := Aside0.mk hq
              clear hp hq h3
              go_wp2_with (first | (go_at_call 26; (with_reducible refine (hcl _).mono ?_); rintro e w2 ⟨rfl, rfl⟩))
              go_roundg k1
              case measure => omega
              case rel => exact ⟨i + 1, by simp [hsum, hsum2], ⟨by have := HK.out; omega⟩, ⟨(Below.heap_setCell _ _ _ _ (Ne.symm HNE.out)).trans ((Below.heap_setCell _ _ _ _ (Ne.symm HNE.out)).trans BV.out)⟩, ⟨by rw [HNX.out]; exact HQ.out.1⟩, ⟨(HBL.out.setCell (p := ⟨g, i, none⟩) (by have := HG.out; have := HSZ.out; show w.heap.size ≤ g; omega) _).setCell (p := ⟨g, i, none⟩) (by have := HG.out; have := HSZ.out; show w.heap.size ≤ g; omega) _⟩⟩
            · have HU : Aside0 (lvl 0 1 cl = 1) := ⟨by unfold lvl; rw [if_pos rfl, if_neg h3]⟩
              have e3 : (cl == 3) = false := beq_eq_false_iff_ne.2 h3
              rw [HU.out] at HNX
              have hp := Kd.R_putg HO.out (i : Int) (1 : Int)
              rw [Int.toNat_natCast] at hp
              have HP := Aside0.mk hp
              clear hp h3
              go_wp2_with (first | (go_at_call 26; (with_reducible refine (hcl _).mono ?_); rintro e w2 ⟨rfl, rfl⟩))
              go_roundg k1
              case measure => omega
              case rel => exact ⟨i + 1, by simp [hsum, hsum2], ⟨by have := HK.out; omega⟩, ⟨(Below.heap_setCell _ _ _ _ (Ne.symm HNE.out)).trans BV.out⟩, ⟨by rw [HNX.out]; exact HP.out.1⟩, ⟨HBL.out.setCell (p := ⟨g, i, none⟩) (by have := HG.out; have := HSZ.out; show w.heap.size ≤ g; omega) _⟩⟩
    · have HD2 : Aside0 ((1 : Int) = 0 ∨ (1 : Int) = 1) := ⟨by decide⟩
      clear HD
      go_enter Try.func11, Try.ntmps11
      go_upto_region 5 with (first | (go_at_call 24; (with_reducible refine (hline _).mono ?_); rintro e w1 ⟨rfl, hb1⟩; have HB1 := Aside0.mk hb1; clear hb1) | (go_at_call 25; (with_reducible refine (hdirs _).mono ?_); rintro e w2 ⟨v, rfl, hR, hb2⟩; obtain ⟨A, c, ev⟩ := Kd.R_slice hR; rw [dr_len] at ev; subst ev; have HR := Aside0.mk hR; have HB2 := Aside0.mk hb2; clear hR hb2))
      have BV : Aside0 (w2.heap[w1.heap.size]? = some (.cells #[.int .i64 0, .int .i64 1, .int .i64 2, .int .i64 1] 39 (0, 0))) := ⟨by
        refine (HB2.out.block _ (by simp)).trans ?_
        exact World.alloc_heap_new w1 _⟩
      have HSZ : Aside0 (w.heap.size ≤ w1.heap.size ∧ w1.heap.size < w2.heap.size) := ⟨HB1.out.size, by have := HB2.out.size; simp at this; omega⟩
      have HO : Aside0 (Kd.R (Kd.int .i64) 3 w2 (w1.heap.size + 1) (fun _ => True) (.slice A a0.size c) (levTo a0 1 0)) := ⟨by rw [levTo_zero]; have := HR.out; simpa using this⟩
      have HBL : Aside0 (Below w.heap.size w w2) := ⟨HB1.out.trans (((Below.refl _ w1).alloc (Nat.le_refl _) _).trans (HB2.out.mono (by simp)) |>.mono HB1.out.size)⟩
      clear HR HB1 HB2 hline hdirs
      go_wp2
      go_loopg [22] a0.size (fun kq v22 w' => ∃ i : Nat, v22 = .int .i64 (i : Int) ∧ Aside0 (kq + i = a0.size) ∧ Aside0 (w'.heap[w1.heap.size]? = some (.cells #[.int .i64 0, .int .i64 1, .int .i64 2, .int .i64 1] 39 (0, 0))) ∧ Aside0 (Kd.R (Kd.int .i64) 3 w' (w1.heap.size + 1) (fun _ => True) (.slice A a0.size c) (levTo a0 1 i)) ∧ Aside0 (Below w.heap.size w w'))
      case atStart => exact ⟨0, rfl, ⟨rfl⟩, BV, HO, HBL⟩
      case round =>
        clear BV HO HBL
        obtain ⟨i, rfl, HK, BV, HO, HBL⟩ := hrel
        cases gk with
        | zero =>
          obtain rfl : i = a0.size := by have := HK.out; omega
          have d1 : decide ((a0.size : Int) < (a0.size : Int)) = false := by simp
          have hO := HO.out
          rw [levTo_all] at hO
          have HO := Aside0.mk hO
          clear hO
          go_wp2
          refine bodyPost_ret (results_tmp2 rfl _ _ _) rfl ?_
          exact ⟨_, rfl, Kd.R_lower HO.out (by have := HSZ.out; omega), HBL.out⟩
        | succ k1 =>
          have hi : i < a0.size := by have := HK.out; omega
          have d1 : decide ((i : Int) < (a0.size : Int)) = true := decide_eq_true (by omega)
          have p1 : (0 ≤ (i : Int)) = True := eq_true (by omega)
          have q1 : ((i : Int) < (a0.size : Int)) = True := eq_true (by omega)
          have hsum : IntKind.i64.wrap ((i : Int) + 1) = ((i + 1 : Nat) : Int) := IntWalk.i64_in _ (by have := HS.out; omega)
          have hsum2 : wrap64 ((i : Int) + 1) = ((i + 1 : Nat) : Int) := by have := HS.out; unfold wrap64; omega
          obtain ⟨d, hd, hrd, hnx⟩ := levTo_step a0 1 (by decide) i hi
          obtain ⟨g, cap, eg, hgb, hgl, cells, hcells⟩ := Kd.R_form HO.out (by rw [levTo_length a0 1 i (by omega)]; omega)
          rw [levTo_length a0 1 i (by omega)] at eg
          cases eg
          have hf := blk_frozen hcells i
          have hc := (Kd.R_celln 0 HO.out (i : Int) (by omega) (by omega)).1
          rw [Int.toNat_natCast, hrd] at hc
          have hb := bt_at a0 (i : Int)
          simp only [Int.toNat_natCast] at hb
          obtain ⟨b, hbb⟩ : ∃ b, bt a0 (i : Int) = b := ⟨_, rfl⟩
          simp only [hbb] at hb hnx
          have v0 : wr.cell? ⟨w1.heap.size, 0, none⟩ = some (.int .i64 0) := (blk_cell BV.out 0).trans rfl
          have v1 : wr.cell? ⟨w1.heap.size, 1, none⟩ = some (.int .i64 1) := (blk_cell BV.out 1).trans rfl
          have v2 : wr.cell? ⟨w1.heap.size, 2, none⟩ = some (.int .i64 2) := (blk_cell BV.out 2).trans rfl
          have v3 : wr.cell? ⟨w1.heap.size, 3, none⟩ = some (.int .i64 1) := (blk_cell BV.out 3).trans rfl
          have HNX := Aside0.mk hnx
          have HG := Aside0.mk (And.intro hgb hgl)
          have hcl := class_calls b
          obtain ⟨cl, hcc⟩ : ∃ cl, cls b = cl := ⟨_, rfl⟩
          rw [hcc] at HNX hcl
          have hne : g ≠ w1.heap.size := by omega
          have HNE := Aside0.mk hne
          clear hrd hnx hbb hgb hgl hcells hcc hne
          rcases hd with rfl | rfl
          · have HU : Aside0 (lvl 1 0 cl = 2) := ⟨by unfold lvl; rfl⟩
            have e1 : ((0 : Int) == 1) = false := rfl
            rw [HU.out] at HNX
            have hp := Kd.R_putg HO.out (i : Int) (2 : Int)
            rw [Int.toNat_natCast] at hp
            have HP := Aside0.mk hp
            clear hp
            go_wp2_with (first | (go_at_call 26; (with_reducible refine (hcl _).mono ?_); rintro e w2 ⟨rfl, rfl⟩))
            go_roundg k1
            case measure => omega
            case rel => exact ⟨i + 1, by simp [hsum, hsum2], ⟨by have := HK.out; omega⟩, ⟨(Below.heap_setCell _ _ _ _ (Ne.symm HNE.out)).trans BV.out⟩, ⟨by rw [HNX.out]; exact HP.out.1⟩, ⟨HBL.out.setCell (p := ⟨g, i, none⟩) (by have := HG.out; have := HSZ.out; show w.heap.size ≤ g; omega) _⟩⟩
          · by_cases h3 : cl = 3
            · have HU : Aside0 (lvl 1 1 cl = 2) := ⟨by unfold lvl; rw [if_pos rfl, if_pos h3]⟩
              have e3 : (cl == 3) = true := beq_iff_eq.2 h3
              rw [HU.out] at HNX
              have hp := Kd.R_putg HO.out (i : Int) (1 : Int)
              rw [Int.toNat_natCast] at hp
              have hq := Kd.R_putg hp.1 (i : Int) (2 : Int)
              rw [Int.toNat_natCast, List.set_set] at hq
              have HP := Aside0.mk hp
              have HQ := Aside0.mk hq
              clear hp hq h3
              go_wp2_with (first | (go_at_call 26; (with_reducible refine (hcl _).mono ?_); rintro e w2 ⟨rfl, rfl⟩))
              go_roundg k1
              case measure => omega
              case rel => exact ⟨i + 1, by simp [hsum, hsum2], ⟨by have := HK.out; omega⟩, ⟨(Below.heap_setCell _ _ _ _ (Ne.symm HNE.out)).trans ((Below.heap_setCell _ _ _ _ (Ne.symm HNE.out)).trans BV.out)⟩, ⟨by rw [HNX.out]; exact HQ.out.1⟩, ⟨(HBL.out.setCell (p := ⟨g, i, none⟩) (by have := HG.out; have := HSZ.out; show w.heap.size ≤ g; omega) _).setCell (p := ⟨g, i, none⟩) (by have := HG.out; have := HSZ.out; show w.heap.size ≤ g; omega) _⟩⟩
            · have HU : Aside0 (lvl 1 1 cl = 1) := ⟨by unfold lvl; rw [if_pos rfl, if_neg h3]⟩
              have e3 : (cl == 3) = false := beq_eq_false_iff_ne.2 h3
              rw [HU.out] at HNX
              have hp := Kd.R_putg HO.out (i : Int) (1 : Int)
              rw [Int.toNat_natCast] at hp
              have HP := Aside0.mk hp
              clear hp h3
              go_wp2_with (first | (go_at_call 26; (with_reducible refine (hcl _).mono ?_); rintro e w2 ⟨rfl, rfl⟩))
              go_roundg k1
              case measure => omega
              case rel => exact ⟨i + 1, by simp [hsum, hsum2], ⟨by have := HK.out; omega⟩, ⟨(Below.heap_setCell _ _ _ _ (Ne.symm HNE.out)).trans BV.out⟩, ⟨by rw [HNX.out]; exact HP.out.1⟩, ⟨HBL.out.setCell (p := ⟨g, i, none⟩) (by have := HG.out; have := HSZ.out; show w.heap.size ≤ g; omega) _⟩⟩
end Go.Proofs.Ytdmfhabhcagioaa.P
