/- What is over stands behind the last box for align 0, before the first one for 2, and on both sides for 1, where both parts differ by at most 1; if nothing is over, all begin at 0 (package row; up to 64 boxes). Conditions: those of the statement alone. -/
import Derived.Test.YtdnhjkldhdolpaaHAlP
import Derived.Test.YtdnhjkldhdolpaaPx6
import Derived.BigQuiet
set_option linter.unusedVariables false
set_option linter.unusedSimpArgs false
namespace Go.Proofs.Ytdnhjkldhdolpaa.PureA
open Go.RowKit Go.Proofs.Ytdnhjkldhdolpaa.P Go.Proofs.Ytdnhjkldhdolpaa.Pure Go.Proofs.YtdnhjkldhdolpaaW.PrintWords Go.Proofs.YtdnhjkldhdolpaaW.PrintLast Go.Proofs.YtdnhjkldhdolpaaW.PrintMore
theorem boxList_rd (X gap : Int) (ws hs : List Int) (n i : Nat) (h : i < n) : rd_T38 (boxList X gap ws hs n) (i : Int) = bxAt X gap ws hs i := by
  simp [rd_T38, boxList, List.getD_eq_getElem?_getD, h]
theorem boxList_len (X gap : Int) (ws hs : List Int) (n : Nat) : (boxList X gap ws hs n).length = n := by simp [boxList]
theorem C_one (w : World) (s : Nat) (A : Option Addr) (c : Nat) (l : List Int) (hc : l.length ≤ c) (hr : Kd.C (Kd.int .i64) w A l.length l) (hx : w.cell? ⟨s, 0, none⟩ = some (.slice A l.length c)) : Kd.C (Kd.slice 3 (Kd.int .i64)) w (some ⟨s, 0, none⟩) 1 [l] := by
  refine ⟨rfl, by simp, fun _ => ⟨⟨s, 0, none⟩, rfl, fun i z hz => ?_⟩⟩
  obtain rfl : i = 0 := by
    have := (List.getElem?_eq_some_iff.1 hz).1
    simp at this
    omega
  obtain rfl : l = z := by simpa using hz
  refine ⟨[.slice A l.length c], rfl, ⟨A, c, rfl, hc, hr⟩, fun q u hq => ?_⟩
  obtain rfl : q = 0 := by
    have := (List.getElem?_eq_some_iff.1 hq).1
    simp at this
    omega
  obtain rfl : Value.slice A l.length c = u := by simpa using hq
  exact hx
theorem eq39 (W : World) : Sem.run Try.prog (Op.equalIn 10000 39 (.agg #[.int .i64 0, .int .i64 0, .int .i64 0]) (.agg #[.int .i64 0, .int .i64 0, .int .i64 0])) W = .ok true W := by
  first | kernel_rfl | rfl
/-- The two arrays, and what has come in. -/
def Two (w3 w' : World) (a b c x y z : Int) : Prop := w'.heap[w3.heap.size]? = some (.cells #[.int .i64 a, .int .i64 b, .int .i64 c] 39 (0, 0)) ∧ w'.heap[w3.heap.size + 1]? = some (.cells #[.int .i64 x, .int .i64 y, .int .i64 z] 39 (0, 0)) ∧ Below w3.heap.size w3 w'
set_option maxRecDepth 100000 in
set_option maxHeartbeats 8000000 in
theorem RowAligns (A0 : Option Addr) (c0 : Nat) (l0 : List Int) (a1 a2 : Int) (w : World) (hr0 : Kd.C (Kd.int .i64) w A0 l0.length l0) (hc0 : l0.length ≤ c0) :
    Calls Try.prog 6 #[.slice A0 l0.length c0, .int .i64 a1, .int .i64 a2] w fun e w' => e = .returned (.bool true) ∧ Below w.heap.size w w' := by
  have HR0 := Aside0.mk hr0
  have HC0 := Aside0.mk hc0
  clear hr0 hc0
  obtain ⟨kh, hkh⟩ := head_ev
  have hhead : Calls Try.prog 8 #[] w fun e w' => e = .returned (.bool true) ∧ Below w.heap.size w w' := formelaw25_head.calls kh true w (hkh kh (Nat.le_refl _))
  clear hkh
  have hfew : ∀ b, ([l0].all fun x => decide (x.length ≤ 70)) = b → ∀ w1, Below w.heap.size w w1 → Calls Try.prog 9 #[.slice (some ⟨w1.heap.size, 0, none⟩) 1 1] (w1.alloc (.cells #[.slice A0 l0.length c0] 22)) fun e w' => e = .returned (.bool b) ∧ Below w.heap.size w w' := fun b hb w1 h1 => by
    obtain ⟨kf, hkf⟩ := few_ev [l0] (by simp)
    rw [hb] at hkf
    have h2 : Below w.heap.size w (w1.alloc (.cells #[.slice A0 l0.length c0] 22)) := below_alloc h1 _
    refine (formelaw25_few.calls kf _ 1 [l0] b _ (C_one _ w1.heap.size A0 c0 l0 HC0.out (Kd.C_below HR0.out h2) (Boxed.cell (Boxed.new w1 22 _))) (Nat.le_refl _) (hkf kf (Nat.le_refl _))).mono ?_
    rintro e w' ⟨rfl, hd⟩
    exact ⟨rfl, h2.trans (hd.below.mono h2.size)⟩
  by_cases h70 : l0.length ≤ 70
  case neg =>
    have hfew := hfew false (by simp; omega)
    go_enter Try.func6, Try.ntmps6
    go_wp2_with (first | (go_at_call 8; (with_reducible refine hhead.mono ?_); rintro e w1 ⟨rfl, hb⟩; have HB1 := Aside0.mk hb; clear hb) | (go_at_call 9; refine (hfew _ HB1.out).mono ?_; rintro e w2 ⟨rfl, hb⟩; have HB2 := Aside0.mk hb; clear hb))
    go_ret
    exact ⟨rfl, HB2.out⟩
  have hfew := hfew true (by simp; omega)
  have HL := Aside0.mk h70
  have hplace : ∀ i : Int, 0 ≤ i ∧ i ≤ 2 → ∀ p h e, (if okA l0 a1 a2 = true then (boxList (startX l0 a1 i a2) a1 l0 (zeros l0.length) l0.length, maxTo (zeros l0.length) ((zeros l0.length).length - 1), 0) else ([], 0, 1)) = ((p, h, e) : List S38 × Int × Int) → ∀ w1 Az cz, l0.length ≤ cz → Below w.heap.size w w1 → Kd.C (Kd.int .i64) w1 Az l0.length (zeros l0.length) → Calls Try.prog 13 #[.slice A0 l0.length c0, .slice Az l0.length cz, .int .i64 a1, .int .i64 i, .int .i64 a2] w1 fun e1 w' => ∃ (A : Option Addr) (c : Nat), e1 = .returned (.tuple #[.slice A p.length c, .int .i64 h, .int .i64 e]) ∧ Kd.C k38 w' A p.length p ∧ Below w1.heap.size w1 w' ∧ ∀ ad, A = some ad → w1.heap.size ≤ ad.block := fun i hi p h e hp w1 Az cz hz h1 hC => by
    have hzl : (zeros l0.length).length = l0.length := by simp [zeros]
    have := row_Place.calls A0 c0 l0 Az cz (zeros l0.length) a1 i a2 p h e w1 (Kd.C_below HR0.out h1) HC0.out (by rw [hzl]; exact hC) (by rw [hzl]; exact hz) (by rw [place_al l0 HL.out a1 a2 i hi, hp])
    rw [hzl] at this
    refine this.mono ?_
    rintro e1 w' ⟨v, rfl, hR, hb⟩
    obtain ⟨A, c, rfl, hl, hC⟩ := Kd.S_reads hR
    exact ⟨A, c, rfl, hC, hb, fun ad e => by subst e; exact Kd.S_base hR ad.block rfl⟩
  have arms := True.intro
  cases hok : okA l0 a1 a2
  case false =>
    have hplace := hplace 0 (by omega) [] 0 1 (by rw [hok]; rfl)
    go_enter Try.func6, Try.ntmps6
    go_wp2_with (first | (go_at_call 8; (with_reducible refine hhead.mono ?_); rintro e w1 ⟨rfl, hb⟩; have HB1 := Aside0.mk hb; clear hb) | (go_at_call 9; refine (hfew _ HB1.out).mono ?_; rintro e w2 ⟨rfl, hb⟩; have HB2 := Aside0.mk hb; clear hb) | ((with_reducible refine gate_dst (N := 25) rfl ?_); refine Kd.R_make (Kd.int .i64) _ 3 rfl (N := 25) rfl 22 _ _ rfl (l0.length : Int) rfl rfl Try.underlying22 (.int .i64 0) 8 info3 rfl (by decide) (by omega) 0 (ok := fun _ => True) (okp := fun _ => True) rfl (fun _ hk => hk) trivial (by omega) (by have := HL.out; omega) (Below.refl _ _) (Nat.le_refl _) ?_; intro v1 w3 ho hb hg _; obtain ⟨Az, cz, ez, hlz, hCz⟩ := Kd.R_reads ho; simp only [Int.toNat_natCast, List.length_replicate] at ez hlz hCz; subst ez; have HZ := Aside0.mk (show Kd.C (Kd.int .i64) w3 Az l0.length (zeros l0.length) from hCz); have HLZ := Aside0.mk hlz; have HB3 := Aside0.mk (HB2.out.trans (hb.mono HB2.out.size)); clear ho hb hg hlz hCz))
    go_loopg [26] 3 (fun kq v26 w' => v26 = .int .i64 0 ∧ Aside0 (kq = 3) ∧ Aside0 (Below w3.heap.size w3 w'))
    case atStart => exact ⟨rfl, ⟨rfl⟩, ⟨below_alloc (below_alloc (Below.refl _ _) _) _⟩⟩
    case round =>
      obtain ⟨rfl, HK, HB⟩ := hrel
      cases gk with
      | zero => exact absurd HK.out (by omega)
      | succ k1 =>
        have hbz := HB3.out.trans (HB.out.mono HB3.out.size)
        have hp := hplace wr Az cz HLZ.out hbz (Kd.C_below HZ.out HB.out)
        have HBZ := Aside0.mk hbz
        clear hplace hbz
        go_wp2_with (first | (go_at_call 13; refine hp.mono ?_; rintro e w4 ⟨Ab, cb, rfl, hC, hb, hbase⟩; have HB4 := Aside0.mk hb; clear hb hC hbase))
        go_ret
        exact ⟨rfl, HBZ.out.trans (HB4.out.mono HBZ.out.size)⟩
  have AL := Aside0.mk (al_of hok)
  have hplace : ∀ i : Int, 0 ≤ i ∧ i ≤ 2 → ∀ w1 Az cz, l0.length ≤ cz → Below w.heap.size w w1 → Kd.C (Kd.int .i64) w1 Az l0.length (zeros l0.length) → Calls Try.prog 13 #[.slice A0 l0.length c0, .slice Az l0.length cz, .int .i64 a1, .int .i64 i, .int .i64 a2] w1 fun e1 w' => ∃ (A : Option Addr) (c : Nat), e1 = .returned (.tuple #[.slice A l0.length c, .int .i64 (maxTo (zeros l0.length) ((zeros l0.length).length - 1)), .int .i64 0]) ∧ Kd.C k38 w' A l0.length (boxList (startX l0 a1 i a2) a1 l0 (zeros l0.length) l0.length) ∧ Below w1.heap.size w1 w' ∧ ∀ ad, A = some ad → w1.heap.size ≤ ad.block := fun i hi w1 Az cz hz h1 hC => by
    refine (hplace i hi _ _ _ (by rw [hok, if_pos rfl]) w1 Az cz hz h1 hC).mono ?_
    rintro e w' ⟨A, c, rfl, hC, hb, hbase⟩
    rw [boxList_len] at hC ⊢
    exact ⟨A, c, rfl, hC, hb, hbase⟩
  obtain ⟨MX, hMX⟩ : ∃ M, maxTo (zeros l0.length) ((zeros l0.length).length - 1) = M := ⟨_, rfl⟩
  rw [hMX] at hplace
  have hp0 := hplace 0 (by omega)
  have hp1 := hplace 1 (by omega)
  have hp2 := hplace 2 (by omega)
  have htot : ∀ w1, Below w.heap.size w w1 → Calls Try.prog 16 #[.slice A0 l0.length c0] w1 fun e w' => e = .returned (.int .i64 (sumTo (fun j => rd l0 (j : Int)) l0.length)) ∧ Below w.heap.size w w' ∧ Below w1.heap.size w1 w' := fun w1 h1 => by
    obtain ⟨kt, hkt⟩ := total_ev l0 AL.out.n.2 1000000 (by omega) (fun i hi => by
      simp only [okA, startsOk, Bool.and_eq_true, Bool.not_eq_true'] at hok
      exact far_bd hok.1.2 i hi)
    refine (formelaw25_total.calls kt A0 c0 l0 _ w1 (Kd.C_below HR0.out h1) HC0.out (hkt kt (Nat.le_refl _))).mono ?_
    rintro e w' ⟨rfl, hd⟩
    exact ⟨rfl, h1.trans (hd.below.mono h1.size), hd.below⟩
  clear hplace hMX
  obtain ⟨m, hm⟩ : ∃ m, l0.length = m + 1 := ⟨l0.length - 1, by have := AL.out.n; omega⟩
  have hm1 : l0.length - 1 = m := by omega
  rw [hm1] at AL
  obtain ⟨T, hT⟩ : ∃ T, sumTo (fun j => rd l0 (j : Int)) l0.length = T := ⟨_, rfl⟩
  rw [hT] at AL htot
  obtain ⟨O, hO⟩ : ∃ O, a2 - begins l0 a1 m - rd l0 (m : Int) = O := ⟨_, rfl⟩
  rw [hO] at AL
  obtain ⟨F0, hF0⟩ : ∃ F, startX l0 a1 0 a2 = F := ⟨_, rfl⟩
  obtain ⟨F1, hF1⟩ : ∃ F, startX l0 a1 1 a2 = F := ⟨_, rfl⟩
  obtain ⟨F2, hF2⟩ : ∃ F, startX l0 a1 2 a2 = F := ⟨_, rfl⟩
  rw [hF0] at hp0
  rw [hF1] at hp1 AL
  rw [hF2] at hp2
  have z0 : F0 = 0 := hF0.symm.trans AL.out.s0
  subst z0
  obtain ⟨L0, hL0⟩ : ∃ L, wrap64 (wrap64 (a2 - xAt 0 a1 l0 m) - rd l0 (m : Int)) = L := ⟨_, rfl⟩
  obtain ⟨L1, hL1⟩ : ∃ L, wrap64 (wrap64 (a2 - xAt F1 a1 l0 m) - rd l0 (m : Int)) = L := ⟨_, rfl⟩
  obtain ⟨L2, hL2⟩ : ∃ L, wrap64 (wrap64 (a2 - xAt F2 a1 l0 m) - rd l0 (m : Int)) = L := ⟨_, rfl⟩
  rw [hL1] at AL
  have HL0 := Aside0.mk hL0
  have HL1 := Aside0.mk hL1
  have HL2 := Aside0.mk hL2
  have HF2 := Aside0.mk hF2
  have HM := Aside0.mk hm
  have u0 : wrap64 ((l0.length : Int) - 1) = (m : Int) := by rw [EvT.w64 (by have := AL.out.n; omega) (by have := AL.out.n; omega)]; omega
  have en0 : decide ((l0.length : Int) = 0) = false := decide_eq_false (by omega)
  have en1 : ((l0.length : Int) == 0) = false := beq_eq_false_iff_ne.2 (by omega)
  have pm : (0 ≤ (m : Int)) = True := eq_true (by omega)
  have qm : ((m : Int) < (l0.length : Int)) = True := eq_true (by omega)
  have qm2 : (m < l0.length) = True := eq_true (by omega)
  have q00 : ((0 : Int) < (l0.length : Int)) = True := eq_true (by omega)
  have q01 : (0 < l0.length) = True := eq_true (by omega)
  have q03 : (l0 = []) = False := eq_false (fun e => by rw [e] at hm; simp at hm)
  clear hF0 hF1 hF2 hL0 hL1 hL2 hT hO hok hm1 hm h70
  go_enter Try.func6, Try.ntmps6
  go_wp2_with (first | (go_at_call 8; (with_reducible refine hhead.mono ?_); rintro e w1 ⟨rfl, hb⟩; have HB1 := Aside0.mk hb; clear hb) | (go_at_call 9; refine (hfew _ HB1.out).mono ?_; rintro e w2 ⟨rfl, hb⟩; have HB2 := Aside0.mk hb; clear hb) | ((with_reducible refine gate_dst (N := 25) rfl ?_); refine Kd.R_make (Kd.int .i64) _ 3 rfl (N := 25) rfl 22 _ _ rfl (l0.length : Int) rfl rfl Try.underlying22 (.int .i64 0) 8 info3 rfl (by decide) (by omega) 0 (ok := fun _ => True) (okp := fun _ => True) rfl (fun _ hk => hk) trivial (by omega) (by have := HL.out; omega) (Below.refl _ _) (Nat.le_refl _) ?_; intro v1 w3 ho hb hg _; obtain ⟨Az, cz, ez, hlz, hCz⟩ := Kd.R_reads ho; simp only [Int.toNat_natCast, List.length_replicate] at ez hlz hCz; subst ez; have HZ := Aside0.mk (show Kd.C (Kd.int .i64) w3 Az l0.length (zeros l0.length) from hCz); have HLZ := Aside0.mk hlz; have HB3 := Aside0.mk (HB2.out.trans (hb.mono HB2.out.size)); clear ho hb hg hlz hCz))
  clear hhead hfew HB1 HB2
  go_loopg [26] 3 (fun kq v26 w' => (v26 = .int .i64 0 ∧ Aside0 (kq = 3) ∧ Aside0 (Two w3 w' 0 0 0 0 0 0)) ∨ (v26 = .int .i64 1 ∧ Aside0 (kq = 2) ∧ Aside0 (Two w3 w' 0 0 0 L0 0 0)) ∨ (v26 = .int .i64 2 ∧ Aside0 (kq = 1) ∧ Aside0 (Two w3 w' 0 F1 0 L0 L1 0)) ∨ (v26 = .int .i64 3 ∧ Aside0 (kq = 0) ∧ Aside0 (Two w3 w' 0 F1 F2 L0 L1 L2)))
  case atStart =>
    refine .inl ⟨rfl, ⟨rfl⟩, ⟨blk_alloc (blk_new w3 _) _, ?_, below_alloc (below_alloc (Below.refl _ _) _) _⟩⟩
    have := blk_new (w3.alloc (.cells #[.int .i64 0, .int .i64 0, .int .i64 0] 39)) (.cells #[.int .i64 0, .int .i64 0, .int .i64 0] 39)
    rwa [World.size_alloc] at this
  case round =>
    rcases hrel with ⟨rfl, HK, HT⟩ | ⟨rfl, HK, HT⟩ | ⟨rfl, HK, HT⟩ | ⟨rfl, HK, HT⟩
    · cases gk with
      | zero => exact absurd HK.out (by omega)
      | succ k1 =>
        have hbz := HB3.out.trans (HT.out.2.2.mono HB3.out.size)
        have hp := hp0 _ Az cz HLZ.out hbz (Kd.C_below HZ.out HT.out.2.2)
        have HBZ := Aside0.mk hbz
        clear hp0 hp1 hp2 hbz htot
        go_upto_region 12 with (first | (go_at_call 13; refine hp.mono ?_; rintro e w4 ⟨Ab, cb, rfl, hC, hb, hbase⟩; have HP := Aside0.mk hC; have HAD := Aside0.mk hbase; have HA4 := Aside0.mk (blk_below HT.out.1 hb); have HC4 := Aside0.mk (blk_below HT.out.2.1 hb); have BL4 := Aside0.mk (HT.out.2.2.trans (hb.mono HT.out.2.2.size)); clear hb hC hbase))
        have HSZ := Aside0.mk (blk_lt HT.out.2.1)
        clear hp HT
        obtain ⟨ad, A6, c6, ead, b0, b1, b2, b3, b4, b5, b6, b7⟩ := at_T38 HP.out (m : Int) (of_eq_true pm) (of_eq_true qm)
        rw [boxList_rd _ _ _ _ _ _ (of_eq_true qm2)] at b0 b1 b2 b3 b4 b5 b6
        obtain ⟨xe, hxe⟩ : ∃ x, xAt 0 a1 l0 m = x := ⟨_, rfl⟩
        obtain ⟨we, hwe⟩ : ∃ x, rd l0 (m : Int) = x := ⟨_, rfl⟩
        obtain ⟨he, hhe⟩ : ∃ x, rd (zeros l0.length) (m : Int) = x := ⟨_, rfl⟩
        have HLL := HL0.out
        simp only [bxAt, hxe, hwe, hhe, Int.toNat_natCast] at b0 b1 b2 b3 b4 b5 b6 HLL
        have HLL := Aside0.mk HLL
        cases ead
        have HNE : Aside0 (w3.heap.size + 1 < ad.block) := ⟨Nat.lt_of_lt_of_le HSZ.out (HAD.out ad rfl)⟩
        clear b7 HSZ HAD hxe hwe hhe
        go_upto_region 13 with (first | ((with_reducible refine gate_dst (N := 15) rfl ?_); refine box_event ?hg (N := 15) ?hd (cs := #[.int .i64 0, .int .i64 0, .int .i64 0, .int .i64 0, .int .i64 0, .bool false, .slice none 0 0]) (t := 38) ?hr ?_; (case hd => rfl); (case hg => rfl); (case hr => first | (go_simp; done) | (go_simp; rfl)); intro gb hg w48 hbox hb; have HBK := Aside0.mk hbox; have HBB := Aside0.mk hb; have HGE := Aside0.mk hg; clear hb hg; have hcz0 : w48.cell? ⟨gb, 0, none⟩ = some (.int .i64 0) := (blk_cell HBK.out 0).trans rfl; have hfz0 := blk_frozen HBK.out 0; have hcz1 : w48.cell? ⟨gb, 1, none⟩ = some (.int .i64 0) := (blk_cell HBK.out 1).trans rfl; have hfz1 := blk_frozen HBK.out 1; have hcz2 : w48.cell? ⟨gb, 2, none⟩ = some (.int .i64 0) := (blk_cell HBK.out 2).trans rfl; have hfz2 := blk_frozen HBK.out 2; have hcz3 : w48.cell? ⟨gb, 3, none⟩ = some (.int .i64 0) := (blk_cell HBK.out 3).trans rfl; have hfz3 := blk_frozen HBK.out 3; have hcz4 : w48.cell? ⟨gb, 4, none⟩ = some (.int .i64 0) := (blk_cell HBK.out 4).trans rfl; have hfz4 := blk_frozen HBK.out 4; have hcz5 : w48.cell? ⟨gb, 5, none⟩ = some (.bool false) := (blk_cell HBK.out 5).trans rfl; have hfz5 := blk_frozen HBK.out 5; have hcz6 : w48.cell? ⟨gb, 6, none⟩ = some (.slice none 0 0) := (blk_cell HBK.out 6).trans rfl; have hfz6 := blk_frozen HBK.out 6))
        obtain ⟨W, hW⟩ : ∃ W, ((((((w48.setCell ⟨gb, 0, none⟩ (.int .i64 0)).setCell ⟨gb, 1, none⟩ (.int .i64 xe)).setCell ⟨gb, 2, none⟩ (.int .i64 0)).setCell ⟨gb, 3, none⟩ (.int .i64 we)).setCell ⟨gb, 4, none⟩ (.int .i64 he)).setCell ⟨gb, 5, none⟩ (.bool false)).setCell ⟨gb, 6, none⟩ (.slice A6 0 c6) = W := ⟨_, rfl⟩
        rw [hW]
        have BX : Aside0 (W.heap[gb]? = some (.cells #[.int .i64 0, .int .i64 xe, .int .i64 0, .int .i64 we, .int .i64 he, .bool false, .slice A6 0 c6] 38 (0, 0))) := ⟨by rw [← hW]; refine blk_put (cs := #[.int .i64 0, .int .i64 xe, .int .i64 0, .int .i64 we, .int .i64 he, .bool false, .slice none 0 0]) ?_ 6 _ rfl; refine blk_put (cs := #[.int .i64 0, .int .i64 xe, .int .i64 0, .int .i64 we, .int .i64 he, .bool false, .slice none 0 0]) ?_ 5 _ rfl; refine blk_put (cs := #[.int .i64 0, .int .i64 xe, .int .i64 0, .int .i64 we, .int .i64 0, .bool false, .slice none 0 0]) ?_ 4 _ rfl; refine blk_put (cs := #[.int .i64 0, .int .i64 xe, .int .i64 0, .int .i64 0, .int .i64 0, .bool false, .slice none 0 0]) ?_ 3 _ rfl; refine blk_put (cs := #[.int .i64 0, .int .i64 xe, .int .i64 0, .int .i64 0, .int .i64 0, .bool false, .slice none 0 0]) ?_ 2 _ rfl; refine blk_put (cs := #[.int .i64 0, .int .i64 0, .int .i64 0, .int .i64 0, .int .i64 0, .bool false, .slice none 0 0]) ?_ 1 _ rfl; refine blk_put (cs := #[.int .i64 0, .int .i64 0, .int .i64 0, .int .i64 0, .int .i64 0, .bool false, .slice none 0 0]) ?_ 0 _ rfl; exact HBK.out⟩
        have HNG : Aside0 (w3.heap.size + 1 < gb) := ⟨by rw [HGE.out]; exact blk_lt HC4.out⟩
        have hge : w4.heap.size ≤ gb := by rw [HGE.out]; exact Nat.le_refl _
        have BW : Aside0 (Below w4.heap.size w4 W) := ⟨by rw [← hW]; exact below_set (below_set (below_set (below_set (below_set (below_set (below_set HBB.out hge) hge) hge) hge) hge) hge) hge⟩
        clear hW hge b0 b1 b2 b3 b4 b5 b6 hcz0 hcz1 hcz2 hcz3 hcz4 hcz5 hcz6 hfz0 hfz1 hfz2 hfz3 hfz4 hfz5 hfz6
        clear HBK HBB HGE
        have HA5 := Aside0.mk (blk_below HA4.out BW.out)
        have HC5 := Aside0.mk (blk_below HC4.out BW.out)
        have BL5 := Aside0.mk (BL4.out.trans (BW.out.mono BL4.out.size))
        obtain ⟨ar, A63, c63, ear, _, y1, _, _, _, _, _, _⟩ := at_T38 (Kd.C_below HP.out BW.out) ((0 : Nat) : Int) (by omega) (by have := HM.out; omega)
        cases ear
        rw [boxList_rd _ _ _ _ _ _ (by have := HM.out; omega)] at y1
        simp only [bxAt, xAt, Int.toNat_natCast, Nat.zero_mul] at y1
        have x1 : W.cell? ⟨gb, 1, none⟩ = some (.int .i64 xe) := (blk_cell BX.out 1).trans rfl
        have x3 : W.cell? ⟨gb, 3, none⟩ = some (.int .i64 we) := (blk_cell BX.out 3).trans rfl
        have y5 : W.cell? ⟨ad.block, ad.off + 1, none⟩ = some (.int .i64 0) := y1
        clear y1 HA4 HC4 BL4 BW HP
        refine start_ (n := 17) (S := fun w' => w'.cell? ⟨ad.block, ad.off + 1, none⟩ = some (.int .i64 0) ∧ w'.cell? ⟨gb, 1, none⟩ = some (.int .i64 xe) ∧ w'.cell? ⟨gb, 3, none⟩ = some (.int .i64 we)) (ds := [16]) #[false, false, false, false, false, false, false, false, false, false, false, false, false, false, false, false, false] (by kernel_rfl) rfl rfl ⟨y5, x1, x3⟩ (fun hHeld => ?_)
        have HA := Aside0.mk (blk_drew HA5.out)
        have HC := Aside0.mk (blk_drew HC5.out)
        have BL := Aside0.mk (below_drew BL5.out)
        clear HA5 HC5 BL5 x1 x3 y5 BX
        generalize World.drew _ = w25 at HA HC BL hHeld ⊢
        refine pure_ (i := 0) (N := some 57) (v := ?_) (a' := ?_) #[true, false, false, false, false, false, false, false, false, false, false, false, false, false, false, false, false] rfl rfl (by kernel_rfl) (fun _ _ _ h => h) (Or.inl ⟨by rfl, ?_⟩) ?_ ?_
        rotate_left
        · intro w' 
          go_simp
          with_reducible rfl
        rotate_left
        · simp only [Act.put, List.setIfInBounds_toArray, List.set_cons_zero, List.set_cons_succ, i64_w, i32_w]
          rfl
        refine pure_ (i := 1) (N := some 58) (v := ?_) (a' := ?_) #[true, true, false, false, false, false, false, false, false, false, false, false, false, false, false, false, false] rfl rfl (by kernel_rfl) (fun _ _ _ h => h) (Or.inl ⟨by rfl, ?_⟩) ?_ ?_
        rotate_left
        · intro w' 
          go_simp
          with_reducible rfl
        rotate_left
        · simp only [Act.put, List.setIfInBounds_toArray, List.set_cons_zero, List.set_cons_succ, i64_w, i32_w]
          rfl
        refine pure_ (i := 2) (N := some 59) (v := ?_) (a' := ?_) #[true, true, true, false, false, false, false, false, false, false, false, false, false, false, false, false, false] rfl rfl (by kernel_rfl) (fun _ _ _ h => h) (Or.inl ⟨by rfl, ?_⟩) ?_ ?_
        rotate_left
        · intro w' 
          go_simp
          with_reducible rfl
        rotate_left
        · simp only [Act.put, List.setIfInBounds_toArray, List.set_cons_zero, List.set_cons_succ, i64_w, i32_w]
          rfl
        refine pure_ (i := 3) (N := some 60) (v := ?_) (a' := ?_) #[true, true, true, true, false, false, false, false, false, false, false, false, false, false, false, false, false] rfl rfl (by kernel_rfl) (fun _ _ _ h => h) (Or.inl ⟨by rfl, ?_⟩) ?_ ?_
        rotate_left
        · intro w' 
          go_simp
          with_reducible rfl
        rotate_left
        · simp only [Act.put, List.setIfInBounds_toArray, List.set_cons_zero, List.set_cons_succ, i64_w, i32_w]
          rfl
        refine pure_ (i := 4) (N := some 61) (v := ?_) (a' := ?_) #[true, true, true, true, true, false, false, false, false, false, false, false, false, false, false, false, false] rfl rfl (by kernel_rfl) (fun _ _ _ h => h) (Or.inl ⟨by rfl, ?_⟩) ?_ ?_
        rotate_left
        · intro w' 
          go_simp
          with_reducible rfl
        rotate_left
        · simp only [Act.put, List.setIfInBounds_toArray, List.set_cons_zero, List.set_cons_succ, i64_w, i32_w]
          rfl
        refine take_ (i := 5) (N := some 62) (v := ?_) (a' := ?_) #[true, true, true, true, true, true, false, false, false, false, false, false, false, false, false, false, false] rfl rfl (by kernel_rfl) (fun _ _ _ h => h) (Or.inl ⟨by rfl, ?_⟩) hHeld ?_ ?_
        rotate_left
        · rintro w' ⟨s0, s1, s2⟩
          go_simp
          with_reducible rfl
        rotate_left
        · simp only [Act.put, List.setIfInBounds_toArray, List.set_cons_zero, List.set_cons_succ, i64_w, i32_w]
          rfl
        refine pure_ (i := 6) (N := some 63) (v := ?_) (a' := ?_) #[true, true, true, true, true, true, true, false, false, false, false, false, false, false, false, false, false] rfl rfl (by kernel_rfl) (fun _ _ _ h => h) (Or.inl ⟨by rfl, ?_⟩) ?_ ?_
        rotate_left
        · intro w' 
          go_simp
          with_reducible rfl
        rotate_left
        · simp only [Act.put, List.setIfInBounds_toArray, List.set_cons_zero, List.set_cons_succ, i64_w, i32_w]
          rfl
        refine pure_ (i := 7) (N := some 64) (v := ?_) (a' := ?_) #[true, true, true, true, true, true, true, true, false, false, false, false, false, false, false, false, false] rfl rfl (by kernel_rfl) (fun _ _ _ h => h) (Or.inl ⟨by rfl, ?_⟩) ?_ ?_
        rotate_left
        · intro w' 
          go_simp
          with_reducible rfl
        rotate_left
        · simp only [Act.put, List.setIfInBounds_toArray, List.set_cons_zero, List.set_cons_succ, i64_w, i32_w]
          rfl
        refine take_ (i := 8) (N := some 65) (v := ?_) (a' := ?_) #[true, true, true, true, true, true, true, true, true, false, false, false, false, false, false, false, false] rfl rfl (by kernel_rfl) (fun _ _ _ h => h) (Or.inl ⟨by rfl, ?_⟩) hHeld ?_ ?_
        rotate_left
        · rintro w' ⟨s0, s1, s2⟩
          go_simp
          with_reducible rfl
        rotate_left
        · simp only [Act.put, List.setIfInBounds_toArray, List.set_cons_zero, List.set_cons_succ, i64_w, i32_w]
          rfl
        refine pure_ (i := 9) (N := some 66) (v := ?_) (a' := ?_) #[true, true, true, true, true, true, true, true, true, true, false, false, false, false, false, false, false] rfl rfl (by kernel_rfl) (fun _ _ _ h => h) (Or.inl ⟨by rfl, ?_⟩) ?_ ?_
        rotate_left
        · intro w' 
          go_simp
          with_reducible rfl
        rotate_left
        · simp only [Act.put, List.setIfInBounds_toArray, List.set_cons_zero, List.set_cons_succ, i64_w, i32_w]
          rfl
        refine pure_ (i := 10) (N := some 67) (v := ?_) (a' := ?_) #[true, true, true, true, true, true, true, true, true, true, true, false, false, false, false, false, false] rfl rfl (by kernel_rfl) (fun _ _ _ h => h) (Or.inl ⟨by rfl, ?_⟩) ?_ ?_
        rotate_left
        · intro w' 
          go_simp
          with_reducible rfl
        rotate_left
        · simp only [Act.put, List.setIfInBounds_toArray, List.set_cons_zero, List.set_cons_succ, i64_w, i32_w]
          rfl
        refine take_ (i := 11) (N := some 68) (v := ?_) (a' := ?_) #[true, true, true, true, true, true, true, true, true, true, true, true, false, false, false, false, false] rfl rfl (by kernel_rfl) (fun _ _ _ h => h) (Or.inl ⟨by rfl, ?_⟩) hHeld ?_ ?_
        rotate_left
        · rintro w' ⟨s0, s1, s2⟩
          go_simp
          with_reducible rfl
        rotate_left
        · simp only [Act.put, List.setIfInBounds_toArray, List.set_cons_zero, List.set_cons_succ, i64_w, i32_w]
          rfl
        refine pure_ (i := 12) (N := some 69) (v := ?_) (a' := ?_) #[true, true, true, true, true, true, true, true, true, true, true, true, true, false, false, false, false] rfl rfl (by kernel_rfl) (fun _ _ _ h => h) (Or.inl ⟨by rfl, ?_⟩) ?_ ?_
        rotate_left
        · intro w' 
          go_simp
          with_reducible rfl
        rotate_left
        · simp only [Act.put, List.setIfInBounds_toArray, List.set_cons_zero, List.set_cons_succ, i64_w, i32_w]
          rfl
        refine pure_ (i := 13) (N := some 70) (v := ?_) (a' := ?_) #[true, true, true, true, true, true, true, true, true, true, true, true, true, true, false, false, false] rfl rfl (by kernel_rfl) (fun _ _ _ h => h) (Or.inl ⟨by rfl, ?_⟩) ?_ ?_
        rotate_left
        · intro w' 
          go_simp
          with_reducible rfl
        rotate_left
        · simp only [Act.put, List.setIfInBounds_toArray, List.set_cons_zero, List.set_cons_succ, i64_w, i32_w]
          rfl
        refine one_ (i := 14) (N := none) #[true, true, true, true, true, true, true, true, true, true, true, true, true, true, true, false, false] rfl rfl (by kernel_rfl) (by decide) (fun K hK => ?_)
        have ha : w25.cell? ⟨w3.heap.size, 0, none⟩ = some (.int .i64 0) := (blk_cell HA.out 0).trans rfl
        have hfa := blk_frozen HA.out 0
        refine skip_ (w1 := w25.setCell ⟨w3.heap.size, 0, none⟩ (.int .i64 0)) (by rfl) rfl (by go_simp) ?_
        refine hK.out _ _ ⟨(cell_far (p := ⟨w3.heap.size, 0, none⟩) (a := ⟨ad.block, ad.off + 1, none⟩) (show ad.block ≠ w3.heap.size by have := HNE.out; omega) _).trans hHeld.1, (cell_far (p := ⟨w3.heap.size, 0, none⟩) (a := ⟨gb, 1, none⟩) (show gb ≠ w3.heap.size by have := HNG.out; omega) _).trans hHeld.2.1, (cell_far (p := ⟨w3.heap.size, 0, none⟩) (a := ⟨gb, 3, none⟩) (show gb ≠ w3.heap.size by have := HNG.out; omega) _).trans hHeld.2.2⟩ (fun hHeld => ?_)
        clear hK K
        refine pure_ (i := 15) (N := some 71) (v := ?_) (a' := ?_) #[true, true, true, true, true, true, true, true, true, true, true, true, true, true, true, true, false] rfl rfl (by kernel_rfl) (fun _ _ _ h => h) (Or.inl ⟨by rfl, ?_⟩) ?_ ?_
        rotate_left
        · intro w' 
          go_simp
          with_reducible rfl
        rotate_left
        · simp only [Act.put, List.setIfInBounds_toArray, List.set_cons_zero, List.set_cons_succ, i64_w, i32_w]
          rfl
        refine last_ (i := 16) (N := none) #[true, true, true, true, true, true, true, true, true, true, true, true, true, true, true, true, true] rfl rfl (by kernel_rfl) (by decide) (fun K hK => ?_)
        have HC6 := Aside0.mk (blk_far (p := ⟨w3.heap.size, 0, none⟩) HC.out (show w3.heap.size + 1 ≠ w3.heap.size by omega) (.int .i64 0))
        have hb : (w25.setCell ⟨w3.heap.size, 0, none⟩ (.int .i64 0)).cell? ⟨w3.heap.size + 1, 0, none⟩ = some (.int .i64 0) := (blk_cell HC6.out 0).trans rfl
        have hfb := blk_frozen HC6.out 0
        refine skip_ (w1 := (w25.setCell ⟨w3.heap.size, 0, none⟩ (.int .i64 0)).setCell ⟨w3.heap.size + 1, 0, none⟩ (.int .i64 L0)) (by rfl) rfl (by go_simp) ?_
        refine hK.out _ _ ?_
        clear hK K
        refine done_ (by kernel_rfl) ?_
        go_wp2
        go_roundg k1
        case measure => omega
        case rel =>
          refine .inr (.inl ⟨rfl, ⟨by have := HK.out; omega⟩, ⟨?_, ?_, below_set (below_set BL.out (Nat.le_refl _)) (show w3.heap.size ≤ w3.heap.size + 1 by omega)⟩⟩)
          · exact blk_far (blk_put (cs := #[.int .i64 0, .int .i64 0, .int .i64 0]) (cs' := #[.int .i64 0, .int .i64 0, .int .i64 0]) HA.out 0 _ rfl) (show w3.heap.size ≠ w3.heap.size + 1 by omega) _
          · exact blk_put (cs := #[.int .i64 0, .int .i64 0, .int .i64 0]) (cs' := #[.int .i64 L0, .int .i64 0, .int .i64 0]) HC6.out 0 _ rfl
    · cases gk with
      | zero => exact absurd HK.out (by omega)
      | succ k1 =>
        have hbz := HB3.out.trans (HT.out.2.2.mono HB3.out.size)
        have hp := hp1 _ Az cz HLZ.out hbz (Kd.C_below HZ.out HT.out.2.2)
        have HBZ := Aside0.mk hbz
        clear hp0 hp1 hp2 hbz htot
        go_upto_region 12 with (first | (go_at_call 13; refine hp.mono ?_; rintro e w4 ⟨Ab, cb, rfl, hC, hb, hbase⟩; have HP := Aside0.mk hC; have HAD := Aside0.mk hbase; have HA4 := Aside0.mk (blk_below HT.out.1 hb); have HC4 := Aside0.mk (blk_below HT.out.2.1 hb); have BL4 := Aside0.mk (HT.out.2.2.trans (hb.mono HT.out.2.2.size)); clear hb hC hbase))
        have HSZ := Aside0.mk (blk_lt HT.out.2.1)
        clear hp HT
        obtain ⟨ad, A6, c6, ead, b0, b1, b2, b3, b4, b5, b6, b7⟩ := at_T38 HP.out (m : Int) (of_eq_true pm) (of_eq_true qm)
        rw [boxList_rd _ _ _ _ _ _ (of_eq_true qm2)] at b0 b1 b2 b3 b4 b5 b6
        obtain ⟨xe, hxe⟩ : ∃ x, xAt F1 a1 l0 m = x := ⟨_, rfl⟩
        obtain ⟨we, hwe⟩ : ∃ x, rd l0 (m : Int) = x := ⟨_, rfl⟩
        obtain ⟨he, hhe⟩ : ∃ x, rd (zeros l0.length) (m : Int) = x := ⟨_, rfl⟩
        have HLL := HL1.out
        simp only [bxAt, hxe, hwe, hhe, Int.toNat_natCast] at b0 b1 b2 b3 b4 b5 b6 HLL
        have HLL := Aside0.mk HLL
        cases ead
        have HNE : Aside0 (w3.heap.size + 1 < ad.block) := ⟨Nat.lt_of_lt_of_le HSZ.out (HAD.out ad rfl)⟩
        clear b7 HSZ HAD hxe hwe hhe
        go_upto_region 13 with (first | ((with_reducible refine gate_dst (N := 15) rfl ?_); refine box_event ?hg (N := 15) ?hd (cs := #[.int .i64 0, .int .i64 0, .int .i64 0, .int .i64 0, .int .i64 0, .bool false, .slice none 0 0]) (t := 38) ?hr ?_; (case hd => rfl); (case hg => rfl); (case hr => first | (go_simp; done) | (go_simp; rfl)); intro gb hg w48 hbox hb; have HBK := Aside0.mk hbox; have HBB := Aside0.mk hb; have HGE := Aside0.mk hg; clear hb hg; have hcz0 : w48.cell? ⟨gb, 0, none⟩ = some (.int .i64 0) := (blk_cell HBK.out 0).trans rfl; have hfz0 := blk_frozen HBK.out 0; have hcz1 : w48.cell? ⟨gb, 1, none⟩ = some (.int .i64 0) := (blk_cell HBK.out 1).trans rfl; have hfz1 := blk_frozen HBK.out 1; have hcz2 : w48.cell? ⟨gb, 2, none⟩ = some (.int .i64 0) := (blk_cell HBK.out 2).trans rfl; have hfz2 := blk_frozen HBK.out 2; have hcz3 : w48.cell? ⟨gb, 3, none⟩ = some (.int .i64 0) := (blk_cell HBK.out 3).trans rfl; have hfz3 := blk_frozen HBK.out 3; have hcz4 : w48.cell? ⟨gb, 4, none⟩ = some (.int .i64 0) := (blk_cell HBK.out 4).trans rfl; have hfz4 := blk_frozen HBK.out 4; have hcz5 : w48.cell? ⟨gb, 5, none⟩ = some (.bool false) := (blk_cell HBK.out 5).trans rfl; have hfz5 := blk_frozen HBK.out 5; have hcz6 : w48.cell? ⟨gb, 6, none⟩ = some (.slice none 0 0) := (blk_cell HBK.out 6).trans rfl; have hfz6 := blk_frozen HBK.out 6))
        obtain ⟨W, hW⟩ : ∃ W, ((((((w48.setCell ⟨gb, 0, none⟩ (.int .i64 0)).setCell ⟨gb, 1, none⟩ (.int .i64 xe)).setCell ⟨gb, 2, none⟩ (.int .i64 0)).setCell ⟨gb, 3, none⟩ (.int .i64 we)).setCell ⟨gb, 4, none⟩ (.int .i64 he)).setCell ⟨gb, 5, none⟩ (.bool false)).setCell ⟨gb, 6, none⟩ (.slice A6 0 c6) = W := ⟨_, rfl⟩
        rw [hW]
        have BX : Aside0 (W.heap[gb]? = some (.cells #[.int .i64 0, .int .i64 xe, .int .i64 0, .int .i64 we, .int .i64 he, .bool false, .slice A6 0 c6] 38 (0, 0))) := ⟨by rw [← hW]; refine blk_put (cs := #[.int .i64 0, .int .i64 xe, .int .i64 0, .int .i64 we, .int .i64 he, .bool false, .slice none 0 0]) ?_ 6 _ rfl; refine blk_put (cs := #[.int .i64 0, .int .i64 xe, .int .i64 0, .int .i64 we, .int .i64 he, .bool false, .slice none 0 0]) ?_ 5 _ rfl; refine blk_put (cs := #[.int .i64 0, .int .i64 xe, .int .i64 0, .int .i64 we, .int .i64 0, .bool false, .slice none 0 0]) ?_ 4 _ rfl; refine blk_put (cs := #[.int .i64 0, .int .i64 xe, .int .i64 0, .int .i64 0, .int .i64 0, .bool false, .slice none 0 0]) ?_ 3 _ rfl; refine blk_put (cs := #[.int .i64 0, .int .i64 xe, .int .i64 0, .int .i64 0, .int .i64 0, .bool false, .slice none 0 0]) ?_ 2 _ rfl; refine blk_put (cs := #[.int .i64 0, .int .i64 0, .int .i64 0, .int .i64 0, .int .i64 0, .bool false, .slice none 0 0]) ?_ 1 _ rfl; refine blk_put (cs := #[.int .i64 0, .int .i64 0, .int .i64 0, .int .i64 0, .int .i64 0, .bool false, .slice none 0 0]) ?_ 0 _ rfl; exact HBK.out⟩
        have HNG : Aside0 (w3.heap.size + 1 < gb) := ⟨by rw [HGE.out]; exact blk_lt HC4.out⟩
        have hge : w4.heap.size ≤ gb := by rw [HGE.out]; exact Nat.le_refl _
        have BW : Aside0 (Below w4.heap.size w4 W) := ⟨by rw [← hW]; exact below_set (below_set (below_set (below_set (below_set (below_set (below_set HBB.out hge) hge) hge) hge) hge) hge) hge⟩
        clear hW hge b0 b1 b2 b3 b4 b5 b6 hcz0 hcz1 hcz2 hcz3 hcz4 hcz5 hcz6 hfz0 hfz1 hfz2 hfz3 hfz4 hfz5 hfz6
        clear HBK HBB HGE
        have HA5 := Aside0.mk (blk_below HA4.out BW.out)
        have HC5 := Aside0.mk (blk_below HC4.out BW.out)
        have BL5 := Aside0.mk (BL4.out.trans (BW.out.mono BL4.out.size))
        obtain ⟨ar, A63, c63, ear, _, y1, _, _, _, _, _, _⟩ := at_T38 (Kd.C_below HP.out BW.out) ((0 : Nat) : Int) (by omega) (by have := HM.out; omega)
        cases ear
        rw [boxList_rd _ _ _ _ _ _ (by have := HM.out; omega)] at y1
        simp only [bxAt, xAt, Int.toNat_natCast, Nat.zero_mul] at y1
        have x1 : W.cell? ⟨gb, 1, none⟩ = some (.int .i64 xe) := (blk_cell BX.out 1).trans rfl
        have x3 : W.cell? ⟨gb, 3, none⟩ = some (.int .i64 we) := (blk_cell BX.out 3).trans rfl
        have y5 : W.cell? ⟨ad.block, ad.off + 1, none⟩ = some (.int .i64 F1) := y1
        clear y1 HA4 HC4 BL4 BW HP
        refine start_ (n := 17) (S := fun w' => w'.cell? ⟨ad.block, ad.off + 1, none⟩ = some (.int .i64 F1) ∧ w'.cell? ⟨gb, 1, none⟩ = some (.int .i64 xe) ∧ w'.cell? ⟨gb, 3, none⟩ = some (.int .i64 we)) (ds := [16]) #[false, false, false, false, false, false, false, false, false, false, false, false, false, false, false, false, false] (by kernel_rfl) rfl rfl ⟨y5, x1, x3⟩ (fun hHeld => ?_)
        have HA := Aside0.mk (blk_drew HA5.out)
        have HC := Aside0.mk (blk_drew HC5.out)
        have BL := Aside0.mk (below_drew BL5.out)
        clear HA5 HC5 BL5 x1 x3 y5 BX
        generalize World.drew _ = w25 at HA HC BL hHeld ⊢
        refine pure_ (i := 0) (N := some 57) (v := ?_) (a' := ?_) #[true, false, false, false, false, false, false, false, false, false, false, false, false, false, false, false, false] rfl rfl (by kernel_rfl) (fun _ _ _ h => h) (Or.inl ⟨by rfl, ?_⟩) ?_ ?_
        rotate_left
        · intro w' 
          go_simp
          with_reducible rfl
        rotate_left
        · simp only [Act.put, List.setIfInBounds_toArray, List.set_cons_zero, List.set_cons_succ, i64_w, i32_w]
          rfl
        refine pure_ (i := 1) (N := some 58) (v := ?_) (a' := ?_) #[true, true, false, false, false, false, false, false, false, false, false, false, false, false, false, false, false] rfl rfl (by kernel_rfl) (fun _ _ _ h => h) (Or.inl ⟨by rfl, ?_⟩) ?_ ?_
        rotate_left
        · intro w' 
          go_simp
          with_reducible rfl
        rotate_left
        · simp only [Act.put, List.setIfInBounds_toArray, List.set_cons_zero, List.set_cons_succ, i64_w, i32_w]
          rfl
        refine pure_ (i := 2) (N := some 59) (v := ?_) (a' := ?_) #[true, true, true, false, false, false, false, false, false, false, false, false, false, false, false, false, false] rfl rfl (by kernel_rfl) (fun _ _ _ h => h) (Or.inl ⟨by rfl, ?_⟩) ?_ ?_
        rotate_left
        · intro w' 
          go_simp
          with_reducible rfl
        rotate_left
        · simp only [Act.put, List.setIfInBounds_toArray, List.set_cons_zero, List.set_cons_succ, i64_w, i32_w]
          rfl
        refine pure_ (i := 3) (N := some 60) (v := ?_) (a' := ?_) #[true, true, true, true, false, false, false, false, false, false, false, false, false, false, false, false, false] rfl rfl (by kernel_rfl) (fun _ _ _ h => h) (Or.inl ⟨by rfl, ?_⟩) ?_ ?_
        rotate_left
        · intro w' 
          go_simp
          with_reducible rfl
        rotate_left
        · simp only [Act.put, List.setIfInBounds_toArray, List.set_cons_zero, List.set_cons_succ, i64_w, i32_w]
          rfl
        refine pure_ (i := 4) (N := some 61) (v := ?_) (a' := ?_) #[true, true, true, true, true, false, false, false, false, false, false, false, false, false, false, false, false] rfl rfl (by kernel_rfl) (fun _ _ _ h => h) (Or.inl ⟨by rfl, ?_⟩) ?_ ?_
        rotate_left
        · intro w' 
          go_simp
          with_reducible rfl
        rotate_left
        · simp only [Act.put, List.setIfInBounds_toArray, List.set_cons_zero, List.set_cons_succ, i64_w, i32_w]
          rfl
        refine take_ (i := 5) (N := some 62) (v := ?_) (a' := ?_) #[true, true, true, true, true, true, false, false, false, false, false, false, false, false, false, false, false] rfl rfl (by kernel_rfl) (fun _ _ _ h => h) (Or.inl ⟨by rfl, ?_⟩) hHeld ?_ ?_
        rotate_left
        · rintro w' ⟨s0, s1, s2⟩
          go_simp
          with_reducible rfl
        rotate_left
        · simp only [Act.put, List.setIfInBounds_toArray, List.set_cons_zero, List.set_cons_succ, i64_w, i32_w]
          rfl
        refine pure_ (i := 6) (N := some 63) (v := ?_) (a' := ?_) #[true, true, true, true, true, true, true, false, false, false, false, false, false, false, false, false, false] rfl rfl (by kernel_rfl) (fun _ _ _ h => h) (Or.inl ⟨by rfl, ?_⟩) ?_ ?_
        rotate_left
        · intro w' 
          go_simp
          with_reducible rfl
        rotate_left
        · simp only [Act.put, List.setIfInBounds_toArray, List.set_cons_zero, List.set_cons_succ, i64_w, i32_w]
          rfl
        refine pure_ (i := 7) (N := some 64) (v := ?_) (a' := ?_) #[true, true, true, true, true, true, true, true, false, false, false, false, false, false, false, false, false] rfl rfl (by kernel_rfl) (fun _ _ _ h => h) (Or.inl ⟨by rfl, ?_⟩) ?_ ?_
        rotate_left
        · intro w' 
          go_simp
          with_reducible rfl
        rotate_left
        · simp only [Act.put, List.setIfInBounds_toArray, List.set_cons_zero, List.set_cons_succ, i64_w, i32_w]
          rfl
        refine take_ (i := 8) (N := some 65) (v := ?_) (a' := ?_) #[true, true, true, true, true, true, true, true, true, false, false, false, false, false, false, false, false] rfl rfl (by kernel_rfl) (fun _ _ _ h => h) (Or.inl ⟨by rfl, ?_⟩) hHeld ?_ ?_
        rotate_left
        · rintro w' ⟨s0, s1, s2⟩
          go_simp
          with_reducible rfl
        rotate_left
        · simp only [Act.put, List.setIfInBounds_toArray, List.set_cons_zero, List.set_cons_succ, i64_w, i32_w]
          rfl
        refine pure_ (i := 9) (N := some 66) (v := ?_) (a' := ?_) #[true, true, true, true, true, true, true, true, true, true, false, false, false, false, false, false, false] rfl rfl (by kernel_rfl) (fun _ _ _ h => h) (Or.inl ⟨by rfl, ?_⟩) ?_ ?_
        rotate_left
        · intro w' 
          go_simp
          with_reducible rfl
        rotate_left
        · simp only [Act.put, List.setIfInBounds_toArray, List.set_cons_zero, List.set_cons_succ, i64_w, i32_w]
          rfl
        refine pure_ (i := 10) (N := some 67) (v := ?_) (a' := ?_) #[true, true, true, true, true, true, true, true, true, true, true, false, false, false, false, false, false] rfl rfl (by kernel_rfl) (fun _ _ _ h => h) (Or.inl ⟨by rfl, ?_⟩) ?_ ?_
        rotate_left
        · intro w' 
          go_simp
          with_reducible rfl
        rotate_left
        · simp only [Act.put, List.setIfInBounds_toArray, List.set_cons_zero, List.set_cons_succ, i64_w, i32_w]
          rfl
        refine take_ (i := 11) (N := some 68) (v := ?_) (a' := ?_) #[true, true, true, true, true, true, true, true, true, true, true, true, false, false, false, false, false] rfl rfl (by kernel_rfl) (fun _ _ _ h => h) (Or.inl ⟨by rfl, ?_⟩) hHeld ?_ ?_
        rotate_left
        · rintro w' ⟨s0, s1, s2⟩
          go_simp
          with_reducible rfl
        rotate_left
        · simp only [Act.put, List.setIfInBounds_toArray, List.set_cons_zero, List.set_cons_succ, i64_w, i32_w]
          rfl
        refine pure_ (i := 12) (N := some 69) (v := ?_) (a' := ?_) #[true, true, true, true, true, true, true, true, true, true, true, true, true, false, false, false, false] rfl rfl (by kernel_rfl) (fun _ _ _ h => h) (Or.inl ⟨by rfl, ?_⟩) ?_ ?_
        rotate_left
        · intro w' 
          go_simp
          with_reducible rfl
        rotate_left
        · simp only [Act.put, List.setIfInBounds_toArray, List.set_cons_zero, List.set_cons_succ, i64_w, i32_w]
          rfl
        refine pure_ (i := 13) (N := some 70) (v := ?_) (a' := ?_) #[true, true, true, true, true, true, true, true, true, true, true, true, true, true, false, false, false] rfl rfl (by kernel_rfl) (fun _ _ _ h => h) (Or.inl ⟨by rfl, ?_⟩) ?_ ?_
        rotate_left
        · intro w' 
          go_simp
          with_reducible rfl
        rotate_left
        · simp only [Act.put, List.setIfInBounds_toArray, List.set_cons_zero, List.set_cons_succ, i64_w, i32_w]
          rfl
        refine one_ (i := 14) (N := none) #[true, true, true, true, true, true, true, true, true, true, true, true, true, true, true, false, false] rfl rfl (by kernel_rfl) (by decide) (fun K hK => ?_)
        have ha : w25.cell? ⟨w3.heap.size, 1, none⟩ = some (.int .i64 0) := (blk_cell HA.out 1).trans rfl
        have hfa := blk_frozen HA.out 1
        refine skip_ (w1 := w25.setCell ⟨w3.heap.size, 1, none⟩ (.int .i64 F1)) (by rfl) rfl (by go_simp) ?_
        refine hK.out _ _ ⟨(cell_far (p := ⟨w3.heap.size, 1, none⟩) (a := ⟨ad.block, ad.off + 1, none⟩) (show ad.block ≠ w3.heap.size by have := HNE.out; omega) _).trans hHeld.1, (cell_far (p := ⟨w3.heap.size, 1, none⟩) (a := ⟨gb, 1, none⟩) (show gb ≠ w3.heap.size by have := HNG.out; omega) _).trans hHeld.2.1, (cell_far (p := ⟨w3.heap.size, 1, none⟩) (a := ⟨gb, 3, none⟩) (show gb ≠ w3.heap.size by have := HNG.out; omega) _).trans hHeld.2.2⟩ (fun hHeld => ?_)
        clear hK K
        refine pure_ (i := 15) (N := some 71) (v := ?_) (a' := ?_) #[true, true, true, true, true, true, true, true, true, true, true, true, true, true, true, true, false] rfl rfl (by kernel_rfl) (fun _ _ _ h => h) (Or.inl ⟨by rfl, ?_⟩) ?_ ?_
        rotate_left
        · intro w' 
          go_simp
          with_reducible rfl
        rotate_left
        · simp only [Act.put, List.setIfInBounds_toArray, List.set_cons_zero, List.set_cons_succ, i64_w, i32_w]
          rfl
        refine last_ (i := 16) (N := none) #[true, true, true, true, true, true, true, true, true, true, true, true, true, true, true, true, true] rfl rfl (by kernel_rfl) (by decide) (fun K hK => ?_)
        have HC6 := Aside0.mk (blk_far (p := ⟨w3.heap.size, 1, none⟩) HC.out (show w3.heap.size + 1 ≠ w3.heap.size by omega) (.int .i64 F1))
        have hb : (w25.setCell ⟨w3.heap.size, 1, none⟩ (.int .i64 F1)).cell? ⟨w3.heap.size + 1, 1, none⟩ = some (.int .i64 0) := (blk_cell HC6.out 1).trans rfl
        have hfb := blk_frozen HC6.out 1
        refine skip_ (w1 := (w25.setCell ⟨w3.heap.size, 1, none⟩ (.int .i64 F1)).setCell ⟨w3.heap.size + 1, 1, none⟩ (.int .i64 L1)) (by rfl) rfl (by go_simp) ?_
        refine hK.out _ _ ?_
        clear hK K
        refine done_ (by kernel_rfl) ?_
        go_wp2
        go_roundg k1
        case measure => omega
        case rel =>
          refine .inr (.inr (.inl ⟨rfl, ⟨by have := HK.out; omega⟩, ⟨?_, ?_, below_set (below_set BL.out (Nat.le_refl _)) (show w3.heap.size ≤ w3.heap.size + 1 by omega)⟩⟩))
          · exact blk_far (blk_put (cs := #[.int .i64 0, .int .i64 0, .int .i64 0]) (cs' := #[.int .i64 0, .int .i64 F1, .int .i64 0]) HA.out 1 _ rfl) (show w3.heap.size ≠ w3.heap.size + 1 by omega) _
          · exact blk_put (cs := #[.int .i64 L0, .int .i64 0, .int .i64 0]) (cs' := #[.int .i64 L0, .int .i64 L1, .int .i64 0]) HC6.out 1 _ rfl
    · cases gk with
      | zero => exact absurd HK.out (by omega)
      | succ k1 =>
        have hbz := HB3.out.trans (HT.out.2.2.mono HB3.out.size)
        have hp := hp2 _ Az cz HLZ.out hbz (Kd.C_below HZ.out HT.out.2.2)
        have HBZ := Aside0.mk hbz
        clear hp0 hp1 hp2 hbz htot
        go_upto_region 12 with (first | (go_at_call 13; refine hp.mono ?_; rintro e w4 ⟨Ab, cb, rfl, hC, hb, hbase⟩; have HP := Aside0.mk hC; have HAD := Aside0.mk hbase; have HA4 := Aside0.mk (blk_below HT.out.1 hb); have HC4 := Aside0.mk (blk_below HT.out.2.1 hb); have BL4 := Aside0.mk (HT.out.2.2.trans (hb.mono HT.out.2.2.size)); clear hb hC hbase))
        have HSZ := Aside0.mk (blk_lt HT.out.2.1)
        clear hp HT
        obtain ⟨ad, A6, c6, ead, b0, b1, b2, b3, b4, b5, b6, b7⟩ := at_T38 HP.out (m : Int) (of_eq_true pm) (of_eq_true qm)
        rw [boxList_rd _ _ _ _ _ _ (of_eq_true qm2)] at b0 b1 b2 b3 b4 b5 b6
        obtain ⟨xe, hxe⟩ : ∃ x, xAt F2 a1 l0 m = x := ⟨_, rfl⟩
        obtain ⟨we, hwe⟩ : ∃ x, rd l0 (m : Int) = x := ⟨_, rfl⟩
        obtain ⟨he, hhe⟩ : ∃ x, rd (zeros l0.length) (m : Int) = x := ⟨_, rfl⟩
        have HLL := HL2.out
        simp only [bxAt, hxe, hwe, hhe, Int.toNat_natCast] at b0 b1 b2 b3 b4 b5 b6 HLL
        have HLL := Aside0.mk HLL
        cases ead
        have HNE : Aside0 (w3.heap.size + 1 < ad.block) := ⟨Nat.lt_of_lt_of_le HSZ.out (HAD.out ad rfl)⟩
        clear b7 HSZ HAD hxe hwe hhe
        go_upto_region 13 with (first | ((with_reducible refine gate_dst (N := 15) rfl ?_); refine box_event ?hg (N := 15) ?hd (cs := #[.int .i64 0, .int .i64 0, .int .i64 0, .int .i64 0, .int .i64 0, .bool false, .slice none 0 0]) (t := 38) ?hr ?_; (case hd => rfl); (case hg => rfl); (case hr => first | (go_simp; done) | (go_simp; rfl)); intro gb hg w48 hbox hb; have HBK := Aside0.mk hbox; have HBB := Aside0.mk hb; have HGE := Aside0.mk hg; clear hb hg; have hcz0 : w48.cell? ⟨gb, 0, none⟩ = some (.int .i64 0) := (blk_cell HBK.out 0).trans rfl; have hfz0 := blk_frozen HBK.out 0; have hcz1 : w48.cell? ⟨gb, 1, none⟩ = some (.int .i64 0) := (blk_cell HBK.out 1).trans rfl; have hfz1 := blk_frozen HBK.out 1; have hcz2 : w48.cell? ⟨gb, 2, none⟩ = some (.int .i64 0) := (blk_cell HBK.out 2).trans rfl; have hfz2 := blk_frozen HBK.out 2; have hcz3 : w48.cell? ⟨gb, 3, none⟩ = some (.int .i64 0) := (blk_cell HBK.out 3).trans rfl; have hfz3 := blk_frozen HBK.out 3; have hcz4 : w48.cell? ⟨gb, 4, none⟩ = some (.int .i64 0) := (blk_cell HBK.out 4).trans rfl; have hfz4 := blk_frozen HBK.out 4; have hcz5 : w48.cell? ⟨gb, 5, none⟩ = some (.bool false) := (blk_cell HBK.out 5).trans rfl; have hfz5 := blk_frozen HBK.out 5; have hcz6 : w48.cell? ⟨gb, 6, none⟩ = some (.slice none 0 0) := (blk_cell HBK.out 6).trans rfl; have hfz6 := blk_frozen HBK.out 6))
        obtain ⟨W, hW⟩ : ∃ W, ((((((w48.setCell ⟨gb, 0, none⟩ (.int .i64 0)).setCell ⟨gb, 1, none⟩ (.int .i64 xe)).setCell ⟨gb, 2, none⟩ (.int .i64 0)).setCell ⟨gb, 3, none⟩ (.int .i64 we)).setCell ⟨gb, 4, none⟩ (.int .i64 he)).setCell ⟨gb, 5, none⟩ (.bool false)).setCell ⟨gb, 6, none⟩ (.slice A6 0 c6) = W := ⟨_, rfl⟩
        rw [hW]
        have BX : Aside0 (W.heap[gb]? = some (.cells #[.int .i64 0, .int .i64 xe, .int .i64 0, .int .i64 we, .int .i64 he, .bool false, .slice A6 0 c6] 38 (0, 0))) := ⟨by rw [← hW]; refine blk_put (cs := #[.int .i64 0, .int .i64 xe, .int .i64 0, .int .i64 we, .int .i64 he, .bool false, .slice none 0 0]) ?_ 6 _ rfl; refine blk_put (cs := #[.int .i64 0, .int .i64 xe, .int .i64 0, .int .i64 we, .int .i64 he, .bool false, .slice none 0 0]) ?_ 5 _ rfl; refine blk_put (cs := #[.int .i64 0, .int .i64 xe, .int .i64 0, .int .i64 we, .int .i64 0, .bool false, .slice none 0 0]) ?_ 4 _ rfl; refine blk_put (cs := #[.int .i64 0, .int .i64 xe, .int .i64 0, .int .i64 0, .int .i64 0, .bool false, .slice none 0 0]) ?_ 3 _ rfl; refine blk_put (cs := #[.int .i64 0, .int .i64 xe, .int .i64 0, .int .i64 0, .int .i64 0, .bool false, .slice none 0 0]) ?_ 2 _ rfl; refine blk_put (cs := #[.int .i64 0, .int .i64 0, .int .i64 0, .int .i64 0, .int .i64 0, .bool false, .slice none 0 0]) ?_ 1 _ rfl; refine blk_put (cs := #[.int .i64 0, .int .i64 0, .int .i64 0, .int .i64 0, .int .i64 0, .bool false, .slice none 0 0]) ?_ 0 _ rfl; exact HBK.out⟩
        have HNG : Aside0 (w3.heap.size + 1 < gb) := ⟨by rw [HGE.out]; exact blk_lt HC4.out⟩
        have hge : w4.heap.size ≤ gb := by rw [HGE.out]; exact Nat.le_refl _
        have BW : Aside0 (Below w4.heap.size w4 W) := ⟨by rw [← hW]; exact below_set (below_set (below_set (below_set (below_set (below_set (below_set HBB.out hge) hge) hge) hge) hge) hge) hge⟩
        clear hW hge b0 b1 b2 b3 b4 b5 b6 hcz0 hcz1 hcz2 hcz3 hcz4 hcz5 hcz6 hfz0 hfz1 hfz2 hfz3 hfz4 hfz5 hfz6
        clear HBK HBB HGE
        have HA5 := Aside0.mk (blk_below HA4.out BW.out)
        have HC5 := Aside0.mk (blk_below HC4.out BW.out)
        have BL5 := Aside0.mk (BL4.out.trans (BW.out.mono BL4.out.size))
        obtain ⟨ar, A63, c63, ear, _, y1, _, _, _, _, _, _⟩ := at_T38 (Kd.C_below HP.out BW.out) ((0 : Nat) : Int) (by omega) (by have := HM.out; omega)
        cases ear
        rw [boxList_rd _ _ _ _ _ _ (by have := HM.out; omega)] at y1
        simp only [bxAt, xAt, Int.toNat_natCast, Nat.zero_mul] at y1
        have x1 : W.cell? ⟨gb, 1, none⟩ = some (.int .i64 xe) := (blk_cell BX.out 1).trans rfl
        have x3 : W.cell? ⟨gb, 3, none⟩ = some (.int .i64 we) := (blk_cell BX.out 3).trans rfl
        have y5 : W.cell? ⟨ad.block, ad.off + 1, none⟩ = some (.int .i64 F2) := y1
        clear y1 HA4 HC4 BL4 BW HP
        refine start_ (n := 17) (S := fun w' => w'.cell? ⟨ad.block, ad.off + 1, none⟩ = some (.int .i64 F2) ∧ w'.cell? ⟨gb, 1, none⟩ = some (.int .i64 xe) ∧ w'.cell? ⟨gb, 3, none⟩ = some (.int .i64 we)) (ds := [16]) #[false, false, false, false, false, false, false, false, false, false, false, false, false, false, false, false, false] (by kernel_rfl) rfl rfl ⟨y5, x1, x3⟩ (fun hHeld => ?_)
        have HA := Aside0.mk (blk_drew HA5.out)
        have HC := Aside0.mk (blk_drew HC5.out)
        have BL := Aside0.mk (below_drew BL5.out)
        clear HA5 HC5 BL5 x1 x3 y5 BX
        generalize World.drew _ = w25 at HA HC BL hHeld ⊢
        refine pure_ (i := 0) (N := some 57) (v := ?_) (a' := ?_) #[true, false, false, false, false, false, false, false, false, false, false, false, false, false, false, false, false] rfl rfl (by kernel_rfl) (fun _ _ _ h => h) (Or.inl ⟨by rfl, ?_⟩) ?_ ?_
        rotate_left
        · intro w' 
          go_simp
          with_reducible rfl
        rotate_left
        · simp only [Act.put, List.setIfInBounds_toArray, List.set_cons_zero, List.set_cons_succ, i64_w, i32_w]
          rfl
        refine pure_ (i := 1) (N := some 58) (v := ?_) (a' := ?_) #[true, true, false, false, false, false, false, false, false, false, false, false, false, false, false, false, false] rfl rfl (by kernel_rfl) (fun _ _ _ h => h) (Or.inl ⟨by rfl, ?_⟩) ?_ ?_
        rotate_left
        · intro w' 
          go_simp
          with_reducible rfl
        rotate_left
        · simp only [Act.put, List.setIfInBounds_toArray, List.set_cons_zero, List.set_cons_succ, i64_w, i32_w]
          rfl
        refine pure_ (i := 2) (N := some 59) (v := ?_) (a' := ?_) #[true, true, true, false, false, false, false, false, false, false, false, false, false, false, false, false, false] rfl rfl (by kernel_rfl) (fun _ _ _ h => h) (Or.inl ⟨by rfl, ?_⟩) ?_ ?_
        rotate_left
        · intro w' 
          go_simp
          with_reducible rfl
        rotate_left
        · simp only [Act.put, List.setIfInBounds_toArray, List.set_cons_zero, List.set_cons_succ, i64_w, i32_w]
          rfl
        refine pure_ (i := 3) (N := some 60) (v := ?_) (a' := ?_) #[true, true, true, true, false, false, false, false, false, false, false, false, false, false, false, false, false] rfl rfl (by kernel_rfl) (fun _ _ _ h => h) (Or.inl ⟨by rfl, ?_⟩) ?_ ?_
        rotate_left
        · intro w' 
          go_simp
          with_reducible rfl
        rotate_left
        · simp only [Act.put, List.setIfInBounds_toArray, List.set_cons_zero, List.set_cons_succ, i64_w, i32_w]
          rfl
        refine pure_ (i := 4) (N := some 61) (v := ?_) (a' := ?_) #[true, true, true, true, true, false, false, false, false, false, false, false, false, false, false, false, false] rfl rfl (by kernel_rfl) (fun _ _ _ h => h) (Or.inl ⟨by rfl, ?_⟩) ?_ ?_
        rotate_left
        · intro w' 
          go_simp
          with_reducible rfl
        rotate_left
        · simp only [Act.put, List.setIfInBounds_toArray, List.set_cons_zero, List.set_cons_succ, i64_w, i32_w]
          rfl
        refine take_ (i := 5) (N := some 62) (v := ?_) (a' := ?_) #[true, true, true, true, true, true, false, false, false, false, false, false, false, false, false, false, false] rfl rfl (by kernel_rfl) (fun _ _ _ h => h) (Or.inl ⟨by rfl, ?_⟩) hHeld ?_ ?_
        rotate_left
        · rintro w' ⟨s0, s1, s2⟩
          go_simp
          with_reducible rfl
        rotate_left
        · simp only [Act.put, List.setIfInBounds_toArray, List.set_cons_zero, List.set_cons_succ, i64_w, i32_w]
          rfl
        refine pure_ (i := 6) (N := some 63) (v := ?_) (a' := ?_) #[true, true, true, true, true, true, true, false, false, false, false, false, false, false, false, false, false] rfl rfl (by kernel_rfl) (fun _ _ _ h => h) (Or.inl ⟨by rfl, ?_⟩) ?_ ?_
        rotate_left
        · intro w' 
          go_simp
          with_reducible rfl
        rotate_left
        · simp only [Act.put, List.setIfInBounds_toArray, List.set_cons_zero, List.set_cons_succ, i64_w, i32_w]
          rfl
        refine pure_ (i := 7) (N := some 64) (v := ?_) (a' := ?_) #[true, true, true, true, true, true, true, true, false, false, false, false, false, false, false, false, false] rfl rfl (by kernel_rfl) (fun _ _ _ h => h) (Or.inl ⟨by rfl, ?_⟩) ?_ ?_
        rotate_left
        · intro w' 
          go_simp
          with_reducible rfl
        rotate_left
        · simp only [Act.put, List.setIfInBounds_toArray, List.set_cons_zero, List.set_cons_succ, i64_w, i32_w]
          rfl
        refine take_ (i := 8) (N := some 65) (v := ?_) (a' := ?_) #[true, true, true, true, true, true, true, true, true, false, false, false, false, false, false, false, false] rfl rfl (by kernel_rfl) (fun _ _ _ h => h) (Or.inl ⟨by rfl, ?_⟩) hHeld ?_ ?_
        rotate_left
        · rintro w' ⟨s0, s1, s2⟩
          go_simp
          with_reducible rfl
        rotate_left
        · simp only [Act.put, List.setIfInBounds_toArray, List.set_cons_zero, List.set_cons_succ, i64_w, i32_w]
          rfl
        refine pure_ (i := 9) (N := some 66) (v := ?_) (a' := ?_) #[true, true, true, true, true, true, true, true, true, true, false, false, false, false, false, false, false] rfl rfl (by kernel_rfl) (fun _ _ _ h => h) (Or.inl ⟨by rfl, ?_⟩) ?_ ?_
        rotate_left
        · intro w' 
          go_simp
          with_reducible rfl
        rotate_left
        · simp only [Act.put, List.setIfInBounds_toArray, List.set_cons_zero, List.set_cons_succ, i64_w, i32_w]
          rfl
        refine pure_ (i := 10) (N := some 67) (v := ?_) (a' := ?_) #[true, true, true, true, true, true, true, true, true, true, true, false, false, false, false, false, false] rfl rfl (by kernel_rfl) (fun _ _ _ h => h) (Or.inl ⟨by rfl, ?_⟩) ?_ ?_
        rotate_left
        · intro w' 
          go_simp
          with_reducible rfl
        rotate_left
        · simp only [Act.put, List.setIfInBounds_toArray, List.set_cons_zero, List.set_cons_succ, i64_w, i32_w]
          rfl
        refine take_ (i := 11) (N := some 68) (v := ?_) (a' := ?_) #[true, true, true, true, true, true, true, true, true, true, true, true, false, false, false, false, false] rfl rfl (by kernel_rfl) (fun _ _ _ h => h) (Or.inl ⟨by rfl, ?_⟩) hHeld ?_ ?_
        rotate_left
        · rintro w' ⟨s0, s1, s2⟩
          go_simp
          with_reducible rfl
        rotate_left
        · simp only [Act.put, List.setIfInBounds_toArray, List.set_cons_zero, List.set_cons_succ, i64_w, i32_w]
          rfl
        refine pure_ (i := 12) (N := some 69) (v := ?_) (a' := ?_) #[true, true, true, true, true, true, true, true, true, true, true, true, true, false, false, false, false] rfl rfl (by kernel_rfl) (fun _ _ _ h => h) (Or.inl ⟨by rfl, ?_⟩) ?_ ?_
        rotate_left
        · intro w' 
          go_simp
          with_reducible rfl
        rotate_left
        · simp only [Act.put, List.setIfInBounds_toArray, List.set_cons_zero, List.set_cons_succ, i64_w, i32_w]
          rfl
        refine pure_ (i := 13) (N := some 70) (v := ?_) (a' := ?_) #[true, true, true, true, true, true, true, true, true, true, true, true, true, true, false, false, false] rfl rfl (by kernel_rfl) (fun _ _ _ h => h) (Or.inl ⟨by rfl, ?_⟩) ?_ ?_
        rotate_left
        · intro w' 
          go_simp
          with_reducible rfl
        rotate_left
        · simp only [Act.put, List.setIfInBounds_toArray, List.set_cons_zero, List.set_cons_succ, i64_w, i32_w]
          rfl
        refine one_ (i := 14) (N := none) #[true, true, true, true, true, true, true, true, true, true, true, true, true, true, true, false, false] rfl rfl (by kernel_rfl) (by decide) (fun K hK => ?_)
        have ha : w25.cell? ⟨w3.heap.size, 2, none⟩ = some (.int .i64 0) := (blk_cell HA.out 2).trans rfl
        have hfa := blk_frozen HA.out 2
        refine skip_ (w1 := w25.setCell ⟨w3.heap.size, 2, none⟩ (.int .i64 F2)) (by rfl) rfl (by go_simp) ?_
        refine hK.out _ _ ⟨(cell_far (p := ⟨w3.heap.size, 2, none⟩) (a := ⟨ad.block, ad.off + 1, none⟩) (show ad.block ≠ w3.heap.size by have := HNE.out; omega) _).trans hHeld.1, (cell_far (p := ⟨w3.heap.size, 2, none⟩) (a := ⟨gb, 1, none⟩) (show gb ≠ w3.heap.size by have := HNG.out; omega) _).trans hHeld.2.1, (cell_far (p := ⟨w3.heap.size, 2, none⟩) (a := ⟨gb, 3, none⟩) (show gb ≠ w3.heap.size by have := HNG.out; omega) _).trans hHeld.2.2⟩ (fun hHeld => ?_)
        clear hK K
        refine pure_ (i := 15) (N := some 71) (v := ?_) (a' := ?_) #[true, true, true, true, true, true, true, true, true, true, true, true, true, true, true, true, false] rfl rfl (by kernel_rfl) (fun _ _ _ h => h) (Or.inl ⟨by rfl, ?_⟩) ?_ ?_
        rotate_left
        · intro w' 
          go_simp
          with_reducible rfl
        rotate_left
        · simp only [Act.put, List.setIfInBounds_toArray, List.set_cons_zero, List.set_cons_succ, i64_w, i32_w]
          rfl
        refine last_ (i := 16) (N := none) #[true, true, true, true, true, true, true, true, true, true, true, true, true, true, true, true, true] rfl rfl (by kernel_rfl) (by decide) (fun K hK => ?_)
        have HC6 := Aside0.mk (blk_far (p := ⟨w3.heap.size, 2, none⟩) HC.out (show w3.heap.size + 1 ≠ w3.heap.size by omega) (.int .i64 F2))
        have hb : (w25.setCell ⟨w3.heap.size, 2, none⟩ (.int .i64 F2)).cell? ⟨w3.heap.size + 1, 2, none⟩ = some (.int .i64 0) := (blk_cell HC6.out 2).trans rfl
        have hfb := blk_frozen HC6.out 2
        refine skip_ (w1 := (w25.setCell ⟨w3.heap.size, 2, none⟩ (.int .i64 F2)).setCell ⟨w3.heap.size + 1, 2, none⟩ (.int .i64 L2)) (by rfl) rfl (by go_simp) ?_
        refine hK.out _ _ ?_
        clear hK K
        refine done_ (by kernel_rfl) ?_
        go_wp2
        go_roundg k1
        case measure => omega
        case rel =>
          refine .inr (.inr (.inr ⟨rfl, ⟨by have := HK.out; omega⟩, ⟨?_, ?_, below_set (below_set BL.out (Nat.le_refl _)) (show w3.heap.size ≤ w3.heap.size + 1 by omega)⟩⟩))
          · exact blk_far (blk_put (cs := #[.int .i64 0, .int .i64 F1, .int .i64 0]) (cs' := #[.int .i64 0, .int .i64 F1, .int .i64 F2]) HA.out 2 _ rfl) (show w3.heap.size ≠ w3.heap.size + 1 by omega) _
          · exact blk_put (cs := #[.int .i64 L0, .int .i64 L1, .int .i64 0]) (cs' := #[.int .i64 L0, .int .i64 L1, .int .i64 L2]) HC6.out 2 _ rfl
    · cases gk with
      | succ k1 => exact absurd HK.out (by omega)
      | zero =>
        clear hp0 hp1 hp2
        have HBW := Aside0.mk (HB3.out.trans (HT.out.2.2.mono HB3.out.size))
        have htot := htot _ HBW.out
        have al := AL.out
        have hov := al.over
        rw [u0] at hov
        obtain ⟨t1, ht1⟩ : ∃ t, wrap64 (a2 - T) = t := ⟨_, rfl⟩
        obtain ⟨t2, ht2⟩ : ∃ t, wrap64 (a1 * (m : Int)) = t := ⟨_, rfl⟩
        rw [ht1, ht2] at hov
        have ka := HT.out.1
        have kb := HT.out.2.1
        have f2 := HF2.out
        have l0' := HL0.out
        have l2' := HL2.out
        clear HT HL0 HL1 HL2 HF2 AL HK
        by_cases hneg : O ≤ 0
        · have hn := al.neg hneg
          have z1 : F1 = 0 := al.s1.symm.trans hn.1
          have z2 : F2 = 0 := f2.symm.trans hn.2
          subst z1 z2
          have d1 : decide (O ≤ 0) = true := decide_eq_true hneg
          have KA := Aside0.mk ka
          clear al hn kb ka f2 l0' l2' hneg
          go_upto_region 17 with (first | (go_at_call 16; (with_reducible refine htot.mono ?_); rintro e w5 ⟨rfl, hb, hb2⟩; have HB5 := Aside0.mk hb; have K5 := Aside0.mk (blk_below KA.out hb2); clear hb hb2))
          have x0 : w5.cell? ⟨w3.heap.size, 0, none⟩ = some (.int .i64 0) := (blk_cell K5.out 0).trans rfl
          have x1 : w5.cell? ⟨w3.heap.size, 1, none⟩ = some (.int .i64 0) := (blk_cell K5.out 1).trans rfl
          have x2 : w5.cell? ⟨w3.heap.size, 2, none⟩ = some (.int .i64 0) := (blk_cell K5.out 2).trans rfl
          have heq := eq39 w5
          go_wp2
          go_ret
          exact ⟨by first | rfl | simp, HB5.out⟩
        · have hpos : 0 < O := by omega
          have d1 : decide (O ≤ 0) = false := decide_eq_false hneg
          have z2 : F2 = O := f2.symm.trans (al.pos hpos)
          have hm1 : l0.length - 1 = m := by have := HM.out; omega
          have e0 := al.e0 hpos
          have e2 := al.e2 hpos
          rw [hm1] at e0 e2
          have z3 : L0 = O := l0'.symm.trans e0
          have z4 : L2 = 0 := by rw [← l2', z2]; exact e2
          have hsum := al.sum hpos
          have hdif := al.dif hpos
          obtain ⟨D, hD⟩ : ∃ D, wrap64 (L1 - F1) = D := ⟨_, rfl⟩
          rw [hD] at hdif
          have g1 : decide (D ≥ 0) = true := decide_eq_true hdif.1
          have g2 : decide (D ≤ 1) = true := decide_eq_true hdif.2
          rw [z2] at ka
          rw [z3, z4] at kb
          have KA := Aside0.mk ka
          have KB := Aside0.mk kb
          clear al kb ka f2 l0' l2' hneg hpos hdif e0 e2 hm1 z2 z3 z4
          go_upto_region 18 with (first | (go_at_call 16; (with_reducible refine htot.mono ?_); rintro e w5 ⟨rfl, hb, hb2⟩; have HB5 := Aside0.mk hb; have K5 := Aside0.mk (blk_below KA.out hb2); have M5 := Aside0.mk (blk_below KB.out hb2); clear hb hb2))
          have x0 : w5.cell? ⟨w3.heap.size, 0, none⟩ = some (.int .i64 0) := (blk_cell K5.out 0).trans rfl
          have x1 : w5.cell? ⟨w3.heap.size, 1, none⟩ = some (.int .i64 F1) := (blk_cell K5.out 1).trans rfl
          have x2 : w5.cell? ⟨w3.heap.size, 2, none⟩ = some (.int .i64 O) := (blk_cell K5.out 2).trans rfl
          have y0 : w5.cell? ⟨w3.heap.size + 1, 0, none⟩ = some (.int .i64 O) := (blk_cell M5.out 0).trans rfl
          have y1 : w5.cell? ⟨w3.heap.size + 1, 1, none⟩ = some (.int .i64 L1) := (blk_cell M5.out 1).trans rfl
          have y2 : w5.cell? ⟨w3.heap.size + 1, 2, none⟩ = some (.int .i64 0) := (blk_cell M5.out 2).trans rfl
          go_wp2
          go_ret
          exact ⟨by first | rfl | simp, HB5.out⟩
end Go.Proofs.Ytdnhjkldhdolpaa.PureA
