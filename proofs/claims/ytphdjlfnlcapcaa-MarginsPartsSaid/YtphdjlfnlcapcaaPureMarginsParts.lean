/- For any two lists of items: one behind the other they have the margins of both, but that Below of the last item of the first list and Above of the first one of the second list are joined; with other heights they have the same margins (up to 1000 each). Conditions: those of the statement alone. -/
import Derived.Test.YtphdjlfnlcapcaaHParts
import Derived.BigQuiet
set_option linter.unusedVariables false
set_option linter.unusedSimpArgs false
namespace Go.Proofs.Ytphdjlfnlcapcaa.PureM
open Go.RowKit Go.Proofs.Ytphdjlfnlcapcaa.P Go.Proofs.Ytphdjlfnlcapcaa.Pure Go.Proofs.YtphdjlfnlcapcaaW.PrintWords Go.Proofs.YtphdjlfnlcapcaaW.PrintLast Go.Proofs.YtphdjlfnlcapcaaW.PrintMore
theorem C_two (w : World) (s : Nat) (x y : Int) (hx : w.cell? ⟨s, 0, none⟩ = some (.int .i64 x)) (hy : w.cell? ⟨s, 1, none⟩ = some (.int .i64 y)) : Kd.C (Kd.int .i64) w (some ⟨s, 0, none⟩) 2 [x, y] := by
  refine ⟨rfl, by simp, fun _ => ⟨⟨s, 0, none⟩, rfl, fun i z hz => ?_⟩⟩
  have hi := (List.getElem?_eq_some_iff.1 hz).1
  simp at hi
  obtain rfl | rfl : i = 0 ∨ i = 1 := by omega
  · obtain rfl : x = z := by simpa using hz
    refine ⟨[.int .i64 x], rfl, rfl, fun q u hq => ?_⟩
    obtain rfl : q = 0 := by
      have := (List.getElem?_eq_some_iff.1 hq).1
      simp at this
      omega
    obtain rfl : Value.int .i64 x = u := by simpa using hq
    exact hx
  · obtain rfl : y = z := by simpa using hz
    refine ⟨[.int .i64 y], rfl, rfl, fun q u hq => ?_⟩
    obtain rfl : q = 0 := by
      have := (List.getElem?_eq_some_iff.1 hq).1
      simp at this
      omega
    obtain rfl : Value.int .i64 y = u := by simpa using hq
    exact hy
def betR (l : List S39) : List Int × Int := if l.all okItem then (gaps l, 0) else ([], 1)
theorem u16_bd {a : Int} (h : (Lit.int .u16 a).wf = true) : 0 ≤ a ∧ a ≤ 65535 := by
  have h1 : IntKind.u16.min = 0 := rfl
  have h2 : IntKind.u16.max = 65535 := rfl
  simp only [Lit.wf, Bool.and_eq_true, decide_eq_true_eq] at h
  omega
theorem same_loop (l : List Int) (hl : l.length ≤ 100000000000000) : ∀ (d i : Nat), i + d = l.length → Ev (fun k => formeref18_SameInts.l0 k l l (i : Int)) true
  | 0, i, h => EvT.succ (fun k => rfl) (EvT.ifn (by omega) (EvT.now rfl))
  | d + 1, i, h => by
    refine EvT.succ (fun k => rfl) (EvT.ifp (by omega) (EvT.ifp (by omega) (EvT.ifp (by omega) (EvT.ifp rfl ?_))))
    rw [EvT.w64 (by omega) (by omega)]
    simpa using same_loop l hl d (i + 1) (by omega)
theorem same_ev (l : List Int) (hl : l.length ≤ 100000000000000) : Ev (fun k => formeref18_SameInts.f k l l) true :=
  EvT.ifp rfl (by simpa using same_loop l hl l.length 0 (by omega))
theorem bet_calls (l : List S39) (hl : l.length ≤ 4000) (A : Option Addr) (c : Nat) (w : World) (hr : Kd.C k39 w A l.length l) (hc : l.length ≤ c) (r : List Int) (s : Int) (h : betR l = (r, s)) :
    Calls Try.prog 12 #[.slice A l.length c] w fun e w' => ∃ (A : Option Addr) (c : Nat), e = .returned (.tuple #[.slice A r.length c, .int .i64 s]) ∧ r.length ≤ c ∧ Kd.C (Kd.int .i64) w' A r.length r ∧ Below w.heap.size w w' := by
  have hf : margins_Between.f l = some (r, s) := by
    unfold margins_Between.f
    rw [if_neg (by omega), ← h]
    unfold betR
    split <;> rfl
  refine (margins_Between.calls A c l r s w hr hc hf).mono ?_
  rintro e w' ⟨v, rfl, hR, hb⟩
  obtain ⟨A, c, rfl, hl, hC⟩ := Kd.R_reads hR
  exact ⟨A, c, rfl, hl, hC, hb⟩
set_option maxRecDepth 100000 in
set_option maxHeartbeats 8000000 in
theorem MarginsParts (A0 : Option Addr) (c0 : Nat) (l0 : List S39) (A1 : Option Addr) (c1 : Nat) (l1 : List S39) (h : Int) (hh : 0 ≤ h ∧ h ≤ 65535) (w : World) (hr0 : Kd.C k39 w A0 l0.length l0) (hc0 : l0.length ≤ c0) (hr1 : Kd.C k39 w A1 l1.length l1) (hc1 : l1.length ≤ c1) :
    Calls Try.prog 8 #[.slice A0 l0.length c0, .slice A1 l1.length c1, .int .u16 h] w fun e w' => e = .returned (.bool true) ∧ Below w.heap.size w w' := by
  have HR0 := Aside0.mk hr0
  have HR1 := Aside0.mk hr1
  have HC0 := Aside0.mk hc0
  have HC1 := Aside0.mk hc1
  clear hr0 hc0 hr1 hc1
  obtain ⟨kh, hkh⟩ := head_ev
  have hhead : Calls Try.prog 9 #[] w fun e w' => e = .returned (.bool true) ∧ Below w.heap.size w w' := formelaw18_head.calls kh true w (hkh kh (Nat.le_refl _))
  clear hkh
  by_cases h1 : l0.length > 1000
  · have d1 : decide ((l0.length : Int) > 1000) = true := decide_eq_true (by omega)
    clear hh
    go_enter Try.func8, Try.ntmps8
    go_wp2_with (first | (go_at_call 9; (with_reducible refine hhead.mono ?_); rintro e w1 ⟨rfl, hb⟩; have HW1 := Aside0.mk hb; clear hb))
    go_ret
    exact ⟨rfl, HW1.out⟩
  have d1 : decide ((l0.length : Int) > 1000) = false := decide_eq_false (by omega)
  by_cases h2 : l1.length > 1000
  · have d2 : decide ((l1.length : Int) > 1000) = true := decide_eq_true (by omega)
    clear hh
    go_enter Try.func8, Try.ntmps8
    go_wp2_with (first | (go_at_call 9; (with_reducible refine hhead.mono ?_); rintro e w1 ⟨rfl, hb⟩; have HW1 := Aside0.mk hb; clear hb))
    go_ret
    exact ⟨rfl, HW1.out⟩
  have d2 : decide ((l1.length : Int) > 1000) = false := decide_eq_false (by omega)
  by_cases h3 : l0.length = 0
  · have d3 : decide ((l0.length : Int) = 0) = true := decide_eq_true (by omega)
    have d3' : ((l0.length : Int) == 0) = true := beq_iff_eq.2 (by omega)
    clear hh
    go_enter Try.func8, Try.ntmps8
    go_wp2_with (first | (go_at_call 9; (with_reducible refine hhead.mono ?_); rintro e w1 ⟨rfl, hb⟩; have HW1 := Aside0.mk hb; clear hb))
    go_ret
    exact ⟨rfl, HW1.out⟩
  have d3 : decide ((l0.length : Int) = 0) = false := decide_eq_false (by omega)
  have d3' : ((l0.length : Int) == 0) = false := beq_eq_false_iff_ne.2 (by omega)
  by_cases h4 : l1.length = 0
  · have d4 : decide ((l1.length : Int) = 0) = true := decide_eq_true (by omega)
    have d4' : ((l1.length : Int) == 0) = true := beq_iff_eq.2 (by omega)
    clear hh
    go_enter Try.func8, Try.ntmps8
    go_wp2_with (first | (go_at_call 9; (with_reducible refine hhead.mono ?_); rintro e w1 ⟨rfl, hb⟩; have HW1 := Aside0.mk hb; clear hb))
    go_ret
    exact ⟨rfl, HW1.out⟩
  have d4 : decide ((l1.length : Int) = 0) = false := decide_eq_false (by omega)
  have d4' : ((l1.length : Int) == 0) = false := beq_eq_false_iff_ne.2 (by omega)
  obtain ⟨⟨r0, s0⟩, hb0⟩ : ∃ x, betR l0 = x := ⟨_, rfl⟩
  obtain ⟨⟨r1, s1⟩, hb1⟩ : ∃ x, betR l1 = x := ⟨_, rfl⟩
  have H1 : Aside0 (l0.length ≤ 1000) := ⟨by omega⟩
  have H2 : Aside0 (l1.length ≤ 1000) := ⟨by omega⟩
  have hc0 : ∀ w1, Below w.heap.size w w1 → Calls Try.prog 12 #[.slice A0 l0.length c0] w1 fun e w' => ∃ (A : Option Addr) (c : Nat), e = .returned (.tuple #[.slice A r0.length c, .int .i64 s0]) ∧ Aside0 (r0.length ≤ c) ∧ Aside0 (Kd.C (Kd.int .i64) w' A r0.length r0) ∧ Below w.heap.size w w' := fun w1 h1 => by
    refine (bet_calls l0 (by have := H1.out; omega) A0 c0 w1 (Kd.C_below HR0.out h1) HC0.out r0 s0 hb0).mono ?_
    rintro e w' ⟨A, c, rfl, hl, hC, hb⟩
    exact ⟨A, c, rfl, ⟨hl⟩, ⟨hC⟩, h1.trans (hb.mono h1.size)⟩
  have hc1 : ∀ w1, Below w.heap.size w w1 → Calls Try.prog 12 #[.slice A1 l1.length c1] w1 fun e w' => ∃ (A : Option Addr) (c : Nat), e = .returned (.tuple #[.slice A r1.length c, .int .i64 s1]) ∧ Aside0 (r1.length ≤ c) ∧ Aside0 (Kd.C (Kd.int .i64) w' A r1.length r1) ∧ Below w.heap.size w w' ∧ Below w1.heap.size w1 w' := fun w1 h1 => by
    refine (bet_calls l1 (by have := H2.out; omega) A1 c1 w1 (Kd.C_below HR1.out h1) HC1.out r1 s1 hb1).mono ?_
    rintro e w' ⟨A, c, rfl, hl, hC, hb⟩
    exact ⟨A, c, rfl, ⟨hl⟩, ⟨hC⟩, h1.trans (hb.mono h1.size), hb⟩
  have HB0 := Aside0.mk hb0
  have HB1 := Aside0.mk hb1
  have HP0 : Aside0 (0 < l0.length) := ⟨by omega⟩
  have HP1 : Aside0 (0 < l1.length) := ⟨by omega⟩
  clear hb0 hb1 h1 h2 h3 h4
  go_enter Try.func8, Try.ntmps8
  go_wp2_with (first | (go_at_call 9; (with_reducible refine hhead.mono ?_); rintro e w1 ⟨rfl, hb⟩; have HW1 := Aside0.mk hb; clear hb) | (go_at_call 12; (with_reducible refine (hc0 _ HW1.out).mono ?_); rintro e w2 ⟨Ax, cx, rfl, HCX, HX, hb⟩; have HW2 := Aside0.mk hb; clear hb) | (go_at_call 12; (with_reducible refine (hc1 _ HW2.out).mono ?_); rintro e w3 ⟨Ay, cy, rfl, HCY, HY, hb, hb2⟩; have HW3 := Aside0.mk hb; have HX3 := Aside0.mk (Kd.C_below HX.out hb2); clear hb hb2) | (at_builtin; refine Kd.R_append_rows k39 (w0 := w3) w3.heap.size rfl (.tmp 53) (.tmp 54) 23 39 (.agg #[.int .i64 0, .int .i64 0, .int .i64 0]) 24 rfl Try.underlying23 info39 rfl (by decide) (by omega) (.slice none 0 0) [] l0 _ _ _ (fun _ => True) (fun _ => False) rfl rfl (Kd.R_nil _ _ _ _ _) (Kd.C_below HR0.out HW3.out) (fun _ _ h => h) (fun _ h => h.elim) (fun _ _ => trivial) (Below.refl _ _) (Nat.le_refl _) (by have := H1.out; simp; omega) ?_; intro v1 w4 ho hb hg hat; have HO4 := Aside0.mk ho; have HW4 := Aside0.mk hb; clear ho hb hg hat) | (at_builtin; refine Kd.R_append_rows k39 (w0 := w3) w3.heap.size rfl (.tmp 55) (.tmp 56) 23 39 (.agg #[.int .i64 0, .int .i64 0, .int .i64 0]) 24 rfl Try.underlying23 info39 rfl (by decide) (by omega) v1 ([] ++ l0) l1 _ _ _ (fun _ => True) (fun _ => False) rfl rfl HO4.out (Kd.C_below HR1.out (HW3.out.trans (HW4.out.mono HW3.out.size))) (fun _ _ h => h) (fun _ h => h.elim) (fun _ _ => trivial) HW4.out HW4.out.size (by have := H1.out; have := H2.out; simp; omega) ?_; intro v2 w5 ho hb hg hat; obtain ⟨Az, cz, ez, hlz, hCz⟩ := Kd.R_reads ho; subst ez; have HCZ := Aside0.mk hlz; have HZ := Aside0.mk hCz; have HW5 := Aside0.mk hb; clear ho hb hg hat hlz hCz))
  obtain ⟨al, hal⟩ : ∃ al, l0 ++ l1 = al := ⟨_, rfl⟩
  have hlen : l0.length + l1.length = al.length := by rw [← hal]; simp
  have HZ := Aside0.mk (show Kd.C k39 w5 Az al.length al by have := HZ.out; rw [List.nil_append, hal] at this; exact this)
  have HCZ := Aside0.mk (show al.length ≤ cz by have := HCZ.out; rw [List.nil_append, hal] at this; exact this)
  rw [hlen]
  have HAL := Aside0.mk hal
  have HLEN := Aside0.mk hlen
  have HW5' := Aside0.mk (HW3.out.trans (HW5.out.mono HW3.out.size))
  have HX5 := Aside0.mk (Kd.C_below HX3.out HW5.out)
  have HY5 := Aside0.mk (Kd.C_below HY.out HW5.out)
  have hcv : wrap64 h = h := EvT.w64 (by omega) (by omega)
  have HH := Aside0.mk hh
  clear hhead hc0 hc1 HX HX3 HY HW1 HW2 HW3 HW4 HO4 HW5 hal hlen hh d1 d2 d3 d3' d4 d4'
  go_loopg [13, 60] al.length (fun kq v13 v60 w' => ∃ i : Nat, v60 = .int .i64 (i : Int) ∧ Aside0 (kq + i = al.length) ∧ Aside0 (Kd.R k39 39 w' w5.heap.size (fun _ => True) v13 (withH h (al.take i))) ∧ Aside0 (Below w5.heap.size w5 w'))
  case atStart => exact ⟨0, rfl, ⟨rfl⟩, ⟨Kd.R_nil _ _ _ _ _⟩, ⟨Below.refl _ _⟩⟩
  case round =>
    obtain ⟨i, rfl, HK, HO, HB⟩ := hrel
    cases gk with
    | succ k1 =>
      have hi : i < al.length := by have := HK.out; omega
      have p1 : 0 ≤ (i : Int) := by omega
      have q1 : (i : Int) < (al.length : Int) := by omega
      have c1b : decide ((i : Int) < (al.length : Int)) = true := decide_eq_true q1
      have c1c : decide (i < al.length) = true := decide_eq_true hi
      have c1d : decide ((i : Int) < (l0.length : Int) + (l1.length : Int)) = true := decide_eq_true (by have := HLEN.out; omega)
      have c1e : decide (i < l0.length + l1.length) = true := decide_eq_true (by have := HLEN.out; omega)
      have hsum : IntKind.i64.wrap ((i : Int) + 1) = ((i + 1 : Nat) : Int) := by have := HLEN.out; have := H1.out; have := H2.out; exact IntWalk.i64_in _ (by omega)
      have hsum2 : wrap64 ((i : Int) + 1) = ((i + 1 : Nat) : Int) := by have := HLEN.out; have := H1.out; have := H2.out; unfold wrap64; omega
      obtain ⟨ad, ead, b0, b1, b2⟩ := at_T39 (Kd.C_below HZ.out HB.out) (i : Int) p1 q1
      cases ead
      obtain ⟨x, hx⟩ : ∃ x, rd_T39 al (i : Int) = x := ⟨_, rfl⟩
      rw [hx] at b0 b1 b2
      simp only [Int.toNat_natCast] at b0 b1 b2
      have HNX : Aside0 (withH h (al.take (i + 1)) = withH h (al.take i) ++ [⟨x.f0, x.f1, h⟩]) := ⟨by unfold withH; rw [List.take_succ_eq_append_getElem hi, List.map_append, ← hx, rd_nat39 al i hi]; rfl⟩
      have HI := Aside0.mk hi
      obtain ⟨A13, c13, e13⟩ := Kd.R_slice HO.out
      subst e13
      replace p1 := eq_true p1
      replace q1 := eq_true q1
      clear hx hi
      go_upto_region 11 with (first | ((with_reducible refine gate_dst (N := 15) rfl ?_); refine box_event ?hg (N := 15) ?hd (cs := #[.int .i64 0, .int .i64 0, .int .i64 0]) (t := 39) ?hr ?_; (case hd => rfl); (case hg => rfl); (case hr => first | (go_simp; done) | (go_simp; rfl)); intro gb hg w48 hbox hb; have HBK := Aside0.mk hbox; have HBB := Aside0.mk hb; have HGE := Aside0.mk hg; clear hb hg; have hcz0 : w48.cell? ⟨gb, 0, none⟩ = some (.int .i64 0) := (blk_cell HBK.out 0).trans rfl; have hfz0 := blk_frozen HBK.out 0; have hcz1 : w48.cell? ⟨gb, 1, none⟩ = some (.int .i64 0) := (blk_cell HBK.out 1).trans rfl; have hfz1 := blk_frozen HBK.out 1; have hcz2 : w48.cell? ⟨gb, 2, none⟩ = some (.int .i64 0) := (blk_cell HBK.out 2).trans rfl; have hfz2 := blk_frozen HBK.out 2))
      obtain ⟨W, hW⟩ : ∃ W, ((w48.setCell ⟨gb, 0, none⟩ (.int .i64 x.f0)).setCell ⟨gb, 1, none⟩ (.int .i64 x.f1)).setCell ⟨gb, 2, none⟩ (.int .i64 x.f2) = W := ⟨_, rfl⟩
      rw [hW]
      have BX : Aside0 (W.heap[gb]? = some (.cells #[.int .i64 x.f0, .int .i64 x.f1, .int .i64 x.f2] 39 (0, 0))) := ⟨by rw [← hW]; refine blk_put (cs := #[.int .i64 x.f0, .int .i64 x.f1, .int .i64 0]) ?_ 2 _ rfl; refine blk_put (cs := #[.int .i64 x.f0, .int .i64 0, .int .i64 0]) ?_ 1 _ rfl; refine blk_put (cs := #[.int .i64 0, .int .i64 0, .int .i64 0]) ?_ 0 _ rfl; exact HBK.out⟩
      have hge : wr.heap.size ≤ gb := by rw [HGE.out]; exact Nat.le_refl _
      have BW : Aside0 (Below wr.heap.size wr W) := ⟨by rw [← hW]; exact below_set (below_set (below_set HBB.out hge) hge) hge⟩
      have HG := Aside0.mk hge
      clear hW hge b0 b1 b2 hcz0 hcz1 hcz2 hfz0 hfz1 hfz2
      clear HBK HBB HGE
      have hy2 : W.cell? ⟨gb, 2, none⟩ = some (.int .i64 x.f2) := (blk_cell BX.out 2).trans rfl
      have hf2 := blk_frozen BX.out 2
      go_upto_region 12 with (fail)
      obtain ⟨W2, hW2⟩ : ∃ W2, W.setCell ⟨gb, 2, none⟩ (.int .i64 h) = W2 := ⟨_, rfl⟩
      simp only [i64_w, hcv]
      rw [hW2]
      have BX2 : Aside0 (W2.heap[gb]? = some (.cells #[.int .i64 x.f0, .int .i64 x.f1, .int .i64 h] 39 (0, 0))) := ⟨by rw [← hW2]; exact blk_put (cs := #[.int .i64 x.f0, .int .i64 x.f1, .int .i64 x.f2]) BX.out 2 _ rfl⟩
      have BW2 : Aside0 (Below wr.heap.size wr W2) := ⟨by rw [← hW2]; exact below_set BW.out HG.out⟩
      clear hW2 hy2 hf2 BX BW HG
      have g0 : W2.cell? ⟨gb, 0, none⟩ = some (.int .i64 x.f0) := (blk_cell BX2.out 0).trans rfl
      have g1 : W2.cell? ⟨gb, 1, none⟩ = some (.int .i64 x.f1) := (blk_cell BX2.out 1).trans rfl
      have g2 : W2.cell? ⟨gb, 2, none⟩ = some (.int .i64 h) := (blk_cell BX2.out 2).trans rfl
      have HO2 := Aside0.mk (Kd.R_below HO.out BW2.out)
      have HB2 := Aside0.mk (HB.out.trans (BW2.out.mono HB.out.size))
      clear HO HB BW2 BX2
      go_wp2_with (first | (at_builtin; refine Kd.R_append k39 (w0 := w5) w5.heap.size rfl (.tmp 67) (.tmp 69) 23 39 (.agg #[.int .i64 0, .int .i64 0, .int .i64 0]) 24 rfl Try.underlying23 info39 rfl (by decide) (by omega) _ (withH h (al.take i)) ⟨x.f0, x.f1, h⟩ [.int .i64 x.f0, .int .i64 x.f1, .int .i64 h] (fun _ => True) (fun _ => False) rfl rfl (k39_mkM _ _ _ _) (fun _ hk => hk.elim) (fun _ _ => trivial) HO2.out HB2.out HB2.out.size (by have := HI.out; have := HLEN.out; have := H1.out; have := H2.out; simp [withH]; omega) ?_; intro v1 w6 ho hb hg hat; have HO3 := Aside0.mk ho; have HB3 := Aside0.mk hb; clear ho hb hg hat))
      go_roundg k1
      case measure => omega
      case rel => exact ⟨i + 1, by first | rfl | simp [hsum, hsum2], ⟨by have := HK.out; omega⟩, ⟨by rw [HNX.out]; exact HO3.out⟩, HB3⟩
    | zero =>
      have hil : i = al.length := by have := HK.out; omega
      subst hil
      have c1b : decide ((al.length : Int) < (al.length : Int)) = false := by simp
      have c1d : decide ((al.length : Int) < (l0.length : Int) + (l1.length : Int)) = false := decide_eq_false (by have := HLEN.out; omega)
      have c1e : decide (al.length < l0.length + l1.length) = false := decide_eq_false (by have := HLEN.out; omega)
      have HOH := Aside0.mk HO.out
      rw [List.take_length] at HOH
      have HWR := Aside0.mk (HW5'.out.trans (HB.out.mono HW5'.out.size))
      have HZR := Aside0.mk (Kd.C_below HZ.out HB.out)
      have HXR := Aside0.mk (Kd.C_below HX5.out HB.out)
      have HYR := Aside0.mk (Kd.C_below HY5.out HB.out)
      have hl4 : al.length ≤ 4000 := by have := HLEN.out; have := H1.out; have := H2.out; omega
      clear HO HB HZ HX5 HY5 HW5'
      have hcz : ∀ r s, betR al = (r, s) → Calls Try.prog 12 #[.slice Az al.length cz] wr fun e w' => ∃ (A : Option Addr) (c : Nat), e = .returned (.tuple #[.slice A r.length c, .int .i64 s]) ∧ Aside0 (r.length ≤ c) ∧ Aside0 (Kd.C (Kd.int .i64) w' A r.length r) ∧ Below w.heap.size w w' ∧ Below wr.heap.size wr w' := fun r s hb => by
        refine (bet_calls al hl4 Az cz wr HZR.out HCZ.out r s hb).mono ?_
        rintro e w' ⟨A, c, rfl, hl, hC, hb⟩
        exact ⟨A, c, rfl, ⟨hl⟩, ⟨hC⟩, HWR.out.trans (hb.mono HWR.out.size), hb⟩
      have b0 := HB0.out
      have b1 := HB1.out
      unfold betR at b0 b1
      by_cases k0 : l0.all okItem = true
      · by_cases k1 : l1.all okItem = true
        · rw [if_pos k0] at b0
          rw [if_pos k1] at b1
          obtain ⟨rfl, rfl⟩ : gaps l0 = r0 ∧ 0 = s0 := by simpa using b0
          obtain ⟨rfl, rfl⟩ : gaps l1 = r1 ∧ 0 = s1 := by simpa using b1
          have kal : al.all okItem = true := by rw [← HAL.out, List.all_append, k0, k1]; rfl
          have hcz := hcz (gaps al) 0 (by unfold betR; rw [if_pos kal])
          have hp0 := HP0.out
          have hp1 := HP1.out
          have in0 := gaps_in l0 k0 l0.length (.inr rfl) hp0
          have in1 := gaps_in l1 k1 0 (.inl rfl) hp1
          have HPE := Aside0.mk (parts_eq l0 l1 hp0 hp1)
          rw [HAL.out] at HPE
          have HKW := Aside0.mk (ok_withH HH.out kal)
          have hg0 := gaps_length l0
          have hg1 := gaps_length l1
          have hg2 := gaps_length al
          have hg3 := gaps_length (withH h al)
          clear b0 b1 k0 k1 kal
          have e0 : ((gaps l0).length : Int) = (l0.length : Int) + 1 := by rw [hg0]; simp
          have e1 : ((gaps l1).length : Int) = (l1.length : Int) + 1 := by rw [hg1]; simp
          have w0 : wrap64 ((l0.length : Int) + 1) = (l0.length : Int) + 1 := EvT.w64 (by have := H1.out; omega) (by have := H1.out; omega)
          have w1' : wrap64 ((l1.length : Int) + 1) = (l1.length : Int) + 1 := EvT.w64 (by have := H2.out; omega) (by have := H2.out; omega)
          have n0 : (((gaps l0).length : Int) != wrap64 ((l0.length : Int) + 1)) = false := by rw [w0, e0]; simp
          have n1 : (((gaps l1).length : Int) != wrap64 ((l1.length : Int) + 1)) = false := by rw [w1', e1]; simp
          have n2 : (((gaps l0).length : Int) == wrap64 ((l0.length : Int) + 1)) = true := by rw [w0, e0]; simp
          have n3 : (((gaps l1).length : Int) == wrap64 ((l1.length : Int) + 1)) = true := by rw [w1', e1]; simp
          clear e0 e1
          obtain ⟨Ah, ch, eh⟩ := Kd.R_slice HOH.out
          subst eh
          go_upto_region 17 with (first | (go_at_call 12; (with_reducible refine hcz.mono ?_); rintro e w6 ⟨Aq, cq, rfl, HCQ, HQ, hb, hb2⟩; have HW6 := Aside0.mk hb; have HB6 := Aside0.mk hb2; clear hb hb2))
          clear w0 w1' n0 n1 n2 n3
          have HX6 := Aside0.mk (Kd.C_below HXR.out HB6.out)
          have HY6 := Aside0.mk (Kd.C_below HYR.out HB6.out)
          have HOH6 := Aside0.mk (Kd.R_below HOH.out HB6.out)
          clear HXR HYR HOH HB6 hcz
          obtain ⟨X, hX⟩ : ∃ x, rd (gaps l0) (l0.length : Int) = x := ⟨_, rfl⟩
          obtain ⟨Y, hY⟩ : ∃ x, rd (gaps l1) 0 = x := ⟨_, rfl⟩
          rw [hX] at in0
          have in1' : inM Y = true := by rw [← hY]; exact in1
          rw [hX, hY] at HPE
          have hj : margins_Join.f [X, Y] = some (hi [X, Y] + lo [X, Y], 0) := join_some [X, Y] (by simp [in0, in1']) (by simp)
          obtain ⟨J, hJ⟩ : ∃ j, hi [X, Y] + lo [X, Y] = j := ⟨_, rfl⟩
          rw [hJ] at hj HPE
          obtain ⟨ax, eax, x0⟩ := Kd.at_int HX6.out (l0.length : Int) (by omega) (by rw [hg0]; omega)
          obtain ⟨ay, eay, y0⟩ := Kd.at_int HY6.out ((0 : Nat) : Int) (by omega) (by rw [hg1]; omega)
          cases eax
          cases eay
          rw [hX] at x0
          have hY' : rd (gaps l1) ((0 : Nat) : Int) = Y := hY
          rw [hY'] at y0
          simp only [Int.toNat_natCast] at x0 y0
          have q0 : ((l0.length : Int) < (l0.length : Int) + 1) = True := eq_true (by omega)
          have q1 : (0 ≤ (l0.length : Int)) = True := eq_true (by omega)
          have q2 : ((0 : Int) < (l1.length : Int) + 1) = True := eq_true (by omega)
          have HJ := Aside0.mk hj
          have y0' : w6.cell? ay = some (.int .i64 Y) := y0
          have HC6 := Aside0.mk (And.intro x0 y0')
          clear y0'
          clear in0 in1 in1' hX hY hY' hJ hj x0 y0
          refine start_ (n := 15) (S := fun w' => w'.cell? (ax.add l0.length) = some (.int .i64 X) ∧ w'.cell? ay = some (.int .i64 Y)) (ds := [8, 9]) #[false, false, false, false, false, false, false, false, false, false, false, false, false, false, false] (by kernel_rfl) rfl rfl HC6.out (fun hHeld => ?_)
          have HX := Aside0.mk (Kd.C_drew HX6.out)
          have HY := Aside0.mk (Kd.C_drew HY6.out)
          have HQ7 := Aside0.mk (Kd.C_drew HQ.out)
          have HO := Aside0.mk (Kd.R_drew HOH6.out)
          have HW := Aside0.mk (below_drew HW6.out)
          clear HX6 HY6 HOH6 HW6 HC6 HQ
          generalize World.drew _ = w25 at HX HY HQ7 HO HW hHeld ⊢
          refine pure_ (i := 0) (N := some 125) (v := ?_) (a' := ?_) #[true, false, false, false, false, false, false, false, false, false, false, false, false, false, false] rfl rfl (by kernel_rfl) (fun _ _ _ h => h) (Or.inl ⟨by rfl, ?_⟩) ?_ ?_
          rotate_left
          · intro w' 
            go_simp
            with_reducible rfl
          rotate_left
          · simp only [Act.put, List.setIfInBounds_toArray, List.set_cons_zero, List.set_cons_succ, i64_w, i32_w]
            rfl
          refine pure_ (i := 1) (N := some 126) (v := ?_) (a' := ?_) #[true, true, false, false, false, false, false, false, false, false, false, false, false, false, false] rfl rfl (by kernel_rfl) (fun _ _ _ h => h) (Or.inl ⟨by rfl, ?_⟩) ?_ ?_
          rotate_left
          · intro w' 
            go_simp
            with_reducible rfl
          rotate_left
          · simp only [Act.put, List.setIfInBounds_toArray, List.set_cons_zero, List.set_cons_succ, i64_w, i32_w]
            rfl
          refine pure_ (i := 2) (N := some 127) (v := ?_) (a' := ?_) #[true, true, true, false, false, false, false, false, false, false, false, false, false, false, false] rfl rfl (by kernel_rfl) (fun _ _ _ h => h) (Or.inl ⟨by rfl, ?_⟩) ?_ ?_
          rotate_left
          · intro w' 
            go_simp
            with_reducible rfl
          rotate_left
          · simp only [Act.put, List.setIfInBounds_toArray, List.set_cons_zero, List.set_cons_succ, i64_w, i32_w]
            rfl
          refine pure_ (i := 3) (N := some 128) (v := ?_) (a' := ?_) #[true, true, true, true, false, false, false, false, false, false, false, false, false, false, false] rfl rfl (by kernel_rfl) (fun _ _ _ h => h) (Or.inl ⟨by rfl, ?_⟩) ?_ ?_
          rotate_left
          · intro w' 
            go_simp
            with_reducible rfl
          rotate_left
          · simp only [Act.put, List.setIfInBounds_toArray, List.set_cons_zero, List.set_cons_succ, i64_w, i32_w]
            rfl
          refine take_ (i := 4) (N := some 129) (v := ?_) (a' := ?_) #[true, true, true, true, true, false, false, false, false, false, false, false, false, false, false] rfl rfl (by kernel_rfl) (fun _ _ _ h => h) (Or.inl ⟨by rfl, ?_⟩) hHeld ?_ ?_
          rotate_left
          · rintro w' ⟨s0, s1⟩
            go_simp
            with_reducible rfl
          rotate_left
          · simp only [Act.put, List.setIfInBounds_toArray, List.set_cons_zero, List.set_cons_succ, i64_w, i32_w]
            rfl
          refine pure_ (i := 5) (N := some 130) (v := ?_) (a' := ?_) #[true, true, true, true, true, true, false, false, false, false, false, false, false, false, false] rfl rfl (by kernel_rfl) (fun _ _ _ h => h) (Or.inl ⟨by rfl, ?_⟩) ?_ ?_
          rotate_left
          · intro w' 
            go_simp
            with_reducible rfl
          rotate_left
          · simp only [Act.put, List.setIfInBounds_toArray, List.set_cons_zero, List.set_cons_succ, i64_w, i32_w]
            rfl
          refine pure_ (i := 6) (N := some 131) (v := ?_) (a' := ?_) #[true, true, true, true, true, true, true, false, false, false, false, false, false, false, false] rfl rfl (by kernel_rfl) (fun _ _ _ h => h) (Or.inl ⟨by rfl, ?_⟩) ?_ ?_
          rotate_left
          · intro w' 
            go_simp
            with_reducible rfl
          rotate_left
          · simp only [Act.put, List.setIfInBounds_toArray, List.set_cons_zero, List.set_cons_succ, i64_w, i32_w]
            rfl
          refine take_ (i := 7) (N := some 132) (v := ?_) (a' := ?_) #[true, true, true, true, true, true, true, true, false, false, false, false, false, false, false] rfl rfl (by kernel_rfl) (fun _ _ _ h => h) (Or.inl ⟨by rfl, ?_⟩) hHeld ?_ ?_
          rotate_left
          · rintro w' ⟨s0, s1⟩
            go_simp
            with_reducible rfl
          rotate_left
          · simp only [Act.put, List.setIfInBounds_toArray, List.set_cons_zero, List.set_cons_succ, i64_w, i32_w]
            rfl
          refine last_ (i := 8) (N := some 133) #[true, true, true, true, true, true, true, true, true, false, false, false, false, false, false] rfl rfl (by kernel_rfl) (by decide) (fun K hK => ?_)
          refine value_ (w1 := ?_) (v := ?_) (by rfl) rfl ?_ ?_
          rotate_left 2
          · go_simp
            constructor
            · rfl
            · rfl
          refine hK.out _ _ ?_
          clear hK K
          refine norm_ (a' := ?_) ?_ ?_
          rotate_left
          · show Act.put _ (some 133) _ = _
            simp only [Act.put, List.setIfInBounds_toArray, List.set_cons_zero, List.set_cons_succ, i64_w, i32_w]
            rfl
          refine last_ (i := 9) (N := some 134) #[true, true, true, true, true, true, true, true, true, true, false, false, false, false, false] rfl rfl (by kernel_rfl) (by decide) (fun K hK => ?_)
          refine call_ 10 #[.slice (some ⟨w25.heap.size, 0, none⟩) 2 2] (by rfl) rfl (by go_simp) ?_
          refine (margins_Join.calls (some ⟨w25.heap.size, 0, none⟩) 2 [X, Y] J 0 _ (C_two _ w25.heap.size X Y ((blk_cell (blk_new w25 (.cells #[.int .i64 X, .int .i64 Y] 3)) 0).trans rfl) ((blk_cell (blk_new w25 (.cells #[.int .i64 X, .int .i64 Y] 3)) 1).trans rfl)) (by simp) HJ.out).mono ?_
          rintro e w26 ⟨rfl, hb⟩
          have HB26 := Aside0.mk ((below_alloc (Below.refl w25.heap.size w25) (.cells #[.int .i64 X, .int .i64 Y] 3)).trans (hb.mono (by simp)))
          clear hb hHeld
          refine ⟨_, rfl, ?_⟩
          refine hK.out _ _ ?_
          clear hK K
          refine norm_ (a' := ?_) ?_ ?_
          rotate_left
          · show Act.put _ (some 134) _ = _
            simp only [Act.put, List.setIfInBounds_toArray, List.set_cons_zero, List.set_cons_succ, i64_w, i32_w]
            rfl
          refine pure_ (i := 10) (N := some 124) (v := ?_) (a' := ?_) #[true, true, true, true, true, true, true, true, true, true, true, false, false, false, false] rfl rfl (by kernel_rfl) (fun _ _ _ h => h) (Or.inl ⟨by rfl, ?_⟩) ?_ ?_
          rotate_left
          · intro w' 
            go_simp
            with_reducible rfl
          rotate_left
          · simp only [Act.put, List.setIfInBounds_toArray, List.set_cons_zero, List.set_cons_succ, i64_w, i32_w]
            rfl
          refine pure_ (i := 11) (N := some 135) (v := ?_) (a' := ?_) #[true, true, true, true, true, true, true, true, true, true, true, true, false, false, false] rfl rfl (by kernel_rfl) (fun _ _ _ h => h) (Or.inl ⟨by rfl, ?_⟩) ?_ ?_
          rotate_left
          · intro w' 
            go_simp
            with_reducible rfl
          rotate_left
          · simp only [Act.put, List.setIfInBounds_toArray, List.set_cons_zero, List.set_cons_succ, i64_w, i32_w]
            rfl
          refine pure_ (i := 12) (N := some 136) (v := ?_) (a' := ?_) #[true, true, true, true, true, true, true, true, true, true, true, true, true, false, false] rfl rfl (by kernel_rfl) (fun _ _ _ h => h) (Or.inl ⟨by rfl, ?_⟩) ?_ ?_
          rotate_left
          · intro w' 
            go_simp
            with_reducible rfl
          rotate_left
          · simp only [Act.put, List.setIfInBounds_toArray, List.set_cons_zero, List.set_cons_succ, i64_w, i32_w]
            rfl
          refine pure_ (i := 13) (N := some 18) (v := ?_) (a' := ?_) #[true, true, true, true, true, true, true, true, true, true, true, true, true, true, false] rfl rfl (by kernel_rfl) (fun _ _ _ h => h) (Or.inl ⟨by rfl, ?_⟩) ?_ ?_
          rotate_left
          · intro w' 
            go_simp
            with_reducible rfl
          rotate_left
          · simp only [Act.put, List.setIfInBounds_toArray, List.set_cons_zero, List.set_cons_succ, i64_w, i32_w]
            rfl
          refine pure_ (i := 14) (N := some 19) (v := ?_) (a' := ?_) #[true, true, true, true, true, true, true, true, true, true, true, true, true, true, true] rfl rfl (by kernel_rfl) (fun _ _ _ h => h) (Or.inl ⟨by rfl, ?_⟩) ?_ ?_
          rotate_left
          · intro w' 
            go_simp
            with_reducible rfl
          rotate_left
          · simp only [Act.put, List.setIfInBounds_toArray, List.set_cons_zero, List.set_cons_succ, i64_w, i32_w]
            rfl
          refine done_ (by kernel_rfl) ?_
          go_wp2
          have HXa := Aside0.mk (Kd.C_below HX.out HB26.out)
          have HYa := Aside0.mk (Kd.C_below HY.out HB26.out)
          have HQa := Aside0.mk (Kd.C_below HQ7.out HB26.out)
          have HOa := Aside0.mk (Kd.R_below HO.out HB26.out)
          have HWa := Aside0.mk (HW.out.trans (HB26.out.mono HW.out.size))
          clear HX HY HQ7 HO HW HB26 HJ
          have HG0 := Aside0.mk hg0
          have HG1 := Aside0.mk hg1
          have HG2 := Aside0.mk hg2
          have HG3 := Aside0.mk hg3
          have HP01 := Aside0.mk (And.intro hp0 hp1)
          have m1 : ((l0.length : Int) ≤ (cx : Int)) = True := eq_true (by have := HCX.out; omega)
          have m2 : (l0.length ≤ cx) = True := eq_true (by have := HCX.out; omega)
          have m3 : (cx < l0.length) = False := eq_false (by have := HCX.out; omega)
          have m4 : ((1 : Int) ≤ ((gaps l1).length : Int)) = True := eq_true (by omega)
          have m5 : (1 ≤ (gaps l1).length) = True := eq_true (by omega)
          have m6 : ((gaps l1).length < 1) = False := eq_false (by omega)
          have m7 : ((gaps l1).length ≤ cy) = True := eq_true (by have := HCY.out; omega)
          have m8 : (((gaps l1).length : Int) ≤ (cy : Int)) = True := eq_true (by have := HCY.out; omega)
          have m9 : (cy < (gaps l1).length) = False := eq_false (by have := HCY.out; omega)
          have m10 : (cy = 1) = False := eq_false (by have := HCY.out; omega)
          have m11 : (1 = cy) = False := eq_false (by have := HCY.out; omega)
          have m12 : ((1 : Int) ≤ (l1.length : Int) + 1) = True := eq_true (by omega)
          have m13 : (1 ≤ l1.length + 1) = True := eq_true (by omega)
          clear hg0 hg1 hg2 hg3 hp0 hp1 q0 q1 q2
          refine start_ (n := 13) (S := fun w' => True) (ds := []) #[false, false, false, false, false, false, false, false, false, false, false, false, false] (by kernel_rfl) rfl rfl trivial (fun hHeld => ?_)
          have HX := Aside0.mk (Kd.C_drew HXa.out)
          have HY := Aside0.mk (Kd.C_drew HYa.out)
          have HQ8 := Aside0.mk (Kd.C_drew HQa.out)
          have HO8 := Aside0.mk (Kd.R_drew HOa.out)
          have HW8 := Aside0.mk (below_drew HWa.out)
          clear HXa HYa HQa HOa HWa
          generalize World.drew _ = w27 at HX HY HQ8 HO8 HW8 hHeld ⊢
          refine pure_ (i := 1) (N := some 138) (v := ?_) (a' := ?_) #[false, true, false, false, false, false, false, false, false, false, false, false, false] rfl rfl (by kernel_rfl) (fun _ _ _ h => h) (Or.inl ⟨by rfl, ?_⟩) ?_ ?_
          rotate_left
          · intro w' 
            go_simp
            with_reducible rfl
          rotate_left
          · simp only [Act.put, List.setIfInBounds_toArray, List.set_cons_zero, List.set_cons_succ, i64_w, i32_w]
            rfl
          refine pure_ (i := 2) (N := some 139) (v := ?_) (a' := ?_) #[false, true, true, false, false, false, false, false, false, false, false, false, false] rfl rfl (by kernel_rfl) (fun _ _ _ h => h) (Or.inl ⟨by rfl, ?_⟩) ?_ ?_
          rotate_left
          · intro w' 
            go_simp
            with_reducible rfl
          rotate_left
          · simp only [Act.put, List.setIfInBounds_toArray, List.set_cons_zero, List.set_cons_succ, i64_w, i32_w]
            rfl
          refine pure_ (i := 3) (N := some 140) (v := ?_) (a' := ?_) #[false, true, true, true, false, false, false, false, false, false, false, false, false] rfl rfl (by kernel_rfl) (fun _ _ _ h => h) (Or.inl ⟨by rfl, ?_⟩) ?_ ?_
          rotate_left
          · intro w' 
            go_simp
            with_reducible rfl
          rotate_left
          · simp only [Act.put, List.setIfInBounds_toArray, List.set_cons_zero, List.set_cons_succ, i64_w, i32_w]
            rfl
          refine pure_ (i := 4) (N := some 141) (v := ?_) (a' := ?_) #[false, true, true, true, true, false, false, false, false, false, false, false, false] rfl rfl (by kernel_rfl) (fun _ _ _ h => h) (Or.inl ⟨by rfl, ?_⟩) ?_ ?_
          rotate_left
          · intro w' 
            go_simp
            with_reducible rfl
          rotate_left
          · simp only [Act.put, List.setIfInBounds_toArray, List.set_cons_zero, List.set_cons_succ, i64_w, i32_w]
            rfl
          refine pure_ (i := 6) (N := some 143) (v := ?_) (a' := ?_) #[false, true, true, true, true, false, true, false, false, false, false, false, false] rfl rfl (by kernel_rfl) (fun _ _ _ h => h) (Or.inl ⟨by rfl, ?_⟩) ?_ ?_
          rotate_left
          · intro w' 
            go_simp
            with_reducible rfl
          rotate_left
          · simp only [Act.put, List.setIfInBounds_toArray, List.set_cons_zero, List.set_cons_succ, i64_w, i32_w]
            rfl
          refine pure_ (i := 9) (N := some 146) (v := ?_) (a' := ?_) #[false, true, true, true, true, false, true, false, false, true, false, false, false] rfl rfl (by kernel_rfl) (fun _ _ _ h => h) (Or.inl ⟨by rfl, ?_⟩) ?_ ?_
          rotate_left
          · intro w' 
            go_simp
            with_reducible rfl
          rotate_left
          · simp only [Act.put, List.setIfInBounds_toArray, List.set_cons_zero, List.set_cons_succ, i64_w, i32_w]
            rfl
          refine pure_ (i := 10) (N := some 147) (v := ?_) (a' := ?_) #[false, true, true, true, true, false, true, false, false, true, true, false, false] rfl rfl (by kernel_rfl) (fun _ _ _ h => h) (Or.inl ⟨by rfl, ?_⟩) ?_ ?_
          rotate_left
          · intro w' 
            go_simp
            with_reducible rfl
          rotate_left
          · simp only [Act.put, List.setIfInBounds_toArray, List.set_cons_zero, List.set_cons_succ, i64_w, i32_w]
            rfl
          have HT0 : Aside0 (Kd.C (Kd.int .i64) w27 (some ax) l0.length ((gaps l0).take l0.length)) := ⟨by
            have := Kd.C_take (m := l0.length) HX.out (by have := HG0.out; omega)
            have hl : ((gaps l0).take l0.length).length = l0.length := by rw [List.length_take]; have := HG0.out; omega
            rwa [hl] at this⟩
          have HT1 : Aside0 (Kd.C (Kd.int .i64) w27 (some ⟨ay.block, ay.off + 1, none⟩) l1.length ((gaps l1).drop 1)) := ⟨by
            have := Kd.C_drop (m := 1) (c := cy) HY.out (by have := HG1.out; have := HP01.out; omega) HCY.out
            rw [if_neg (of_eq_false m10)] at this
            rw [List.length_drop, HG1.out, Nat.add_sub_cancel] at this
            exact this⟩
          have HTL : Aside0 (((gaps l0).take l0.length).length = l0.length) := ⟨by rw [List.length_take]; have := HG0.out; omega⟩
          clear m1 m2 m3 m4 m5 m6 m7 m8 m9 m10 m11 m12 m13 HX HY hHeld
          refine join_ (σ := Value × Value × Value) 3 #[true, true, true, true, true, true, true, true, false, true, true, false, false] (fun s => [(137, s.1), (142, s.2.1), (144, s.2.2)]) (fun s w' => Kd.R (Kd.int .i64) 3 w' w27.heap.size (fun _ => True) s.2.1 ((gaps l0).take l0.length) ∧ (∃ A c, s.2.2 = .slice A 1 c ∧ Kd.C (Kd.int .i64) w' A 1 [J]) ∧ Below w27.heap.size w27 w') ?_ ?_
          rotate_left
          · intro hCont
            refine two_ (i := 0) (j := 7) (Ni := some 137) (Nj := some 144) #[true, true, true, true, true, false, true, false, false, true, true, false, false] #[false, true, true, true, true, false, true, true, false, true, true, false, false] rfl rfl rfl rfl (by kernel_rfl) (by decide) (by decide) (fun K hK => ?_) (fun K hK => ?_)
            · refine Kd.R_lit_step (Kd.int .i64) (w0 := w27) w27.heap.size 3 (by rfl) (N := 137) rfl (xs := ([] : List Int)) (inner := []) (ok := fun _ => True) (okp := fun _ => True) (by first | (go_simp; done) | (go_simp; rfl)) (Reps.none _ _) (fun _ h => h) trivial (Below.refl _ _) (Nat.le_refl _) (by simp) ?_
              intro v0 wa ho hb hg _
              refine hK.out _ _ trivial (fun _ => ?_)
              clear hK K
              obtain ⟨A0', c0', e0⟩ := Kd.R_slice ho
              simp only [List.length_nil] at e0
              subst e0
              refine norm_ (a' := ?_) ?_ ?_
              rotate_left
              · show Act.put _ (some 137) _ = _
                simp only [Act.put, List.setIfInBounds_toArray, List.set_cons_zero, List.set_cons_succ, i64_w, i32_w]
                rfl
              refine two_ (i := 5) (j := 7) (Ni := some 142) (Nj := some 144) #[true, true, true, true, true, true, true, false, false, true, true, false, false] #[true, true, true, true, true, false, true, true, false, true, true, false, false] rfl rfl rfl rfl (by kernel_rfl) (by decide) (by decide) (fun K hK => ?_) (fun K hK => ?_)
              · refine Kd.R_append_rows_step (Kd.int .i64) (w0 := w27) w27.heap.size (by rfl) (.tmp 137) (.tmp 141) 22 3 (.int .i64 0) 8 rfl Try.underlying22 info3 rfl (by decide) (by omega) (.slice A0' 0 c0') [] ((gaps l0).take l0.length) _ _ _ (fun _ => True) (fun _ => False) rfl rfl ho (Kd.C_below HT0.out hb) (fun _ _ h => h) (fun _ h => h.elim) (fun _ _ => trivial) hb hb.size (by have := H1.out; simp; omega) ?_
                intro v5 wb ho5 hb5 hg5 _
                refine hK.out _ _ trivial (fun _ => ?_)
                clear hK K
                refine norm_ (a' := ?_) ?_ ?_
                rotate_left
                · show Act.put _ (some 142) _ = _
                  simp only [Act.put, List.setIfInBounds_toArray, List.set_cons_zero, List.set_cons_succ, i64_w, i32_w]
                  rfl
                refine one_ (i := 7) (N := some 144) #[true, true, true, true, true, true, true, true, false, true, true, false, false] rfl rfl (by kernel_rfl) (by decide) (fun K hK => ?_)
                refine Kd.R_lit_step (Kd.int .i64) (w0 := w27) w27.heap.size 3 (by rfl) (N := 144) rfl (xs := [J]) (inner := [.int .i64 J]) (ok := fun _ => True) (okp := fun _ => False) (by first | (go_simp; done) | (go_simp; rfl)) (Reps.one (show Kd.M (Kd.int .i64) _ _ _ J [.int .i64 J] from rfl) (Reps.none _ _)) (fun _ h => h.elim) trivial hb5 hb5.size (by simp) ?_
                intro v7 wc ho7 hb7 hg7 _
                refine hK.out _ _ trivial (fun _ => ?_)
                clear hK K
                obtain ⟨A7, c7, e7, hl7, hC7⟩ := Kd.R_reads ho7
                refine norm_ ?_ (hCont ((.slice A0' 0 c0'), v5, v7) wc ⟨Kd.R_grown ho5 hg7 (fun _ _ e => by cases e), ⟨A7, c7, e7, hC7⟩, hb7⟩)
                show Act.put _ (some 144) _ = _
                simp only [putAll, Act.put, List.setIfInBounds_toArray, List.set_cons_zero, List.set_cons_succ, i64_w, i32_w]
              · refine Kd.R_lit_step (Kd.int .i64) (w0 := w27) w27.heap.size 3 (by rfl) (N := 144) rfl (xs := [J]) (inner := [.int .i64 J]) (ok := fun k => wa.heap.size ≤ k) (okp := fun _ => False) (by first | (go_simp; done) | (go_simp; rfl)) (Reps.one (show Kd.M (Kd.int .i64) _ _ _ J [.int .i64 J] from rfl) (Reps.none _ _)) (fun _ h => h.elim) (Nat.le_refl _) hb hb.size (by simp) ?_
                intro v7 wb ho7 hb7 hg7 _
                refine hK.out _ _ trivial (fun _ => ?_)
                clear hK K
                have ho2 := Kd.R_grown ho hg7 (fun _ _ e => by cases e)
                have hlt := Kd.R_lt ho
                refine norm_ (a' := ?_) ?_ ?_
                rotate_left
                · show Act.put _ (some 144) _ = _
                  simp only [Act.put, List.setIfInBounds_toArray, List.set_cons_zero, List.set_cons_succ, i64_w, i32_w]
                  rfl
                refine one_ (i := 5) (N := some 142) #[true, true, true, true, true, true, true, true, false, true, true, false, false] rfl rfl (by kernel_rfl) (by decide) (fun K hK => ?_)
                refine Kd.R_append_rows_step (Kd.int .i64) (w0 := w27) w27.heap.size (by rfl) (.tmp 137) (.tmp 141) 22 3 (.int .i64 0) 8 rfl Try.underlying22 info3 rfl (by decide) (by omega) (.slice A0' 0 c0') [] ((gaps l0).take l0.length) _ _ _ (fun _ => True) (fun _ => False) rfl rfl ho2 (Kd.C_below HT0.out hb7) (fun _ _ h => h) (fun _ h => h.elim) (fun _ _ => trivial) hb7 hb7.size (by have := H1.out; simp; omega) ?_
                intro v5 wc ho5 hb5 hg5 _
                refine hK.out _ _ trivial (fun _ => ?_)
                clear hK K
                have ho8 := Kd.R_grown ho7 hg5 (fun k hk e => by have := hlt k e.symm; omega)
                obtain ⟨A7, c7, e7, hl7, hC7⟩ := Kd.R_reads ho8
                refine norm_ ?_ (hCont ((.slice A0' 0 c0'), v5, v7) wc ⟨ho5, ⟨A7, c7, e7, hC7⟩, hb5⟩)
                show Act.put _ (some 142) _ = _
                simp only [putAll, Act.put, List.setIfInBounds_toArray, List.set_cons_zero, List.set_cons_succ, i64_w, i32_w]
            · refine Kd.R_lit_step (Kd.int .i64) (w0 := w27) w27.heap.size 3 (by rfl) (N := 144) rfl (xs := [J]) (inner := [.int .i64 J]) (ok := fun _ => True) (okp := fun _ => False) (by first | (go_simp; done) | (go_simp; rfl)) (Reps.one (show Kd.M (Kd.int .i64) _ _ _ J [.int .i64 J] from rfl) (Reps.none _ _)) (fun _ h => h.elim) trivial (Below.refl _ _) (Nat.le_refl _) (by simp) ?_
              intro v7 wa ho7 hb7 hg7 _
              refine hK.out _ _ trivial (fun _ => ?_)
              clear hK K
              have h7lt := Kd.R_lt ho7
              refine norm_ (a' := ?_) ?_ ?_
              rotate_left
              · show Act.put _ (some 144) _ = _
                simp only [Act.put, List.setIfInBounds_toArray, List.set_cons_zero, List.set_cons_succ, i64_w, i32_w]
                rfl
              refine one_ (i := 0) (N := some 137) #[true, true, true, true, true, false, true, true, false, true, true, false, false] rfl rfl (by kernel_rfl) (by decide) (fun K hK => ?_)
              refine Kd.R_lit_step (Kd.int .i64) (w0 := w27) w27.heap.size 3 (by rfl) (N := 137) rfl (xs := ([] : List Int)) (inner := []) (ok := fun _ => True) (okp := fun _ => True) (by first | (go_simp; done) | (go_simp; rfl)) (Reps.none _ _) (fun _ h => h) trivial hb7 hb7.size (by simp) ?_
              intro v0 wb ho hb hg hnew
              refine hK.out _ _ trivial (fun _ => ?_)
              clear hK K
              obtain ⟨A0', c0', e0⟩ := Kd.R_slice ho
              simp only [List.length_nil] at e0
              subst e0
              have ho72 := Kd.R_bound (Kd.R_mono ho7 (fun _ _ => trivial) : Kd.R (Kd.int .i64) 3 wa w27.heap.size (fun _ => True) v7 [J])
              have ho73 := Kd.R_grown ho72 hg (fun _ _ e => by cases e)
              refine norm_ (a' := ?_) ?_ ?_
              rotate_left
              · show Act.put _ (some 137) _ = _
                simp only [Act.put, List.setIfInBounds_toArray, List.set_cons_zero, List.set_cons_succ, i64_w, i32_w]
                rfl
              refine one_ (i := 5) (N := some 142) #[true, true, true, true, true, true, true, true, false, true, true, false, false] rfl rfl (by kernel_rfl) (by decide) (fun K hK => ?_)
              refine Kd.R_append_rows_step (Kd.int .i64) (w0 := w27) w27.heap.size (by rfl) (.tmp 137) (.tmp 141) 22 3 (.int .i64 0) 8 rfl Try.underlying22 info3 rfl (by decide) (by omega) (.slice A0' 0 c0') [] ((gaps l0).take l0.length) _ _ _ (fun _ => True) (fun _ => False) rfl rfl ho (Kd.C_below HT0.out hb) (fun _ _ h => h) (fun _ h => h.elim) (fun _ _ => trivial) hb hb.size (by have := H1.out; simp; omega) ?_
              intro v5 wc ho5 hb5 hg5 _
              refine hK.out _ _ trivial (fun _ => ?_)
              clear hK K
              have ho8 := Kd.R_grown ho73 hg5 (fun k hk e => by
                obtain ⟨b, hb1, hb2⟩ := hnew
                rw [hb1] at e
                have := hk.2.2.1
                cases e
                omega)
              obtain ⟨A7, c7, e7, hl7, hC7⟩ := Kd.R_reads ho8
              refine norm_ ?_ (hCont ((.slice A0' 0 c0'), v5, v7) wc ⟨ho5, ⟨A7, c7, e7, hC7⟩, hb5⟩)
              show Act.put _ (some 142) _ = _
              simp only [putAll, Act.put, List.setIfInBounds_toArray, List.set_cons_zero, List.set_cons_succ, i64_w, i32_w]
          · rintro ⟨v137, v142, v144⟩ wd ⟨hR5, ⟨A7, c7, e7, hC7⟩, hbd⟩
            dsimp only at e7 hR5
            subst e7
            obtain ⟨A5, c5, e5⟩ := Kd.R_slice hR5
            rw [HTL.out] at e5
            subst e5
            refine norm_ (a' := ?_) ?_ ?_
            rotate_left
            · show putAll _ _ = _
              simp only [putAll, Act.put, List.setIfInBounds_toArray, List.set_cons_zero, List.set_cons_succ, i64_w, i32_w]
              rfl
            refine one_ (i := 8) (N := some 145) #[true, true, true, true, true, true, true, true, true, true, true, false, false] rfl rfl (by kernel_rfl) (by decide) (fun K hK => ?_)
            refine Kd.R_append_rows_step (Kd.int .i64) (w0 := w27) w27.heap.size (by rfl) (.tmp 142) (.tmp 144) 22 3 (.int .i64 0) 8 rfl Try.underlying22 info3 rfl (by decide) (by omega) (.slice A5 l0.length c5) ((gaps l0).take l0.length) [J] _ _ _ (fun _ => True) (fun _ => False) rfl rfl hR5 hC7 (fun _ _ h => h) (fun _ h => h.elim) (fun _ _ => trivial) hbd hbd.size (by have := H1.out; simp [HTL.out]; omega) ?_
            intro v8 we ho8 hb8 hg8 _
            refine hK.out _ _ trivial (fun _ => ?_)
            clear hK K
            obtain ⟨A8, c8, e8⟩ := Kd.R_slice ho8
            simp only [List.length_append, HTL.out, List.length_cons, List.length_nil] at e8
            subst e8
            refine norm_ (a' := ?_) ?_ ?_
            rotate_left
            · show Act.put _ (some 145) _ = _
              simp only [Act.put, List.setIfInBounds_toArray, List.set_cons_zero, List.set_cons_succ, i64_w, i32_w]
              rfl
            refine one_ (i := 11) (N := some 148) #[true, true, true, true, true, true, true, true, true, true, true, true, false] rfl rfl (by kernel_rfl) (by decide) (fun K hK => ?_)
            refine Kd.R_append_rows_step (Kd.int .i64) (w0 := w27) w27.heap.size (by rfl) (.tmp 145) (.tmp 147) 22 3 (.int .i64 0) 8 rfl Try.underlying22 info3 rfl (by decide) (by omega) (.slice A8 (l0.length + 1) c8) ((gaps l0).take l0.length ++ [J]) ((gaps l1).drop 1) _ _ _ (fun _ => True) (fun _ => False) rfl rfl ho8 (Kd.C_below HT1.out hb8) (fun _ _ h => h) (fun _ h => h.elim) (fun _ _ => trivial) hb8 hb8.size (by have := H1.out; have := H2.out; have := HG1.out; simp [HTL.out]; omega) ?_
            intro v11 wf ho11 hb11 hg11 _
            refine hK.out _ _ trivial (fun _ => ?_)
            clear hK K
            rw [← HPE.out] at ho11
            obtain ⟨A11, c11, e11⟩ := Kd.R_slice ho11
            subst e11
            have HR11 := Aside0.mk ho11
            have HB11 := Aside0.mk hb11
            have HQ9 := Aside0.mk (Kd.C_below HQ8.out hb11)
            have HO9 := Aside0.mk (Kd.R_below HO8.out hb11)
            have HW9 := Aside0.mk (HW8.out.trans (hb11.mono HW8.out.size))
            clear hR5 hC7 hbd ho8 hb8 hg8 ho11 hb11 hg11
            refine norm_ (a' := ?_) ?_ ?_
            rotate_left
            · show Act.put _ (some 148) _ = _
              simp only [Act.put, List.setIfInBounds_toArray, List.set_cons_zero, List.set_cons_succ, i64_w, i32_w]
              rfl
            refine pure_ (i := 12) (N := some 20) (v := ?_) (a' := ?_) #[true, true, true, true, true, true, true, true, true, true, true, true, true] rfl rfl (by kernel_rfl) (fun _ _ _ h => h) (Or.inl ⟨by rfl, ?_⟩) ?_ ?_
            rotate_left
            · intro w'
              go_simp
              with_reducible rfl
            rotate_left
            · simp only [Act.put, List.setIfInBounds_toArray, List.set_cons_zero, List.set_cons_succ, i64_w, i32_w]
              rfl
            refine done_ (by kernel_rfl) ?_
            have HC11 := Aside0.mk (Kd.R_reads' HR11.out).2
            rw [HG2.out] at HR11 HQ9 HCQ HC11
            rw [HG2.out]
            obtain ⟨ks, hks⟩ := same_ev (gaps al) (by have := HG2.out; have := HLEN.out; have := H1.out; have := H2.out; omega)
            have hsame : ∀ (A B : Option Addr) (a b : Nat) (W : World), al.length + 1 ≤ a → al.length + 1 ≤ b → Kd.C (Kd.int .i64) W A (al.length + 1) (gaps al) → Kd.C (Kd.int .i64) W B (al.length + 1) (gaps al) → Calls Try.prog 14 #[.slice A (al.length + 1) a, .slice B (al.length + 1) b] W fun e w' => e = .returned (.bool true) ∧ Drawn0 W w' := fun A B a b W ha hb hA hB => by
              have := formeref18_SameInts.calls ks A a (gaps al) B b (gaps al) true W (by rw [HG2.out]; exact hA) (by rw [HG2.out]; exact ha) (by rw [HG2.out]; exact hB) (by rw [HG2.out]; exact hb) (hks ks (Nat.le_refl _))
              rwa [HG2.out] at this
            have hrh := Kd.R_reads' HO9.out
            have hbw : Calls Try.prog 12 #[.slice Ah (withH h al).length ch] wf fun e w' => ∃ (A : Option Addr) (c : Nat), e = .returned (.tuple #[.slice A (al.length + 1) c, .int .i64 0]) ∧ Aside0 (al.length + 1 ≤ c) ∧ Aside0 (Kd.C (Kd.int .i64) w' A (al.length + 1) (gaps al)) ∧ Below wf.heap.size wf w' := by
              refine (bet_calls (withH h al) (by simp [withH]; exact hl4) Ah ch wf hrh.2.2 hrh.2.1 (gaps al) 0 (by unfold betR; rw [if_pos HKW.out, gaps_withH])).mono ?_
              rintro e w' ⟨A, c, rfl, hl, hC, hb⟩
              rw [HG2.out] at hl hC ⊢
              exact ⟨A, c, rfl, ⟨hl⟩, ⟨hC⟩, hb⟩
            clear hrh hks
            have HC12 : Aside0 (Kd.C (Kd.int .i64) wf A11 (al.length + 1) (gaps al)) := ⟨HC11.out.2⟩
            have HCL : Aside0 (al.length + 1 ≤ c11) := ⟨HC11.out.1⟩
            clear HC11
            go_wp2_with (first | (go_at_call 12; (with_reducible refine hbw.mono ?_); rintro e w7 ⟨Aw, cw, rfl, HLW, HCW, hb⟩; have HB7 := Aside0.mk hb; clear hb) | (go_at_call 14; (with_reducible refine (hsame Aq A11 cq c11 _ HCQ.out HCL.out (Kd.C_below HQ9.out HB7.out) (Kd.C_below HC12.out HB7.out)).mono ?_); rintro e w8 ⟨rfl, hd⟩; have HB8 := Aside0.mk hd.below; clear hd) | (go_at_call 14; (with_reducible refine (hsame Aw A11 cw c11 _ HLW.out HCL.out (Kd.C_below HCW.out HB8.out) (Kd.C_below HC12.out (HB7.out.trans (HB8.out.mono HB7.out.size)))).mono ?_); rintro e w9 ⟨rfl, hd⟩; have HB9 := Aside0.mk hd.below; clear hd))
            go_ret
            exact ⟨by first | rfl | simp, ((HW9.out.trans (HB7.out.mono HW9.out.size)).trans (HB8.out.mono (HW9.out.trans (HB7.out.mono HW9.out.size)).size)).trans (HB9.out.mono (((HW9.out.trans (HB7.out.mono HW9.out.size)).trans (HB8.out.mono (HW9.out.trans (HB7.out.mono HW9.out.size)).size))).size)⟩
        · rw [if_pos k0] at b0
          rw [if_neg k1] at b1
          obtain ⟨rfl, rfl⟩ : gaps l0 = r0 ∧ 0 = s0 := by simpa using b0
          obtain ⟨rfl, rfl⟩ : [] = r1 ∧ 1 = s1 := by simpa using b1
          have hcz := hcz [] 1 (by unfold betR; rw [← HAL.out, if_neg (by rw [List.all_append, Bool.and_eq_true]; exact fun h => k1 h.2)])
          clear b0 b1 k0 k1
          go_wp2_with (first | (go_at_call 12; (with_reducible refine hcz.mono ?_); rintro e w6 ⟨Aq, cq, rfl, _, _, hb, _⟩; have HW6 := Aside0.mk hb; clear hb))
          go_ret
          exact ⟨rfl, HW6.out⟩
      · rw [if_neg k0] at b0
        obtain ⟨rfl, rfl⟩ : [] = r0 ∧ 1 = s0 := by simpa using b0
        have hcz := hcz [] 1 (by unfold betR; rw [← HAL.out, if_neg (by rw [List.all_append, Bool.and_eq_true]; exact fun h => k0 h.1)])
        by_cases k1 : l1.all okItem = true
        · rw [if_pos k1] at b1
          obtain ⟨rfl, rfl⟩ : gaps l1 = r1 ∧ 0 = s1 := by simpa using b1
          clear b0 b1 k0 k1
          go_wp2_with (first | (go_at_call 12; (with_reducible refine hcz.mono ?_); rintro e w6 ⟨Aq, cq, rfl, _, _, hb, _⟩; have HW6 := Aside0.mk hb; clear hb))
          go_ret
          exact ⟨rfl, HW6.out⟩
        · rw [if_neg k1] at b1
          obtain ⟨rfl, rfl⟩ : [] = r1 ∧ 1 = s1 := by simpa using b1
          clear b0 b1 k0 k1
          go_wp2_with (first | (go_at_call 12; (with_reducible refine hcz.mono ?_); rintro e w6 ⟨Aq, cq, rfl, _, _, hb, _⟩; have HW6 := Aside0.mk hb; clear hb))
          go_ret
          exact ⟨rfl, HW6.out⟩
end Go.Proofs.Ytphdjlfnlcapcaa.PureM
