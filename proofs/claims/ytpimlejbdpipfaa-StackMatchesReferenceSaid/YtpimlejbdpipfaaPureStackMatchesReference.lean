/- For any items, coordinates and heights, valid or not, all functions return what the reference implementation returns (up to 60 items, or more than 4000 empty ones). Conditions: those of the statement alone. -/
import Derived.Test.YtpimlejbdpipfaaHPures3
set_option linter.unusedVariables false
set_option linter.unusedSimpArgs false
namespace Go.Proofs.Ytpimlejbdpipfaa.Pure
open Go.RowKit Go.Proofs.Ytpimlejbdpipfaa.P Go.Proofs.YtpimlejbdpipfaaW.PrintWords Go.Proofs.YtpimlejbdpipfaaW.PrintLast Go.Proofs.YtpimlejbdpipfaaW.PrintMore

theorem plc_len (a : Int) (g : List Int) (l : List S39) : ∀ n, (plc a g l n).1.length ≤ n
  | 0 => by simp [plc]
  | n + 1 => by
    have IH := plc_len a g l n
    simp only [plc]
    repeat' split
    all_goals (first | omega | (simp; omega))
theorem same_place (a : Int) (l : List S39) (hl : l.length ≤ 60 ∨ l.length = 4001) : ∃ x : List Int × Int × Int, x.1.length ≤ 100000 ∧ stack_Place.f a l = some x ∧ Ev (fun k => formeref19_Place.f k a l) x := by
  rcases hl with hl | hl
  · refine ⟨sp a l, ?_, place_some a l (by omega), refPlace_ev a l (by omega)⟩
    have := plc_len a (gaps l) l l.length
    unfold sp
    repeat' split
    all_goals (first | (simp; done) | (simp only []; omega))
  · refine ⟨([], 0, 2), by simp, ?_, ?_⟩
    · unfold stack_Place.f margins_Between.f
      rw [if_pos (by omega)]
      rfl
    · refine Ev.bind (a := ([], 2)) (EvT.ifp (by omega) (EvT.now rfl)) (EvT.ifp rfl (EvT.now rfl))
theorem same_cut (h m : Int) : ∃ y : Int × Bool × Int, Ev (fun k => stack_Cut.f k h m) y ∧ Ev (fun k => formeref19_Cut.f k h m) y := by
  by_cases hb : 0 ≤ h ∧ h ≤ 1000000000 ∧ 0 ≤ m ∧ m ≤ 1000000000
  · obtain ⟨h0, h1, m0, m1⟩ := hb
    have e1 : ¬ mn h m < 0 := by unfold mn; split <;> omega
    have e2 : ¬ mx h m > 1000000000 := by unfold mx; split <;> omega
    refine ⟨if m > 0 ∧ h > m then (m, true, 0) else (h, false, 0), EvT.ifn e1 ?_, EvT.ifn (by omega) (EvT.ifn (by omega) (EvT.ifn (by omega) ?_))⟩
    · rw [decide_eq_false e2]
      refine EvT.lit (g := fun k c => stack_Cut.j0 k h m c) false (fun c hc => Ev.step (fun k => rfl) (EvT.ifn (by rw [hc]; decide) (EvT.ite (fun h2 => EvT.ite (fun h3 => ?_) (fun h3 => ?_)) (fun h2 => ?_))))
      · rw [if_pos ⟨h2, h3⟩]; exact Ev.now _
      · rw [if_neg (fun h => h3 h.2)]; exact Ev.now _
      · rw [if_neg (fun h => h2 h.1)]; exact Ev.now _
    · rw [decide_eq_false (show ¬ m > 1000000000 by omega)]
      refine EvT.lit (g := fun k c => formeref19_Cut.j0 k h m c) false (fun c hc => Ev.step (fun k => rfl) (EvT.ifn (by rw [hc]; decide) (EvT.ite (fun h2 => EvT.ite (fun h3 => ?_) (fun h3 => ?_)) (fun h2 => ?_))))
      · rw [if_pos ⟨h2, h3⟩]; exact Ev.now _
      · rw [if_neg (fun h => h3 h.2)]; exact Ev.now _
      · rw [if_neg (fun h => h2 h.1)]; exact Ev.now _
  · have t1 : Ev (fun k => stack_Cut.j0 k h m true) (0, false, 1) := Ev.step (fun k => rfl) (Ev.now _)
    have t2 : Ev (fun k => formeref19_Cut.j0 k h m true) (0, false, 1) := Ev.step (fun k => rfl) (Ev.now _)
    refine ⟨(0, false, 1), EvT.ite (fun _ => t1) (fun h2 => ?_), EvT.ite (fun _ => t2) (fun h2 => EvT.ite (fun _ => t2) (fun h3 => EvT.ite (fun _ => t2) (fun h4 => ?_)))⟩
    · rw [decide_eq_true (show mx h m > 1000000000 by unfold mn at h2; unfold mx; split at h2 <;> split <;> omega)]
      exact t1
    · rw [decide_eq_true (show m > 1000000000 by omega)]
      exact t2
theorem same_height (l : List S39) (hl : l.length ≤ 60 ∨ l.length = 4001) : ∃ x : Int × Int, stack_Height.f l = some x ∧ Ev (fun k => formeref19_Height.f k l) x := by
  obtain ⟨x, _, h1, h2⟩ := same_place 0 l hl
  refine ⟨(mx x.2.1 0, x.2.2), ?_, Ev.bind h2 (EvT.now rfl)⟩
  unfold stack_Height.f
  rw [h1]
  rfl
/-- All that the law compares, in one round number. -/
theorem all_same (a : Int) (l : List S39) (hl : l.length ≤ 60 ∨ l.length = 4001) (h m : Int) : ∃ (k : Nat) (x : List Int × Int × Int) (y : Int × Int) (z : Int × Bool × Int),
    formelaw19_head.f k = some true ∧ stack_Place.f a l = some x ∧ formeref19_Place.f k a l = some x ∧ formeref18_SameInts.f k x.1 x.1 = some true ∧ stack_Height.f l = some y ∧ formeref19_Height.f k l = some y ∧ stack_Cut.f k h m = some z ∧ formeref19_Cut.f k h m = some z := by
  obtain ⟨x, hx, h1, k2, h2⟩ := same_place a l hl
  obtain ⟨y, h3, k4, h4⟩ := same_height l hl
  obtain ⟨z, ⟨k5, h5⟩, k6, h6⟩ := same_cut h m
  obtain ⟨k7, h7⟩ := same_ev x.1 (by omega)
  obtain ⟨k8, h8⟩ := head_ev
  exact ⟨k2 + k4 + k5 + k6 + k7 + k8, x, y, z, h8 _ (by omega), h1, h2 _ (by omega), h7 _ (by omega), h3, h4 _ (by omega), h5 _ (by omega), h6 _ (by omega)⟩
end Go.Proofs.Ytpimlejbdpipfaa.Pure
namespace Go.Proofs.Ytpimlejbdpipfaa.P
open Go.RowKit Go.Proofs.YtpimlejbdpipfaaW.PrintWords Go.Proofs.YtpimlejbdpipfaaW.PrintLast Go.Proofs.YtpimlejbdpipfaaW.PrintMore Go.Proofs.Ytpimlejbdpipfaa.Pure
attribute [local go_sem] Oper.semAt_some
set_option maxRecDepth 100000 in
set_option maxHeartbeats 4000000 in
theorem formelaw19_StackMatchesReference.walk (a0 : Int) (a1 : Option Addr) (len1 cap1 : Nat) (z1 : List (S39)) (a2 a3 : Int) (a4 : Bool) (w : World) (w0 : (Lit.int .i64 a0).wf = true) (w1 : Kd.C k39 w a1 len1 z1 ∧ len1 ≤ cap1 ∧ len1 ≤ maxLen ∧ ∀ x ∈ z1, (Lit.int .i64 x.f0).wf = true ∧ (Lit.int .i64 x.f1).wf = true ∧ (Lit.int .i64 x.f2).wf = true) (y1 : len1 * 24 ≤ 140737488351232) (w2 : (Lit.int .i64 a2).wf = true) (w3 : (Lit.int .i64 a3).wf = true) :
    Calls Try.prog 3 #[.int .i64 a0, .slice a1 len1 cap1, .int .i64 a2, .int .i64 a3, .bool a4] w fun e w' => e = .returned (.bool true) ∧ Below w.heap.size w w' := by
  obtain ⟨hr, hc, hm, hww⟩ := w1
  obtain rfl : len1 = z1.length := hr.1.symm
  obtain ⟨L, hLz⟩ : ∃ L, L = z1 := ⟨_, rfl⟩
  subst hLz
  have HC := Aside0.mk hr
  have HCC := Aside0.mk hc
  clear hr hc hm hww y1 w0 w2 w3
  by_cases h60 : L.length ≤ 60
  · have d60 : decide ((L.length : Int) > 60) = false := by simp; omega
    cases a4 with
    | false =>
    have hL : L.length ≤ 60 ∨ L.length = 4001 := .inl h60
    obtain ⟨k, ⟨xl, xe, xr⟩, ⟨y1, y2⟩, ⟨z1, z2, z3⟩, e0, e1, e2, e3, e4, e5, e6, e7⟩ := all_same a0 L hL a2 a3
    have E0 := Aside0.mk e0
    have E1 := Aside0.mk e1
    have E2 := Aside0.mk e2
    have E3 := Aside0.mk e3
    have E4 := Aside0.mk e4
    have E5 := Aside0.mk e5
    have E6 := Aside0.mk e6
    have E7 := Aside0.mk e7
    have q1 : (xe == xe) = true := by simp
    have q2 : (xr == xr) = true := by simp
    have q3 : (y1 == y1) = true := by simp
    have q4 : (y2 == y2) = true := by simp
    have q5 : (z1 == z1) = true := by simp
    have q6 : (z2 == z2) = true := by simp
    have q7 : (z3 == z3) = true := by simp
    clear e0 e1 e2 e3 e4 e5 e6 e7
    clear hL h60
    go_enter Try.func3, Try.ntmps3
    go_wp2_with (first
      | (go_at_call 9; with_reducible refine (formelaw19_head.calls k true _ E0.out).mono ?_; rintro e w1 ⟨rfl, hb⟩; have HBC := Aside0.mk hb; clear hb)
      | (go_at_call 10; with_reducible refine (stack_Place.calls a0 _ _ L xl xe xr _ (Kd.C_below HC.out HBC.out) HCC.out E1.out).mono ?_; rintro e w2 ⟨v2, rfl, ho2, hb⟩; have HO2 := Aside0.mk ho2; have HB2 := Aside0.mk hb; have HBC2 := Aside0.mk (HBC.out.trans (hb.mono HBC.out.size)); clear hb ho2 HBC; obtain ⟨A2, c2, e2⟩ := Kd.R_slice HO2.out; subst e2)
      | (go_at_call 11; with_reducible refine (formeref19_Place.calls k a0 _ _ L xl xe xr _ (Kd.C_below HC.out HBC2.out) HCC.out E2.out).mono ?_; rintro e w3 ⟨v3, rfl, ho3, hb⟩; have HO3 := Aside0.mk ho3; have HB3 := Aside0.mk hb; have HBC3 := Aside0.mk (HBC2.out.trans (hb.mono HBC2.out.size)); clear hb ho3 HBC2; obtain ⟨A3, c3, e3⟩ := Kd.R_slice HO3.out; subst e3)
      | (go_at_call 12; with_reducible refine (formeref18_SameInts.calls k _ _ xl _ _ xl true _ (Kd.C_below (Kd.R_reads' HO2.out).2.2 HB3.out) (Kd.R_reads' HO2.out).2.1 (Kd.R_reads' HO3.out).2.2 (Kd.R_reads' HO3.out).2.1 E3.out).mono ?_; rintro e w4 ⟨rfl, hd⟩; have HBC4 := Aside0.mk (HBC3.out.trans (hd.below.mono HBC3.out.size)); clear hd HBC3 HO2 HO3 HB2 HB3)
      | (go_at_call 13; with_reducible refine (stack_Height.calls _ _ L y1 y2 _ (Kd.C_below HC.out HBC4.out) HCC.out E4.out).mono ?_; rintro e w5 ⟨rfl, hb⟩; have HBC5 := Aside0.mk (HBC4.out.trans (hb.mono HBC4.out.size)); clear hb HBC4)
      | (go_at_call 14; with_reducible refine (formeref19_Height.calls k _ _ L y1 y2 _ (Kd.C_below HC.out HBC5.out) HCC.out E5.out).mono ?_; rintro e w6 ⟨rfl, hb⟩; have HBC6 := Aside0.mk (HBC5.out.trans (hb.mono HBC5.out.size)); clear hb HBC5)
      | (go_at_call 15; with_reducible refine (stack_Cut.calls k _ _ z1 z2 z3 _ E6.out).mono ?_; rintro e w7 ⟨rfl, hb⟩; have HBC7 := Aside0.mk (HBC6.out.trans (hb.mono HBC6.out.size)); clear hb HBC6)
      | (go_at_call 16; with_reducible refine (formeref19_Cut.calls k _ _ z1 z2 z3 _ E7.out).mono ?_; rintro e w8 ⟨rfl, hd⟩; have HBC8 := Aside0.mk (HBC7.out.trans (hd.below.mono HBC7.out.size)); clear hd HBC7))
    go_ret
    exact ⟨rfl, HBC8.out⟩
    | true =>
    obtain ⟨L0, hL0⟩ : ∃ L0 : List S39, L0 = L := ⟨_, rfl⟩
    rw [← hL0] at d60
    rw [← hL0]
    clear HC HCC h60 hL0 L
    obtain ⟨L, hLr⟩ : ∃ L : List S39, List.replicate (4001 : Int).toNat (⟨0, 0, 0⟩ : S39) = L := ⟨_, rfl⟩
    have hLn : L.length = 4001 := by rw [← hLr]; simp
    have hL : L.length ≤ 60 ∨ L.length = 4001 := .inr hLn
    obtain ⟨k, ⟨xl, xe, xr⟩, ⟨y1, y2⟩, ⟨z1, z2, z3⟩, e0, e1, e2, e3, e4, e5, e6, e7⟩ := all_same a0 L hL a2 a3
    have E0 := Aside0.mk e0
    have E1 := Aside0.mk e1
    have E2 := Aside0.mk e2
    have E3 := Aside0.mk e3
    have E4 := Aside0.mk e4
    have E5 := Aside0.mk e5
    have E6 := Aside0.mk e6
    have E7 := Aside0.mk e7
    have q1 : (xe == xe) = true := by simp
    have q2 : (xr == xr) = true := by simp
    have q3 : (y1 == y1) = true := by simp
    have q4 : (y2 == y2) = true := by simp
    have q5 : (z1 == z1) = true := by simp
    have q6 : (z2 == z2) = true := by simp
    have q7 : (z3 == z3) = true := by simp
    clear e0 e1 e2 e3 e4 e5 e6 e7
    clear hL hLn
    go_enter Try.func3, Try.ntmps3
    go_wp2_with (first
      | (go_at_call 9; with_reducible refine (formelaw19_head.calls k true _ E0.out).mono ?_; rintro e w1 ⟨rfl, hb⟩; have HB1 := Aside0.mk hb; clear hb)
      | ((with_reducible refine gate_dst (N := 26) rfl ?_); refine Kd.R_make k39 _ 39 rfl (N := 26) rfl 22 _ _ rfl (4001 : Int) rfl rfl Try.underlying22 (.agg #[.int .i64 0, .int .i64 0, .int .i64 0]) 24 info39 rfl (by decide) (by omega) (⟨0, 0, 0⟩ : S39) (ok := fun _ => True) (okp := fun _ => True) (k39_mkM _ _ _ _) (fun _ hk => hk) trivial (by omega) (by decide) (Below.refl _ _) (Nat.le_refl _) ?_; intro v1 wm ho hb hg _; rw [hLr] at ho; have HO := Aside0.mk ho; have HBM := Aside0.mk hb; have HSZ : Aside0 (w.heap.size ≤ wm.heap.size) := ⟨Nat.le_trans HB1.out.size hb.size⟩; clear ho hb hg; obtain ⟨A1, c1, e1⟩ := Kd.R_slice HO.out; subst e1; have HC := Aside0.mk (Kd.R_reads' HO.out).2.2; have HCC := Aside0.mk (Kd.R_reads' HO.out).2.1; have HBC := Aside0.mk (Below.refl wm.heap.size wm); clear HO)
      | (go_at_call 10; with_reducible refine (stack_Place.calls a0 _ _ L xl xe xr _ (Kd.C_below HC.out HBC.out) HCC.out E1.out).mono ?_; rintro e w2 ⟨v2, rfl, ho2, hb⟩; have HO2 := Aside0.mk ho2; have HB2 := Aside0.mk hb; have HBC2 := Aside0.mk (HBC.out.trans (hb.mono HBC.out.size)); clear hb ho2 HBC; obtain ⟨A2, c2, e2⟩ := Kd.R_slice HO2.out; subst e2)
      | (go_at_call 11; with_reducible refine (formeref19_Place.calls k a0 _ _ L xl xe xr _ (Kd.C_below HC.out HBC2.out) HCC.out E2.out).mono ?_; rintro e w3 ⟨v3, rfl, ho3, hb⟩; have HO3 := Aside0.mk ho3; have HB3 := Aside0.mk hb; have HBC3 := Aside0.mk (HBC2.out.trans (hb.mono HBC2.out.size)); clear hb ho3 HBC2; obtain ⟨A3, c3, e3⟩ := Kd.R_slice HO3.out; subst e3)
      | (go_at_call 12; with_reducible refine (formeref18_SameInts.calls k _ _ xl _ _ xl true _ (Kd.C_below (Kd.R_reads' HO2.out).2.2 HB3.out) (Kd.R_reads' HO2.out).2.1 (Kd.R_reads' HO3.out).2.2 (Kd.R_reads' HO3.out).2.1 E3.out).mono ?_; rintro e w4 ⟨rfl, hd⟩; have HBC4 := Aside0.mk (HBC3.out.trans (hd.below.mono HBC3.out.size)); clear hd HBC3 HO2 HO3 HB2 HB3)
      | (go_at_call 13; with_reducible refine (stack_Height.calls _ _ L y1 y2 _ (Kd.C_below HC.out HBC4.out) HCC.out E4.out).mono ?_; rintro e w5 ⟨rfl, hb⟩; have HBC5 := Aside0.mk (HBC4.out.trans (hb.mono HBC4.out.size)); clear hb HBC4)
      | (go_at_call 14; with_reducible refine (formeref19_Height.calls k _ _ L y1 y2 _ (Kd.C_below HC.out HBC5.out) HCC.out E5.out).mono ?_; rintro e w6 ⟨rfl, hb⟩; have HBC6 := Aside0.mk (HBC5.out.trans (hb.mono HBC5.out.size)); clear hb HBC5)
      | (go_at_call 15; with_reducible refine (stack_Cut.calls k _ _ z1 z2 z3 _ E6.out).mono ?_; rintro e w7 ⟨rfl, hb⟩; have HBC7 := Aside0.mk (HBC6.out.trans (hb.mono HBC6.out.size)); clear hb HBC6)
      | (go_at_call 16; with_reducible refine (formeref19_Cut.calls k _ _ z1 z2 z3 _ E7.out).mono ?_; rintro e w8 ⟨rfl, hd⟩; have HBC8 := Aside0.mk (HBC7.out.trans (hd.below.mono HBC7.out.size)); clear hd HBC7))
    go_ret
    exact ⟨rfl, (HB1.out.trans (HBM.out.mono HB1.out.size)).trans (HBC8.out.mono HSZ.out)⟩
  · have d60 : decide ((L.length : Int) > 60) = true := by simp; omega
    obtain ⟨k, e0⟩ := Ev.rounds head_ev
    have E0 := Aside0.mk e0
    clear e0 h60
    go_enter Try.func3, Try.ntmps3
    go_wp2_with (first
      | (go_at_call 9; with_reducible refine (formelaw19_head.calls k true _ E0.out).mono ?_; rintro e w1 ⟨rfl, hb⟩; have HBC := Aside0.mk hb; clear hb))
    go_ret
    exact ⟨rfl, HBC.out⟩
end Go.Proofs.Ytpimlejbdpipfaa.P
