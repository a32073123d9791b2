import Derived.Test.YtaclpkcoaifjfaaHPosE
set_option linter.unusedVariables false
set_option linter.unusedSimpArgs false
namespace Go.Proofs.Ytaclpkcoaifjfaa.P
open Go.RowKit Go.Proofs.YtaclpkcoaifjfaaW.PrintWords Go.Proofs.YtaclpkcoaifjfaaW.PrintLast Go.Proofs.YtaclpkcoaifjfaaW.PrintMore
attribute [local go_sem] Oper.semAt_some
def stickOk (y h fr un tp sc : Int) : Bool := (lenP y && lenP h && lenP fr && lenP un && lenP tp && lenP sc) && (!decide (y < fr) && !decide (y + h > un))
def StickP (y h fr un tp sc : Int) : Int × Int := if stickOk y h fr un tp sc = true then (mn (mx y (sc + tp)) (un - h), 0) else (0, 1)
theorem u49 : Try.prog.underlying 49 = some (.array 6 3) := by kernel_rfl
theorem ix_run (a b c d e f : Int) (k : Nat) (x : Int) (hk : k < 6) (hx : (#[Value.int .i64 a, .int .i64 b, .int .i64 c, .int .i64 d, .int .i64 e, .int .i64 f] : Array Value)[k]? = some (.int .i64 x)) (w : World) :
    (Instr.index 49 (.agg #[.int .i64 a, .int .i64 b, .int .i64 c, .int .i64 d, .int .i64 e, .int .i64 f]) (.int .i64 (k : Int))).run Try.prog w = .ok (.int .i64 x) w := by
  have h1 : (k : Int) < 6 := by omega
  have ha : (isAgg 3).run Try.prog w = .ok false w := by simp [isAgg, run_underlying Try.underlying3, Result.andThen]
  simp only [Instr.index, asIntOf, Sem.run_bind, Sem.run_pure, run_underlying u49, Result.andThen]
  rw [if_pos ⟨by omega, h1⟩]
  simp [part, ha, Result.andThen]
  have hx2 : ([.int .i64 a, .int .i64 b, .int .i64 c, .int .i64 d, .int .i64 e, .int .i64 f] : List Value)[k]? = some (.int .i64 x) := by simpa using hx
  rw [hx2]
  rfl
theorem lenP_bd {n : Int} (h : lenP n = true) : 0 ≤ n ∧ n ≤ 1000000000 := by simpa [lenP] using h
set_option maxRecDepth 100000 in
set_option maxHeartbeats 8000000 in
theorem Stick_calls (y h fr un tp sc : Int) (w : World) : Calls Try.prog 16 #[.int .i64 y, .int .i64 h, .int .i64 fr, .int .i64 un, .int .i64 tp, .int .i64 sc] w fun e w' => e = .returned (.tuple #[.int .i64 (StickP y h fr un tp sc).1, .int .i64 (StickP y h fr un tp sc).2]) ∧ Below w.heap.size w w' := by
  obtain ⟨l, hl⟩ : ∃ l : List Int, l = [y, h, fr, un, tp, sc] := ⟨_, rfl⟩
  have bad : ∀ i, i < 6 → lenP (l.getD i 0) = false → StickP y h fr un tp sc = (0, 1) := fun i hi hb => by
    have : stickOk y h fr un tp sc = false := by
      subst hl
      unfold stickOk
      match i, hi with
      | 0, _ => simp at hb; simp [hb]
      | 1, _ => simp at hb; simp [hb]
      | 2, _ => simp at hb; simp [hb]
      | 3, _ => simp at hb; simp [hb]
      | 4, _ => simp at hb; simp [hb]
      | 5, _ => simp at hb; simp [hb]
    simp [StickP, this]
  have BAD := Aside0.mk bad
  have HL := Aside0.mk hl
  clear bad hl
  go_enter Try.func16, Try.ntmps16
  go_wp2
  go_loopg [23] 6 (fun kq v23 w' => ∃ j : Nat, v23 = .int .i64 (j : Int) ∧ Aside0 (kq + j = 6) ∧ Aside0 (∀ i, i < j → lenP (l.getD i 0) = true) ∧ Aside0 (Below w.heap.size w w'))
  case atStart => exact ⟨0, rfl, ⟨rfl⟩, ⟨fun i hi => by omega⟩, ⟨Below.refl _ _⟩⟩
  case round =>
    obtain ⟨j, rfl, HK, HA, HB⟩ := hrel
    cases gk with
    | zero =>
      obtain rfl : j = 6 := by have := HK.out; omega
      have hall : ∀ i, i < 6 → lenP (l.getD i 0) = true := HA.out
      rw [HL.out] at hall
      have l0 := hall 0 (by omega)
      have l1 := hall 1 (by omega)
      have l2 := hall 2 (by omega)
      have l3 := hall 3 (by omega)
      have l4 := hall 4 (by omega)
      have l5 := hall 5 (by omega)
      simp at l0 l1 l2 l3 l4 l5
      have hst : stickOk y h fr un tp sc = (!decide (y < fr) && !decide (y + h > un)) := by simp [stickOk, l0, l1, l2, l3, l4, l5]
      have b0 := lenP_bd l0
      have b1 := lenP_bd l1
      have b2 := lenP_bd l2
      have b3 := lenP_bd l3
      have b4 := lenP_bd l4
      have b5 := lenP_bd l5
      have s1 : wrap64 (y + h) = y + h := by unfold wrap64; omega
      have s2 : wrap64 (sc + tp) = sc + tp := by unfold wrap64; omega
      have s3 : wrap64 (un - h) = un - h := by unfold wrap64; omega
      have HST := Aside0.mk hst
      clear hall l0 l1 l2 l3 l4 l5 b0 b1 b2 b3 b4 b5 hst
      cases d1 : decide (y < fr)
      · cases d2 : decide (y + h > un)
        · obtain ⟨M, hM⟩ : ∃ M, mx y (sc + tp) = M := ⟨_, rfl⟩
          have hM_ : (if y < sc + tp then sc + tp else y) = M := hM
          obtain ⟨R, hR⟩ : ∃ R, mn M (un - h) = R := ⟨_, rfl⟩
          have hR_ : (if un - h < M then un - h else M) = R := hR
          have hres : StickP y h fr un tp sc = (R, 0) := by simp [StickP, HST.out, d1, d2, hM, hR]
          have HRES := Aside0.mk hres
          clear hM hR hres
          go_wp2
          refine bodyPost_ret (results_tmp2 rfl _ _ _) rfl ?_
          exact ⟨by first | (rw [HRES.out]; done) | (rw [HRES.out]; rfl), HB.out⟩
        · have hres : StickP y h fr un tp sc = (0, 1) := by simp [StickP, HST.out, d1, d2]
          have HRES := Aside0.mk hres
          clear hres
          go_wp2
          refine bodyPost_ret (results_tmp2 rfl _ _ _) rfl ?_
          exact ⟨by first | (rw [HRES.out]; done) | (rw [HRES.out]; rfl), HB.out⟩
      · have hres : StickP y h fr un tp sc = (0, 1) := by simp [StickP, HST.out, d1]
        have HRES := Aside0.mk hres
        clear hres
        go_wp2
        refine bodyPost_ret (results_tmp2 rfl _ _ _) rfl ?_
        exact ⟨by first | (rw [HRES.out]; done) | (rw [HRES.out]; rfl), HB.out⟩
    | succ k1 =>
      have hj : j = 0 ∨ j = 1 ∨ j = 2 ∨ j = 3 ∨ j = 4 ∨ j = 5 := by have := HK.out; omega
      rcases hj with rfl | rfl | rfl | rfl | rfl | rfl
      · have hx : l.getD 0 0 = y := by rw [HL.out]; rfl
        have HX := Aside0.mk hx
        clear hx
        have hix : ∀ w, (Instr.index 49 (.agg #[.int .i64 y, .int .i64 h, .int .i64 fr, .int .i64 un, .int .i64 tp, .int .i64 sc]) (.int .i64 0)).run Try.prog w = .ok (.int .i64 y) w := fun w => ix_run y h fr un tp sc 0 y (by omega) rfl w
        cases hb : lenP y
        · have hres := BAD.out 0 (by omega) (by rw [HX.out, hb])
          have HRES := Aside0.mk hres
          have HC := Aside0.mk (fun w => lenC y _ hb w)
          clear hres hb
          go_wp2_with (first | (go_at_call 21; with_reducible refine (HC.out _).mono ?_; rintro e wc ⟨rfl, hd⟩; have HB := Aside0.mk (HB.out.trans (hd.below.mono HB.out.size)); clear hd))
          refine bodyPost_ret (results_tmp2 rfl _ _ _) rfl ?_
          exact ⟨by first | (rw [HRES.out]; done) | (rw [HRES.out]; rfl), HB.out⟩
        · have HC := Aside0.mk (fun w => lenC y _ hb w)
          have HBB := Aside0.mk hb
          clear hb
          go_wp2_with (first | (go_at_call 21; with_reducible refine (HC.out _).mono ?_; rintro e wc ⟨rfl, hd⟩; have HB := Aside0.mk (HB.out.trans (hd.below.mono HB.out.size)); clear hd))
          go_roundg k1
          case measure => omega
          case rel =>
            refine ⟨1, by first | rfl | simp, ⟨by have := HK.out; omega⟩, ⟨fun i hi => ?_⟩, HB⟩
            by_cases e : i = 0
            · subst e; rw [HX.out]; exact HBB.out
            · exact HA.out i (by omega)
      · have hx : l.getD 1 0 = h := by rw [HL.out]; rfl
        have HX := Aside0.mk hx
        clear hx
        have hix : ∀ w, (Instr.index 49 (.agg #[.int .i64 y, .int .i64 h, .int .i64 fr, .int .i64 un, .int .i64 tp, .int .i64 sc]) (.int .i64 1)).run Try.prog w = .ok (.int .i64 h) w := fun w => ix_run y h fr un tp sc 1 h (by omega) rfl w
        cases hb : lenP h
        · have hres := BAD.out 1 (by omega) (by rw [HX.out, hb])
          have HRES := Aside0.mk hres
          have HC := Aside0.mk (fun w => lenC h _ hb w)
          clear hres hb
          go_wp2_with (first | (go_at_call 21; with_reducible refine (HC.out _).mono ?_; rintro e wc ⟨rfl, hd⟩; have HB := Aside0.mk (HB.out.trans (hd.below.mono HB.out.size)); clear hd))
          refine bodyPost_ret (results_tmp2 rfl _ _ _) rfl ?_
          exact ⟨by first | (rw [HRES.out]; done) | (rw [HRES.out]; rfl), HB.out⟩
        · have HC := Aside0.mk (fun w => lenC h _ hb w)
          have HBB := Aside0.mk hb
          clear hb
          go_wp2_with (first | (go_at_call 21; with_reducible refine (HC.out _).mono ?_; rintro e wc ⟨rfl, hd⟩; have HB := Aside0.mk (HB.out.trans (hd.below.mono HB.out.size)); clear hd))
          go_roundg k1
          case measure => omega
          case rel =>
            refine ⟨2, by first | rfl | simp, ⟨by have := HK.out; omega⟩, ⟨fun i hi => ?_⟩, HB⟩
            by_cases e : i = 1
            · subst e; rw [HX.out]; exact HBB.out
            · exact HA.out i (by omega)
      · have hx : l.getD 2 0 = fr := by rw [HL.out]; rfl
        have HX := Aside0.mk hx
        clear hx
        have hix : ∀ w, (Instr.index 49 (.agg #[.int .i64 y, .int .i64 h, .int .i64 fr, .int .i64 un, .int .i64 tp, .int .i64 sc]) (.int .i64 2)).run Try.prog w = .ok (.int .i64 fr) w := fun w => ix_run y h fr un tp sc 2 fr (by omega) rfl w
        cases hb : lenP fr
        · have hres := BAD.out 2 (by omega) (by rw [HX.out, hb])
          have HRES := Aside0.mk hres
          have HC := Aside0.mk (fun w => lenC fr _ hb w)
          clear hres hb
          go_wp2_with (first | (go_at_call 21; with_reducible refine (HC.out _).mono ?_; rintro e wc ⟨rfl, hd⟩; have HB := Aside0.mk (HB.out.trans (hd.below.mono HB.out.size)); clear hd))
          refine bodyPost_ret (results_tmp2 rfl _ _ _) rfl ?_
          exact ⟨by first | (rw [HRES.out]; done) | (rw [HRES.out]; rfl), HB.out⟩
        · have HC := Aside0.mk (fun w => lenC fr _ hb w)
          have HBB := Aside0.mk hb
          clear hb
          go_wp2_with (first | (go_at_call 21; with_reducible refine (HC.out _).mono ?_; rintro e wc ⟨rfl, hd⟩; have HB := Aside0.mk (HB.out.trans (hd.below.mono HB.out.size)); clear hd))
          go_roundg k1
          case measure => omega
          case rel =>
            refine ⟨3, by first | rfl | simp, ⟨by have := HK.out; omega⟩, ⟨fun i hi => ?_⟩, HB⟩
            by_cases e : i = 2
            · subst e; rw [HX.out]; exact HBB.out
            · exact HA.out i (by omega)
      · have hx : l.getD 3 0 = un := by rw [HL.out]; rfl
        have HX := Aside0.mk hx
        clear hx
        have hix : ∀ w, (Instr.index 49 (.agg #[.int .i64 y, .int .i64 h, .int .i64 fr, .int .i64 un, .int .i64 tp, .int .i64 sc]) (.int .i64 3)).run Try.prog w = .ok (.int .i64 un) w := fun w => ix_run y h fr un tp sc 3 un (by omega) rfl w
        cases hb : lenP un
        · have hres := BAD.out 3 (by omega) (by rw [HX.out, hb])
          have HRES := Aside0.mk hres
          have HC := Aside0.mk (fun w => lenC un _ hb w)
          clear hres hb
          go_wp2_with (first | (go_at_call 21; with_reducible refine (HC.out _).mono ?_; rintro e wc ⟨rfl, hd⟩; have HB := Aside0.mk (HB.out.trans (hd.below.mono HB.out.size)); clear hd))
          refine bodyPost_ret (results_tmp2 rfl _ _ _) rfl ?_
          exact ⟨by first | (rw [HRES.out]; done) | (rw [HRES.out]; rfl), HB.out⟩
        · have HC := Aside0.mk (fun w => lenC un _ hb w)
          have HBB := Aside0.mk hb
          clear hb
          go_wp2_with (first | (go_at_call 21; with_reducible refine (HC.out _).mono ?_; rintro e wc ⟨rfl, hd⟩; have HB := Aside0.mk (HB.out.trans (hd.below.mono HB.out.size)); clear hd))
          go_roundg k1
          case measure => omega
          case rel =>
            refine ⟨4, by first | rfl | simp, ⟨by have := HK.out; omega⟩, ⟨fun i hi => ?_⟩, HB⟩
            by_cases e : i = 3
            · subst e; rw [HX.out]; exact HBB.out
            · exact HA.out i (by omega)
      · have hx : l.getD 4 0 = tp := by rw [HL.out]; rfl
        have HX := Aside0.mk hx
        clear hx
        have hix : ∀ w, (Instr.index 49 (.agg #[.int .i64 y, .int .i64 h, .int .i64 fr, .int .i64 un, .int .i64 tp, .int .i64 sc]) (.int .i64 4)).run Try.prog w = .ok (.int .i64 tp) w := fun w => ix_run y h fr un tp sc 4 tp (by omega) rfl w
        cases hb : lenP tp
        · have hres := BAD.out 4 (by omega) (by rw [HX.out, hb])
          have HRES := Aside0.mk hres
          have HC := Aside0.mk (fun w => lenC tp _ hb w)
          clear hres hb
          go_wp2_with (first | (go_at_call 21; with_reducible refine (HC.out _).mono ?_; rintro e wc ⟨rfl, hd⟩; have HB := Aside0.mk (HB.out.trans (hd.below.mono HB.out.size)); clear hd))
          refine bodyPost_ret (results_tmp2 rfl _ _ _) rfl ?_
          exact ⟨by first | (rw [HRES.out]; done) | (rw [HRES.out]; rfl), HB.out⟩
        · have HC := Aside0.mk (fun w => lenC tp _ hb w)
          have HBB := Aside0.mk hb
          clear hb
          go_wp2_with (first | (go_at_call 21; with_reducible refine (HC.out _).mono ?_; rintro e wc ⟨rfl, hd⟩; have HB := Aside0.mk (HB.out.trans (hd.below.mono HB.out.size)); clear hd))
          go_roundg k1
          case measure => omega
          case rel =>
            refine ⟨5, by first | rfl | simp, ⟨by have := HK.out; omega⟩, ⟨fun i hi => ?_⟩, HB⟩
            by_cases e : i = 4
            · subst e; rw [HX.out]; exact HBB.out
            · exact HA.out i (by omega)
      · have hx : l.getD 5 0 = sc := by rw [HL.out]; rfl
        have HX := Aside0.mk hx
        clear hx
        have hix : ∀ w, (Instr.index 49 (.agg #[.int .i64 y, .int .i64 h, .int .i64 fr, .int .i64 un, .int .i64 tp, .int .i64 sc]) (.int .i64 5)).run Try.prog w = .ok (.int .i64 sc) w := fun w => ix_run y h fr un tp sc 5 sc (by omega) rfl w
        cases hb : lenP sc
        · have hres := BAD.out 5 (by omega) (by rw [HX.out, hb])
          have HRES := Aside0.mk hres
          have HC := Aside0.mk (fun w => lenC sc _ hb w)
          clear hres hb
          go_wp2_with (first | (go_at_call 21; with_reducible refine (HC.out _).mono ?_; rintro e wc ⟨rfl, hd⟩; have HB := Aside0.mk (HB.out.trans (hd.below.mono HB.out.size)); clear hd))
          refine bodyPost_ret (results_tmp2 rfl _ _ _) rfl ?_
          exact ⟨by first | (rw [HRES.out]; done) | (rw [HRES.out]; rfl), HB.out⟩
        · have HC := Aside0.mk (fun w => lenC sc _ hb w)
          have HBB := Aside0.mk hb
          clear hb
          go_wp2_with (first | (go_at_call 21; with_reducible refine (HC.out _).mono ?_; rintro e wc ⟨rfl, hd⟩; have HB := Aside0.mk (HB.out.trans (hd.below.mono HB.out.size)); clear hd))
          go_roundg k1
          case measure => omega
          case rel =>
            refine ⟨6, by first | rfl | simp, ⟨by have := HK.out; omega⟩, ⟨fun i hi => ?_⟩, HB⟩
            by_cases e : i = 5
            · subst e; rw [HX.out]; exact HBB.out
            · exact HA.out i (by omega)
end Go.Proofs.Ytaclpkcoaifjfaa.P
