import Derived.Test.YtpggngomdemdgaaHFrame
import Derived.Test.YtpggngomdemdgaaHGet
import Derived.WalkLawsBesides
import Derived.IntWalk
set_option linter.unusedVariables false
set_option linter.unusedSimpArgs false
namespace Go.Proofs.Ytpggngomdemdgaa.P
open Go.RowKit Go.Proofs.YtpggngomdemdgaaW.PrintWords Go.Proofs.YtpggngomdemdgaaW.PrintLast Go.Proofs.YtpggngomdemdgaaW.PrintMore Go.Codec
attribute [local go_sem] Oper.semAt_some
/-- The length that a frame's head tells. -/
def n3 (b : List Int) : Int := rd b 0 * 65536 + rd b 1 * 256 + rd b 2
/-- One frame at the head of b: its integers and its length; length 0: none. -/
def whole (b : List Int) : List Int × Int :=
  if b.length < 11 then ([], 0) else if (b.length : Int) < 3 + n3 b + 8 then ([], 0)
  else if be8 (fnv (b.take (3 + n3 b).toNat)) ≠ (b.drop (3 + n3 b).toNat).take 8 then ([], 0)
  else match getL ((b.take (3 + n3 b).toNat).drop 3) with | none => ([], 0) | some l => (l, 3 + n3 b + 8)
theorem addr_add2 (a : Addr) (i j : Nat) : (a.add i).add j = a.add (i + j) := by
  unfold Addr.add
  by_cases h1 : i = 0 <;> by_cases h2 : j = 0 <;> simp [h1, h2, Nat.add_assoc]
theorem eqArr (W : World) (a0 a1 a2 a3 a4 a5 a6 a7 b0 b1 b2 b3 b4 b5 b6 b7 : Int) : (Op.equalIn 10000 53 (.agg #[.int .u8 a0, .int .u8 a1, .int .u8 a2, .int .u8 a3, .int .u8 a4, .int .u8 a5, .int .u8 a6, .int .u8 a7]) (.agg #[.int .u8 b0, .int .u8 b1, .int .u8 b2, .int .u8 b3, .int .u8 b4, .int .u8 b5, .int .u8 b6, .int .u8 b7])).run Try.prog W = .ok ([a0, a1, a2, a3, a4, a5, a6, a7] == [b0, b1, b2, b3, b4, b5, b6, b7]) W := by
  have hd : (10000 : Nat) = 9999 + 1 := rfl
  obtain ⟨i0, hi, _, hsz, _⟩ := info_parts info5
  have e5 : ∀ (a b : Int) (w : World), (Op.equalIn 9999 5 (.int .u8 a) (.int .u8 b)).run Try.prog w = .ok (a == b) w := fun a b w => run_equalIn_int w 9998 5 .u8 .u8 a b Try.underlying5
  rw [hd]
  generalize 9999 = d at e5 ⊢
  simp only [Op.equalIn, Sem.run_bind, run_underlying Try.underlying53, Result.andThen_ok]
  simp [Std.Legacy.Range.forIn_eq_forIn_range', Std.Legacy.Range.size, List.range', sizeOf, typeInfo, hi, hsz, part, go_sem, e5]
  repeat' split
  all_goals simp_all
theorem take_C {w : World} {A : Option Addr} {b : List Int} {e : Nat} (hC : Kd.C (Kd.int .u8) w A b.length b) (he : e ≤ b.length) : Kd.C (Kd.int .u8) w A (b.take e).length (b.take e) := by
  refine ⟨rfl, ?_, fun hn => ?_⟩
  · have := hC.2.1; rw [List.length_take]; omega
  · rw [List.length_take] at hn
    obtain ⟨ad, ea, h⟩ := hC.2.2 (by omega)
    refine ⟨ad, ea, fun j p hj => h j p ?_⟩
    rw [List.getElem?_take] at hj
    split at hj
    · exact hj
    · cases hj
theorem arrAt53 (W : World) (p : Addr) (c : Nat) : (Instr.arrayAt 53 (.slice (some p) 8 c)).run Try.prog W = .ok (.pointer (some p)) W := by
  first | kernel_rfl | rfl | simp [Instr.arrayAt, go_sem, Try.underlying53]
/-- Eight bytes that lie from p on. -/
def Cells8 (p : Addr) (y : Nat → Int) (w : World) : Prop :=
  w.cell? p = some (.int .u8 (y 0)) ∧ w.cell? { block := p.block, off := p.off + 1 } = some (.int .u8 (y 1)) ∧ w.cell? { block := p.block, off := p.off + 2 } = some (.int .u8 (y 2)) ∧ w.cell? { block := p.block, off := p.off + 3 } = some (.int .u8 (y 3)) ∧
    w.cell? { block := p.block, off := p.off + 4 } = some (.int .u8 (y 4)) ∧ w.cell? { block := p.block, off := p.off + 5 } = some (.int .u8 (y 5)) ∧ w.cell? { block := p.block, off := p.off + 6 } = some (.int .u8 (y 6)) ∧ w.cell? { block := p.block, off := p.off + 7 } = some (.int .u8 (y 7))
theorem Cells8.below {p : Addr} {y : Nat → Int} {w w' : World} (h : Cells8 p y w) (hb : Below w.heap.size w w') : Cells8 p y w' := by
  obtain ⟨h0, h1, h2, h3, h4, h5, h6, h7⟩ := h
  have hc : ∀ {a : Addr} {v : Value}, w.cell? a = some v → w'.cell? a = some v := fun ha => (hb.cell (World.block_lt_of_cell? w _ ha)).trans ha
  exact ⟨hc h0, hc h1, hc h2, hc h3, hc h4, hc h5, hc h6, hc h7⟩
theorem take8 {l : List Int} {e : Nat} (h : e + 8 ≤ l.length) : (l.drop e).take 8 = [rd l ((e + 0 : Nat) : Int), rd l ((e + 1 : Nat) : Int), rd l ((e + 2 : Nat) : Int), rd l ((e + 3 : Nat) : Int), rd l ((e + 4 : Nat) : Int), rd l ((e + 5 : Nat) : Int), rd l ((e + 6 : Nat) : Int), rd l ((e + 7 : Nat) : Int)] := by
  have hg : ∀ j : Nat, j < 8 → (l.drop e)[j]? = some (rd l ((e + j : Nat) : Int)) := fun j hj => by
    rw [List.getElem?_drop, rd, Int.toNat_natCast, List.getD_eq_getElem?_getD, List.getElem?_eq_getElem (by omega : e + j < l.length)]
    rfl
  apply List.ext_getElem?
  intro j
  rw [List.getElem?_take]
  by_cases hj : j < 8
  · rw [if_pos hj, hg j hj]
    rcases (by omega : j = 0 ∨ j = 1 ∨ j = 2 ∨ j = 3 ∨ j = 4 ∨ j = 5 ∨ j = 6 ∨ j = 7) with rfl | rfl | rfl | rfl | rfl | rfl | rfl | rfl <;> rfl
  · rw [if_neg hj, List.getElem?_eq_none (by simp; omega)]
set_option maxRecDepth 100000 in
set_option maxHeartbeats 2000000 in
theorem whole36_calls (A0 : Option Addr) (c0 : Nat) (l0 : List Int) (w : World) (hr0 : Kd.C (Kd.int .u8) w A0 l0.length l0) (hc0 : l0.length ≤ c0) (hby : ∀ x ∈ l0, 0 ≤ x ∧ x ≤ 255) (hlen : l0.length ≤ 200000) :
    Calls Try.prog 36 #[.slice A0 l0.length c0] w fun e w' => ∃ v0_ : Value, e = .returned (.tuple #[v0_, .int .i64 (whole l0).2]) ∧ Kd.R (Kd.int .i64) 3 w' w.heap.size (fun _ => True) v0_ (whole l0).1 ∧ Below w.heap.size w w' := by
  have HC := Aside0.mk hr0
  have HCAP := Aside0.mk hc0
  have HBY := Aside0.mk hby
  have HLEN := Aside0.mk hlen
  have HB := Aside0.mk (Below.refl w.heap.size w)
  obtain ⟨r, hr⟩ : ∃ r, whole l0 = r := ⟨_, rfl⟩
  rw [hr]
  unfold whole at hr
  by_cases h11 : l0.length < 11
  · rw [if_pos h11] at hr
    subst hr
    have d1 : decide ((l0.length : Int) < 11) = true := decide_eq_true (by omega)
    have d2 : decide (l0.length < 11) = true := decide_eq_true h11
    clear h11 hr0 hc0 hby hlen
    go_enter Try.func36, Try.ntmps36
    go_wp2
    go_ret2
    exact ⟨_, rfl, Kd.R_nil _ _ _ _ _, HB.out⟩
  rw [if_neg h11] at hr
  have d1 : decide ((l0.length : Int) < 11) = false := decide_eq_false (by omega)
  have d2 : decide (l0.length < 11) = false := decide_eq_false h11
  obtain ⟨ad, ead, hx0⟩ := Kd.at_int hr0 0 (by omega) (by omega)
  cases ead
  obtain ⟨ad1, ead1, hx1⟩ := Kd.at_int hr0 1 (by omega) (by omega)
  cases ead1
  obtain ⟨ad2, ead2, hx2⟩ := Kd.at_int hr0 2 (by omega) (by omega)
  cases ead2
  have hb : ∀ i : Nat, i < 3 → 0 ≤ rd l0 (i : Int) ∧ rd l0 (i : Int) ≤ 255 := fun i hi => by
    have h : i < l0.length := by omega
    have e : rd l0 (i : Int) = l0[i] := by simp [rd, List.getD_eq_getElem?_getD, List.getElem?_eq_getElem h]
    rw [e]; exact hby _ (List.getElem_mem h)
  have b0 := hb 0 (by omega)
  have b1 := hb 1 (by omega)
  have b2 := hb 2 (by omega)
  rw [show ((0 : Nat) : Int) = 0 from rfl] at b0
  rw [show ((1 : Nat) : Int) = 1 from rfl] at b1
  rw [show ((2 : Nat) : Int) = 2 from rfl] at b2
  rw [show ((0 : Int)).toNat = 0 from rfl] at hx0
  rw [show ((1 : Int)).toNat = 1 from rfl] at hx1
  rw [show ((2 : Int)).toNat = 2 from rfl] at hx2
  rw [Addr.add_zero'] at hx0
  unfold n3 at hr
  obtain ⟨x0, hx0'⟩ : ∃ x, rd l0 0 = x := ⟨_, rfl⟩
  obtain ⟨x1, hx1'⟩ : ∃ x, rd l0 1 = x := ⟨_, rfl⟩
  obtain ⟨x2, hx2'⟩ : ∃ x, rd l0 2 = x := ⟨_, rfl⟩
  rw [hx0'] at hx0 b0 hr
  rw [hx1'] at hx1 b1 hr
  rw [hx2'] at hx2 b2 hr
  have q0 : (0 < l0.length) = True := eq_true (by omega)
  have q1 : (1 < l0.length) = True := eq_true (by omega)
  have q2 : (2 < l0.length) = True := eq_true (by omega)
  have q0' : ((0 : Int) < (l0.length : Int)) = True := eq_true (by omega)
  have q1' : ((1 : Int) < (l0.length : Int)) = True := eq_true (by omega)
  have q2' : ((2 : Int) < (l0.length : Int)) = True := eq_true (by omega)
  have w0 : wrap64 (x0 * 65536) = x0 * 65536 := by unfold wrap64; omega
  have w1 : wrap64 (x1 * 256) = x1 * 256 := by unfold wrap64; omega
  have w2 : wrap64 (x0 * 65536 + x1 * 256) = x0 * 65536 + x1 * 256 := by unfold wrap64; omega
  have w3 : wrap64 (x0 * 65536 + x1 * 256 + x2) = x0 * 65536 + x1 * 256 + x2 := by unfold wrap64; omega
  have v0 : IntKind.i64.wrap x0 = x0 := IntWalk.i64_in _ (by omega)
  have v1 : IntKind.i64.wrap x1 = x1 := IntWalk.i64_in _ (by omega)
  have v2 : IntKind.i64.wrap x2 = x2 := IntWalk.i64_in _ (by omega)
  have w0' : IntKind.i64.wrap (x0 * 65536) = x0 * 65536 := IntWalk.i64_in _ (by omega)
  have w1' : IntKind.i64.wrap (x1 * 256) = x1 * 256 := IntWalk.i64_in _ (by omega)
  have w2' : IntKind.i64.wrap (x0 * 65536 + x1 * 256) = x0 * 65536 + x1 * 256 := IntWalk.i64_in _ (by omega)
  have w3' : IntKind.i64.wrap (x0 * 65536 + x1 * 256 + x2) = x0 * 65536 + x1 * 256 + x2 := IntWalk.i64_in _ (by omega)
  have hy1 : w.cell? { block := ad.block, off := ad.off + 1 } = some (.int .u8 x1) := hx1
  have hy2 : w.cell? { block := ad.block, off := ad.off + 2 } = some (.int .u8 x2) := hx2
  obtain ⟨e, he⟩ : ∃ e : Nat, 3 + (x0 * 65536 + x1 * 256 + x2) = (e : Int) := ⟨(3 + (x0 * 65536 + x1 * 256 + x2)).toNat, by omega⟩
  have he3 : 3 ≤ e := by omega
  have heb : e ≤ 20000000 := by omega
  have hew : wrap64 (3 + (x0 * 65536 + x1 * 256 + x2)) = (e : Int) := by unfold wrap64; omega
  have hew' : IntKind.i64.wrap (3 + (x0 * 65536 + x1 * 256 + x2)) = (e : Int) := by rw [he]; exact IntWalk.i64_in _ (by omega)
  rw [he, Int.toNat_natCast] at hr
  have HR := Aside0.mk hr
  have HX := Aside0.mk (And.intro he3 heb)
  have H11 := Aside0.mk h11
  clear hb b0 b1 b2 hx0' hx1' hx2' h11 hr0 hc0 hby hlen hr he he3 heb
  go_enter Try.func36, Try.ntmps36
  go_upto_region 3 with (fail)
  go_quiet (fail)
  go_upto_region 5 with (fail)
  clear hx0 hx1 hx2 hy1 hy2 v0 v1 v2 w0 w1 w2 w3 w0' w1' w2' w3' q0 q1 q2 q0' q1' q2' d1 d2 hew hew'
  generalize x0 * 65536 + x1 * 256 + x2 = xm
  have h8 : wrap64 ((e : Int) + 8) = (e : Int) + 8 := by have := HX.out; unfold wrap64; omega
  have h8' : IntKind.i64.wrap ((e : Int) + 8) = (e : Int) + 8 := by have := HX.out; exact IntWalk.i64_in _ (by omega)
  by_cases hs : (l0.length : Int) < (e : Int) + 8
  · have d3 : decide ((l0.length : Int) < (e : Int) + 8) = true := decide_eq_true hs
    have HS := Aside0.mk hs
    clear hs
    go_wp2
    go_ret2
    have h := HR.out
    rw [if_pos HS.out] at h
    subst h
    exact ⟨_, rfl, Kd.R_nil _ _ _ _ _, by repeat (first | (with_reducible first | exact HB.out | apply below_alloc | apply pw_below_drewN | apply below_drew1) | exact HB.out)⟩
  have d3 : decide ((l0.length : Int) < (e : Int) + 8) = false := decide_eq_false hs
  have hle : e + 8 ≤ l0.length := by omega
  have p1 : ((e : Int) ≤ (c0 : Int)) = True := eq_true (by have := HCAP.out; omega)
  have p2 : (e ≤ c0) = True := eq_true (by have := HCAP.out; omega)
  have p3 : ((e : Int) + 8 ≤ (c0 : Int)) = True := eq_true (by have := HCAP.out; omega)
  have p4 : (e + 8 ≤ c0) = True := eq_true (by have := HCAP.out; omega)
  have p5 : (0 ≤ (e : Int) + 8) = True := eq_true (by omega)
  have p6 : ((e : Int) ≤ (e : Int) + 8) = True := eq_true (by omega)
  have p7 : (c0 = e) = False := eq_false (by have := HCAP.out; omega)
  have HS := Aside0.mk hs
  have HLE := Aside0.mk hle
  clear hs hle
  go_upto_region 8 with (fail)
  obtain ⟨pe, hpe⟩ : ∃ pe : Addr, ad.add e = pe := ⟨_, rfl⟩
  have hcr : ∀ j : Nat, j < 8 → w.cell? (pe.add j) = some (.int .u8 (rd l0 ((e + j : Nat) : Int))) := fun j hj => by
    obtain ⟨ad', ea, hx⟩ := Kd.at_int HC.out ((e + j : Nat) : Int) (by omega) (by have := HLE.out; omega)
    cases ea
    rw [Int.toNat_natCast] at hx
    rw [← hpe, addr_add2]
    exact hx
  obtain ⟨yy, hyy⟩ : ∃ yy : Nat → Int, (fun j : Nat => rd l0 ((e + j : Nat) : Int)) = yy := ⟨_, rfl⟩
  have HCELLS : Aside0 (Cells8 pe yy w) := ⟨by
    have h0 := hcr 0 (by omega)
    rw [Addr.add_zero'] at h0
    rw [← hyy]
    exact ⟨h0, hcr 1 (by omega), hcr 2 (by omega), hcr 3 (by omega), hcr 4 (by omega), hcr 5 (by omega), hcr 6 (by omega), hcr 7 (by omega)⟩⟩
  have HY : Aside0 ((l0.drop e).take 8 = [yy 0, yy 1, yy 2, yy 3, yy 4, yy 5, yy 6, yy 7]) := ⟨by rw [← hyy]; exact take8 (by have := HLE.out; omega)⟩
  clear hcr hyy
  have heq : ∀ W, (Op.equalIn 10000 53 (.agg (arr8 (fnv (l0.take e)))) (.agg #[.int .u8 (yy 0), .int .u8 (yy 1), .int .u8 (yy 2), .int .u8 (yy 3), .int .u8 (yy 4), .int .u8 (yy 5), .int .u8 (yy 6), .int .u8 (yy 7)])).run Try.prog W = .ok (be8 (fnv (l0.take e)) == (l0.drop e).take 8) W := fun W => by
    rw [HY.out]
    exact eqArr W _ _ _ _ _ _ _ _ (yy 0) (yy 1) (yy 2) (yy 3) (yy 4) (yy 5) (yy 6) (yy 7)
  have t8 : ((e : Int) + 8).toNat - e = 8 := by omega
  have hte : (l0.take e).length = e := by rw [List.length_take]; have := HLE.out; omega
  have HSUM : Aside0 (∀ W, Below w.heap.size w W → Calls Try.prog 30 #[.slice (some ad) e e] W fun e_ w' => e_ = .returned (.agg (arr8 (fnv (l0.take e)))) ∧ Below W.heap.size W w') := ⟨fun W hb => by
    have h := sum30_calls 300000 (some ad) e (l0.take e) (fnv (l0.take e)) W (Kd.C_below (take_C HC.out (by have := HLE.out; omega)) hb) (by omega) (Sum_f (by have := HLEN.out; have := HLE.out; omega) (by have := HLEN.out; have := HLE.out; omega))
    rw [hte] at h
    exact h⟩
  clear hte
  have harr : ∀ W c, (Instr.arrayAt 53 (.slice (some pe) 8 c)).run Try.prog W = .ok (.pointer (some pe)) W := fun W c => arrAt53 W pe c
  refine start_ (n := 10) (S := fun w' => Cells8 pe yy w') (ds := []) #[false, false, false, false, false, false, false, false, false, false] (by kernel_rfl) rfl rfl (HCELLS.out.below (below_drew (pw_below_drewN (Below.refl _ _) nq))) (fun hHeld => ?_)
  refine pure_ (i := 0) (N := some 39) (v := ?_) (a' := ?_) #[true, false, false, false, false, false, false, false, false, false] rfl rfl (by kernel_rfl) (fun _ _ _ h => h) (Or.inl ⟨by rfl, ?_⟩) ?_ ?_
  rotate_left
  · intro w'
    go_simp
    with_reducible rfl
  rotate_left
  · simp only [Act.put, List.setIfInBounds_toArray, List.set_cons_zero, List.set_cons_succ, i64_w, i32_w]
    rfl
  refine pure_ (i := 2) (N := some 41) (v := ?_) (a' := ?_) #[true, false, true, false, false, false, false, false, false, false] rfl rfl (by kernel_rfl) (fun _ _ _ h => h) (Or.inl ⟨by rfl, ?_⟩) ?_ ?_
  rotate_left
  · intro w'
    go_simp
    with_reducible rfl
  rotate_left
  · simp only [Act.put, List.setIfInBounds_toArray, List.set_cons_zero, List.set_cons_succ, i64_w, i32_w]
    rfl
  refine pure_ (i := 3) (N := some 42) (v := ?_) (a' := ?_) #[true, false, true, true, false, false, false, false, false, false] rfl rfl (by kernel_rfl) (fun _ _ _ h => h) (Or.inl ⟨by rfl, ?_⟩) ?_ ?_
  rotate_left
  · intro w'
    go_simp
    with_reducible rfl
  rotate_left
  · simp only [Act.put, List.setIfInBounds_toArray, List.set_cons_zero, List.set_cons_succ, i64_w, i32_w]
    rfl
  refine pure_ (i := 4) (N := some 43) (v := ?_) (a' := ?_) #[true, false, true, true, true, false, false, false, false, false] rfl rfl (by kernel_rfl) (fun _ _ _ h => h) (Or.inl ⟨by rfl, ?_⟩) ?_ ?_
  rotate_left
  · intro w'
    go_simp
    with_reducible rfl
  rotate_left
  · simp only [Act.put, List.setIfInBounds_toArray, List.set_cons_zero, List.set_cons_succ, i64_w, i32_w]
    rfl
  refine pure_ (i := 5) (N := some 44) (v := ?_) (a' := ?_) #[true, false, true, true, true, true, false, false, false, false] rfl rfl (by kernel_rfl) (fun _ _ _ h => h) (Or.inl ⟨by rfl, ?_⟩) ?_ ?_
  rotate_left
  · intro w'
    go_simp
    with_reducible rfl
  rotate_left
  · simp only [Act.put, List.setIfInBounds_toArray, List.set_cons_zero, List.set_cons_succ, i64_w, i32_w]
    rfl
  refine pure_ (i := 6) (N := some 45) (v := ?_) (a' := ?_) #[true, false, true, true, true, true, true, false, false, false] rfl rfl (by kernel_rfl) (fun _ _ _ h => h) (Or.inl ⟨by rfl, ?_⟩) ?_ ?_
  rotate_left
  · intro w'
    go_simp
    with_reducible rfl
  rotate_left
  · simp only [Act.put, List.setIfInBounds_toArray, List.set_cons_zero, List.set_cons_succ, i64_w, i32_w]
    rfl
  refine pure_ (i := 7) (N := some 46) (v := ?_) (a' := ?_) #[true, false, true, true, true, true, true, true, false, false] rfl rfl (by kernel_rfl) (fun _ _ _ h => h) (Or.inl ⟨by rfl, ?_⟩) ?_ ?_
  rotate_left
  · intro w'
    go_simp
    with_reducible rfl
  rotate_left
  · simp only [Act.put, List.setIfInBounds_toArray, List.set_cons_zero, List.set_cons_succ, i64_w, i32_w]
    rfl
  refine take_ (i := 8) (N := some 47) (v := ?_) (a' := ?_) #[true, false, true, true, true, true, true, true, true, false] rfl rfl (by kernel_rfl) (fun _ _ _ h => h) (Or.inl ⟨by rfl, ?_⟩) hHeld ?_ ?_
  rotate_left
  · rintro w' ⟨s0, s1, s2, s3, s4, s5, s6, s7⟩
    go_simp
    with_reducible rfl
  rotate_left
  · simp only [Act.put, List.setIfInBounds_toArray, List.set_cons_zero, List.set_cons_succ, i64_w, i32_w]
    rfl
  refine one_ (i := 1) (N := some 40) #[true, true, true, true, true, true, true, true, true, false] rfl rfl (by kernel_rfl) (by decide) (fun K hK => ?_)
  refine call_ 30 #[.slice (some ad) e e] (by rfl) rfl (by go_simp) ?_
  refine (HSUM.out _ (below_drew (pw_below_drewN HB.out nq))).mono ?_
  rintro e_ w5 ⟨rfl, hb5⟩
  have HB5 := Aside0.mk (HB.out.trans ((below_drew (pw_below_drewN (Below.refl _ _) nq)).trans (hb5.mono (by exact Nat.le_refl _))))
  clear hb5
  refine ⟨_, rfl, ?_⟩
  refine hK.out _ _ (HCELLS.out.below HB5.out) (fun hHeld => ?_)
  clear hK K
  refine norm_ (a' := ?_) ?_ ?_
  rotate_left
  · show Act.put _ (some 40) _ = _
    simp only [Act.put, List.setIfInBounds_toArray, List.set_cons_zero, List.set_cons_succ, i64_w, i32_w]
    rfl
  refine pure_ (i := 9) (N := some 48) (v := ?_) (a' := ?_) #[true, true, true, true, true, true, true, true, true, true] rfl rfl (by kernel_rfl) (fun _ _ _ h => h) (Or.inl ⟨by rfl, ?_⟩) ?_ ?_
  rotate_left
  · intro w'
    go_simp
    rfl
  rotate_left
  · simp only [Act.put, List.setIfInBounds_toArray, List.set_cons_zero, List.set_cons_succ, i64_w, i32_w]
    rfl
  refine done_ (by kernel_rfl) ?_
  clear heq harr t8 hpe
  obtain ⟨q, hq⟩ : ∃ q, (be8 (fnv (l0.take e)) == (l0.drop e).take 8) = q := ⟨_, rfl⟩
  rw [hq]
  have HQ := Aside0.mk hq
  clear hq p1 p2 p3 p4 p5 p6 p7 d3 h8'
  cases q
  · have h := HR.out
    rw [if_neg HS.out, if_pos (by have := HQ.out; simpa using this)] at h
    subst h
    go_wp2
    go_ret2
    exact ⟨_, rfl, Kd.R_nil _ _ _ _ _, HB5.out⟩
  · have hte : (l0.take e).length = e := by rw [List.length_take]; have := HLE.out; omega
    obtain ⟨i0, hi, _, hsz, _⟩ := info_parts info5
    obtain ⟨A10, hcut, hA, hl⟩ := print_drop_of (P := Try.prog) (Value.int .u8) 0 23 5 .i64 Try.underlying23 hi hsz (some ad) e (l0.take e) 3 (by omega) (by have := HX.out; omega) (by omega)
    have HD := Aside0.mk (Kd.C_of_reads (h1 := fun _ => rfl) (hA _ (Kd.reads_of_C (take_C HC.out (by have := HLE.out; omega)))))
    rw [show ((3 : Int)).toNat = 3 from rfl] at hcut hl HD
    rw [hte] at hcut
    have HL := Aside0.mk hl
    obtain ⟨t, ht⟩ : ∃ t, (l0.take e).drop 3 = t := ⟨_, rfl⟩
    rw [ht] at hcut HL HD
    have hbt : (t.all (fun x => decide (0 ≤ x) && decide (x ≤ 255))) = true := List.all_eq_true.2 fun x hx => by
      have := HBY.out x (List.take_subset _ _ (List.drop_subset _ _ (ht ▸ hx)))
      simpa using this
    have h := HR.out
    rw [if_neg HS.out, if_neg (by have := HQ.out; simpa using this), ht] at h
    clear hi hsz hA hl hte ht
    cases hg : getL t with
    | none =>
      rw [hg] at h
      subst h
      have hf : codec_Get.f t = some ([], 7) := by unfold codec_Get.f; rw [if_pos hbt, hg]
      have HF := Aside0.mk hf
      clear hf hbt hg
      go_wp2_with (first | (go_at_call 21; go_loud (refine (codec_Get.calls A10 _ t [] 7 _ (Kd.C_below HD.out HB5.out) HL.out HF.out).mono ?_); rintro e_ w6 ⟨v6, rfl, ho, hb⟩; have HO := Aside0.mk (Kd.R_lower ho (below_size HB5.out)); have HB6 := Aside0.mk (below_step HB5.out hb); clear ho hb))
      go_ret2
      exact ⟨_, rfl, Kd.R_nil _ _ _ _ _, HB6.out⟩
    | some l =>
      rw [hg] at h
      subst h
      have hf : codec_Get.f t = some (l, 0) := by unfold codec_Get.f; rw [if_pos hbt, hg]
      have HF := Aside0.mk hf
      clear hf hbt hg
      go_wp2_with (first | (go_at_call 21; go_loud (refine (codec_Get.calls A10 _ t l 0 _ (Kd.C_below HD.out HB5.out) HL.out HF.out).mono ?_); rintro e_ w6 ⟨v6, rfl, ho, hb⟩; have HO := Aside0.mk (Kd.R_lower ho (below_size HB5.out)); have HB6 := Aside0.mk (below_step HB5.out hb); clear ho hb))
      go_ret2
      exact ⟨_, rfl, HO.out, HB6.out⟩
def codec_whole.f (b : List Int) : Option (List Int × Int) :=
  if b.all (fun x => decide (0 ≤ x) && decide (x ≤ 255)) && decide (b.length ≤ 200000) then some (whole b) else none
theorem codec_whole.calls (A0 : Option Addr) (c0 : Nat) (l0 : List Int) (r1 : List Int) (r2 : Int) (w : World) (hr0 : Kd.C (Kd.int .u8) w A0 l0.length l0) (hc0 : l0.length ≤ c0) (h : codec_whole.f l0 = some (r1, r2)) :
    Calls Try.prog 36 #[.slice A0 l0.length c0] w fun e w' => ∃ v0_ : Value, e = .returned (.tuple #[v0_, .int .i64 r2]) ∧ Kd.R (Kd.int .i64) 3 w' w.heap.size (fun _ => True) v0_ r1 ∧ Below w.heap.size w w' := by
  unfold codec_whole.f at h
  by_cases ha : (l0.all (fun x => decide (0 ≤ x) && decide (x ≤ 255)) && decide (l0.length ≤ 200000)) = true
  case neg => rw [if_neg ha] at h; cases h
  rw [if_pos ha] at h
  rw [Bool.and_eq_true] at ha
  have hw : whole l0 = (r1, r2) := by simpa using h
  have := whole36_calls A0 c0 l0 w hr0 hc0 (fun x hx => by have := List.all_eq_true.1 ha.1 x hx; simpa using this) (of_decide_eq_true ha.2)
  rw [hw] at this
  exact this
end Go.Proofs.Ytpggngomdemdgaa.P
