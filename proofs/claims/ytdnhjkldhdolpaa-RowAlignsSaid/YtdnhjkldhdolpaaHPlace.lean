import Derived.Test.YtdnhjkldhdolpaaHPlaceB
set_option linter.unusedVariables false
set_option linter.unusedSimpArgs false
namespace Go.Proofs.Ytdnhjkldhdolpaa.P
open Go.RowKit Go.Proofs.YtdnhjkldhdolpaaW.PrintWords Go.Proofs.YtdnhjkldhdolpaaW.PrintLast Go.Proofs.YtdnhjkldhdolpaaW.PrintMore Go.Proofs.Ytdnhjkldhdolpaa.Rng
attribute [local go_sem] Oper.semAt_some
theorem reps_flatm {α : Type} {R : α → List Value → Prop} {size : Nat} (f : α → List Value) : ∀ (ps qs : List α), (∀ p ∈ ps, (f p).length = size ∧ R p (f p)) → Reps R size qs (qs.flatMap f) → Reps R size (qs ++ ps) ((qs ++ ps).flatMap f)
  | [], qs, _, h => by simpa using h
  | p :: ps, qs, hf, h => by
    have h1 := Reps.snoc h (hf p (by simp)).2 (hf p (by simp)).1
    have h2 := reps_flatm f ps (qs ++ [p]) (fun q hq => hf q (by simp [hq])) (by simpa using h1)
    simpa using h2
def cells38 (x : S38) : List Value := [.int .i64 x.f0, .int .i64 x.f1, .int .i64 x.f2, .int .i64 x.f3, .int .i64 x.f4, .bool x.f5, .slice none 0 0]
theorem S38_of {W : World} {base : Nat} {v : Value} {xs : List S38} (h : W.ownsRow base 38 7 v xs.length (xs.flatMap cells38)) (h6 : ∀ x ∈ xs, x.f6 = []) : Kd.S k38 38 W base (fun _ => True) v xs := by
  refine Kd.S_bare ⟨fun _ _ => trivial, xs.flatMap cells38, h, ?_⟩
  have hm : ∀ p ∈ xs, (cells38 p).length = (Kd.bare k38).sz ∧ (Kd.bare k38).M W base (fun k => True ∧ some k ≠ v.ownBlock) p (cells38 p) := fun p hp => by
    refine ⟨rfl, ?_⟩
    have he := h6 p hp
    exact k38_mkM W base _ p (v6 := .slice none 0 0) (by rw [he]; exact Kd.R_nil _ _ _ _ _)
  have := reps_flatm (size := (Kd.bare k38).sz) (R := (Kd.bare k38).M W base (fun k => True ∧ some k ≠ v.ownBlock)) cells38 xs [] hm (Reps.none _ _)
  simpa using this
theorem boxList_f6 (x0 gap : Int) (ws hs : List Int) (n : Nat) : ∀ x ∈ boxList x0 gap ws hs n, x.f6 = [] := by
  intro x hx
  simp only [boxList, List.mem_map] at hx
  obtain ⟨i, _, rfl⟩ := hx
  rfl
theorem boxList_length (x0 gap : Int) (ws hs : List Int) (n : Nat) : (boxList x0 gap ws hs n).length = n := by simp [boxList]
def startsOk (l0 : List Int) (a2 : Int) : Bool := inside (l0.length : Int) 1 64 && inside a2 0 100000 && !l0.any farW
def placeOk (l0 l1 : List Int) (a2 a3 a4 : Int) : Bool := startsOk l0 a2 && !l1.any highW && ((l0.length : Int) == (l1.length : Int)) && !outW a2 100000 && !outW a3 2 && !outW a4 1000000
def overOf (l0 : List Int) (a2 a4 : Int) : Int := mx 0 (wrap64 (wrap64 (a4 - rd (outS l0 a2 (l0.length - 1)) ((l0.length - 1 : Nat) : Int)) - rd l0 ((l0.length - 1 : Nat) : Int)))
def startX (l0 : List Int) (a2 a3 a4 : Int) : Int := if a3 = 0 then 0 else if a3 = 1 then wrap64 ((overOf l0 a2 a4).tdiv 2) else overOf l0 a2 a4
def row_Place.f (l0 l1 : List Int) (a2 a3 a4 : Int) : Option (List S38 × Int × Int) :=
  if l0.length ≤ 1000000 ∧ l1.length ≤ 1000000 then
    (if placeOk l0 l1 a2 a3 a4 = true then some (boxList (startX l0 a2 a3 a4) a2 l0 l1 l0.length, maxTo l1 (l1.length - 1), 0) else some ([], 0, 1)) else none
/-- Starts, in two cases. -/
theorem startsC (A0 : Option Addr) (c0 : Nat) (l0 : List Int) (a1 : Int) (w : World) (hr0 : Kd.C (Kd.int .i64) w A0 l0.length l0) (hc0 : l0.length ≤ c0) (hl : l0.length ≤ 1000000) (b : Bool) (hb : startsOk l0 a1 = b) :
    Calls Try.prog 22 #[.slice A0 l0.length c0, .int .i64 a1] w fun e w' => ∃ (A : Option Addr) (n c : Nat), e = .returned (.tuple #[.slice A n c, .int .i64 (if b then 0 else 1)]) ∧ Aside0 (b = true → n = l0.length ∧ Kd.C (Kd.int .i64) w' A l0.length (outS l0 a1 (l0.length - 1))) ∧ Below w.heap.size w w' := by
  subst hb
  have hf : tracks_Starts.f l0 a1 = some (if startsOk l0 a1 = true then outS l0 a1 (l0.length - 1) else [], if startsOk l0 a1 = true then 0 else 1) := by
    unfold tracks_Starts.f startsOk
    rw [if_pos hl]
    cases h1 : inside (l0.length : Int) 1 64 <;> cases h2 : inside a1 0 100000 <;> cases h3 : l0.any farW <;> simp
  refine (tracks_Starts.calls A0 c0 l0 a1 _ _ w hr0 hc0 hf).mono ?_
  rintro e w' ⟨v0, rfl, hR, hb⟩
  obtain ⟨A, c, rfl, hlc, hC⟩ := Kd.R_reads hR
  refine ⟨A, _, c, rfl, ⟨fun h => ?_⟩, hb⟩
  rw [if_pos h] at hC ⊢
  rw [outS_length] at hC ⊢
  exact ⟨rfl, hC⟩
theorem outWC (n m : Int) (b : Bool) (h : outW n m = b) (w : World) : Calls Try.prog 21 #[.int .i64 n, .int .i64 m] w fun e w' => e = .returned (.bool b) ∧ w = w' := by rw [← h]; exact outW_calls n m w
theorem highC (A : Option Addr) (c : Nat) (l : List Int) (w : World) (hr : Kd.C (Kd.int .i64) w A l.length l) (hl : l.length ≤ 1000000) (b : Bool) (h : l.any highW = b) : Calls Try.prog 19 #[.slice A l.length c, .func (.func 20) #[] #[]] w fun e w' => e = .returned (.bool b) ∧ w = w' := by
  rw [← h]; exact anyHigh_calls A c l w hr hl
theorem wp_cutR {P : Program} {c : Code} {Q : Exit → Act → World → Prop} {a : Act} {w : World} (A : Act) (W : World) (h : c.wp P (fun e a' w' => e = .normal ∧ a' = A ∧ w' = W) a w) (hq : Q .normal A W) : c.wp P Q a w :=
  Code.wp_mono (by rintro e a' w' ⟨rfl, rfl, rfl⟩; exact hq) h
theorem ix59_0 (w : World) : (Instr.index 59 (.agg #[.func (.func 39) #[] #[], .func (.func 40) #[] #[], .func (.func 41) #[] #[]]) (.int .i64 0)).run Try.prog w = .ok (.agg #[.func (.func 39) #[] #[]]) w := by
  have ha : (isAgg 58).run Try.prog w = .ok true w := by simp [isAgg, run_underlying Try.underlying58, Result.andThen]
  simp [Instr.index, asIntOf, run_underlying Try.underlying59, Go.part, ha, Result.andThen]
theorem ix59_1 (w : World) : (Instr.index 59 (.agg #[.func (.func 39) #[] #[], .func (.func 40) #[] #[], .func (.func 41) #[] #[]]) (.int .i64 1)).run Try.prog w = .ok (.agg #[.func (.func 40) #[] #[]]) w := by
  have ha : (isAgg 58).run Try.prog w = .ok true w := by simp [isAgg, run_underlying Try.underlying58, Result.andThen]
  simp [Instr.index, asIntOf, run_underlying Try.underlying59, Go.part, ha, Result.andThen]
theorem ix59_2 (w : World) : (Instr.index 59 (.agg #[.func (.func 39) #[] #[], .func (.func 40) #[] #[], .func (.func 41) #[] #[]]) (.int .i64 2)).run Try.prog w = .ok (.agg #[.func (.func 41) #[] #[]]) w := by
  have ha : (isAgg 58).run Try.prog w = .ok true w := by simp [isAgg, run_underlying Try.underlying58, Result.andThen]
  simp [Instr.index, asIntOf, run_underlying Try.underlying59, Go.part, ha, Result.andThen]
theorem fd58 (f : Nat) (w : World) : (Instr.field 58 (.agg #[.func (.func f) #[] #[]]) 0).run Try.prog w = .ok (.func (.func f) #[] #[]) w := by
  have ha : (isAgg 56).run Try.prog w = .ok false w := by simp [isAgg, run_underlying Try.underlying56, Result.andThen]
  simp [Instr.field, run_underlying Try.underlying58, asAgg, Go.part, ha, Result.andThen]
def cutE (A : Value → Value → Value → Nat → Act) (G : Nat → World → Prop) : Exit → Act → World → Prop
  | .normal, a', w' => ∃ t u v b, a' = A t u v b ∧ G b w'
  | _, _, _ => False
theorem wp_cutE {P : Program} {c : Code} {Q : Exit → Act → World → Prop} {a : Act} {w : World} (A : Value → Value → Value → Nat → Act) (G : Nat → World → Prop) (h : c.wp P (cutE A G) a w) (hq : ∀ t u v b w', G b w' → Q .normal (A t u v b) w') : c.wp P Q a w :=
  Code.wp_mono (by
    intro e a' w' hp
    cases e with
    | normal => obtain ⟨t, u, v, b, rfl, hg⟩ := hp; exact hq t u v b w' hg
    | _ => exact hp.elim) h
theorem wpIn_act {F : Fence} {n : Nat} {P : Program} {c : Code} {Q : Exit → Act → World → Prop} {a : Act} {w : World} (h : ∀ A0, A0 = a → c.wpIn F n P Q a w) : c.wpIn F n P Q a w := h a rfl
theorem BelowO.grown {b : Nat} {A B : World} (h : BelowO (fun k => k = b) A B) : A.grownBy B (some b) :=
  ⟨h.os, h.tape, h.output, h.size, fun k hk hne => h.block k hk (fun e => hne (by rw [e]))⟩
set_option maxRecDepth 100000 in
set_option maxHeartbeats 8000000 in
theorem row_Place.calls (A0 : Option Addr) (c0 : Nat) (l0 : List Int) (A1 : Option Addr) (c1 : Nat) (l1 : List Int) (a2 : Int) (a3 : Int) (a4 : Int) (r1 : List (S38)) (r2 : Int) (r3 : Int) (w : World) (hr0 : Kd.C (Kd.int .i64) w A0 l0.length l0) (hc0 : l0.length ≤ c0) (hr1 : Kd.C (Kd.int .i64) w A1 l1.length l1) (hc1 : l1.length ≤ c1) (h : row_Place.f l0 l1 a2 a3 a4 = some (r1, r2, r3)) :
    Calls Try.prog 13 #[.slice A0 l0.length c0, .slice A1 l1.length c1, .int .i64 a2, .int .i64 a3, .int .i64 a4] w fun e w' => ∃ v0_ : Value, e = .returned (.tuple #[v0_, .int .i64 r2, .int .i64 r3]) ∧ Kd.S k38 38 w' w.heap.size (fun _ => True) v0_ r1 ∧ Below w.heap.size w w' := by
  unfold row_Place.f at h
  split at h
  case isFalse => cases h
  rename_i hlen
  obtain ⟨hl0, hl1⟩ := hlen
  have HB := Aside0.mk (Below.refl w.heap.size w)
  have HR0 := Aside0.mk hr0
  have HC0 := Aside0.mk hc0
  have HR1 := Aside0.mk hr1
  have HC1 := Aside0.mk hc1
  have HL0 := Aside0.mk hl0
  have HL1 := Aside0.mk hl1
  clear hr0 hc0 hr1 hc1 hl0 hl1
  have H := Aside0.mk h
  clear h
  refine (callsIn_wide (n := 3)).1 ?_
  refine callsIn_of_wp_marks Try.func13 rfl trivial ?_ rfl
  simp only [Try.ntmps13, List.size_toArray, List.length_cons, List.length_nil, Nat.reduceAdd, Nat.reduceSub, Array.replicate_succ, Array.replicate_zero, List.push_toArray, List.append_toArray, List.nil_append, List.cons_append]
  refine wpIn_wide.2 ?_
  cases b1 : startsOk l0 a2
  · have hh := H.out
    have hp : placeOk l0 l1 a2 a3 a4 = false := by simp [placeOk, b1]
    rw [hp] at hh
    simp only [Bool.false_eq_true, if_false, Option.some.injEq, Prod.mk.injEq] at hh
    obtain ⟨rfl, rfl, rfl⟩ := hh
    clear hp H
    obtain ⟨b2, hb2⟩ : ∃ b, l1.any highW = b := ⟨_, rfl⟩
    go_wp2_with (first | (go_at_call 19; refine ((highC A1 c1 l1 _ HR1.out HL1.out _ (by assumption))).mono ?_; rintro e w' ⟨rfl, rfl⟩) | (go_at_call 22; refine ((startsC A0 c0 l0 a2 _ HR0.out HC0.out HL0.out _ (by assumption))).mono ?_; rintro e w2 ⟨As, ns, cs, rfl, HSt, hb⟩; have HB := Aside0.mk hb; clear hb; simp only [if_true, if_false, Bool.false_eq_true]) | (go_at_call 21; refine ((outWC _ _ _ (by assumption) _)).mono ?_; rintro e w' ⟨rfl, rfl⟩))
    exact ⟨_, results_tmp3 rfl _ _ _, .slice none 0 0, rfl, Kd.S_nil _ _ _ _ _, HB.out⟩
  · cases b2 : l1.any highW
    case true =>
      have hh := H.out
      have hp : placeOk l0 l1 a2 a3 a4 = false := by simp [placeOk, *]
      rw [hp] at hh
      simp only [Bool.false_eq_true, if_false, Option.some.injEq, Prod.mk.injEq] at hh
      obtain ⟨rfl, rfl, rfl⟩ := hh
      clear hp H
      go_wp2_with (first | (go_at_call 19; refine ((highC A1 c1 l1 _ HR1.out HL1.out _ (by assumption))).mono ?_; rintro e w' ⟨rfl, rfl⟩) | (go_at_call 22; refine ((startsC A0 c0 l0 a2 _ HR0.out HC0.out HL0.out _ (by assumption))).mono ?_; rintro e w2 ⟨As, ns, cs, rfl, HSt, hb⟩; have HB := Aside0.mk hb; clear hb; simp only [if_true, if_false, Bool.false_eq_true]) | (go_at_call 21; refine ((outWC _ _ _ (by assumption) _)).mono ?_; rintro e w' ⟨rfl, rfl⟩))
      exact ⟨_, results_tmp3 rfl _ _ _, .slice none 0 0, rfl, Kd.S_nil _ _ _ _ _, HB.out⟩
    cases b3 : ((l0.length : Int) == (l1.length : Int))
    case false =>
      have b3n : ((l0.length : Int) != (l1.length : Int)) = true := by simp [bne, b3]
      have hh := H.out
      have hp : placeOk l0 l1 a2 a3 a4 = false := by simp [placeOk, *]
      rw [hp] at hh
      simp only [Bool.false_eq_true, if_false, Option.some.injEq, Prod.mk.injEq] at hh
      obtain ⟨rfl, rfl, rfl⟩ := hh
      clear hp H
      go_wp2_with (first | (go_at_call 19; refine ((highC A1 c1 l1 _ HR1.out HL1.out _ (by assumption))).mono ?_; rintro e w' ⟨rfl, rfl⟩) | (go_at_call 22; refine ((startsC A0 c0 l0 a2 _ HR0.out HC0.out HL0.out _ (by assumption))).mono ?_; rintro e w2 ⟨As, ns, cs, rfl, HSt, hb⟩; have HB := Aside0.mk hb; clear hb; simp only [if_true, if_false, Bool.false_eq_true]) | (go_at_call 21; refine ((outWC _ _ _ (by assumption) _)).mono ?_; rintro e w' ⟨rfl, rfl⟩))
      exact ⟨_, results_tmp3 rfl _ _ _, .slice none 0 0, rfl, Kd.S_nil _ _ _ _ _, HB.out⟩
    have b3n : ((l0.length : Int) != (l1.length : Int)) = false := by simp [bne, b3]
    cases b4 : outW a2 100000
    case true =>
      have hh := H.out
      have hp : placeOk l0 l1 a2 a3 a4 = false := by simp [placeOk, *]
      rw [hp] at hh
      simp only [Bool.false_eq_true, if_false, Option.some.injEq, Prod.mk.injEq] at hh
      obtain ⟨rfl, rfl, rfl⟩ := hh
      clear hp H
      go_wp2_with (first | (go_at_call 19; refine ((highC A1 c1 l1 _ HR1.out HL1.out _ (by assumption))).mono ?_; rintro e w' ⟨rfl, rfl⟩) | (go_at_call 22; refine ((startsC A0 c0 l0 a2 _ HR0.out HC0.out HL0.out _ (by assumption))).mono ?_; rintro e w2 ⟨As, ns, cs, rfl, HSt, hb⟩; have HB := Aside0.mk hb; clear hb; simp only [if_true, if_false, Bool.false_eq_true]) | (go_at_call 21; refine ((outWC _ _ _ (by assumption) _)).mono ?_; rintro e w' ⟨rfl, rfl⟩))
      exact ⟨_, results_tmp3 rfl _ _ _, .slice none 0 0, rfl, Kd.S_nil _ _ _ _ _, HB.out⟩
    cases b5 : outW a3 2
    case true =>
      have hh := H.out
      have hp : placeOk l0 l1 a2 a3 a4 = false := by simp [placeOk, *]
      rw [hp] at hh
      simp only [Bool.false_eq_true, if_false, Option.some.injEq, Prod.mk.injEq] at hh
      obtain ⟨rfl, rfl, rfl⟩ := hh
      clear hp H
      go_wp2_with (first | (go_at_call 19; refine ((highC A1 c1 l1 _ HR1.out HL1.out _ (by assumption))).mono ?_; rintro e w' ⟨rfl, rfl⟩) | (go_at_call 22; refine ((startsC A0 c0 l0 a2 _ HR0.out HC0.out HL0.out _ (by assumption))).mono ?_; rintro e w2 ⟨As, ns, cs, rfl, HSt, hb⟩; have HB := Aside0.mk hb; clear hb; simp only [if_true, if_false, Bool.false_eq_true]) | (go_at_call 21; refine ((outWC _ _ _ (by assumption) _)).mono ?_; rintro e w' ⟨rfl, rfl⟩))
      exact ⟨_, results_tmp3 rfl _ _ _, .slice none 0 0, rfl, Kd.S_nil _ _ _ _ _, HB.out⟩
    cases b6 : outW a4 1000000
    case true =>
      have hh := H.out
      have hp : placeOk l0 l1 a2 a3 a4 = false := by simp [placeOk, *]
      rw [hp] at hh
      simp only [Bool.false_eq_true, if_false, Option.some.injEq, Prod.mk.injEq] at hh
      obtain ⟨rfl, rfl, rfl⟩ := hh
      clear hp H
      go_wp2_with (first | (go_at_call 19; refine ((highC A1 c1 l1 _ HR1.out HL1.out _ (by assumption))).mono ?_; rintro e w' ⟨rfl, rfl⟩) | (go_at_call 22; refine ((startsC A0 c0 l0 a2 _ HR0.out HC0.out HL0.out _ (by assumption))).mono ?_; rintro e w2 ⟨As, ns, cs, rfl, HSt, hb⟩; have HB := Aside0.mk hb; clear hb; simp only [if_true, if_false, Bool.false_eq_true]) | (go_at_call 21; refine ((outWC _ _ _ (by assumption) _)).mono ?_; rintro e w' ⟨rfl, rfl⟩))
      exact ⟨_, results_tmp3 rfl _ _ _, .slice none 0 0, rfl, Kd.S_nil _ _ _ _ _, HB.out⟩
    have hin : inside (l0.length : Int) 1 64 = true := by simp only [startsOk, Bool.and_eq_true] at b1; exact b1.1.1
    have hN : 1 ≤ l0.length ∧ l0.length ≤ 64 := by simp [inside] at hin; omega
    have hNN : l0.length = l1.length := by have := eq_of_beq b3; omega
    have hgap : 0 ≤ a2 ∧ a2 ≤ 100000 := by simp [outW] at b4; omega
    have hsp : 0 ≤ a4 ∧ a4 ≤ 1000000 := by simp [outW] at b6; omega
    have hal : a3 = 0 ∨ a3 = 1 ∨ a3 = 2 := by simp [outW] at b5; omega
    have hh := H.out
    have hp : placeOk l0 l1 a2 a3 a4 = true := by simp only [placeOk, b1, b2, b3, b4, b5, b6]; rfl
    rw [hp] at hh
    simp only [if_true, Option.some.injEq, Prod.mk.injEq] at hh
    obtain ⟨rfl, rfl, rfl⟩ := hh
    clear hp H hin
    obtain ⟨j, hj⟩ : ∃ j, l0.length = j + 1 := ⟨l0.length - 1, by omega⟩
    have u0 : wrap64 ((l0.length : Int) - 1) = (j : Int) := by unfold wrap64; omega
    have p1 : 0 ≤ (j : Int) := by omega
    have q1 : (j : Int) < (l0.length : Int) := by omega
    have q2 : j < l0.length := by omega
    obtain ⟨ad0, ead0, hx0⟩ := Kd.at_int HR0.out (j : Int) p1 q1
    cases ead0
    obtain ⟨ad1, ead1, hx1⟩ := Kd.at_int HR1.out (j : Int) p1 (by omega)
    cases ead1
    rw [Int.toNat_natCast] at hx0 hx1
    have HX0 := Aside0.mk hx0
    have HX1 := Aside0.mk hx1
    obtain ⟨S1, hS1⟩ : ∃ x, rd (outS l0 a2 (l0.length - 1)) (j : Int) = x := ⟨_, rfl⟩
    obtain ⟨W1, hW1⟩ : ∃ x, rd l0 (j : Int) = x := ⟨_, rfl⟩
    obtain ⟨X1, hX1⟩ : ∃ x, wrap64 (a4 - S1) = x := ⟨_, rfl⟩
    obtain ⟨X2, hX2⟩ : ∃ x, wrap64 (X1 - W1) = x := ⟨_, rfl⟩
    obtain ⟨OV, hOV⟩ : ∃ x, (if 0 < X2 then X2 else 0) = x := ⟨_, rfl⟩
    have hover : overOf l0 a2 a4 = OV := by
      unfold overOf
      rw [show ((l0.length - 1 : Nat) : Int) = (j : Int) by omega, hS1, hW1, hX1, hX2, ← hOV]
      rfl
    have HS1 := Aside0.mk hS1
    have HW1 := Aside0.mk hW1
    have HOV := Aside0.mk hover
    have HN := Aside0.mk hN
    have HNN := Aside0.mk hNN
    have HJ := Aside0.mk hj
    have HGAP := Aside0.mk hgap
    have HSP := Aside0.mk hsp
    clear hx0 hx1 hS1 hW1 hover hN hNN hj hgap hsp
    replace p1 := eq_true p1
    replace q1 := eq_true q1
    replace q2 := eq_true q2
    go_wp2_with (first | (go_at_call 19; refine ((highC (some ad1) c1 l1 _ HR1.out HL1.out _ (by assumption))).mono ?_; rintro e w' ⟨rfl, rfl⟩) | (go_at_call 22; refine ((startsC (some ad0) c0 l0 a2 _ HR0.out HC0.out HL0.out _ (by assumption))).mono ?_; rintro e w2 ⟨As, ns, cs, rfl, HSt, hb⟩; have HB := Aside0.mk hb; have HSt2 := HSt.out rfl; have hns := HSt2.1; subst hns; have HCS := Aside0.mk HSt2.2; clear hb HSt HSt2; simp only [if_true]) | (go_at_call 21; refine ((outWC _ _ _ (by assumption) _)).mono ?_; rintro e w' ⟨rfl, rfl⟩))
    obtain ⟨adS, eas, hxs⟩ := Kd.at_int HCS.out (j : Int) (by have := HJ.out; omega) (by have := HJ.out; omega)
    cases eas
    rw [Int.toNat_natCast, HS1.out] at hxs
    have hx0 : w2.cell? (ad0.add j) = some (.int .i64 W1) := by
      rw [← HW1.out]
      exact cell_of_blk HX0.out (by rw [addr_block]; exact HB.out.block _ (by have := World.block_lt_of_cell? _ _ HX0.out; rwa [addr_block] at this))
    apply wp_cutR
    case h =>
      go_region_held3 (fun w' => w'.cell? (adS.add j) = some (.int .i64 S1) ∧ w'.cell? (ad0.add j) = some (.int .i64 W1)) (go_keep) (first | fail)
      all_goals exact ⟨rfl, rfl, rfl⟩
    case hq =>
      simp only [i64_w]
      simp only [hX1, hX2, hOV]
      have HB3 := Aside0.mk (below_drew HB.out)
      generalize World.drew _ = w3 at HB3 ⊢
      clear hxs hx0 HB HCS hX1 hX2 hOV
      have HB := HB3
      clear HB3
      obtain ⟨XX, hXX⟩ : ∃ x, startX l0 a2 a3 a4 = x := ⟨_, rfl⟩
      have HXX := Aside0.mk hXX
      clear hXX
      go_upto_region 8 with (first | ((with_reducible refine gate_dst (N := 18) rfl ?_); refine box_event ?hg (N := 18) ?hd (cs := #[.slice none 0 0]) (t := 29) ?hr ?_; (case hd => rfl); (case hg => rfl); (case hr => first | (go_simp; done) | (go_simp; rfl)); intro g18 hg w4 hbox hb; have BO : Aside0 (Boxed w4 g18 29 (.slice none 0 0)) := ⟨hbox⟩; have HG18 : Aside0 (w.heap.size ≤ g18) := ⟨by have := HB.out.size; omega⟩; have HB := Aside0.mk (HB.out.trans (hb.mono HB.out.size)); clear hbox hb hg))
      have HAL := Aside0.mk hal
      clear hal
      apply wp_cutE (G := fun b W0 => ∃ w5 : World, b = w5.heap.size ∧ W0 = (((w5.alloc (.cells #[.int .i64 XX] 3)).alloc (.cells #[.slice (some ad0) l0.length c0] 22)).alloc (.cells #[.slice (some ad1) l1.length c1] 22)).alloc (.cells #[.int .i64 a2] 3) ∧ Below w4.heap.size w4 w5)
      case h =>
        have HAX : Aside0 (a3 = 0) ∨ Aside0 (a3 = 1) ∨ Aside0 (a3 = 2) := HAL.out.imp Aside0.mk (·.imp Aside0.mk Aside0.mk)
        rcases HAX with HA | HA | HA
        · have hx : Aside0 ((0 : Int) = XX) := ⟨by rw [← HXX.out, HA.out]; simp [startX]⟩
          have hc : ∀ w, Calls Try.prog 39 #[.int .i64 OV] w fun e w' => e = .returned (.int .i64 XX) ∧ w = w' := fun w => by rw [← hx.out]; exact al0_calls OV w
          have hix : ∀ w, (Instr.index 59 (.agg #[.func (.func 39) #[] #[], .func (.func 40) #[] #[], .func (.func 41) #[] #[]]) (.int .i64 a3)).run Try.prog w = .ok (.agg #[.func (.func 39) #[] #[]]) w := fun w => by rw [HA.out]; exact ix59_0 w
          have hfd := fd58 39
          go_wp2_with (first | (go_at_call 24; with_reducible refine (aligners_calls _).mono ?_; rintro e w5 ⟨rfl, hb⟩; have HB5 := Aside0.mk hb; clear hb) | (go_at_call 39; with_reducible refine (hc _).mono ?_; rintro e w' ⟨rfl, rfl⟩) | (go_at_call 23; with_reducible refine (boxes_calls _ _ _ _ _ _ _ _ _).mono ?_; rintro e w' ⟨rfl, rfl⟩))
          show ∃ t u v b, _ ∧ ∃ w5 : World, _
          obtain ⟨tt, htt⟩ : ∃ t, t = Value.agg #[.func (.func 39) #[] #[], .func (.func 40) #[] #[], .func (.func 41) #[] #[]] := ⟨_, rfl⟩
          obtain ⟨uu, huu⟩ : ∃ t, t = Value.agg #[.func (.func 39) #[] #[]] := ⟨_, rfl⟩
          obtain ⟨vv, hvv⟩ : ∃ t, t = Value.func (.func 39) #[] #[] := ⟨_, rfl⟩
          obtain ⟨bb, hbb⟩ : ∃ b, b = w5.heap.size := ⟨_, rfl⟩
          refine ⟨tt, uu, vv, bb, ?_, w5, hbb, rfl, HB5.out⟩
          rw [← htt, ← huu, ← hvv, ← hbb]
        · have hx : Aside0 (wrap64 (OV.tdiv 2) = XX) := ⟨by rw [← HXX.out, HA.out]; simp [startX, HOV.out]⟩
          have hc : ∀ w, Calls Try.prog 40 #[.int .i64 OV] w fun e w' => e = .returned (.int .i64 XX) ∧ w = w' := fun w => by rw [← hx.out]; exact al1_calls OV w
          have hix : ∀ w, (Instr.index 59 (.agg #[.func (.func 39) #[] #[], .func (.func 40) #[] #[], .func (.func 41) #[] #[]]) (.int .i64 a3)).run Try.prog w = .ok (.agg #[.func (.func 40) #[] #[]]) w := fun w => by rw [HA.out]; exact ix59_1 w
          have hfd := fd58 40
          go_wp2_with (first | (go_at_call 24; with_reducible refine (aligners_calls _).mono ?_; rintro e w5 ⟨rfl, hb⟩; have HB5 := Aside0.mk hb; clear hb) | (go_at_call 40; with_reducible refine (hc _).mono ?_; rintro e w' ⟨rfl, rfl⟩) | (go_at_call 23; with_reducible refine (boxes_calls _ _ _ _ _ _ _ _ _).mono ?_; rintro e w' ⟨rfl, rfl⟩))
          show ∃ t u v b, _ ∧ ∃ w5 : World, _
          obtain ⟨tt, htt⟩ : ∃ t, t = Value.agg #[.func (.func 39) #[] #[], .func (.func 40) #[] #[], .func (.func 41) #[] #[]] := ⟨_, rfl⟩
          obtain ⟨uu, huu⟩ : ∃ t, t = Value.agg #[.func (.func 40) #[] #[]] := ⟨_, rfl⟩
          obtain ⟨vv, hvv⟩ : ∃ t, t = Value.func (.func 40) #[] #[] := ⟨_, rfl⟩
          obtain ⟨bb, hbb⟩ : ∃ b, b = w5.heap.size := ⟨_, rfl⟩
          refine ⟨tt, uu, vv, bb, ?_, w5, hbb, rfl, HB5.out⟩
          rw [← htt, ← huu, ← hvv, ← hbb]
        · have hx : Aside0 (OV = XX) := ⟨by rw [← HXX.out, HA.out]; simp [startX, HOV.out]⟩
          have hc : ∀ w, Calls Try.prog 41 #[.int .i64 OV] w fun e w' => e = .returned (.int .i64 XX) ∧ w = w' := fun w => by rw [← hx.out]; exact al2_calls OV w
          have hix : ∀ w, (Instr.index 59 (.agg #[.func (.func 39) #[] #[], .func (.func 40) #[] #[], .func (.func 41) #[] #[]]) (.int .i64 a3)).run Try.prog w = .ok (.agg #[.func (.func 41) #[] #[]]) w := fun w => by rw [HA.out]; exact ix59_2 w
          have hfd := fd58 41
          go_wp2_with (first | (go_at_call 24; with_reducible refine (aligners_calls _).mono ?_; rintro e w5 ⟨rfl, hb⟩; have HB5 := Aside0.mk hb; clear hb) | (go_at_call 41; with_reducible refine (hc _).mono ?_; rintro e w' ⟨rfl, rfl⟩) | (go_at_call 23; with_reducible refine (boxes_calls _ _ _ _ _ _ _ _ _).mono ?_; rintro e w' ⟨rfl, rfl⟩))
          show ∃ t u v b, _ ∧ ∃ w5 : World, _
          obtain ⟨tt, htt⟩ : ∃ t, t = Value.agg #[.func (.func 39) #[] #[], .func (.func 40) #[] #[], .func (.func 41) #[] #[]] := ⟨_, rfl⟩
          obtain ⟨uu, huu⟩ : ∃ t, t = Value.agg #[.func (.func 41) #[] #[]] := ⟨_, rfl⟩
          obtain ⟨vv, hvv⟩ : ∃ t, t = Value.func (.func 41) #[] #[] := ⟨_, rfl⟩
          obtain ⟨bb, hbb⟩ : ∃ b, b = w5.heap.size := ⟨_, rfl⟩
          refine ⟨tt, uu, vv, bb, ?_, w5, hbb, rfl, HB5.out⟩
          rw [← htt, ← huu, ← hvv, ← hbb]
      case hq =>
        rintro t67 u69 v70 b W0 ⟨w5, rfl, hW0, hb5⟩
        have hs0 : W0.heap.size = w5.heap.size + 4 := by rw [hW0]; simp
        have BL5 : Below w.heap.size w w5 := HB.out.trans (hb5.mono HB.out.size)
        have lt18 : g18 < w5.heap.size := Nat.lt_of_lt_of_le BO.out.lt hb5.size
        have BO5 : Boxed w5 g18 29 (.slice none 0 0) := (hb5.block _ BO.out.lt).trans BO.out
        have bl0 : Below w.heap.size w W0 := by rw [hW0]; exact below_alloc (below_alloc (below_alloc (below_alloc BL5 _) _) _) _
        have BO0 : Boxed W0 g18 29 (.slice none 0 0) := by rw [hW0]; exact (((BO5.alloc _).alloc _).alloc _).alloc _
        have bx0 : Boxed W0 w5.heap.size 3 (.int .i64 XX) := by rw [hW0]; exact (((Boxed.new w5 3 _).alloc _).alloc _).alloc _
        have bx1 : Boxed W0 (w5.heap.size + 1) 22 (.slice (some ad0) l0.length c0) := by
          rw [hW0]; have := ((Boxed.new (w5.alloc (.cells #[.int .i64 XX] 3)) 22 (.slice (some ad0) l0.length c0)).alloc (.cells #[.slice (some ad1) l1.length c1] 22)).alloc (.cells #[.int .i64 a2] 3); rwa [World.size_alloc] at this
        have bx2 : Boxed W0 (w5.heap.size + 2) 22 (.slice (some ad1) l1.length c1) := by
          rw [hW0]; have := (Boxed.new ((w5.alloc (.cells #[.int .i64 XX] 3)).alloc (.cells #[.slice (some ad0) l0.length c0] 22)) 22 (.slice (some ad1) l1.length c1)).alloc (.cells #[.int .i64 a2] 3); rwa [World.size_alloc, World.size_alloc] at this
        have bx3 : Boxed W0 (w5.heap.size + 3) 3 (.int .i64 a2) := by
          rw [hW0]; have := Boxed.new (((w5.alloc (.cells #[.int .i64 XX] 3)).alloc (.cells #[.slice (some ad0) l0.length c0] 22)).alloc (.cells #[.slice (some ad1) l1.length c1] 22)) 3 (.int .i64 a2); rwa [World.size_alloc, World.size_alloc, World.size_alloc] at this
        have lA : ad0.block < w.heap.size := by have := World.block_lt_of_cell? _ _ HX0.out; rwa [addr_block] at this
        have lB : ad1.block < w.heap.size := by have := World.block_lt_of_cell? _ _ HX1.out; rwa [addr_block] at this
        have hws := BL5.size
        obtain ⟨Bx, hBx⟩ : ∃ Bx, w5.heap.size = Bx := ⟨_, rfl⟩
        rw [hBx] at hs0 lt18 bx0 bx1 bx2 bx3 hws ⊢
        have hiter := boxes_iter l0 l1 (some ad0) (some ad1) c0 c1 XX a2 Bx (fun k => k < w.heap.size ∨ (Bx ≤ k ∧ k ≤ Bx + 3)) W0 HNN.out HL0.out (.inr ⟨by omega, by omega⟩) (.inr ⟨by omega, by omega⟩) (.inr ⟨by omega, by omega⟩) (.inr ⟨by omega, by omega⟩)
          bx0 bx1 bx2 bx3 (Kd.C_below HR0.out bl0) (Kd.C_below HR1.out bl0) (fun ad h _ => by cases h; exact ⟨.inl lA, by omega⟩) (fun ad h _ => by cases h; exact ⟨.inl lB, by omega⟩)
        have LT18 := Aside0.mk lt18
        have HWS := Aside0.mk hws
        have HS0 := Aside0.mk hs0
        have BL0 := Aside0.mk bl0
        have B18 := Aside0.mk BO0
        have HIT := Aside0.mk hiter
        clear hW0 hb5 BL5 BO5 bx0 bx1 bx2 bx3 lA lB hBx BO HB hiter lt18 hws hs0 bl0 BO0
        go_wp2
        refine (wpIn_wide (n := 3)).1 ?_
        refine wpIn_act (fun A0 hA0 => ?_)
        have HA0 := Aside0.mk hA0
        clear hA0
        refine rangeFuncO (O := fun k => k = Bx) (lb := #[.pointer (some ⟨Bx + 1, 0, none⟩), .pointer (some ⟨Bx, 0, none⟩), .pointer (some ⟨Bx + 2, 0, none⟩), .pointer (some ⟨Bx + 3, 0, none⟩)]) (gf := 38) rfl (enters_of Try.func38 (by kernel_rfl) rfl) HIT.out (fun _ => rfl)
          (fun k hk => by have := HS0.out; omega) (fun k hk => by have := HS0.out; have := HWS.out; rcases hk with hk | hk <;> omega) (fun _ _ _ _ _ _ h _ _ => h)
          (fun pre W => (∃ v, Boxed W g18 29 v ∧ W.ownsRow W0.heap.size 38 7 v pre.length (pre.flatMap cells38) ∧ True) ∧ Below w.heap.size w W)
          (fun _ _ _ => False)
          (OwnFrom.and (Own.from (holdsRow_own _ _ _ _ _ _ _ (fun _ _ => True)) _) (ownFrom_below (Nat.le_refl _) BL0.out.size))
          (fun _ _ _ _ _ hs _ _ => hs) ?hIO (fun _ _ _ _ h _ => h) ⟨⟨_, B18.out, own_nil _ _ _ _, trivial⟩, BL0.out⟩
          (fun x a' W => ∃ B5 : Nat, W.heap[B5]? = some (.cells #[.int .i64 x.f0, .int .i64 x.f1, .int .i64 x.f2, .int .i64 x.f3, .int .i64 x.f4, .bool x.f5, .slice none 0 0] 38 (0, 0)) ∧ a' = (A0.put (some 77) (enc38 x)).put (some 19) (.pointer (some ⟨B5, 0, none⟩)))
          ?hAx ?hVb ?assign ?body ?done ?stop
        case hIO =>
          rintro pre A B ⟨⟨v, hv, hrow, _⟩, hbl⟩ hab
          have hg := BelowO.grown hab
          have h18 := LT18.out
          refine ⟨⟨v, hv.kept hg (by simp; omega), hrow.kept hg ?_, trivial⟩, hbl.grown hg hbl.size (fun k e => by cases e; exact HWS.out)⟩
          cases hob : v.ownBlock with
          | none => exact .inl rfl
          | some k => exact .inr (by have := own_base hrow k hob; have := HS0.out; simp; omega)
        case hAx =>
          rintro x a' W l o o' ⟨B5, h5, rfl⟩ hl ho
          refine ⟨B5, (World.putObj_heap_other ?_).trans h5, rfl⟩
          rintro rfl; rw [h5] at hl; cases hl; cases ho
        case hVb => exact fun _ _ _ _ h _ => h
        case assign =>
          intro l x W K' hK'
          simp only [enc38]
          gi_wp2
          refine hK' _ _ ?_ ⟨W.heap.size, ?_, ?_⟩
          · exact (Below.refl _ W).alloc (Nat.le_refl _) _
          · exact heap_alloc_new W _
          · rw [HA0.out]; rfl
        case body =>
          rintro l pre x a' Wa Wb hlt ⟨⟨v, hv, hrow, _⟩, hbl⟩ hab hpf ⟨B5, h5, rfl⟩
          have hpl : pre.length ≤ 64 := by have h1 := hpf.length_le; rw [boxList_length] at h1; simp at h1; have := HN.out; omega
          have f0 := (blk_cell h5 0).trans rfl
          have f1 := (blk_cell h5 1).trans rfl
          have f2 := (blk_cell h5 2).trans rfl
          have f3 := (blk_cell h5 3).trans rfl
          have f4 := (blk_cell h5 4).trans rfl
          have f5 := (blk_cell h5 5).trans rfl
          have f6 := (blk_cell h5 6).trans rfl
          obtain ⟨i0, hi0, hz0, hz1, hz2⟩ := info_parts info38
          have hg0 := BelowO.grown hab
          have h18 := LT18.out
          have hs00 := HS0.out
          have hvb : Boxed Wb g18 29 v := hv.kept hg0 (by simp; omega)
          have hvc := hvb.cell
          have hvf := hvb.frozen
          have hrb : Wb.ownsRow W0.heap.size 38 7 v pre.length (pre.flatMap cells38) := hrow.kept hg0 (by
            cases hob : v.ownBlock with
            | none => exact .inl rfl
            | some k => exact .inr (by have := own_base hrow k hob; simp; omega))
          have HV := Aside0.mk hvb
          have HLT := Aside0.mk hv.lt
          have HRA := Aside0.mk hrow
          have HRB := Aside0.mk hrb
          have HB := Aside0.mk (hbl.grown hg0 hbl.size (fun k e => by cases e; exact HWS.out))
          have HAB := Aside0.mk hab
          have HW0 := Aside0.mk hlt
          clear hv hrow hbl hab hvb h5 hpf hg0 hrb h18 hs00 hlt
          rw [HA0.out]
          simp only [Act.put, List.setIfInBounds_toArray, List.set_cons_zero, List.set_cons_succ]
          gi_wp2_with (gi_at_builtin; refine wpListIn_append_own _ rfl _ _ 29 rfl W0.heap.size 38 i0 _ 7 72 Try.underlying29 hi0 hz0 hz1 hz2 rfl (by decide) _ _ _ rfl (HRB.out.alloc _) ⟨Wb.heap.size, 0, none⟩ 1 1 (cells38 x) rfl rfl ?c1 ?c2 ?c3 ?c4 ?c5 ?_)
          case c1 => simpa [cells38] using World.news_of_block (heap_alloc_new Wb (.cells (cells38 x).toArray 38))
          case c2 => simp [cells38, Value.oneCell']
          case c3 => simp [maxLen]; omega
          case c4 => omega
          case c5 => have := HAB.out.size; have := HW0.out; simp; omega
          intro v' w1 hown hgrow _
          obtain ⟨g', cap', rfl⟩ := ownsRow_succ hown
          have hnr := HV.out.not_row (by decide) HRB.out
          have hv1 : Boxed w1 g18 29 v := (HV.out.alloc _).kept hgrow hnr
          have hc1 := hv1.cell
          have hf1 := hv1.frozen
          have HV1 := Aside0.mk hv1
          have HG := Aside0.mk hgrow
          have HO := Aside0.mk hown
          clear hv1 hgrow hown hnr
          gi_wp2
          have hsz1 := HAB.out.size
          have hlt0 := HLT.out
          have h18 := LT18.out
          have hws := HWS.out
          have hs00 := HS0.out
          have hg18 := HG18.out
          have hrow : ∀ k, v.ownBlock = some k → W0.heap.size ≤ k ∧ k < Wa.heap.size := fun k hk => ⟨own_base HRA.out k hk, own_lt HRA.out k hk⟩
          refine ⟨((((Lets.refl _ Wa Wb).alloc _).grown HG.out (fun k hk => ⟨.inr ⟨(hrow k hk).2, ?_⟩, ?_⟩)).setCell _ (.inr ⟨hlt0, ?_⟩)), ⟨_, HV1.out.set _, ?_, trivial⟩, ?_⟩
          · have := hrow k hk; omega
          · intro o ho
            obtain ⟨cells, hcc⟩ := own_typed (HRB.out.alloc _) k hk
            rw [hcc] at ho
            cases ho
            rfl
          · show ¬ (g18 < w.heap.size ∨ (Bx ≤ g18 ∧ g18 ≤ Bx + 3))
            omega
          · have hh := HO.out
            have h2 := hh.kept (grownBy_setCell' w1 g18 (.slice (some ⟨g', 0, none⟩) (pre.length + 1) cap')) (.inr (HV1.out.not_row (by decide) hh).symm)
            rw [List.flatMap_append]
            simpa using h2
          · exact (((HB.out.alloc (by have := HB.out.size; omega) _).grown HG.out (by simp; have := HB.out.size; omega) (fun k hk => by have := hrow k hk; omega)).setCell (p := ⟨g18, 0, none⟩) hg18 _)
        case done =>
          rintro D ys W hD rfl ⟨⟨v, hv, hrow, _⟩, hbl⟩ hK
          obtain ⟨Ar, cr, rfl⟩ := own_slice hrow
          have HV := Aside0.mk hv
          have HR := Aside0.mk hrow
          have HBL := Aside0.mk hbl
          have HK := Aside0.mk hK
          have HD := Aside0.mk hD
          have hvc := hv.cell
          have hC1 : Aside0 (Kd.C (Kd.int .i64) W.drew (some ad1) l1.length l1) := ⟨Kd.C_below HR1.out (below_drew hbl)⟩
          clear hv hrow hbl hK hD
          go_wp2
          apply wp_cutR
          case h =>
            go_region_held3 (fun w' => w'.cell? ⟨g18, 0, none⟩ = some (.slice Ar (boxList XX a2 l0 l1 l0.length).length cr) ∧ Aside0 (Kd.C (Kd.int .i64) w' (some ad1) l1.length l1)) (go_keep) (first | (go_at_call 25; refine (max_calls (some ad1) c1 l1 _ (Aside0.out (by assumption)) HL1.out (by have := HN.out; have := HNN.out; omega)).mono ?_; rintro e w' ⟨rfl, rfl⟩))
            all_goals exact ⟨rfl, rfl, rfl⟩
          case hq =>
            go_wp2
            refine ⟨by simp, .inl ⟨_, _, rfl, run_takeDeferred HK.out, ?_⟩⟩
            exact ⟨_, results_tmp3 rfl _ _ _, _, rfl, by rw [HXX.out]; exact Kd.S_lower (S38_of (ownsRow_putObj (own_drew HR.out) _ HK.out rfl) (boxList_f6 _ _ _ _ _)) (by have := HS0.out; have := HWS.out; omega), (below_drew HBL.out).grown (grownBy_putObj' W.drew D _) HBL.out.size (fun k e => by cases e; have := HD.out; have := HS0.out; have := HWS.out; omega)⟩
        case stop =>
          intro D c pre W _ _ h _
          exact h.elim
end Go.Proofs.Ytdnhjkldhdolpaa.P
