import Derived.Test.YtclfimdafmoafaaHIdx
import Derived.StillTailTactics
set_option linter.unusedVariables false
set_option linter.unusedSimpArgs false
namespace Go.Proofs.Ytclfimdafmoafaa.P
open Go.RowKit Go.Proofs.YtclfimdafmoafaaW.PrintWords Go.Proofs.YtclfimdafmoafaaW.PrintLast Go.Proofs.YtclfimdafmoafaaW.PrintMore
attribute [local go_sem] Oper.semAt_some
def tkr (l : List S29) (i : Nat) : S29 := rd_T29 l (i : Int)
/-- The least widths of the first columns, and what they may grow. -/
def loTo (l : List S29) : Nat → Int
  | 0 => 0
  | i + 1 => loTo l i + (tkr l i).f0
def spTo (l : List S29) : Nat → Int
  | 0 => 0
  | i + 1 => spTo l i + (tkr l i).f1 - (tkr l i).f0
def restR (l : List S29) (space gap : Int) : Int := space - gap * ((l.length : Int) - 1) - loTo l l.length
def partR (l : List S29) (rest all : Int) (i : Nat) : Int := if 0 < all then Int.tdiv (rest * spTo l (i + 1)) all - Int.tdiv (rest * spTo l i) all else 0
def tabW (n : Nat) (w : Nat → Int) : List Int := (List.range n).map w
theorem tabW_length (n : Nat) (w : Nat → Int) : (tabW n w).length = n := by simp [tabW]
theorem tabW_succ (n : Nat) (w : Nat → Int) : tabW (n + 1) w = tabW n w ++ [w n] := by simp [tabW, List.range_succ]
def okW (l : List S29) (a1 a2 : Int) : Bool := inside (l.length : Int) 1 64 && inside a1 0 1000000 && inside a2 0 100000 && !l.any wrongR
def widR (l : List S29) (a1 a2 : Int) (i : Nat) : Int := (tkr l i).f0 + partR l (mn (restR l a1 a2) (spTo l l.length)) (spTo l l.length) i
def table_Widths.f (l : List S29) (a1 a2 : Int) : Option (List Int × Int) :=
  if okW l a1 a2 = true then (if restR l a1 a2 < 0 then some ([], 22) else some (tabW l.length (widR l a1 a2), 0)) else some ([], 1)
/-- Needs as they may be. -/
structure OkN (l : List S29) : Prop where
  n1 : 1 ≤ l.length
  n64 : l.length ≤ 64
  bd : ∀ i, i < l.length → 0 ≤ (tkr l i).f0 ∧ (tkr l i).f0 ≤ (tkr l i).f1 ∧ (tkr l i).f1 ≤ 1000000
theorem tkr_mem (l : List S29) (i : Nat) (h : i < l.length) : tkr l i ∈ l := by
  have : tkr l i = l[i] := by simp [tkr, rd_T29, List.getD_eq_getElem?_getD, List.getElem?_eq_getElem h]
  rw [this]; exact List.getElem_mem h
theorem wrongR_iff (t : S29) : wrongR t = false ↔ 0 ≤ t.f0 ∧ t.f0 ≤ t.f1 ∧ t.f1 ≤ 1000000 := by
  simp [wrongR, inside]; omega
theorem OkN.of {l : List S29} {a1 a2 : Int} (h : okW l a1 a2 = true) : OkN l ∧ (0 ≤ a1 ∧ a1 ≤ 1000000) ∧ (0 ≤ a2 ∧ a2 ≤ 100000) := by
  simp only [okW, Bool.and_eq_true, inside, decide_eq_true_eq, Bool.not_eq_true', List.any_eq_false] at h
  exact ⟨⟨by omega, by omega, fun i hi => (wrongR_iff _).1 (by simpa using h.2 _ (tkr_mem l i hi))⟩, h.1.1.2, h.1.2⟩
theorem loTo_bd {l : List S29} (ok : OkN l) : ∀ i : Nat, i ≤ l.length → 0 ≤ loTo l i ∧ loTo l i ≤ 1000000 * i
  | 0, _ => by simp [loTo]
  | i + 1, h => by
    have := loTo_bd ok i (by omega)
    have := ok.bd i (by omega)
    simp only [loTo]; push_cast; omega
theorem spTo_bd {l : List S29} (ok : OkN l) : ∀ i : Nat, i ≤ l.length → 0 ≤ spTo l i ∧ spTo l i ≤ 1000000 * i
  | 0, _ => by simp [spTo]
  | i + 1, h => by
    have := spTo_bd ok i (by omega)
    have := ok.bd i (by omega)
    simp only [spTo]; push_cast; omega
theorem spTo_mono {l : List S29} (ok : OkN l) : ∀ d i : Nat, i + d ≤ l.length → spTo l i ≤ spTo l (i + d)
  | 0, i, _ => by simp
  | d + 1, i, h => by
    have h1 := spTo_mono ok d i (by omega)
    have h2 := ok.bd (i + d) (by omega)
    rw [show i + (d + 1) = i + d + 1 by omega]
    simp only [spTo]; omega
theorem restR_bd {l : List S29} (ok : OkN l) {a1 a2 : Int} (b1 : 0 ≤ a1 ∧ a1 ≤ 1000000) (b2 : 0 ≤ a2 ∧ a2 ≤ 100000) : restR l a1 a2 ≤ 1000000 ∧ -100000000 ≤ restR l a1 a2 ∧ 0 ≤ a2 * ((l.length : Int) - 1) ∧ a2 * ((l.length : Int) - 1) ≤ 6300000 := by
  have h1 := loTo_bd ok l.length (Nat.le_refl _)
  have n1 := ok.n1
  have n64 := ok.n64
  have m1 := Int.mul_nonneg b2.1 (show 0 ≤ (l.length : Int) - 1 by omega)
  have m2 := Int.mul_le_mul b2.2 (show (l.length : Int) - 1 ≤ 63 by omega) (by omega) (by omega : (0 : Int) ≤ 100000)
  unfold restR
  omega
/-- What a product of the rest is. -/
theorem prod_bd {l : List S29} (ok : OkN l) {q : Int} (hq : 0 ≤ q ∧ q ≤ 1000000) {A : Int} (hA : 0 < A) (i : Nat) (hi : i ≤ l.length) :
    0 ≤ q * spTo l i ∧ q * spTo l i ≤ 64000000000000 ∧ 0 ≤ Int.tdiv (q * spTo l i) A ∧ Int.tdiv (q * spTo l i) A ≤ 64000000000000 := by
  have h1 := spTo_bd ok i hi
  have n64 := ok.n64
  have m1 := Int.mul_nonneg hq.1 h1.1
  have m2 := Int.mul_le_mul hq.2 (show spTo l i ≤ 64000000 by omega) h1.1 (by omega : (0 : Int) ≤ 1000000)
  refine ⟨m1, by omega, ?_, ?_⟩
  · exact Int.tdiv_nonneg m1 (by omega)
  · have : Int.tdiv (q * spTo l i) A ≤ q * spTo l i := by
      rw [Int.tdiv_eq_ediv_of_nonneg m1]
      exact Int.ediv_le_self _ m1
    omega
set_option maxRecDepth 100000 in
set_option maxHeartbeats 8000000 in
theorem table_Widths.calls (A0 : Option Addr) (c0 : Nat) (l0 : List S29) (a1 a2 : Int) (r1 : List Int) (r2 : Int) (w : World) (hr0 : Kd.C k29 w A0 l0.length l0) (hc0 : l0.length ≤ c0) (h : table_Widths.f l0 a1 a2 = some (r1, r2)) :
    Calls Try.prog 15 #[.slice A0 l0.length c0, .int .i64 a1, .int .i64 a2] w fun e w' => ∃ v0_ : Value, e = .returned (.tuple #[v0_, .int .i64 r2]) ∧ Kd.R (Kd.int .i64) 3 w' w.heap.size (fun _ => True) v0_ r1 ∧ Below w.heap.size w w' := by
  have HB := Aside0.mk (Below.refl w.heap.size w)
  have HR := Aside0.mk hr0
  clear hr0 hc0
  unfold table_Widths.f at h
  have hw : ∀ (n lo hi : Int) (b : Bool), inside n lo hi = b → ∀ w, Calls Try.prog 29 #[.int .i64 n, .int .i64 lo, .int .i64 hi] w fun e w' => e = .returned (.bool b) ∧ w = w' := fun n lo hi b hb w => by rw [← hb]; exact within29_calls n lo hi w
  cases h1 : inside (l0.length : Int) 1 64
  case false =>
    obtain ⟨rfl, rfl⟩ : [] = r1 ∧ 1 = r2 := by simpa [okW, h1] using h
    have hw1 := hw _ _ _ _ h1
    clear h hw h1
    go_enter Try.func15, Try.ntmps15
    go_wp2_with (first | (go_at_call 29; with_reducible refine (hw1 _).mono ?_; rintro e w' ⟨rfl, rfl⟩))
    refine bodyPost_ret (results_tmp2 rfl _ _ _) rfl ?_
    exact ⟨.slice none 0 0, rfl, Kd.R_nil _ _ _ _ _, HB.out⟩
  have hw1 := hw _ _ _ _ h1
  cases h2 : inside a1 0 1000000
  case false =>
    obtain ⟨rfl, rfl⟩ : [] = r1 ∧ 1 = r2 := by simpa [okW, h1, h2] using h
    have hw2 := hw _ _ _ _ h2
    clear h hw h1 h2
    go_enter Try.func15, Try.ntmps15
    go_wp2_with (first | (go_at_call 29; with_reducible refine (hw1 _).mono ?_; rintro e w' ⟨rfl, rfl⟩) | (go_at_call 29; with_reducible refine (hw2 _).mono ?_; rintro e w' ⟨rfl, rfl⟩))
    refine bodyPost_ret (results_tmp2 rfl _ _ _) rfl ?_
    exact ⟨.slice none 0 0, rfl, Kd.R_nil _ _ _ _ _, HB.out⟩
  have hw2 := hw _ _ _ _ h2
  cases h3 : inside a2 0 100000
  case false =>
    obtain ⟨rfl, rfl⟩ : [] = r1 ∧ 1 = r2 := by simpa [okW, h1, h2, h3] using h
    have hw3 := hw _ _ _ _ h3
    clear h hw h1 h2 h3
    go_enter Try.func15, Try.ntmps15
    go_wp2_with (first | (go_at_call 29; with_reducible refine (hw1 _).mono ?_; rintro e w' ⟨rfl, rfl⟩) | (go_at_call 29; with_reducible refine (hw2 _).mono ?_; rintro e w' ⟨rfl, rfl⟩) | (go_at_call 29; with_reducible refine (hw3 _).mono ?_; rintro e w' ⟨rfl, rfl⟩))
    refine bodyPost_ret (results_tmp2 rfl _ _ _) rfl ?_
    exact ⟨.slice none 0 0, rfl, Kd.R_nil _ _ _ _ _, HB.out⟩
  have hw3 := hw _ _ _ _ h3
  cases h4 : l0.any wrongR
  case true =>
    obtain ⟨rfl, rfl⟩ : [] = r1 ∧ 1 = r2 := by simpa [okW, h1, h2, h3, h4] using h
    have hany : Calls Try.prog 27 #[.slice A0 l0.length c0, .func (.func 28) #[] #[]] w fun e w' => e = .returned (.bool true) ∧ Below w.heap.size w w' := by rw [← h4]; exact anyWrong_calls A0 c0 l0 w HR.out
    clear h hw h1 h2 h3 h4
    go_enter Try.func15, Try.ntmps15
    go_wp2_with (first | (go_at_call 29; with_reducible refine (hw1 _).mono ?_; rintro e w' ⟨rfl, rfl⟩) | (go_at_call 29; with_reducible refine (hw2 _).mono ?_; rintro e w' ⟨rfl, rfl⟩) | (go_at_call 29; with_reducible refine (hw3 _).mono ?_; rintro e w' ⟨rfl, rfl⟩) | (go_at_call 27; with_reducible refine hany.mono ?_; rintro e w2 ⟨rfl, hb⟩; have HB2 := Aside0.mk hb; clear hb))
    refine bodyPost_ret (results_tmp2 rfl _ _ _) rfl ?_
    exact ⟨.slice none 0 0, rfl, Kd.R_nil _ _ _ _ _, HB2.out⟩
  have hok : okW l0 a1 a2 = true := by simp [okW, h1, h2, h3, h4]
  obtain ⟨ok, b1, b2⟩ := OkN.of hok
  rw [if_pos hok] at h
  have hany : Calls Try.prog 27 #[.slice A0 l0.length c0, .func (.func 28) #[] #[]] w fun e w' => e = .returned (.bool false) ∧ Below w.heap.size w w' := by rw [← h4]; exact anyWrong_calls A0 c0 l0 w HR.out
  have OK := Aside0.mk ok
  have RB := Aside0.mk (restR_bd ok b1 b2)
  have H := Aside0.mk h
  have HN : Aside0 (1 ≤ l0.length ∧ l0.length ≤ 64) := ⟨ok.n1, ok.n64⟩
  have B1 := Aside0.mk b1
  have B2 := Aside0.mk b2
  clear h hw h1 h2 h3 h4 hok ok b1 b2
  go_enter Try.func15, Try.ntmps15
  go_wp2_with (first | (go_at_call 29; with_reducible refine (hw1 _).mono ?_; rintro e w' ⟨rfl, rfl⟩) | (go_at_call 29; with_reducible refine (hw2 _).mono ?_; rintro e w' ⟨rfl, rfl⟩) | (go_at_call 29; with_reducible refine (hw3 _).mono ?_; rintro e w' ⟨rfl, rfl⟩) | (go_at_call 27; with_reducible refine hany.mono ?_; rintro e w2 ⟨rfl, hb⟩; have HB2 := Aside0.mk hb; clear hb))
  clear hw1 hw2 hw3 hany HB
  go_loopg [8, 9, 39] l0.length (fun kq v8 v9 v39 w' => ∃ j : Nat, v8 = .int .i64 (loTo l0 j) ∧ v9 = .int .i64 (spTo l0 j) ∧ v39 = .int .i64 (j : Int) ∧ Aside0 (kq + j = l0.length) ∧ Aside0 (Below w.heap.size w w'))
  case atStart => exact ⟨0, rfl, rfl, rfl, ⟨rfl⟩, HB2⟩
  case round =>
    clear HB2
    obtain ⟨j, rfl, rfl, rfl, HK, HB⟩ := hrel
    cases gk with
    | succ k1 =>
      have hj : j < l0.length := by have := HK.out; omega
      have p1 : 0 ≤ (j : Int) := by omega
      have q1 : (j : Int) < (l0.length : Int) := by omega
      have c1b : decide ((j : Int) < (l0.length : Int)) = true := decide_eq_true q1
      have hsum : IntKind.i64.wrap ((j : Int) + 1) = ((j + 1 : Nat) : Int) := by have := HN.out; exact IntWalk.i64_in _ (by omega)
      have hsum2 : wrap64 ((j : Int) + 1) = ((j + 1 : Nat) : Int) := by have := HN.out; unfold wrap64; omega
      obtain ⟨ad, ead, hx0, hx1⟩ := at_T29 (Kd.C_below HR.out HB.out) (j : Int) p1 q1
      cases ead
      have hb := OK.out.bd j hj
      have hl := loTo_bd OK.out j (by omega)
      have hs := spTo_bd OK.out j (by omega)
      have e1 : loTo l0 (j + 1) = loTo l0 j + (tkr l0 j).f0 := rfl
      have e2 : spTo l0 (j + 1) = spTo l0 j + (tkr l0 j).f1 - (tkr l0 j).f0 := rfl
      rw [show rd_T29 l0 (j : Int) = tkr l0 j from rfl] at hx0 hx1
      rw [Int.toNat_natCast] at hx0 hx1
      obtain ⟨x, hx⟩ : ∃ x, tkr l0 j = x := ⟨_, rfl⟩
      rw [hx] at hx0 hx1 hb e1 e2
      have hn := HN.out
      obtain ⟨s0, hs0⟩ : ∃ s, loTo l0 j = s := ⟨_, rfl⟩
      obtain ⟨s1, hs1⟩ : ∃ s, spTo l0 j = s := ⟨_, rfl⟩
      rw [hs0] at hl e1
      rw [hs1] at hs e2
      have w1 : IntKind.i64.wrap (s0 + x.f0) = s0 + x.f0 := IntWalk.i64_in _ (by omega)
      have w2 : IntKind.i64.wrap (s1 + x.f1) = s1 + x.f1 := IntWalk.i64_in _ (by omega)
      have w3 : IntKind.i64.wrap (s1 + x.f1 - x.f0) = s1 + x.f1 - x.f0 := IntWalk.i64_in _ (by omega)
      have E1 := Aside0.mk e1
      have E2 := Aside0.mk e2
      rw [hs0, hs1]
      clear hb hl hs e1 e2 hx hn hs0 hs1 hj
      replace p1 := eq_true p1
      replace q1 := eq_true q1
      go_wp2
      go_quiet (fail)
      clear w1 w2 w3
      go_wp2
      go_roundg k1
      case measure => omega
      case rel => exact ⟨j + 1, by rw [E1.out], by rw [E2.out], by first | rfl | simp [hsum, hsum2], ⟨by have := HK.out; omega⟩, ⟨pw_below_drewN (HB.out.alloc HB.out.size _) _⟩⟩
    | zero =>
      have hjl : j = l0.length := by have := HK.out; omega
      subst hjl
      have c1b : decide ((l0.length : Int) < (l0.length : Int)) = false := by simp
      have hl := loTo_bd OK.out l0.length (Nat.le_refl _)
      have hs := spTo_bd OK.out l0.length (Nat.le_refl _)
      obtain ⟨lo, hlo⟩ : ∃ s, loTo l0 l0.length = s := ⟨_, rfl⟩
      obtain ⟨A, hA⟩ : ∃ s, spTo l0 l0.length = s := ⟨_, rfl⟩
      obtain ⟨rb1, rb2, rb3, rb4⟩ := RB.out
      obtain ⟨g, hg⟩ : ∃ g, a2 * ((l0.length : Int) - 1) = g := ⟨_, rfl⟩
      obtain ⟨r, hr⟩ : ∃ r, restR l0 a1 a2 = r := ⟨_, rfl⟩
      have er : a1 - g - lo = r := by rw [← hr, ← hg, ← hlo]; rfl
      have hn := HN.out
      have hb1 := B1.out
      rw [hg] at rb3 rb4
      rw [hr] at rb1 rb2
      rw [hlo] at hl
      rw [hA] at hs
      have v1 : IntKind.i64.wrap ((l0.length : Int) - 1) = (l0.length : Int) - 1 := IntWalk.i64_in _ (by omega)
      have v1' : wrap64 ((l0.length : Int) - 1) = (l0.length : Int) - 1 := by unfold wrap64; omega
      have v2 : IntKind.i64.wrap (a2 * ((l0.length : Int) - 1)) = g := by rw [hg]; exact IntWalk.i64_in _ (by omega)
      have v2' : wrap64 (a2 * ((l0.length : Int) - 1)) = g := by rw [hg]; unfold wrap64; omega
      have v3 : IntKind.i64.wrap (a1 - g) = a1 - g := IntWalk.i64_in _ (by omega)
      have v3' : wrap64 (a1 - g) = a1 - g := by unfold wrap64; omega
      have v4 : IntKind.i64.wrap (a1 - g - lo) = r := by rw [er]; exact IntWalk.i64_in _ (by omega)
      have v4' : wrap64 (a1 - g - lo) = r := by rw [er]; unfold wrap64; omega
      have HA := Aside0.mk hA
      have HRR := Aside0.mk hr
      have HAB := Aside0.mk hs
      have HRB : Aside0 (r ≤ 1000000) := ⟨rb1⟩
      rw [hlo, hA]
      clear hl hs hlo hA rb1 rb2 rb3 rb4 hg hr er hn hb1 RB
      by_cases hr0 : r < 0
      · have d1 : decide (r < 0) = true := decide_eq_true hr0
        obtain ⟨rfl, rfl⟩ : [] = r1 ∧ 22 = r2 := by have := H.out; rw [HRR.out, if_pos hr0] at this; simpa using this
        clear hr0 H
        go_wp2
        refine bodyPost_ret (results_tmp2 rfl _ _ _) rfl ?_
        exact ⟨.slice none 0 0, rfl, Kd.R_nil _ _ _ _ _, HB.out⟩
      · have d1 : decide (r < 0) = false := decide_eq_false hr0
        obtain ⟨q, hq⟩ : ∃ q, mn r A = q := ⟨_, rfl⟩
        have hqb : 0 ≤ q ∧ q ≤ 1000000 := by have := HRB.out; have := HAB.out; rw [← hq]; unfold mn; split <;> omega
        have hmin : ∀ (ty : TypeId) (W : World), (Builtin.min_ #[3, 3] ty #[.int .i64 r, .int .i64 A]).run Try.prog W = .ok (.int .i64 q) W := fun ty W => by
          rw [min_two, min2_int]
          simp [Result.andThen]
          rw [← hq]; unfold mn; rfl
        have HQ : Aside0 (∀ i, widR l0 a1 a2 i = (tkr l0 i).f0 + partR l0 q A i) := ⟨fun i => by unfold widR; rw [HRR.out, HA.out, hq]⟩
        have HQB := Aside0.mk hqb
        obtain ⟨rfl, rfl⟩ : tabW l0.length (widR l0 a1 a2) = r1 ∧ 0 = r2 := by have := H.out; rw [HRR.out, if_neg hr0] at this; simpa using this
        clear hr0 H hq hqb HRR HRB HA
        go_wp2
        clear v1 v1' v2 v2' v3 v3' v4 v4' hmin d1 c1b
        go_loopg [13, 14, 71] l0.length (fun kq v13 v14 v71 w' => ∃ j : Nat, v14 = .int .i64 (spTo l0 j) ∧ v71 = .int .i64 (j : Int) ∧ Aside0 (kq + j = l0.length) ∧ Aside0 (Kd.R (Kd.int .i64) 3 w' w.heap.size (fun _ => True) v13 (tabW j (widR l0 a1 a2))) ∧ Aside0 (Below w.heap.size w w'))
        case atStart => exact ⟨0, rfl, rfl, ⟨rfl⟩, ⟨Kd.R_nil _ _ _ _ _⟩, HB⟩
        case round =>
          clear HB
          obtain ⟨j, rfl, rfl, HK, HO, HB⟩ := hrel
          cases gk with
          | zero =>
            have hjl : j = l0.length := by have := HK.out; omega
            subst hjl
            have c1b : decide ((l0.length : Int) < (l0.length : Int)) = false := by simp
            go_wp2
            refine bodyPost_ret (results_tmp2 rfl _ _ _) rfl ?_
            exact ⟨_, rfl, HO.out, HB.out⟩
          | succ k1 =>
            have hj : j < l0.length := by have := HK.out; omega
            have p1 : 0 ≤ (j : Int) := by omega
            have q1 : (j : Int) < (l0.length : Int) := by omega
            have c1b : decide ((j : Int) < (l0.length : Int)) = true := decide_eq_true q1
            have hsum : IntKind.i64.wrap ((j : Int) + 1) = ((j + 1 : Nat) : Int) := by have := HN.out; exact IntWalk.i64_in _ (by omega)
            have hsum2 : wrap64 ((j : Int) + 1) = ((j + 1 : Nat) : Int) := by have := HN.out; unfold wrap64; omega
            obtain ⟨ad, ead, hx0, hx1⟩ := at_T29 (Kd.C_below HR.out HB.out) (j : Int) p1 q1
            cases ead
            have hb := OK.out.bd j hj
            have hs := spTo_bd OK.out j (by omega)
            have hs2 := spTo_bd OK.out (j + 1) (by omega)
            have e2 : spTo l0 (j + 1) = spTo l0 j + (tkr l0 j).f1 - (tkr l0 j).f0 := rfl
            have ew := HQ.out j
            have hpr := fun hA => prod_bd OK.out HQB.out (A := A) hA j (by omega)
            have hpr2 := fun hA => prod_bd OK.out HQB.out (A := A) hA (j + 1) (by omega)
            unfold partR at ew
            rw [show rd_T29 l0 (j : Int) = tkr l0 j from rfl] at hx0 hx1
            rw [Int.toNat_natCast] at hx0 hx1
            obtain ⟨x, hx⟩ : ∃ x, tkr l0 j = x := ⟨_, rfl⟩
            rw [hx] at hx0 hx1 hb e2 ew
            have hn := HN.out
            obtain ⟨s0, hs0⟩ : ∃ s, spTo l0 j = s := ⟨_, rfl⟩
            obtain ⟨s1, hs1⟩ : ∃ s, spTo l0 (j + 1) = s := ⟨_, rfl⟩
            rw [hs0] at hs e2 ew hpr
            rw [hs1] at hs2 e2 ew hpr2
            have w2 : IntKind.i64.wrap (s0 + x.f1) = s0 + x.f1 := IntWalk.i64_in _ (by omega)
            have w2' : wrap64 (s0 + x.f1) = s0 + x.f1 := by unfold wrap64; omega
            have w3 : IntKind.i64.wrap (s0 + x.f1 - x.f0) = s1 := by rw [e2]; exact IntWalk.i64_in _ (by omega)
            have w3' : wrap64 (s0 + x.f1 - x.f0) = s1 := by rw [e2]; unfold wrap64; omega
            have E1 := Aside0.mk hs1
            have ix := info_parts info3
            rw [hs0]
            by_cases hA : 0 < A
            · have d1 : decide (A > 0) = true := decide_eq_true hA
              have hA0 : (A == 0) = false := by simp; omega
              have hA1 : A ≠ 0 := by omega
              obtain ⟨z1, z2, z3, z4⟩ := hpr hA
              obtain ⟨y1, y2, y3, y4⟩ := hpr2 hA
              rw [if_pos hA] at ew
              obtain ⟨t0, ht0⟩ : ∃ t, Int.tdiv (q * s0) A = t := ⟨_, rfl⟩
              obtain ⟨t1, ht1⟩ : ∃ t, Int.tdiv (q * s1) A = t := ⟨_, rfl⟩
              rw [ht0] at z3 z4 ew
              rw [ht1] at y3 y4 ew
              have m0 : IntKind.i64.wrap (q * s0) = q * s0 := IntWalk.i64_in _ (by omega)
              have m1 : IntKind.i64.wrap (q * s1) = q * s1 := IntWalk.i64_in _ (by omega)
              have m2 : IntKind.i64.wrap (Int.tdiv (q * s0) A) = t0 := by rw [ht0]; exact IntWalk.i64_in _ (by omega)
              have m3 : IntKind.i64.wrap (Int.tdiv (q * s1) A) = t1 := by rw [ht1]; exact IntWalk.i64_in _ (by omega)
              have m4 : IntKind.i64.wrap (t1 - t0) = t1 - t0 := IntWalk.i64_in _ (by omega)
              have m5 : IntKind.i64.wrap (x.f0 + (t1 - t0)) = x.f0 + (t1 - t0) := IntWalk.i64_in _ (by omega)
              have m5' : wrap64 (x.f0 + (t1 - t0)) = x.f0 + (t1 - t0) := by unfold wrap64; omega
              have EW := Aside0.mk ew
              clear hb hs hs2 e2 ew hpr hpr2 hx hn hs0 hs1 hj z1 z2 z3 z4 y1 y2 y3 y4 hA ix ht0 ht1
              replace p1 := eq_true p1
              replace q1 := eq_true q1
              go_wp2
              go_quiet (fail)
              clear m0 m1 m2 m3 m4
              have HO5 := Aside0.mk (Kd.R_drewN (Kd.R_alloc HO.out (Obj.cells #[Value.int IntKind.i64 x.f0, Value.int IntKind.i64 x.f1] 29)) nq)
              have HB5 := Aside0.mk (pw_below_drewN (HB.out.alloc HB.out.size (Obj.cells #[Value.int IntKind.i64 x.f0, Value.int IntKind.i64 x.f1] 29)) nq)
              have hbk := blk_drewN (blk_new wr (Obj.cells #[Value.int IntKind.i64 x.f0, Value.int IntKind.i64 x.f1] 29)) nq
              generalize (wr.alloc (Obj.cells #[Value.int IntKind.i64 x.f0, Value.int IntKind.i64 x.f1] 29)).drewN nq = W5 at HO5 HB5 hbk ⊢
              have hc5 : W5.cell? ⟨wr.heap.size, 0, none⟩ = some (.int .i64 x.f0) := (blk_cell hbk 0).trans rfl
              clear hbk
              go_wp2_with (first | (at_builtin; refine Kd.R_append (Kd.int .i64) (w0 := w) w.heap.size rfl (.tmp 95) (.tmp 100) 24 3 (.int .i64 0) 8 rfl Try.underlying24 info3 rfl (by decide) (by omega) _ (tabW j (widR l0 a1 a2)) (x.f0 + (t1 - t0)) [.int .i64 (x.f0 + (t1 - t0))] (fun _ => True) (fun _ => False) rfl rfl rfl (fun _ hk => hk.elim) (fun _ _ => trivial) HO5.out HB5.out HB5.out.size (by rw [tabW_length]; have := HN.out; have := HK.out; omega) ?_; intro v1 w4 ho hb hg hat; have HO4 := Aside0.mk ho; have HB4 := Aside0.mk hb; clear ho hb hg hat))
              go_roundg k1
              case measure => omega
              case rel => exact ⟨j + 1, by rw [E1.out], by first | rfl | simp [hsum, hsum2], ⟨by have := HK.out; omega⟩, ⟨by rw [tabW_succ, EW.out]; exact HO4.out⟩, HB4⟩
            · have d1 : decide (A > 0) = false := decide_eq_false hA
              rw [if_neg hA] at ew
              have m5 : IntKind.i64.wrap (x.f0 + 0) = x.f0 := by rw [Int.add_zero]; exact IntWalk.i64_in _ (by omega)
              have m5' : wrap64 (x.f0 + 0) = x.f0 := by rw [Int.add_zero]; unfold wrap64; omega
              have m6 : IntKind.i64.wrap x.f0 = x.f0 := IntWalk.i64_in _ (by omega)
              have m6' : wrap64 x.f0 = x.f0 := by unfold wrap64; omega
              rw [Int.add_zero] at ew
              have EW := Aside0.mk ew
              clear hb hs hs2 e2 ew hpr hpr2 hx hn hs0 hs1 hj hA ix
              replace p1 := eq_true p1
              replace q1 := eq_true q1
              go_upto_region 22 with (fail)
              have HO5 := Aside0.mk (Kd.R_alloc HO.out (Obj.cells #[Value.int IntKind.i64 x.f0, Value.int IntKind.i64 x.f1] 29))
              have HB5 := Aside0.mk (HB.out.alloc HB.out.size (Obj.cells #[Value.int IntKind.i64 x.f0, Value.int IntKind.i64 x.f1] 29))
              have hbk := blk_new wr (Obj.cells #[Value.int IntKind.i64 x.f0, Value.int IntKind.i64 x.f1] 29)
              generalize wr.alloc (Obj.cells #[Value.int IntKind.i64 x.f0, Value.int IntKind.i64 x.f1] 29) = W5 at HO5 HB5 hbk ⊢
              have hc5 : W5.cell? ⟨wr.heap.size, 0, none⟩ = some (.int .i64 x.f0) := (blk_cell hbk 0).trans rfl
              clear hbk
              go_wp2_with (first | (at_builtin; refine Kd.R_append (Kd.int .i64) (w0 := w) w.heap.size rfl (.tmp 95) (.tmp 100) 24 3 (.int .i64 0) 8 rfl Try.underlying24 info3 rfl (by decide) (by omega) _ (tabW j (widR l0 a1 a2)) x.f0 [.int .i64 x.f0] (fun _ => True) (fun _ => False) rfl rfl rfl (fun _ hk => hk.elim) (fun _ _ => trivial) HO5.out HB5.out HB5.out.size (by rw [tabW_length]; have := HN.out; have := HK.out; omega) ?_; intro v1 w4 ho hb hg hat; have HO4 := Aside0.mk ho; have HB4 := Aside0.mk hb; clear ho hb hg hat))
              go_roundg k1
              case measure => omega
              case rel => exact ⟨j + 1, by rw [E1.out], by first | rfl | simp [hsum, hsum2], ⟨by have := HK.out; omega⟩, ⟨by rw [tabW_succ, EW.out]; exact HO4.out⟩, HB4⟩
end Go.Proofs.Ytclfimdafmoafaa.P
