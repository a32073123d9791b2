import Derived.Test.YtclfimdafmoafaaHGreat
set_option linter.unusedVariables false
set_option linter.unusedSimpArgs false
namespace Go.Proofs.Ytclfimdafmoafaa.P
open Go.RowKit Go.Proofs.YtclfimdafmoafaaW.PrintWords Go.Proofs.YtclfimdafmoafaaW.PrintLast Go.Proofs.YtclfimdafmoafaaW.PrintMore Go.Proofs.Ytclfimdafmoafaa.Rng
attribute [local go_sem] Oper.semAt_some
def colsOf (rows : List (List S29)) : Int := gmax (rows.map fun r => (r.length : Int))
def needOf (rows : List (List S29)) (k : Nat) : S29 := ⟨gmax ((col rows k).map (fun x : S29 => x.f0)), gmax ((col rows k).map (fun x : S29 => x.f1))⟩
def needList (rows : List (List S29)) (n : Nat) : List S29 := (List.range n).map (needOf rows)
theorem needList_length (rows : List (List S29)) (n : Nat) : (needList rows n).length = n := by simp [needList]
theorem needList_succ (rows : List (List S29)) (n : Nat) : needList rows (n + 1) = needList rows n ++ [needOf rows n] := by simp [needList, List.range_succ]
def table_Needs.f (rows : List (List S29)) : Option (List S29 × Int) :=
  if rows.length ≤ 4000 ∧ inside (colsOf rows) 1 64 = true ∧ rows.any badR = false then some (needList rows (colsOf rows).toNat, 0) else some ([], 1)
theorem boxed2 (w : World) (o1 : Obj) (t : TypeId) (v : Value) : Boxed ((w.alloc o1).alloc (.cells #[v] t)) (w.heap.size + 1) t v := by
  have := Boxed.new (w.alloc o1) t v; rwa [World.size_alloc] at this
theorem slice_lt {w : World} {rows : List (List S29)} {ad : Addr} (hr : Kd.C (Kd.slice 29 k29) w (some ad) rows.length rows) (h : 0 < rows.length) : ad.block < w.heap.size := by
  obtain ⟨ad', A0, c0, e, hx, _⟩ := at_L2 hr 0 (by omega) (by omega)
  cases e
  have := World.block_lt_of_cell? _ _ hx
  rwa [add_block] at this
theorem cols_calls (rows : List (List S29)) (A : Option Addr) (c Bl : Nat) (W : World) (hB : Boxed W Bl 22 (.slice A rows.length c)) (hr : Kd.C (Kd.slice 29 k29) W A rows.length rows) :
    Calls Try.prog 23 #[.func (.func 49) #[] #[.pointer (some ⟨Bl, 0, none⟩)], .func (.func 25) #[] #[]] W fun e w' => e = .returned (.int .i64 (colsOf rows)) ∧ Below W.heap.size W w' := by
  refine (great23_calls 49 _ (S := fun xs => xs.map (·.2.1) = rows.map List.length) (enters_of Try.func49 (by kernel_rfl) rfl) W (fun W' hW => values49_iter rows A c Bl _ W' ((hW.block _ hB.lt).trans hB) (Kd.C_below hr hW) hB.lt (fun ad he hn => ?_))).mono ?_
  · subst he
    have := slice_lt hr hn
    exact ⟨this, Nat.lt_of_lt_of_le this hW.size⟩
  · rintro e w' ⟨⟨xs, hS, rfl⟩, hb⟩
    refine ⟨?_, hb⟩
    have e1 : xs.map (fun x : Sl => (x.2.1 : Int)) = (xs.map (·.2.1)).map (fun n : Nat => (n : Int)) := by rw [List.map_map]; rfl
    rw [e1, hS, List.map_map]
    rfl
theorem colLo_calls (rows : List (List S29)) (k : Nat) (hk : k ≤ 1000) (A : Option Addr) (c Bl Bk : Nat) (W : World) (hB : Boxed W Bl 22 (.slice A rows.length c)) (hBk : Boxed W Bk 3 (.int .i64 (k : Int))) (hr : Kd.C (Kd.slice 29 k29) W A rows.length rows) :
    Calls Try.prog 33 #[.func (.func 52) #[] #[.pointer (some ⟨Bl, 0, none⟩), .pointer (some ⟨Bk, 0, none⟩)], .func (.func 31) #[] #[]] W fun e w' => e = .returned (.int .i64 (needOf rows k).f0) ∧ Below W.heap.size W w' := by
  refine (greatLo_calls 52 _ (S := fun xs => xs = col rows k) (enters_of Try.func52 (by kernel_rfl) rfl) W (fun W' hW => ?_)).mono ?_
  · have := column52_iter rows k A c Bl Bk (fun b => b < W.heap.size) W hk hB hBk hr hB.lt hBk.lt (fun b hb => hb)
    exact fun l J Jx W2 hW2 => this l J Jx W2 (hW.trans (hW2.mono hW.size))
  · rintro e w' ⟨⟨xs, rfl, rfl⟩, hb⟩
    exact ⟨rfl, hb⟩
theorem colHi_calls (rows : List (List S29)) (k : Nat) (hk : k ≤ 1000) (A : Option Addr) (c Bl Bk : Nat) (W : World) (hB : Boxed W Bl 22 (.slice A rows.length c)) (hBk : Boxed W Bk 3 (.int .i64 (k : Int))) (hr : Kd.C (Kd.slice 29 k29) W A rows.length rows) :
    Calls Try.prog 33 #[.func (.func 52) #[] #[.pointer (some ⟨Bl, 0, none⟩), .pointer (some ⟨Bk, 0, none⟩)], .func (.func 32) #[] #[]] W fun e w' => e = .returned (.int .i64 (needOf rows k).f1) ∧ Below W.heap.size W w' := by
  refine (greatHi_calls 52 _ (S := fun xs => xs = col rows k) (enters_of Try.func52 (by kernel_rfl) rfl) W (fun W' hW => ?_)).mono ?_
  · have := column52_iter rows k A c Bl Bk (fun b => b < W.heap.size) W hk hB hBk hr hB.lt hBk.lt (fun b hb => hb)
    exact fun l J Jx W2 hW2 => this l J Jx W2 (hW.trans (hW2.mono hW.size))
  · rintro e w' ⟨⟨xs, rfl, rfl⟩, hb⟩
    exact ⟨rfl, hb⟩
set_option maxRecDepth 100000 in
set_option maxHeartbeats 8000000 in
theorem table_Needs.calls (A0 : Option Addr) (c0 : Nat) (l0 : List (List S29)) (r1 : List S29) (r2 : Int) (w : World) (hr0 : Kd.C (Kd.slice 29 k29) w A0 l0.length l0) (hc0 : l0.length ≤ c0) (h : table_Needs.f l0 = some (r1, r2)) :
    Calls Try.prog 12 #[.slice A0 l0.length c0] w fun e w' => ∃ v0_ : Value, e = .returned (.tuple #[v0_, .int .i64 r2]) ∧ Kd.R k29 29 w' w.heap.size (fun _ => True) v0_ r1 ∧ Below w.heap.size w w' := by
  have HR := Aside0.mk hr0
  clear hr0 hc0
  unfold table_Needs.f at h
  have hb1 : Below w.heap.size w (w.alloc (.cells #[.slice A0 l0.length c0] 22)) := (Below.refl _ w).alloc (Nat.le_refl _) _
  have hcols : ∀ C, colsOf l0 = C → Calls Try.prog 23 #[.func (.func 49) #[] #[.pointer (some ⟨w.heap.size, 0, none⟩)], .func (.func 25) #[] #[]] (w.alloc (.cells #[.slice A0 l0.length c0] 22)) fun e w' => e = .returned (.int .i64 C) ∧ Below w.heap.size w w' := fun C hC => by
    rw [← hC]
    refine (cols_calls l0 A0 c0 w.heap.size _ (Boxed.new w 22 _) (Kd.C_below HR.out hb1)).mono ?_
    rintro e w' ⟨rfl, hb⟩
    exact ⟨rfl, hb1.trans (hb.mono hb1.size)⟩
  obtain ⟨C, hC⟩ : ∃ C, colsOf l0 = C := ⟨_, rfl⟩
  have hcols := hcols C hC
  rw [hC] at h
  have hw : ∀ (n lo hi : Int) (b : Bool), inside n lo hi = b → ∀ w, Calls Try.prog 29 #[.int .i64 n, .int .i64 lo, .int .i64 hi] w fun e w' => e = .returned (.bool b) ∧ w = w' := fun n lo hi b hb w => by rw [← hb]; exact within29_calls n lo hi w
  have hany : ∀ b, l0.any badR = b → ∀ w1, Below w.heap.size w w1 → Calls Try.prog 30 #[.slice A0 l0.length c0, .func (.func 26) #[] #[]] w1 fun e w' => e = .returned (.bool b) ∧ Below w.heap.size w w' := fun b hb w1 h1 => by
    rw [← hb]
    refine (anyBadR_calls A0 c0 l0 w1 (Kd.C_below HR.out h1)).mono ?_
    rintro e w' ⟨rfl, hb⟩
    exact ⟨rfl, h1.trans (hb.mono h1.size)⟩
  clear hb1 hC
  by_cases h0 : l0.length ≤ 4000
  case neg =>
    obtain ⟨rfl, rfl⟩ : [] = r1 ∧ 1 = r2 := by simpa [h0] using h
    have d0 : decide ((l0.length : Int) > 4000) = true := by simp; omega
    clear h hw hany h0
    go_enter Try.func12, Try.ntmps12
    go_wp2_with (first | (go_at_call 24; with_reducible refine (values24_calls _ _ _ _).mono ?_; rintro e w1 ⟨rfl, rfl⟩) | (go_at_call 23; with_reducible refine hcols.mono ?_; rintro e w2 ⟨rfl, hb⟩; have HB2 := Aside0.mk hb; clear hb))
    refine bodyPost_ret (results_tmp2 rfl _ _ _) rfl ?_
    exact ⟨.slice none 0 0, rfl, Kd.R_nil _ _ _ _ _, HB2.out⟩
  have d0 : decide ((l0.length : Int) > 4000) = false := by simp; omega
  cases h1 : inside C 1 64
  case false =>
    obtain ⟨rfl, rfl⟩ : [] = r1 ∧ 1 = r2 := by simpa [h0, h1] using h
    have hw1 := hw _ _ _ _ h1
    clear h hw hany h0 h1
    go_enter Try.func12, Try.ntmps12
    go_wp2_with (first | (go_at_call 24; with_reducible refine (values24_calls _ _ _ _).mono ?_; rintro e w1 ⟨rfl, rfl⟩) | (go_at_call 23; with_reducible refine hcols.mono ?_; rintro e w2 ⟨rfl, hb⟩; have HB2 := Aside0.mk hb; clear hb) | (go_at_call 29; with_reducible refine (hw1 _).mono ?_; rintro e w' ⟨rfl, rfl⟩))
    refine bodyPost_ret (results_tmp2 rfl _ _ _) rfl ?_
    exact ⟨.slice none 0 0, rfl, Kd.R_nil _ _ _ _ _, HB2.out⟩
  have hw1 := hw _ _ _ _ h1
  cases h2 : l0.any badR
  case true =>
    obtain ⟨rfl, rfl⟩ : [] = r1 ∧ 1 = r2 := by simpa [h0, h1, h2] using h
    have hany := hany _ h2
    clear h hw h0 h1 h2
    go_enter Try.func12, Try.ntmps12
    go_wp2_with (first | (go_at_call 24; with_reducible refine (values24_calls _ _ _ _).mono ?_; rintro e w1 ⟨rfl, rfl⟩) | (go_at_call 23; with_reducible refine hcols.mono ?_; rintro e w2 ⟨rfl, hb⟩; have HB2 := Aside0.mk hb; clear hb) | (go_at_call 29; with_reducible refine (hw1 _).mono ?_; rintro e w' ⟨rfl, rfl⟩) | (go_at_call 30; with_reducible refine (hany _ HB2.out).mono ?_; rintro e w3 ⟨rfl, hb⟩; have HB3 := Aside0.mk hb; clear hb))
    refine bodyPost_ret (results_tmp2 rfl _ _ _) rfl ?_
    exact ⟨.slice none 0 0, rfl, Kd.R_nil _ _ _ _ _, HB3.out⟩
  have hany := hany _ h2
  obtain ⟨n, hn⟩ : ∃ n : Nat, C = (n : Int) := ⟨C.toNat, by simp [inside] at h1; omega⟩
  subst hn
  obtain ⟨rfl, rfl⟩ : needList l0 n = r1 ∧ 0 = r2 := by simpa [h0, h1, h2] using h
  have HN : Aside0 (1 ≤ n ∧ n ≤ 64) := ⟨by simp [inside] at h1; omega⟩
  clear h hw h0 h1 h2
  go_enter Try.func12, Try.ntmps12
  go_wp2_with (first | (go_at_call 24; with_reducible refine (values24_calls _ _ _ _).mono ?_; rintro e w1 ⟨rfl, rfl⟩) | (go_at_call 23; with_reducible refine hcols.mono ?_; rintro e w2 ⟨rfl, hb⟩; have HB2 := Aside0.mk hb; clear hb) | (go_at_call 29; with_reducible refine (hw1 _).mono ?_; rintro e w' ⟨rfl, rfl⟩) | (go_at_call 30; with_reducible refine (hany _ HB2.out).mono ?_; rintro e w3 ⟨rfl, hb⟩; have HB3 := Aside0.mk hb; clear hb))
  clear hcols hany hw1 d0
  go_loopg [8, 27] n (fun kq v8 v27 w' => ∃ j : Nat, v27 = .int .i64 (j : Int) ∧ Aside0 (kq + j = n) ∧ Aside0 (Kd.R k29 29 w' w.heap.size (fun _ => True) v8 (needList l0 j)) ∧ Aside0 (Below w.heap.size w w'))
  case atStart => exact ⟨0, rfl, ⟨rfl⟩, ⟨Kd.R_nil _ _ _ _ _⟩, HB3⟩
  case round =>
    clear HB3 HB2
    obtain ⟨j, rfl, HK, HO, HB⟩ := hrel
    cases gk with
    | zero =>
      have hjl : j = n := by have := HK.out; omega
      subst hjl
      have c1b : decide ((j : Int) < (j : Int)) = false := by simp
      go_wp2
      refine bodyPost_ret (results_tmp2 rfl _ _ _) rfl ?_
      exact ⟨_, rfl, HO.out, HB.out⟩
    | succ k1 =>
      have hj : j < n := by have := HK.out; omega
      have c1b : decide ((j : Int) < (n : Int)) = true := decide_eq_true (by omega)
      have c1c : decide (j < n) = true := decide_eq_true hj
      have hsum : IntKind.i64.wrap ((j : Int) + 1) = ((j + 1 : Nat) : Int) := by have := HN.out; exact IntWalk.i64_in _ (by omega)
      have hsum2 : wrap64 ((j : Int) + 1) = ((j + 1 : Nat) : Int) := by have := HN.out; unfold wrap64; omega
      have hj1 : j ≤ 1000 := by have := HN.out; omega
      have hb1 : Below wr.heap.size wr ((wr.alloc (.cells #[.slice A0 l0.length c0] 22)).alloc (.cells #[.int .i64 (j : Int)] 3)) := ((Below.refl _ wr).alloc (Nat.le_refl _) _).alloc (by simp) _
      have hlo : Calls Try.prog 33 #[.func (.func 52) #[] #[.pointer (some ⟨wr.heap.size, 0, none⟩), .pointer (some ⟨wr.heap.size + 1, 0, none⟩)], .func (.func 31) #[] #[]] ((wr.alloc (.cells #[.slice A0 l0.length c0] 22)).alloc (.cells #[.int .i64 (j : Int)] 3)) fun e w' => e = .returned (.int .i64 (needOf l0 j).f0) ∧ Below wr.heap.size wr w' := by
        refine (colLo_calls l0 j hj1 A0 c0 wr.heap.size (wr.heap.size + 1) _ ((Boxed.new wr 22 _).alloc _) (boxed2 _ _ _ _) (Kd.C_below (Kd.C_below HR.out HB.out) hb1)).mono ?_
        rintro e w' ⟨rfl, hb⟩
        exact ⟨rfl, hb1.trans (hb.mono hb1.size)⟩
      have hhi : ∀ W, Below wr.heap.size wr W → Calls Try.prog 33 #[.func (.func 52) #[] #[.pointer (some ⟨W.heap.size, 0, none⟩), .pointer (some ⟨W.heap.size + 1, 0, none⟩)], .func (.func 32) #[] #[]] ((W.alloc (.cells #[.slice A0 l0.length c0] 22)).alloc (.cells #[.int .i64 (j : Int)] 3)) fun e w' => e = .returned (.int .i64 (needOf l0 j).f1) ∧ Below wr.heap.size wr w' := fun W hW => by
        have hb2 : Below W.heap.size W ((W.alloc (.cells #[.slice A0 l0.length c0] 22)).alloc (.cells #[.int .i64 (j : Int)] 3)) := ((Below.refl _ W).alloc (Nat.le_refl _) _).alloc (by simp) _
        refine (colHi_calls l0 j hj1 A0 c0 W.heap.size (W.heap.size + 1) _ ((Boxed.new W 22 _).alloc _) (boxed2 _ _ _ _) (Kd.C_below (Kd.C_below (Kd.C_below HR.out HB.out) hW) hb2)).mono ?_
        rintro e w' ⟨rfl, hb⟩
        exact ⟨rfl, hW.trans ((hb2.trans (hb.mono hb2.size)).mono hW.size)⟩
      obtain ⟨x, hx⟩ : ∃ x, needOf l0 j = x := ⟨_, rfl⟩
      rw [hx] at hlo hhi
      have HX := Aside0.mk hx
      clear hb1 hj hj1 hx
      go_wp2_with (first | (go_at_call 34; with_reducible refine (column34_calls _ _ _ _ _).mono ?_; rintro e w1 ⟨rfl, rfl⟩) | (go_at_call 33; with_reducible refine hlo.mono ?_; rintro e w4 ⟨rfl, hb⟩; have HB4 := Aside0.mk hb; clear hb) | (go_at_call 33; with_reducible refine (hhi _ HB4.out).mono ?_; rintro e w5 ⟨rfl, hb⟩; have HB5 := Aside0.mk hb; have HO5 := Aside0.mk (Kd.R_below HO.out hb); have HW5 := Aside0.mk (HB.out.trans (hb.mono HB.out.size)); clear hb) | (at_builtin; refine Kd.R_append k29 (w0 := w) w.heap.size rfl (.tmp 30) (.tmp 42) 23 29 (.agg #[.int .i64 0, .int .i64 0]) 16 rfl Try.underlying23 info29 rfl (by decide) (by omega) _ (needList l0 j) x [.int .i64 x.f0, .int .i64 x.f1] (fun _ => True) (fun _ => False) rfl rfl (k29_mkM _ _ _ _) (fun _ hk => hk.elim) (fun _ _ => trivial) HO5.out HW5.out HW5.out.size (by rw [needList_length]; have := HN.out; have := HK.out; omega) ?_; intro v1 w6 ho hb hg hat; have HO6 := Aside0.mk ho; have HB6 := Aside0.mk hb; clear ho hb hg hat))
      go_roundg k1
      case measure => omega
      case rel => exact ⟨j + 1, by first | rfl | simp [hsum, hsum2], ⟨by have := HK.out; omega⟩, ⟨by rw [needList_succ, HX.out]; exact HO6.out⟩, HB6⟩
end Go.Proofs.Ytclfimdafmoafaa.P
