import Derived.Test.YtclfimdafmoafaaHIter
import Derived.Stop.RegionWithIn
import Derived.RangeFuncLeaves
set_option linter.unusedVariables false
set_option linter.unusedSimpArgs false
namespace Go.Proofs.Ytclfimdafmoafaa.P
open Go.RowKit Go.Proofs.YtclfimdafmoafaaW.PrintWords Go.Proofs.YtclfimdafmoafaaW.PrintLast Go.Proofs.YtclfimdafmoafaaW.PrintMore Go.Proofs.Ytclfimdafmoafaa.Rng
attribute [local go_sem] Oper.semAt_some max2_int max_two
/-- The greatest one of numbers, or zero. -/
def gmax (l : List Int) : Int := l.foldl mx 0
theorem gmax_snoc (l : List Int) (x : Int) : gmax (l ++ [x]) = mx (gmax l) x := by simp [gmax]
def GPost {α : Type} (S : List α → Prop) (F : α → Int) (w : World) (e : Ending) (w' : World) : Prop := (∃ xs, S xs ∧ e = .returned (.int .i64 (gmax (xs.map F)))) ∧ Below w.heap.size w w'
theorem size25_calls (A : Option Addr) (n c : Nat) (w : World) : Calls Try.prog 25 #[.slice A n c] w fun e w' => e = .returned (.int .i64 (n : Int)) ∧ w = w' := by
  go_enter Try.func25, Try.ntmps25
  go_wp2
  go_ret
  exact ⟨rfl, rfl⟩
theorem same41_calls (n : Int) (w : World) : Calls Try.prog 41 #[.int .i64 n] w fun e w' => e = .returned (.int .i64 n) ∧ w = w' := by
  go_enter Try.func41, Try.ntmps41
  go_wp2
  go_ret
  exact ⟨rfl, rfl⟩
theorem lo31_calls (a b : Int) (w : World) : Calls Try.prog 31 #[.agg #[.int .i64 a, .int .i64 b]] w fun e w' => e = .returned (.int .i64 a) ∧ w' = w.alloc (.cells #[.int .i64 a, .int .i64 b] 29) := by
  go_enter Try.func31, Try.ntmps31
  go_wp2
  go_ret
  exact ⟨rfl, rfl⟩
theorem hi32_calls (a b : Int) (w : World) : Calls Try.prog 32 #[.agg #[.int .i64 a, .int .i64 b]] w fun e w' => e = .returned (.int .i64 b) ∧ w' = w.alloc (.cells #[.int .i64 a, .int .i64 b] 29) := by
  go_enter Try.func32, Try.ntmps32
  go_wp2
  go_ret
  exact ⟨rfl, rfl⟩

set_option maxRecDepth 100000 in
set_option maxHeartbeats 4000000 in
theorem great42_calls (g : Nat) (lb : Array Value) {S : List (Int) → Prop} (heg : ∀ args w, (callFunc g args).run Try.prog w = .ok (.enter g args) w) (w : World)
    (hit : ∀ W, Below w.heap.size w W → Iter Try.prog g lb (fun x : Int => #[.int .i64 x]) (fun _ _ _ => True) (fun k => k < w.heap.size) S (fun _ => True) W) :
    Calls Try.prog 42 #[.func (.func g) #[] lb, .func (.func 41) #[] #[]] w (GPost S (fun x : Int => x) w) := by
  refine (callsIn_wide (n := 3)).1 ?_
  refine callsIn_of_wp_marks Try.func42 rfl trivial ?_ rfl
  simp only [Try.ntmps42, List.size_toArray, List.length_cons, List.length_nil, Nat.reduceAdd, Nat.reduceSub, Array.replicate_succ, Array.replicate_zero, List.push_toArray, List.append_toArray, List.nil_append, List.cons_append]
  gi_wp2
  obtain ⟨W0, hW0⟩ : ∃ W0, (w.alloc (Obj.cells #[Value.func (.func 41) #[] #[]] 72)).alloc (Obj.cells #[Value.int IntKind.i64 0] 3) = W0 := ⟨_, rfl⟩
  have hs0 : W0.heap.size = w.heap.size + 2 := by rw [← hW0]; simp
  have bl0 : Below w.heap.size w W0 := by rw [← hW0]; exact ((Below.refl _ _).alloc (Nat.le_refl _) _).alloc (by simp) _
  have b1 : Boxed W0 w.heap.size 72 (.func (.func 41) #[] #[]) := by rw [← hW0]; exact (Boxed.new w 72 _).alloc _
  have b2 : Boxed W0 (w.heap.size + 1) 3 (.int .i64 (gmax (([] : List (Int)).map (fun x : Int => x)))) := by
    rw [← hW0]; have := Boxed.new (w.alloc (Obj.cells #[Value.func (.func 41) #[] #[]] 72)) 3 (.int .i64 0); rwa [World.size_alloc] at this
  have hiter := hit W0 bl0
  rw [hW0]
  have HS0 := Aside0.mk hs0
  have HB0 := Aside0.mk bl0
  clear hW0 hit hs0
  refine rangeFunc (lb := lb) (gf := g) rfl heg hiter (fun _ => rfl) (fun k hk => by have := HS0.out; omega) (fun _ _ _ _ _ _ h _ _ => h)
    (fun pre W => Boxed W w.heap.size 72 (.func (.func 41) #[] #[]) ∧ Boxed W (w.heap.size + 1) 3 (.int .i64 (gmax (pre.map (fun x : Int => x)))) ∧ Below w.heap.size w W)
    (fun _ _ _ => False)
    (OwnFrom.and (Own.from (boxed_own _ _ (fun _ => .func (.func 41) #[] #[])) _) (OwnFrom.and (Own.from (boxed_own _ _ (fun pre : List (Int) => .int .i64 (gmax (pre.map (fun x : Int => x))))) _) (ownFrom_below (Nat.le_refl _) bl0.size)))
    (fun _ _ _ _ _ hs _ _ => hs) ⟨b1, b2, bl0⟩ ?Ax ?assign ?body ?done ?stop
  case assign =>
    intro l x W K hK
    gi_wp2
    exact hK
  case body =>
    rintro l pre x Wa Wb hlt ⟨h1, h2, hbl⟩ hab _
    have k1 : Boxed Wb w.heap.size 72 (.func (.func 41) #[] #[]) := (hab.block _ h1.lt).trans h1
    have k2 : Boxed Wb (w.heap.size + 1) 3 (.int .i64 (gmax (pre.map (fun x : Int => x)))) := (hab.block _ h2.lt).trans h2
    have c1 := k1.cell
    have c2 := k2.cell
    have f2 := k2.frozen
    have K1 := Aside0.mk k1
    have K2 := Aside0.mk k2
    have HBL := Aside0.mk hbl
    have HAB := Aside0.mk hab
    have HLT := Aside0.mk h2.lt
    obtain ⟨m, hm⟩ : ∃ m, gmax (pre.map (fun x : Int => x)) = m := ⟨_, rfl⟩
    rw [hm] at c2
    have HM := Aside0.mk hm
    clear h1 h2 k1 k2 hbl hab hm hlt hiter b1 b2 bl0
    gi_wp2
    gi_region_with (first | (refine ⟨trivial, rfl, ?_⟩; gi_at_call 41; refine (CallsIn.inRound l (callsIn_wide.2 (same41_calls _ _))).mono ?_; rintro e w' ⟨rfl, rfl⟩) | (gi_at_call 41; refine (CallsIn.inRound l (callsIn_wide.2 (same41_calls _ _))).mono ?_; rintro e w' ⟨rfl, rfl⟩))
    all_goals
      have e1 : gmax ((pre ++ [x]).map (fun x : Int => x)) = (if m < x then x else m) := by rw [List.map_append, List.map_singleton, gmax_snoc, HM.out]; rfl
      have h1 := HLT.out
      refine And.intro (a := Lets (fun k => k < w.heap.size) Wa Wb _) ?_ (And.intro ?_ (And.intro ?_ ?_))
      · exact ((Lets.refl _ Wa Wb).setCell _ (.inr ⟨h1, by show ¬ (w.heap.size + 1 < w.heap.size); omega⟩)).drew
      · exact K1.out.other (by omega) _
      · rw [e1]; exact K2.out.set _
      · exact ((HBL.out.trans (HAB.out.mono HBL.out.size)).setCell (p := ⟨w.heap.size + 1, 0, none⟩) (by show w.heap.size ≤ w.heap.size + 1; omega) _).drew
  case done =>
    rintro D ys W hD hS ⟨h1, h2, hbl⟩ hK
    have c2 := h2.cell
    have HBL := Aside0.mk hbl
    have HK := Aside0.mk hK
    have HD := Aside0.mk hD
    have HS := Aside0.mk hS
    clear h1 h2 hbl hK hD hS hiter b1 b2 bl0
    gi_wp2
    refine ⟨by simp, .inl ⟨_, _, rfl, run_takeDeferred HK.out, ?_⟩⟩
    refine ⟨_, results_tmp rfl _ _ _, ⟨ys, HS.out, by first | rfl | simp⟩, HBL.out.grown (grownBy_putObj' W D _) HBL.out.size (fun k e => by cases e; have := HD.out; have := HS0.out; omega)⟩
  case stop =>
    intro D c pre W _ _ h _
    exact h.elim

set_option maxRecDepth 100000 in
set_option maxHeartbeats 4000000 in
theorem great23_calls (g : Nat) (lb : Array Value) {S : List (Sl) → Prop} (heg : ∀ args w, (callFunc g args).run Try.prog w = .ok (.enter g args) w) (w : World)
    (hit : ∀ W, Below w.heap.size w W → Iter Try.prog g lb (fun x : Sl => #[.slice x.1 x.2.1 x.2.2]) (fun _ _ _ => True) (fun k => k < w.heap.size) S (fun _ => True) W) :
    Calls Try.prog 23 #[.func (.func g) #[] lb, .func (.func 25) #[] #[]] w (GPost S (fun x : Sl => (x.2.1 : Int)) w) := by
  refine (callsIn_wide (n := 3)).1 ?_
  refine callsIn_of_wp_marks Try.func23 rfl trivial ?_ rfl
  simp only [Try.ntmps23, List.size_toArray, List.length_cons, List.length_nil, Nat.reduceAdd, Nat.reduceSub, Array.replicate_succ, Array.replicate_zero, List.push_toArray, List.append_toArray, List.nil_append, List.cons_append]
  gi_wp2
  obtain ⟨W0, hW0⟩ : ∃ W0, (w.alloc (Obj.cells #[Value.func (.func 25) #[] #[]] 57)).alloc (Obj.cells #[Value.int IntKind.i64 0] 3) = W0 := ⟨_, rfl⟩
  have hs0 : W0.heap.size = w.heap.size + 2 := by rw [← hW0]; simp
  have bl0 : Below w.heap.size w W0 := by rw [← hW0]; exact ((Below.refl _ _).alloc (Nat.le_refl _) _).alloc (by simp) _
  have b1 : Boxed W0 w.heap.size 57 (.func (.func 25) #[] #[]) := by rw [← hW0]; exact (Boxed.new w 57 _).alloc _
  have b2 : Boxed W0 (w.heap.size + 1) 3 (.int .i64 (gmax (([] : List (Sl)).map (fun x : Sl => (x.2.1 : Int))))) := by
    rw [← hW0]; have := Boxed.new (w.alloc (Obj.cells #[Value.func (.func 25) #[] #[]] 57)) 3 (.int .i64 0); rwa [World.size_alloc] at this
  have hiter := hit W0 bl0
  rw [hW0]
  have HS0 := Aside0.mk hs0
  have HB0 := Aside0.mk bl0
  clear hW0 hit hs0
  refine rangeFunc (lb := lb) (gf := g) rfl heg hiter (fun _ => rfl) (fun k hk => by have := HS0.out; omega) (fun _ _ _ _ _ _ h _ _ => h)
    (fun pre W => Boxed W w.heap.size 57 (.func (.func 25) #[] #[]) ∧ Boxed W (w.heap.size + 1) 3 (.int .i64 (gmax (pre.map (fun x : Sl => (x.2.1 : Int))))) ∧ Below w.heap.size w W)
    (fun _ _ _ => False)
    (OwnFrom.and (Own.from (boxed_own _ _ (fun _ => .func (.func 25) #[] #[])) _) (OwnFrom.and (Own.from (boxed_own _ _ (fun pre : List (Sl) => .int .i64 (gmax (pre.map (fun x : Sl => (x.2.1 : Int)))))) _) (ownFrom_below (Nat.le_refl _) bl0.size)))
    (fun _ _ _ _ _ hs _ _ => hs) ⟨b1, b2, bl0⟩ ?Ax ?assign ?body ?done ?stop
  case assign =>
    intro l x W K hK
    gi_wp2
    exact hK
  case body =>
    rintro l pre x Wa Wb hlt ⟨h1, h2, hbl⟩ hab _
    have k1 : Boxed Wb w.heap.size 57 (.func (.func 25) #[] #[]) := (hab.block _ h1.lt).trans h1
    have k2 : Boxed Wb (w.heap.size + 1) 3 (.int .i64 (gmax (pre.map (fun x : Sl => (x.2.1 : Int))))) := (hab.block _ h2.lt).trans h2
    have c1 := k1.cell
    have c2 := k2.cell
    have f2 := k2.frozen
    have K1 := Aside0.mk k1
    have K2 := Aside0.mk k2
    have HBL := Aside0.mk hbl
    have HAB := Aside0.mk hab
    have HLT := Aside0.mk h2.lt
    obtain ⟨m, hm⟩ : ∃ m, gmax (pre.map (fun x : Sl => (x.2.1 : Int))) = m := ⟨_, rfl⟩
    rw [hm] at c2
    have HM := Aside0.mk hm
    clear h1 h2 k1 k2 hbl hab hm hlt hiter b1 b2 bl0
    gi_wp2
    gi_region_with (first | (refine ⟨trivial, rfl, ?_⟩; gi_at_call 25; refine (CallsIn.inRound l (callsIn_wide.2 (size25_calls _ _ _ _))).mono ?_; rintro e w' ⟨rfl, rfl⟩) | (gi_at_call 25; refine (CallsIn.inRound l (callsIn_wide.2 (size25_calls _ _ _ _))).mono ?_; rintro e w' ⟨rfl, rfl⟩))
    all_goals
      have e1 : gmax ((pre ++ [x]).map (fun x : Sl => (x.2.1 : Int))) = (if m < (x.2.1 : Int) then (x.2.1 : Int) else m) := by rw [List.map_append, List.map_singleton, gmax_snoc, HM.out]; rfl
      have h1 := HLT.out
      refine And.intro (a := Lets (fun k => k < w.heap.size) Wa Wb _) ?_ (And.intro ?_ (And.intro ?_ ?_))
      · exact ((Lets.refl _ Wa Wb).setCell _ (.inr ⟨h1, by show ¬ (w.heap.size + 1 < w.heap.size); omega⟩)).drew
      · exact K1.out.other (by omega) _
      · rw [e1]; exact K2.out.set _
      · exact ((HBL.out.trans (HAB.out.mono HBL.out.size)).setCell (p := ⟨w.heap.size + 1, 0, none⟩) (by show w.heap.size ≤ w.heap.size + 1; omega) _).drew
  case done =>
    rintro D ys W hD hS ⟨h1, h2, hbl⟩ hK
    have c2 := h2.cell
    have HBL := Aside0.mk hbl
    have HK := Aside0.mk hK
    have HD := Aside0.mk hD
    have HS := Aside0.mk hS
    clear h1 h2 hbl hK hD hS hiter b1 b2 bl0
    gi_wp2
    refine ⟨by simp, .inl ⟨_, _, rfl, run_takeDeferred HK.out, ?_⟩⟩
    refine ⟨_, results_tmp rfl _ _ _, ⟨ys, HS.out, by first | rfl | simp⟩, HBL.out.grown (grownBy_putObj' W D _) HBL.out.size (fun k e => by cases e; have := HD.out; have := HS0.out; omega)⟩
  case stop =>
    intro D c pre W _ _ h _
    exact h.elim

set_option maxRecDepth 100000 in
set_option maxHeartbeats 4000000 in
theorem greatLo_calls (g : Nat) (lb : Array Value) {S : List (S29) → Prop} (heg : ∀ args w, (callFunc g args).run Try.prog w = .ok (.enter g args) w) (w : World)
    (hit : ∀ W, Below w.heap.size w W → Iter Try.prog g lb (fun x : S29 => #[.agg #[.int .i64 x.f0, .int .i64 x.f1]]) (fun _ _ _ => True) (fun k => k < w.heap.size) S (fun _ => True) W) :
    Calls Try.prog 33 #[.func (.func g) #[] lb, .func (.func 31) #[] #[]] w (GPost S (fun x : S29 => x.f0) w) := by
  refine (callsIn_wide (n := 3)).1 ?_
  refine callsIn_of_wp_marks Try.func33 rfl trivial ?_ rfl
  simp only [Try.ntmps33, List.size_toArray, List.length_cons, List.length_nil, Nat.reduceAdd, Nat.reduceSub, Array.replicate_succ, Array.replicate_zero, List.push_toArray, List.append_toArray, List.nil_append, List.cons_append]
  gi_wp2
  obtain ⟨W0, hW0⟩ : ∃ W0, (w.alloc (Obj.cells #[Value.func (.func 31) #[] #[]] 63)).alloc (Obj.cells #[Value.int IntKind.i64 0] 3) = W0 := ⟨_, rfl⟩
  have hs0 : W0.heap.size = w.heap.size + 2 := by rw [← hW0]; simp
  have bl0 : Below w.heap.size w W0 := by rw [← hW0]; exact ((Below.refl _ _).alloc (Nat.le_refl _) _).alloc (by simp) _
  have b1 : Boxed W0 w.heap.size 63 (.func (.func 31) #[] #[]) := by rw [← hW0]; exact (Boxed.new w 63 _).alloc _
  have b2 : Boxed W0 (w.heap.size + 1) 3 (.int .i64 (gmax (([] : List (S29)).map (fun x : S29 => x.f0)))) := by
    rw [← hW0]; have := Boxed.new (w.alloc (Obj.cells #[Value.func (.func 31) #[] #[]] 63)) 3 (.int .i64 0); rwa [World.size_alloc] at this
  have hiter := hit W0 bl0
  rw [hW0]
  have HS0 := Aside0.mk hs0
  have HB0 := Aside0.mk bl0
  clear hW0 hit hs0
  refine rangeFuncB (lb := lb) (gf := g) rfl heg hiter (fun _ => rfl) (fun k hk => by have := HS0.out; omega) (fun _ _ _ _ _ _ h _ _ => h)
    (fun pre W => Boxed W w.heap.size 63 (.func (.func 31) #[] #[]) ∧ Boxed W (w.heap.size + 1) 3 (.int .i64 (gmax (pre.map (fun x : S29 => x.f0)))) ∧ Below w.heap.size w W)
    (fun _ _ _ => False)
    (OwnFrom.and (Own.from (boxed_own _ _ (fun _ => .func (.func 31) #[] #[])) _) (OwnFrom.and (Own.from (boxed_own _ _ (fun pre : List (S29) => .int .i64 (gmax (pre.map (fun x : S29 => x.f0))))) _) (ownFrom_below (Nat.le_refl _) bl0.size)))
    (fun _ _ _ _ _ hs _ _ => hs) ⟨b1, b2, bl0⟩ ?Ax ?hAx ?hVb ?assign ?body ?done ?stop
  case Ax => exact fun x a' W => ∃ B5 : Nat, W.heap[B5]? = some (.cells #[.int .i64 x.f0, .int .i64 x.f1] 29 (0, 0)) ∧ a' = { tmps := #[.func (.func g) #[] lb, .func (.func 31) #[] #[], undef, .pointer (some ⟨w.heap.size, 0, none⟩), .int .i64 0, .pointer (some ⟨w.heap.size + 1, 0, none⟩), .pointer (some ⟨B5, 0, none⟩), .func (.func g) #[] lb, .agg #[.int .i64 x.f0, .int .i64 x.f1], undef, undef, undef, undef, undef, undef], defers := [] }
  case hAx =>
    rintro x a' W l o o' ⟨B5, h5, rfl⟩ hl ho
    refine ⟨B5, (World.putObj_heap_other ?_).trans h5, rfl⟩
    rintro rfl; rw [h5] at hl; cases hl; cases ho
  case hVb => exact fun _ _ _ _ h _ => h
  case assign =>
    intro l x W K' hK'
    gi_wp2
    refine hK' _ _ ?_ ⟨W.heap.size, ?_, ?_⟩
    · exact (Below.refl _ W).alloc (Nat.le_refl _) _
    · exact heap_alloc_new W _
    · rfl
  case body =>
    rintro l pre x a' Wa Wb hlt ⟨h1, h2, hbl⟩ hab _ ⟨B5, h5, rfl⟩
    have hx0 := (blk_cell h5 0).trans rfl
    have hx1 := (blk_cell h5 1).trans rfl
    have k1 : Boxed Wb w.heap.size 63 (.func (.func 31) #[] #[]) := (hab.block _ h1.lt).trans h1
    have k2 : Boxed Wb (w.heap.size + 1) 3 (.int .i64 (gmax (pre.map (fun x : S29 => x.f0)))) := (hab.block _ h2.lt).trans h2
    have c1 := k1.cell
    have c2 := k2.cell
    have f2 := k2.frozen
    have K1 := Aside0.mk k1
    have K2 := Aside0.mk k2
    have HBL := Aside0.mk hbl
    have HAB := Aside0.mk hab
    have HLT := Aside0.mk h2.lt
    obtain ⟨m, hm⟩ : ∃ m, gmax (pre.map (fun x : S29 => x.f0)) = m := ⟨_, rfl⟩
    rw [hm] at c2
    have HM := Aside0.mk hm
    clear h1 h2 k1 k2 hbl hab hm hlt hiter b1 b2 bl0
    gi_wp2
    have c1' : ∀ o, (Wb.alloc o).cell? ⟨w.heap.size, 0, none⟩ = some (.func (.func 31) #[] #[]) := fun o => (K1.out.alloc o).cell
    have c2' : ∀ o, (Wb.alloc o).cell? ⟨w.heap.size + 1, 0, none⟩ = some (.int .i64 m) := fun o => by rw [← HM.out]; exact (K2.out.alloc o).cell
    have f2' : ∀ o, (Wb.alloc o).frozen? ⟨w.heap.size + 1, 0, none⟩ = false := fun o => (K2.out.alloc o).frozen
    gi_region_with (first | (refine ⟨trivial, rfl, ?_⟩; gi_at_call 31; refine (CallsIn.inRound l (callsIn_wide.2 (lo31_calls _ _ _))).mono ?_; rintro e w' ⟨rfl, rfl⟩) | (gi_at_call 31; refine (CallsIn.inRound l (callsIn_wide.2 (lo31_calls _ _ _))).mono ?_; rintro e w' ⟨rfl, rfl⟩))
    all_goals
      have e1 : gmax ((pre ++ [x]).map (fun x : S29 => x.f0)) = (if m < x.f0 then x.f0 else m) := by rw [List.map_append, List.map_singleton, gmax_snoc, HM.out]; rfl
      have h1 := HLT.out
      have h2 := HAB.out.size
      refine And.intro (a := Lets (fun k => k < w.heap.size) Wa Wb _) ?_ (And.intro ?_ (And.intro ?_ ?_))
      · exact (((Lets.refl _ Wa Wb).alloc _).setCell _ (.inr ⟨h1, by show ¬ (w.heap.size + 1 < w.heap.size); omega⟩)).drew
      · exact ((K1.out.alloc _).other (by omega) _)
      · rw [e1]; exact ((K2.out.alloc _).set _)
      · exact ((((HBL.out.trans (HAB.out.mono HBL.out.size)).alloc (by omega) _).setCell (p := ⟨w.heap.size + 1, 0, none⟩) (by show w.heap.size ≤ w.heap.size + 1; omega) _).drew)
  case done =>
    rintro D ys W hD hS ⟨h1, h2, hbl⟩ hK
    have c2 := h2.cell
    have HBL := Aside0.mk hbl
    have HK := Aside0.mk hK
    have HD := Aside0.mk hD
    have HS := Aside0.mk hS
    clear h1 h2 hbl hK hD hS hiter b1 b2 bl0
    gi_wp2
    refine ⟨by simp, .inl ⟨_, _, rfl, run_takeDeferred HK.out, ?_⟩⟩
    refine ⟨_, results_tmp rfl _ _ _, ⟨ys, HS.out, by first | rfl | simp⟩, HBL.out.grown (grownBy_putObj' W D _) HBL.out.size (fun k e => by cases e; have := HD.out; have := HS0.out; omega)⟩
  case stop =>
    intro D c pre W _ _ h _
    exact h.elim

set_option maxRecDepth 100000 in
set_option maxHeartbeats 4000000 in
theorem greatHi_calls (g : Nat) (lb : Array Value) {S : List (S29) → Prop} (heg : ∀ args w, (callFunc g args).run Try.prog w = .ok (.enter g args) w) (w : World)
    (hit : ∀ W, Below w.heap.size w W → Iter Try.prog g lb (fun x : S29 => #[.agg #[.int .i64 x.f0, .int .i64 x.f1]]) (fun _ _ _ => True) (fun k => k < w.heap.size) S (fun _ => True) W) :
    Calls Try.prog 33 #[.func (.func g) #[] lb, .func (.func 32) #[] #[]] w (GPost S (fun x : S29 => x.f1) w) := by
  refine (callsIn_wide (n := 3)).1 ?_
  refine callsIn_of_wp_marks Try.func33 rfl trivial ?_ rfl
  simp only [Try.ntmps33, List.size_toArray, List.length_cons, List.length_nil, Nat.reduceAdd, Nat.reduceSub, Array.replicate_succ, Array.replicate_zero, List.push_toArray, List.append_toArray, List.nil_append, List.cons_append]
  gi_wp2
  obtain ⟨W0, hW0⟩ : ∃ W0, (w.alloc (Obj.cells #[Value.func (.func 32) #[] #[]] 63)).alloc (Obj.cells #[Value.int IntKind.i64 0] 3) = W0 := ⟨_, rfl⟩
  have hs0 : W0.heap.size = w.heap.size + 2 := by rw [← hW0]; simp
  have bl0 : Below w.heap.size w W0 := by rw [← hW0]; exact ((Below.refl _ _).alloc (Nat.le_refl _) _).alloc (by simp) _
  have b1 : Boxed W0 w.heap.size 63 (.func (.func 32) #[] #[]) := by rw [← hW0]; exact (Boxed.new w 63 _).alloc _
  have b2 : Boxed W0 (w.heap.size + 1) 3 (.int .i64 (gmax (([] : List (S29)).map (fun x : S29 => x.f1)))) := by
    rw [← hW0]; have := Boxed.new (w.alloc (Obj.cells #[Value.func (.func 32) #[] #[]] 63)) 3 (.int .i64 0); rwa [World.size_alloc] at this
  have hiter := hit W0 bl0
  rw [hW0]
  have HS0 := Aside0.mk hs0
  have HB0 := Aside0.mk bl0
  clear hW0 hit hs0
  refine rangeFuncB (lb := lb) (gf := g) rfl heg hiter (fun _ => rfl) (fun k hk => by have := HS0.out; omega) (fun _ _ _ _ _ _ h _ _ => h)
    (fun pre W => Boxed W w.heap.size 63 (.func (.func 32) #[] #[]) ∧ Boxed W (w.heap.size + 1) 3 (.int .i64 (gmax (pre.map (fun x : S29 => x.f1)))) ∧ Below w.heap.size w W)
    (fun _ _ _ => False)
    (OwnFrom.and (Own.from (boxed_own _ _ (fun _ => .func (.func 32) #[] #[])) _) (OwnFrom.and (Own.from (boxed_own _ _ (fun pre : List (S29) => .int .i64 (gmax (pre.map (fun x : S29 => x.f1))))) _) (ownFrom_below (Nat.le_refl _) bl0.size)))
    (fun _ _ _ _ _ hs _ _ => hs) ⟨b1, b2, bl0⟩ ?Ax ?hAx ?hVb ?assign ?body ?done ?stop
  case Ax => exact fun x a' W => ∃ B5 : Nat, W.heap[B5]? = some (.cells #[.int .i64 x.f0, .int .i64 x.f1] 29 (0, 0)) ∧ a' = { tmps := #[.func (.func g) #[] lb, .func (.func 32) #[] #[], undef, .pointer (some ⟨w.heap.size, 0, none⟩), .int .i64 0, .pointer (some ⟨w.heap.size + 1, 0, none⟩), .pointer (some ⟨B5, 0, none⟩), .func (.func g) #[] lb, .agg #[.int .i64 x.f0, .int .i64 x.f1], undef, undef, undef, undef, undef, undef], defers := [] }
  case hAx =>
    rintro x a' W l o o' ⟨B5, h5, rfl⟩ hl ho
    refine ⟨B5, (World.putObj_heap_other ?_).trans h5, rfl⟩
    rintro rfl; rw [h5] at hl; cases hl; cases ho
  case hVb => exact fun _ _ _ _ h _ => h
  case assign =>
    intro l x W K' hK'
    gi_wp2
    refine hK' _ _ ?_ ⟨W.heap.size, ?_, ?_⟩
    · exact (Below.refl _ W).alloc (Nat.le_refl _) _
    · exact heap_alloc_new W _
    · rfl
  case body =>
    rintro l pre x a' Wa Wb hlt ⟨h1, h2, hbl⟩ hab _ ⟨B5, h5, rfl⟩
    have hx0 := (blk_cell h5 0).trans rfl
    have hx1 := (blk_cell h5 1).trans rfl
    have k1 : Boxed Wb w.heap.size 63 (.func (.func 32) #[] #[]) := (hab.block _ h1.lt).trans h1
    have k2 : Boxed Wb (w.heap.size + 1) 3 (.int .i64 (gmax (pre.map (fun x : S29 => x.f1)))) := (hab.block _ h2.lt).trans h2
    have c1 := k1.cell
    have c2 := k2.cell
    have f2 := k2.frozen
    have K1 := Aside0.mk k1
    have K2 := Aside0.mk k2
    have HBL := Aside0.mk hbl
    have HAB := Aside0.mk hab
    have HLT := Aside0.mk h2.lt
    obtain ⟨m, hm⟩ : ∃ m, gmax (pre.map (fun x : S29 => x.f1)) = m := ⟨_, rfl⟩
    rw [hm] at c2
    have HM := Aside0.mk hm
    clear h1 h2 k1 k2 hbl hab hm hlt hiter b1 b2 bl0
    gi_wp2
    have c1' : ∀ o, (Wb.alloc o).cell? ⟨w.heap.size, 0, none⟩ = some (.func (.func 32) #[] #[]) := fun o => (K1.out.alloc o).cell
    have c2' : ∀ o, (Wb.alloc o).cell? ⟨w.heap.size + 1, 0, none⟩ = some (.int .i64 m) := fun o => by rw [← HM.out]; exact (K2.out.alloc o).cell
    have f2' : ∀ o, (Wb.alloc o).frozen? ⟨w.heap.size + 1, 0, none⟩ = false := fun o => (K2.out.alloc o).frozen
    gi_region_with (first | (refine ⟨trivial, rfl, ?_⟩; gi_at_call 32; refine (CallsIn.inRound l (callsIn_wide.2 (hi32_calls _ _ _))).mono ?_; rintro e w' ⟨rfl, rfl⟩) | (gi_at_call 32; refine (CallsIn.inRound l (callsIn_wide.2 (hi32_calls _ _ _))).mono ?_; rintro e w' ⟨rfl, rfl⟩))
    all_goals
      have e1 : gmax ((pre ++ [x]).map (fun x : S29 => x.f1)) = (if m < x.f1 then x.f1 else m) := by rw [List.map_append, List.map_singleton, gmax_snoc, HM.out]; rfl
      have h1 := HLT.out
      have h2 := HAB.out.size
      refine And.intro (a := Lets (fun k => k < w.heap.size) Wa Wb _) ?_ (And.intro ?_ (And.intro ?_ ?_))
      · exact (((Lets.refl _ Wa Wb).alloc _).setCell _ (.inr ⟨h1, by show ¬ (w.heap.size + 1 < w.heap.size); omega⟩)).drew
      · exact ((K1.out.alloc _).other (by omega) _)
      · rw [e1]; exact ((K2.out.alloc _).set _)
      · exact ((((HBL.out.trans (HAB.out.mono HBL.out.size)).alloc (by omega) _).setCell (p := ⟨w.heap.size + 1, 0, none⟩) (by show w.heap.size ≤ w.heap.size + 1; omega) _).drew)
  case done =>
    rintro D ys W hD hS ⟨h1, h2, hbl⟩ hK
    have c2 := h2.cell
    have HBL := Aside0.mk hbl
    have HK := Aside0.mk hK
    have HD := Aside0.mk hD
    have HS := Aside0.mk hS
    clear h1 h2 hbl hK hD hS hiter b1 b2 bl0
    gi_wp2
    refine ⟨by simp, .inl ⟨_, _, rfl, run_takeDeferred HK.out, ?_⟩⟩
    refine ⟨_, results_tmp rfl _ _ _, ⟨ys, HS.out, by first | rfl | simp⟩, HBL.out.grown (grownBy_putObj' W D _) HBL.out.size (fun k e => by cases e; have := HD.out; have := HS0.out; omega)⟩
  case stop =>
    intro D c pre W _ _ h _
    exact h.elim
end Go.Proofs.Ytclfimdafmoafaa.P
