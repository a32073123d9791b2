import Derived.Test.YtaclpkcoaifjfaaPx1
import Derived.RangeFuncBox
import Derived.Deep.WholeRow
import Derived.Laws.EntriesVeiled
set_option linter.unusedVariables false
set_option linter.unusedSimpArgs false
namespace Go.Proofs.Ytaclpkcoaifjfaa.P
open Go.RowKit Go.Proofs.YtaclpkcoaifjfaaW.PrintWords Go.Proofs.YtaclpkcoaifjfaaW.PrintLast Go.Proofs.YtaclpkcoaifjfaaW.PrintMore
attribute [local go_sem] Oper.semAt_some
def cellsL (s : Nat → Int) : List Value := (List.range 33).map fun i => .int .i64 (s i)
def cells (s : Nat → Int) : Array Value := (cellsL s).toArray
def sv (s : Nat → Int) : Value := .agg (cells s)
theorem cells_get (s : Nat → Int) (i : Nat) (h : i < 33) : (cells s)[i]? = some (.int .i64 (s i)) := by
  simp [cells, cellsL, h]
theorem cell_at {s : Nat → Int} {w : World} {b : Nat} {T : TypeId} (h : w.heap[b]? = some (.cells (cells s) T (0, 0))) (i : Nat) (hi : i < 33) : w.cell? ⟨b, i, none⟩ = some (.int .i64 (s i)) := (blk_cell h i).trans (cells_get s i hi)
theorem u23 : Try.prog.underlying 23 = some (.array 33 3) ∧ (Try.prog.info? 23).map (·.size) = some 33 := ⟨by kernel_rfl, by kernel_rfl⟩
theorem u45 : Try.prog.underlying 45 = some (.array 33 3) ∧ (Try.prog.info? 45).map (·.size) = some 33 := ⟨by kernel_rfl, by kernel_rfl⟩
theorem box_run (T : TypeId) (s : Nat → Int) (w : World) : (Instr.box T (sv s)).run Try.prog w = .ok (.pointer (some ⟨w.heap.size, 0, none⟩)) (w.alloc (.cells (cells s) T (0, 0))) := by
  simp [Instr.box, newVar, newRow, sv, Value.cells, newObj, Sem.run]
theorem load_run (T T' : TypeId) (hT : (Try.prog.underlying T = some (.array 33 3) ∧ (Try.prog.info? T).map (·.size) = some 33)) (s : Nat → Int) (b : Nat) (w : World) (h : w.heap[b]? = some (.cells (cells s) T' (0, 0))) : (Instr.loadAt T (.pointer (some ⟨b, 0, none⟩))).run Try.prog w = .ok (sv s) w := by
  simp only [Instr.loadAt, Instr.sureAddr, Sem.run_bind, Sem.run_pure, Result.andThen]
  exact run_loadVar_row w b T' T (cells s) (0, 0) _ h hT.1 rfl (by rw [hT.2]; simp [cells, cellsL])
theorem wp_box {ops : Array Oper} {rest : List Oper} {o : Oper} {a : Act} {Q : Exit → Act → World → Prop} {W : World} (hgd : o.guard = none) {N : Tmp} (hd : o.dst = some N) (T : TypeId) (x : Operand) (hop : o.op = .box T x) (s : Nat → Int) (hx : a.eval x = sv s)
    (h : ∀ g, g = W.heap.size → ∀ w1, w1.heap[g]? = some (.cells (cells s) T (0, 0)) → Below W.heap.size W w1 → wpList Try.prog ops Q rest (a.put o.dst (.pointer (some ⟨g, 0, none⟩))) w1) : wpList Try.prog ops Q (o :: rest) a W :=
  box_event hgd hd (by simp [execOp, hop, hx, box_run, Result.andThen]) h
theorem wp_load {ops : Array Oper} {rest : List Oper} {o : Oper} {a : Act} {Q : Exit → Act → World → Prop} {W : World} (hgd : o.guard = none) (T T' : TypeId) (hT : (Try.prog.underlying T = some (.array 33 3) ∧ (Try.prog.info? T).map (·.size) = some 33)) (x : Operand) (hop : o.op = .load T x) (b : Nat) (hx : a.eval x = .pointer (some ⟨b, 0, none⟩)) (s : Nat → Int)
    (hb : W.heap[b]? = some (.cells (cells s) T' (0, 0))) (h : wpList Try.prog ops Q rest (a.put o.dst (sv s)) W) : wpList Try.prog ops Q (o :: rest) a W :=
  Kd.event_run hgd (by simp [execOp, hop, hx, load_run T T' hT s b W hb, Result.andThen]) h
def sizeP (x : Int) : Bool := decide (0 ≤ x) && decide (x ≤ 100000)
def offP (x : Int) : Bool := decide (-100000 ≤ x) && decide (x ≤ 100000)
def lenP (x : Int) : Bool := decide (0 ≤ x) && decide (x ≤ 1000000000)
def coordP (x : Int) : Bool := decide (-1000000000 ≤ x) && decide (x ≤ 1000000000)
set_option maxRecDepth 100000 in
set_option maxHeartbeats 4000000 in
theorem size4_calls (s : Nat → Int) (w : World) : Calls Try.prog 31 #[sv s, .int .i64 4] w fun e w' => e = .returned (.bool (sizeP (s 4))) ∧ Below w.heap.size w w' := by
  unfold sizeP
  by_cases h1 : 0 ≤ s 4
  · have h2 : decide (0 ≤ s 4) = true := decide_eq_true h1
    rw [h2, Bool.true_and]
    clear h1
    go_enter Try.func31, Try.ntmps31
    go_wp2_with (first | ((with_reducible refine gate_dst (N := 2) rfl ?_); refine wp_box rfl (N := 2) rfl 45 _ rfl s rfl ?_; intro gb hg w1 hbox hb; have hc : w1.cell? ⟨gb, 4, none⟩ = some (.int .i64 (s 4)) := cell_at hbox 4 (by omega); have HB := Aside0.mk hb; clear hbox hb hg))
    go_ret
    exact ⟨rfl, HB.out⟩
  · have h2 : decide (0 ≤ s 4) = false := decide_eq_false h1
    rw [h2, Bool.false_and]
    clear h1
    go_enter Try.func31, Try.ntmps31
    go_wp2_with (first | ((with_reducible refine gate_dst (N := 2) rfl ?_); refine wp_box rfl (N := 2) rfl 45 _ rfl s rfl ?_; intro gb hg w1 hbox hb; have hc : w1.cell? ⟨gb, 4, none⟩ = some (.int .i64 (s 4)) := cell_at hbox 4 (by omega); have HB := Aside0.mk hb; clear hbox hb hg))
    go_ret
    exact ⟨rfl, HB.out⟩
set_option maxRecDepth 100000 in
set_option maxHeartbeats 4000000 in
theorem size5_calls (s : Nat → Int) (w : World) : Calls Try.prog 31 #[sv s, .int .i64 5] w fun e w' => e = .returned (.bool (sizeP (s 5))) ∧ Below w.heap.size w w' := by
  unfold sizeP
  by_cases h1 : 0 ≤ s 5
  · have h2 : decide (0 ≤ s 5) = true := decide_eq_true h1
    rw [h2, Bool.true_and]
    clear h1
    go_enter Try.func31, Try.ntmps31
    go_wp2_with (first | ((with_reducible refine gate_dst (N := 2) rfl ?_); refine wp_box rfl (N := 2) rfl 45 _ rfl s rfl ?_; intro gb hg w1 hbox hb; have hc : w1.cell? ⟨gb, 5, none⟩ = some (.int .i64 (s 5)) := cell_at hbox 5 (by omega); have HB := Aside0.mk hb; clear hbox hb hg))
    go_ret
    exact ⟨rfl, HB.out⟩
  · have h2 : decide (0 ≤ s 5) = false := decide_eq_false h1
    rw [h2, Bool.false_and]
    clear h1
    go_enter Try.func31, Try.ntmps31
    go_wp2_with (first | ((with_reducible refine gate_dst (N := 2) rfl ?_); refine wp_box rfl (N := 2) rfl 45 _ rfl s rfl ?_; intro gb hg w1 hbox hb; have hc : w1.cell? ⟨gb, 5, none⟩ = some (.int .i64 (s 5)) := cell_at hbox 5 (by omega); have HB := Aside0.mk hb; clear hbox hb hg))
    go_ret
    exact ⟨rfl, HB.out⟩
set_option maxRecDepth 100000 in
set_option maxHeartbeats 4000000 in
theorem size6_calls (s : Nat → Int) (w : World) : Calls Try.prog 31 #[sv s, .int .i64 6] w fun e w' => e = .returned (.bool (sizeP (s 6))) ∧ Below w.heap.size w w' := by
  unfold sizeP
  by_cases h1 : 0 ≤ s 6
  · have h2 : decide (0 ≤ s 6) = true := decide_eq_true h1
    rw [h2, Bool.true_and]
    clear h1
    go_enter Try.func31, Try.ntmps31
    go_wp2_with (first | ((with_reducible refine gate_dst (N := 2) rfl ?_); refine wp_box rfl (N := 2) rfl 45 _ rfl s rfl ?_; intro gb hg w1 hbox hb; have hc : w1.cell? ⟨gb, 6, none⟩ = some (.int .i64 (s 6)) := cell_at hbox 6 (by omega); have HB := Aside0.mk hb; clear hbox hb hg))
    go_ret
    exact ⟨rfl, HB.out⟩
  · have h2 : decide (0 ≤ s 6) = false := decide_eq_false h1
    rw [h2, Bool.false_and]
    clear h1
    go_enter Try.func31, Try.ntmps31
    go_wp2_with (first | ((with_reducible refine gate_dst (N := 2) rfl ?_); refine wp_box rfl (N := 2) rfl 45 _ rfl s rfl ?_; intro gb hg w1 hbox hb; have hc : w1.cell? ⟨gb, 6, none⟩ = some (.int .i64 (s 6)) := cell_at hbox 6 (by omega); have HB := Aside0.mk hb; clear hbox hb hg))
    go_ret
    exact ⟨rfl, HB.out⟩
set_option maxRecDepth 100000 in
set_option maxHeartbeats 4000000 in
theorem size3_calls (s : Nat → Int) (w : World) : Calls Try.prog 31 #[sv s, .int .i64 3] w fun e w' => e = .returned (.bool (sizeP (s 3))) ∧ Below w.heap.size w w' := by
  unfold sizeP
  by_cases h1 : 0 ≤ s 3
  · have h2 : decide (0 ≤ s 3) = true := decide_eq_true h1
    rw [h2, Bool.true_and]
    clear h1
    go_enter Try.func31, Try.ntmps31
    go_wp2_with (first | ((with_reducible refine gate_dst (N := 2) rfl ?_); refine wp_box rfl (N := 2) rfl 45 _ rfl s rfl ?_; intro gb hg w1 hbox hb; have hc : w1.cell? ⟨gb, 3, none⟩ = some (.int .i64 (s 3)) := cell_at hbox 3 (by omega); have HB := Aside0.mk hb; clear hbox hb hg))
    go_ret
    exact ⟨rfl, HB.out⟩
  · have h2 : decide (0 ≤ s 3) = false := decide_eq_false h1
    rw [h2, Bool.false_and]
    clear h1
    go_enter Try.func31, Try.ntmps31
    go_wp2_with (first | ((with_reducible refine gate_dst (N := 2) rfl ?_); refine wp_box rfl (N := 2) rfl 45 _ rfl s rfl ?_; intro gb hg w1 hbox hb; have hc : w1.cell? ⟨gb, 3, none⟩ = some (.int .i64 (s 3)) := cell_at hbox 3 (by omega); have HB := Aside0.mk hb; clear hbox hb hg))
    go_ret
    exact ⟨rfl, HB.out⟩
set_option maxRecDepth 100000 in
set_option maxHeartbeats 4000000 in
theorem off18_calls (s : Nat → Int) (w : World) : Calls Try.prog 32 #[sv s, .int .i64 18] w fun e w' => e = .returned (.bool (offP (s 18))) ∧ Below w.heap.size w w' := by
  unfold offP
  by_cases h1 : -100000 ≤ s 18
  · have h2 : decide (-100000 ≤ s 18) = true := decide_eq_true h1
    rw [h2, Bool.true_and]
    clear h1
    go_enter Try.func32, Try.ntmps32
    go_wp2_with (first | ((with_reducible refine gate_dst (N := 2) rfl ?_); refine wp_box rfl (N := 2) rfl 45 _ rfl s rfl ?_; intro gb hg w1 hbox hb; have hc : w1.cell? ⟨gb, 18, none⟩ = some (.int .i64 (s 18)) := cell_at hbox 18 (by omega); have HB := Aside0.mk hb; clear hbox hb hg))
    go_ret
    exact ⟨rfl, HB.out⟩
  · have h2 : decide (-100000 ≤ s 18) = false := decide_eq_false h1
    rw [h2, Bool.false_and]
    clear h1
    go_enter Try.func32, Try.ntmps32
    go_wp2_with (first | ((with_reducible refine gate_dst (N := 2) rfl ?_); refine wp_box rfl (N := 2) rfl 45 _ rfl s rfl ?_; intro gb hg w1 hbox hb; have hc : w1.cell? ⟨gb, 18, none⟩ = some (.int .i64 (s 18)) := cell_at hbox 18 (by omega); have HB := Aside0.mk hb; clear hbox hb hg))
    go_ret
    exact ⟨rfl, HB.out⟩
set_option maxRecDepth 100000 in
set_option maxHeartbeats 4000000 in
theorem off19_calls (s : Nat → Int) (w : World) : Calls Try.prog 32 #[sv s, .int .i64 19] w fun e w' => e = .returned (.bool (offP (s 19))) ∧ Below w.heap.size w w' := by
  unfold offP
  by_cases h1 : -100000 ≤ s 19
  · have h2 : decide (-100000 ≤ s 19) = true := decide_eq_true h1
    rw [h2, Bool.true_and]
    clear h1
    go_enter Try.func32, Try.ntmps32
    go_wp2_with (first | ((with_reducible refine gate_dst (N := 2) rfl ?_); refine wp_box rfl (N := 2) rfl 45 _ rfl s rfl ?_; intro gb hg w1 hbox hb; have hc : w1.cell? ⟨gb, 19, none⟩ = some (.int .i64 (s 19)) := cell_at hbox 19 (by omega); have HB := Aside0.mk hb; clear hbox hb hg))
    go_ret
    exact ⟨rfl, HB.out⟩
  · have h2 : decide (-100000 ≤ s 19) = false := decide_eq_false h1
    rw [h2, Bool.false_and]
    clear h1
    go_enter Try.func32, Try.ntmps32
    go_wp2_with (first | ((with_reducible refine gate_dst (N := 2) rfl ?_); refine wp_box rfl (N := 2) rfl 45 _ rfl s rfl ?_; intro gb hg w1 hbox hb; have hc : w1.cell? ⟨gb, 19, none⟩ = some (.int .i64 (s 19)) := cell_at hbox 19 (by omega); have HB := Aside0.mk hb; clear hbox hb hg))
    go_ret
    exact ⟨rfl, HB.out⟩
set_option maxRecDepth 100000 in
set_option maxHeartbeats 4000000 in
theorem notS_calls (s : Nat → Int) (p : Nat) (hp : p = 4 ∨ p = 5 ∨ p = 6 ∨ p = 3) (b : Nat) (w : World) (hb : Boxed w b 46 (.func (.func 31) #[sv s] #[])) :
    Calls Try.prog 30 #[.int .i64 (p : Int), .pointer (some ⟨b, 0, none⟩)] w fun e w' => e = .returned (.bool (!sizeP (s p))) ∧ Below w.heap.size w w' := by
  have hc := hb.cell
  rcases hp with rfl | rfl | rfl | rfl
  · obtain ⟨x, hx⟩ : ∃ x, sizeP (s 4) = x := ⟨_, rfl⟩
    have hcc : ∀ w, Calls Try.prog 31 #[sv s, .int .i64 4] w fun e w' => e = .returned (.bool x) ∧ Below w.heap.size w w' := fun w => by rw [← hx]; exact size4_calls s w
    rw [hx]
    clear hx
    go_enter Try.func30, Try.ntmps30
    go_wp2_with (first | (go_at_call 31; with_reducible refine (hcc _).mono ?_; rintro e w1 ⟨rfl, hb1⟩; have HB := Aside0.mk hb1; clear hb1))
    go_ret
    exact ⟨rfl, HB.out⟩
  · obtain ⟨x, hx⟩ : ∃ x, sizeP (s 5) = x := ⟨_, rfl⟩
    have hcc : ∀ w, Calls Try.prog 31 #[sv s, .int .i64 5] w fun e w' => e = .returned (.bool x) ∧ Below w.heap.size w w' := fun w => by rw [← hx]; exact size5_calls s w
    rw [hx]
    clear hx
    go_enter Try.func30, Try.ntmps30
    go_wp2_with (first | (go_at_call 31; with_reducible refine (hcc _).mono ?_; rintro e w1 ⟨rfl, hb1⟩; have HB := Aside0.mk hb1; clear hb1))
    go_ret
    exact ⟨rfl, HB.out⟩
  · obtain ⟨x, hx⟩ : ∃ x, sizeP (s 6) = x := ⟨_, rfl⟩
    have hcc : ∀ w, Calls Try.prog 31 #[sv s, .int .i64 6] w fun e w' => e = .returned (.bool x) ∧ Below w.heap.size w w' := fun w => by rw [← hx]; exact size6_calls s w
    rw [hx]
    clear hx
    go_enter Try.func30, Try.ntmps30
    go_wp2_with (first | (go_at_call 31; with_reducible refine (hcc _).mono ?_; rintro e w1 ⟨rfl, hb1⟩; have HB := Aside0.mk hb1; clear hb1))
    go_ret
    exact ⟨rfl, HB.out⟩
  · obtain ⟨x, hx⟩ : ∃ x, sizeP (s 3) = x := ⟨_, rfl⟩
    have hcc : ∀ w, Calls Try.prog 31 #[sv s, .int .i64 3] w fun e w' => e = .returned (.bool x) ∧ Below w.heap.size w w' := fun w => by rw [← hx]; exact size3_calls s w
    rw [hx]
    clear hx
    go_enter Try.func30, Try.ntmps30
    go_wp2_with (first | (go_at_call 31; with_reducible refine (hcc _).mono ?_; rintro e w1 ⟨rfl, hb1⟩; have HB := Aside0.mk hb1; clear hb1))
    go_ret
    exact ⟨rfl, HB.out⟩
set_option maxRecDepth 100000 in
set_option maxHeartbeats 4000000 in
theorem notO_calls (s : Nat → Int) (p : Nat) (hp : p = 18 ∨ p = 19) (b : Nat) (w : World) (hb : Boxed w b 46 (.func (.func 32) #[sv s] #[])) :
    Calls Try.prog 30 #[.int .i64 (p : Int), .pointer (some ⟨b, 0, none⟩)] w fun e w' => e = .returned (.bool (!offP (s p))) ∧ Below w.heap.size w w' := by
  have hc := hb.cell
  rcases hp with rfl | rfl
  · obtain ⟨x, hx⟩ : ∃ x, offP (s 18) = x := ⟨_, rfl⟩
    have hcc : ∀ w, Calls Try.prog 32 #[sv s, .int .i64 18] w fun e w' => e = .returned (.bool x) ∧ Below w.heap.size w w' := fun w => by rw [← hx]; exact off18_calls s w
    rw [hx]
    clear hx
    go_enter Try.func30, Try.ntmps30
    go_wp2_with (first | (go_at_call 32; with_reducible refine (hcc _).mono ?_; rintro e w1 ⟨rfl, hb1⟩; have HB := Aside0.mk hb1; clear hb1))
    go_ret
    exact ⟨rfl, HB.out⟩
  · obtain ⟨x, hx⟩ : ∃ x, offP (s 19) = x := ⟨_, rfl⟩
    have hcc : ∀ w, Calls Try.prog 32 #[sv s, .int .i64 19] w fun e w' => e = .returned (.bool x) ∧ Below w.heap.size w w' := fun w => by rw [← hx]; exact off19_calls s w
    rw [hx]
    clear hx
    go_enter Try.func30, Try.ntmps30
    go_wp2_with (first | (go_at_call 32; with_reducible refine (hcc _).mono ?_; rintro e w1 ⟨rfl, hb1⟩; have HB := Aside0.mk hb1; clear hb1))
    go_ret
    exact ⟨rfl, HB.out⟩

set_option maxRecDepth 100000 in
set_option maxHeartbeats 4000000 in
theorem idx_calls (A : Option Addr) (c : Nat) (l : List Int) (w : World) (hr : Kd.C (Kd.int .i64) w A l.length l) (hl : l.length ≤ 1000) (b : Nat) (fv : Value) (hb : Boxed w b 46 fv) (bad : Int → Bool)
    (hf : ∀ x ∈ l, ∀ W, Boxed W b 46 fv → Calls Try.prog 30 #[.int .i64 x, .pointer (some ⟨b, 0, none⟩)] W fun e w' => e = .returned (.bool (bad x)) ∧ Below W.heap.size W w') :
    Calls Try.prog 33 #[.slice A l.length c, .func (.func 30) #[] #[.pointer (some ⟨b, 0, none⟩)]] w fun e w' => (∃ r : Int, e = .returned (.int .i64 r) ∧ decide (0 ≤ r) = l.any bad) ∧ Below w.heap.size w w' := by
  have HR := Aside0.mk hr
  have HL := Aside0.mk hl
  have HF := Aside0.mk hf
  have HBX := Aside0.mk hb
  clear hr hl hf hb
  go_enter Try.func33, Try.ntmps33
  go_wp2
  go_loopg [8] l.length (fun kq v8 w' => ∃ j : Nat, v8 = .int .i64 (j : Int) ∧ Aside0 (kq + j = l.length) ∧ Aside0 ((l.take j).any bad = false) ∧ Aside0 (Below w.heap.size w w'))
  case atStart => exact ⟨0, rfl, ⟨rfl⟩, ⟨rfl⟩, ⟨Below.refl _ _⟩⟩
  case round =>
    obtain ⟨j, rfl, HK, HA, HB⟩ := hrel
    cases gk with
    | zero =>
      have hjl : j = l.length := by have := HK.out; omega
      subst hjl
      have c1b : decide ((l.length : Int) < (l.length : Int)) = false := by simp
      have hf := HA.out
      rw [List.take_length] at hf
      go_wp2
      go_ret
      exact ⟨⟨-1, rfl, by rw [hf]; decide⟩, HB.out⟩
    | succ k1 =>
      have hj : j < l.length := by have := HK.out; omega
      have p1 : 0 ≤ (j : Int) := by omega
      have q1 : (j : Int) < (l.length : Int) := by omega
      have c1b : decide ((j : Int) < (l.length : Int)) = true := decide_eq_true q1
      have hsum : IntKind.i64.wrap ((j : Int) + 1) = ((j + 1 : Nat) : Int) := by have := HL.out; exact IntWalk.i64_in _ (by omega)
      have hsum2 : wrap64 ((j : Int) + 1) = ((j + 1 : Nat) : Int) := by have := HL.out; unfold wrap64; omega
      obtain ⟨ad, ead, hx0⟩ := Kd.at_int (Kd.C_below HR.out HB.out) (j : Int) p1 q1
      cases ead
      have hel : rd l (j : Int) = l[j] := by simp [rd, List.getD_eq_getElem?_getD, List.getElem?_eq_getElem hj]
      rw [hel] at hx0
      simp only [Int.toNat_natCast] at hx0
      obtain ⟨x, hx⟩ : ∃ x, l[j] = x := ⟨_, rfl⟩
      rw [hx] at hx0
      have hbx : Boxed wr b 46 fv := (HB.out.block _ HBX.out.lt).trans HBX.out
      have HJ := Aside0.mk hj
      clear hel
      replace p1 := eq_true p1
      replace q1 := eq_true q1
      have hfc : ∀ r, bad x = r → Calls Try.prog 30 #[.int .i64 x, .pointer (some ⟨b, 0, none⟩)] wr fun e w' => e = .returned (.bool r) ∧ Below wr.heap.size wr w' := fun r hr => by rw [← hr]; exact HF.out x (by rw [← hx]; exact List.getElem_mem hj) wr hbx
      clear hbx
      cases hfar : bad x
      · have hfc := hfc _ hfar
        have hnext : (l.take (j + 1)).any bad = false := by rw [List.take_succ_eq_append_getElem hj, List.any_append, HA.out]; simp [hx, hfar]
        have HN := Aside0.mk hnext
        clear hnext hfar hx hj
        go_wp2_with (first | (go_at_call 30; with_reducible refine hfc.mono ?_; rintro e w2 ⟨rfl, hb⟩; have HB2 := Aside0.mk hb; clear hb))
        go_roundg k1
        case measure => omega
        case rel => exact ⟨j + 1, by simp [hsum, hsum2], ⟨by have := HK.out; omega⟩, HN, ⟨HB.out.trans (HB2.out.mono HB.out.size)⟩⟩
      · have hfc := hfc _ hfar
        have hany : l.any bad = true := List.any_eq_true.2 ⟨l[j], List.getElem_mem hj, by rw [hx]; exact hfar⟩
        have HN := Aside0.mk hany
        clear hany hfar hx hj
        go_wp2_with (first | (go_at_call 30; with_reducible refine hfc.mono ?_; rintro e w2 ⟨rfl, hb⟩; have HB2 := Aside0.mk hb; clear hb))
        go_ret
        exact ⟨⟨j, rfl, by rw [HN.out]; simp⟩, HB.out.trans (HB2.out.mono HB.out.size)⟩
theorem any_calls (A : Option Addr) (c : Nat) (l : List Int) (w : World) (hr : Kd.C (Kd.int .i64) w A l.length l) (hl : l.length ≤ 1000) (b : Nat) (fv : Value) (hb : Boxed w b 46 fv) (bad : Int → Bool)
    (hf : ∀ x ∈ l, ∀ W, Boxed W b 46 fv → Calls Try.prog 30 #[.int .i64 x, .pointer (some ⟨b, 0, none⟩)] W fun e w' => e = .returned (.bool (bad x)) ∧ Below W.heap.size W w') :
    Calls Try.prog 29 #[.slice A l.length c, .func (.func 30) #[] #[.pointer (some ⟨b, 0, none⟩)]] w fun e w' => e = .returned (.bool (l.any bad)) ∧ Below w.heap.size w w' := by
  have HI := Aside0.mk (idx_calls A c l w hr hl b fv hb bad hf)
  clear hr hl hb hf
  go_enter Try.func29, Try.ntmps29
  go_wp2_with (first | (go_at_call 33; with_reducible refine HI.out.mono ?_; rintro e w' ⟨⟨r, rfl, hr1⟩, hb⟩; have hr2 : decide (r ≥ 0) = l.any bad := hr1; have HB := Aside0.mk hb; clear hb))
  go_ret
  exact ⟨by first | rfl | rw [hr1] | rw [hr2], HB.out⟩
set_option maxRecDepth 100000 in
set_option maxHeartbeats 4000000 in
theorem allS_calls (s : Nat → Int) (A : Option Addr) (c : Nat) (w : World) (hr : Kd.C (Kd.int .i64) w A 4 ([4, 5, 6, 3] : List Int)) :
    Calls Try.prog 28 #[.func (.func 31) #[sv s] #[], .slice A 4 c] w fun e w' => e = .returned (.bool (sizeP (s 4) && sizeP (s 5) && sizeP (s 6) && sizeP (s 3))) ∧ Below w.heap.size w w' := by
  have hmf : ∀ (fn : Fn) (first cap : Array Value) (w : World), (Instr.makeFunc fn first cap).run Try.prog w = .ok (.func fn first cap) w := fun _ _ _ _ => rfl
  have ha : ∀ w1, Boxed w1 w.heap.size 46 (.func (.func 31) #[sv s] #[]) → Below w.heap.size w w1 → Calls Try.prog 29 #[.slice A 4 c, .func (.func 30) #[] #[.pointer (some ⟨w.heap.size, 0, none⟩)]] w1 fun e w' => e = .returned (.bool (!(sizeP (s 4) && sizeP (s 5) && sizeP (s 6) && sizeP (s 3)))) ∧ Below w1.heap.size w1 w' := fun w1 hb hB => by
    have := any_calls A c ([4, 5, 6, 3] : List Int) w1 (Kd.C_below hr hB) (by simp) w.heap.size _ hb (fun x => !sizeP (s x.toNat)) (fun x hx W hW => by
      simp at hx
      rcases hx with rfl | rfl | rfl | rfl
      · exact notS_calls s 4 (by omega) _ W hW
      · exact notS_calls s 5 (by omega) _ W hW
      · exact notS_calls s 6 (by omega) _ W hW
      · exact notS_calls s 3 (by omega) _ W hW)
    refine this.mono ?_
    rintro e w' ⟨rfl, h2⟩
    refine ⟨?_, h2⟩
    simp only [List.any_cons, List.any_nil, Bool.or_false]
    rw [show ∀ a b : Bool, (a = b) → Ending.returned (.bool a) = Ending.returned (.bool b) from fun a b h => by rw [h]]
    simp only [Bool.not_and, Bool.or_assoc]
    rfl
  have hbx : Boxed (w.alloc (.cells #[.func (.func 31) #[sv s] #[]] 46)) w.heap.size 46 (.func (.func 31) #[sv s] #[]) := Boxed.new w 46 _
  have hbl : Below w.heap.size w (w.alloc (.cells #[.func (.func 31) #[sv s] #[]] 46)) := (Below.refl _ w).alloc (Nat.le_refl _) _
  obtain ⟨r, hres⟩ : ∃ r, (sizeP (s 4) && sizeP (s 5) && sizeP (s 6) && sizeP (s 3)) = r := ⟨_, rfl⟩
  rw [hres] at ha ⊢
  have HA := Aside0.mk (ha _ hbx hbl)
  have HBL := Aside0.mk hbl
  clear ha hbx hbl hres hr
  go_enter Try.func28, Try.ntmps28
  go_wp2_with (first | (go_at_call 29; with_reducible refine HA.out.mono ?_; rintro e w2 ⟨rfl, hb⟩; have HB := Aside0.mk hb; clear hb))
  go_ret
  exact ⟨by first | rfl | simp, HBL.out.trans (HB.out.mono HBL.out.size)⟩
set_option maxRecDepth 100000 in
set_option maxHeartbeats 4000000 in
theorem allO_calls (s : Nat → Int) (A : Option Addr) (c : Nat) (w : World) (hr : Kd.C (Kd.int .i64) w A 2 ([18, 19] : List Int)) :
    Calls Try.prog 28 #[.func (.func 32) #[sv s] #[], .slice A 2 c] w fun e w' => e = .returned (.bool (offP (s 18) && offP (s 19))) ∧ Below w.heap.size w w' := by
  have hmf : ∀ (fn : Fn) (first cap : Array Value) (w : World), (Instr.makeFunc fn first cap).run Try.prog w = .ok (.func fn first cap) w := fun _ _ _ _ => rfl
  have ha : ∀ w1, Boxed w1 w.heap.size 46 (.func (.func 32) #[sv s] #[]) → Below w.heap.size w w1 → Calls Try.prog 29 #[.slice A 2 c, .func (.func 30) #[] #[.pointer (some ⟨w.heap.size, 0, none⟩)]] w1 fun e w' => e = .returned (.bool (!(offP (s 18) && offP (s 19)))) ∧ Below w1.heap.size w1 w' := fun w1 hb hB => by
    have := any_calls A c ([18, 19] : List Int) w1 (Kd.C_below hr hB) (by simp) w.heap.size _ hb (fun x => !offP (s x.toNat)) (fun x hx W hW => by
      simp at hx
      rcases hx with rfl | rfl
      · exact notO_calls s 18 (by omega) _ W hW
      · exact notO_calls s 19 (by omega) _ W hW)
    refine this.mono ?_
    rintro e w' ⟨rfl, h2⟩
    refine ⟨?_, h2⟩
    simp only [List.any_cons, List.any_nil, Bool.or_false]
    rw [show ∀ a b : Bool, (a = b) → Ending.returned (.bool a) = Ending.returned (.bool b) from fun a b h => by rw [h]]
    simp only [Bool.not_and, Bool.or_assoc]
    rfl
  have hbx : Boxed (w.alloc (.cells #[.func (.func 32) #[sv s] #[]] 46)) w.heap.size 46 (.func (.func 32) #[sv s] #[]) := Boxed.new w 46 _
  have hbl : Below w.heap.size w (w.alloc (.cells #[.func (.func 32) #[sv s] #[]] 46)) := (Below.refl _ w).alloc (Nat.le_refl _) _
  obtain ⟨r, hres⟩ : ∃ r, (offP (s 18) && offP (s 19)) = r := ⟨_, rfl⟩
  rw [hres] at ha ⊢
  have HA := Aside0.mk (ha _ hbx hbl)
  have HBL := Aside0.mk hbl
  clear ha hbx hbl hres hr
  go_enter Try.func28, Try.ntmps28
  go_wp2_with (first | (go_at_call 29; with_reducible refine HA.out.mono ?_; rintro e w2 ⟨rfl, hb⟩; have HB := Aside0.mk hb; clear hb))
  go_ret
  exact ⟨by first | rfl | simp, HBL.out.trans (HB.out.mono HBL.out.size)⟩
end Go.Proofs.Ytaclpkcoaifjfaa.P
