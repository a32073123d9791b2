import Derived.Test.YtciheadencbmjaaHStarts
import Derived.Deep.RegionHeld3
set_option linter.unusedVariables false
set_option linter.unusedSimpArgs false
namespace Go.Proofs.Ytciheadencbmjaa.P
open Go.RowKit Go.Proofs.YtciheadencbmjaaW.PrintWords Go.Proofs.YtciheadencbmjaaW.PrintLast Go.Proofs.YtciheadencbmjaaW.PrintMore
attribute [local go_sem] Oper.semAt_some
theorem wp_cut {P : Program} {c : Code} {Q : Exit → Act → World → Prop} {a : Act} {w : World} (A : Act) (W : World) (h : c.wp P (fun e a' w' => e = .normal ∧ a' = A ∧ w' = W) a w) (hq : Q .normal A W) : c.wp P Q a w :=
  Code.wp_mono (by rintro e a' w' ⟨rfl, rfl, rfl⟩; exact hq) h
set_option maxRecDepth 100000 in
set_option maxHeartbeats 4000000 in
theorem dealer_calls (number all : Int) (w : World) :
    Calls Try.prog 40 #[.int .i64 number, .int .i64 all] w fun e w' => e = .returned (.func (.func 49) #[] #[.pointer (some ⟨w.heap.size + 2, 0, none⟩), .pointer (some ⟨w.heap.size, 0, none⟩), .pointer (some ⟨w.heap.size + 1, 0, none⟩), .pointer (some ⟨w.heap.size + 3, 0, none⟩)]) ∧
      Boxed w' w.heap.size 3 (.int .i64 number) ∧ Boxed w' (w.heap.size + 1) 3 (.int .i64 all) ∧ Boxed w' (w.heap.size + 2) 3 (.int .i64 0) ∧ Boxed w' (w.heap.size + 3) 3 (.int .i64 0) ∧ Below w.heap.size w w' := by
  have hmf : ∀ (fn : Fn) (first cap : Array Value) (w : World), (Instr.makeFunc fn first cap).run Try.prog w = .ok (.func fn first cap) w := fun _ _ _ _ => rfl
  go_enter Try.func40, Try.ntmps40
  go_wp2
  go_ret
  have s1 : (w.alloc (Obj.cells #[Value.int IntKind.i64 number] 3)).heap.size = w.heap.size + 1 := by simp
  have s2 : ((w.alloc (Obj.cells #[Value.int IntKind.i64 number] 3)).alloc (Obj.cells #[Value.int IntKind.i64 all] 3)).heap.size = w.heap.size + 2 := by simp
  have s3 : (((w.alloc (Obj.cells #[Value.int IntKind.i64 number] 3)).alloc (Obj.cells #[Value.int IntKind.i64 all] 3)).alloc (Obj.cells #[Value.int IntKind.i64 0] 3)).heap.size = w.heap.size + 3 := by simp
  refine ⟨rfl, (((Boxed.new w 3 _).alloc _).alloc _).alloc _, ?_, ?_, ?_, ?_⟩
  · have h := Boxed.new (w.alloc (Obj.cells #[Value.int IntKind.i64 number] 3)) 3 (.int .i64 all)
    rw [s1] at h
    exact (h.alloc _).alloc _
  · have h := Boxed.new ((w.alloc (Obj.cells #[Value.int IntKind.i64 number] 3)).alloc (Obj.cells #[Value.int IntKind.i64 all] 3)) 3 (.int .i64 0)
    rw [s2] at h
    exact h.alloc _
  · have h := Boxed.new (((w.alloc (Obj.cells #[Value.int IntKind.i64 number] 3)).alloc (Obj.cells #[Value.int IntKind.i64 all] 3)).alloc (Obj.cells #[Value.int IntKind.i64 0] 3)) 3 (.int .i64 0)
    rw [s3] at h
    exact h
  · exact ((((Below.refl _ w).alloc (Nat.le_refl _) _).alloc (by simp) _).alloc (by simp; omega) _).alloc (by simp; omega) _
set_option maxRecDepth 100000 in
set_option maxHeartbeats 4000000 in
theorem deal_calls (grow number all g v : Int) (B1 B2 B3 B4 : Nat) (w0 w : World) (n0 : Nat) (hB : Below n0 w0 w) (h1 : Boxed w B1 3 (.int .i64 g)) (h2 : Boxed w B2 3 (.int .i64 number)) (h3 : Boxed w B3 3 (.int .i64 all)) (h4 : Boxed w B4 3 (.int .i64 v))
    (n1 : n0 ≤ B1) (n4 : n0 ≤ B4) (d12 : B1 ≠ B2) (d13 : B1 ≠ B3) (d14 : B1 ≠ B4) (d24 : B2 ≠ B4) (d34 : B3 ≠ B4) (ha : all ≠ 0)
    (e1 : wrap64 (g + grow) = g + grow) (e2 : wrap64 (number * (g + grow)) = number * (g + grow)) (e3 : wrap64 (Int.tdiv (number * (g + grow)) all) = Int.tdiv (number * (g + grow)) all) (e4 : wrap64 (Int.tdiv (number * (g + grow)) all - v) = Int.tdiv (number * (g + grow)) all - v) (e5 : wrap64 (v + (Int.tdiv (number * (g + grow)) all - v)) = Int.tdiv (number * (g + grow)) all) :
    Calls Try.prog 49 #[.int .i64 grow, .pointer (some ⟨B1, 0, none⟩), .pointer (some ⟨B2, 0, none⟩), .pointer (some ⟨B3, 0, none⟩), .pointer (some ⟨B4, 0, none⟩)] w fun e w' => e = .returned (.int .i64 (Int.tdiv (number * (g + grow)) all - v)) ∧
      Boxed w' B1 3 (.int .i64 (g + grow)) ∧ Boxed w' B2 3 (.int .i64 number) ∧ Boxed w' B3 3 (.int .i64 all) ∧ Boxed w' B4 3 (.int .i64 (Int.tdiv (number * (g + grow)) all)) ∧ Below n0 w0 w' ∧ w'.heap.size = w.heap.size ∧ ∀ k, k ≠ B1 → k ≠ B4 → w'.heap[k]? = w.heap[k]? := by
  have c1 := h1.cell
  have c2 := h2.cell
  have c3 := h3.cell
  have c4 := h4.cell
  have f1 := h1.frozen
  have f4 := h4.frozen
  go_enter Try.func49, Try.ntmps49
  go_upto_region 2 with (fail)
  generalize hW : w.setCell ⟨B1, 0, none⟩ (.int .i64 (g + grow)) = W
  have p1 : Boxed W B1 3 (.int .i64 (g + grow)) := by rw [← hW]; exact h1.set _
  have p2 : Boxed W B2 3 (.int .i64 number) := by rw [← hW]; exact blk_far (p := ⟨B1, 0, none⟩) h2 (Ne.symm d12) _
  have p3 : Boxed W B3 3 (.int .i64 all) := by rw [← hW]; exact blk_far (p := ⟨B1, 0, none⟩) h3 (Ne.symm d13) _
  have p4 : Boxed W B4 3 (.int .i64 v) := by rw [← hW]; exact blk_far (p := ⟨B1, 0, none⟩) h4 (Ne.symm d14) _
  have ho : W.heap.size = w.heap.size ∧ ∀ k, k ≠ B1 → W.heap[k]? = w.heap[k]? := by
    rw [← hW]
    exact ⟨by simp [World.setCell], fun k hk => Below.heap_setCell w ⟨B1, 0, none⟩ _ k (by simpa using hk)⟩
  have hBW : Below n0 w0 W := by rw [← hW]; exact hB.setCell n1 _
  have q1 := p1.cell
  have q2 := p2.cell
  have q3 := p3.cell
  have q4 := p4.cell
  have k4 := p4.frozen
  clear c1 c2 c3 c4 f1 f4 h1 h2 h3 h4 hB
  apply wp_cut
  case h =>
    go_region_held3 (fun w' => w'.cell? ⟨B1, 0, none⟩ = some (.int .i64 (g + grow)) ∧ w'.cell? ⟨B2, 0, none⟩ = some (.int .i64 number) ∧ w'.cell? ⟨B3, 0, none⟩ = some (.int .i64 all) ∧ w'.cell? ⟨B4, 0, none⟩ = some (.int .i64 v)) (go_keep) (first | fail)
    all_goals exact ⟨rfl, rfl, rfl⟩
  case hq =>
    simp only [i64_w, e1, e2, e3, e4]
    generalize hD : W.drew = WD
    have r1 : Boxed WD B1 3 (.int .i64 (g + grow)) := by rw [← hD]; exact p1
    have r2 : Boxed WD B2 3 (.int .i64 number) := by rw [← hD]; exact p2
    have r3 : Boxed WD B3 3 (.int .i64 all) := by rw [← hD]; exact p3
    have r4 : Boxed WD B4 3 (.int .i64 v) := by rw [← hD]; exact p4
    have hBD : Below n0 w0 WD := by rw [← hD]; exact below_drew hBW
    have hoD : WD.heap.size = w.heap.size ∧ ∀ k, k ≠ B1 → WD.heap[k]? = w.heap[k]? := by rw [← hD]; exact ho
    have q4 := r4.cell
    have k4 := r4.frozen
    clear hD hBW ho q1 q2 q3 q4 k4
    have q4 := r4.cell
    have k4 := r4.frozen
    go_wp2
    go_ret
    trace_state
    refine ⟨rfl, blk_far (p := ⟨B4, 0, none⟩) r1 d14 _, blk_far (p := ⟨B4, 0, none⟩) r2 d24 _, blk_far (p := ⟨B4, 0, none⟩) r3 d34 _, r4.set _, hBD.setCell n4 _, ?_, ?_⟩
    · simp [World.setCell, hoD.1]
    · intro k hk1 hk4
      exact (Below.heap_setCell WD ⟨B4, 0, none⟩ _ k (by simpa using hk4)).trans (hoD.2 k hk1)
end Go.Proofs.Ytciheadencbmjaa.P
