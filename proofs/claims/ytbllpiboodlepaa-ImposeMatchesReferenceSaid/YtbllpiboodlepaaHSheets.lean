import Derived.Test.YtbllpiboodlepaaPx0
import Derived.Test.YtbllpiboodlepaaHRange
import Derived.Maps.AppendAt
import Derived.StillTailTactics
import Derived.Laws.EntriesVeiled
import Derived.IntWalk
import Derived.Deep.RegionHeld3
set_option linter.unusedVariables false
set_option linter.unusedSimpArgs false
namespace Go.Proofs.Ytbllpiboodlepaa.P
open Go.RowKit Go.Proofs.YtbllpiboodlepaaW.PrintWords Go.Proofs.YtbllpiboodlepaaW.PrintLast Go.Proofs.YtbllpiboodlepaaW.PrintMore Go.Proofs.Ytbllpiboodlepaa.Rng
attribute [local go_sem] Oper.semAt_some

def clip (n p : Int) : Int := if n < p then 0 else p
theorem clip_calls (n p : Int) (Bn : Nat) (w : World) (h : w.cell? ⟨Bn, 0, none⟩ = some (.int .i64 n)) :
    Calls Try.prog 24 #[.int .i64 p, .pointer (some ⟨Bn, 0, none⟩)] w fun e w' => e = .returned (.int .i64 (clip n p)) ∧ w = w' := by
  unfold clip
  by_cases hc : n < p
  · rw [if_pos hc]
    go_enter Try.func24, Try.ntmps24
    go_wp2
    go_ret
    exact ⟨rfl, rfl⟩
  · rw [if_neg hc]
    go_enter Try.func24, Try.ntmps24
    go_wp2
    go_ret
    exact ⟨rfl, rfl⟩
theorem clip_still (n p : Int) (Bn : Nat) (w : World) (h : w.cell? ⟨Bn, 0, none⟩ = some (.int .i64 n)) :
    Calls Try.prog 24 #[.int .i64 p, .pointer (some ⟨Bn, 0, none⟩)] w fun e w' => e = .returned (.int .i64 (clip n p)) ∧ w' = w := (clip_calls n p Bn w h).mono fun _ _ ⟨h1, h2⟩ => ⟨h1, h2.symm⟩
/-- A piece that comes to one end, whatever order was drawn. -/
theorem wp_cut {P : Program} {c : Code} {Q : Exit → Act → World → Prop} {a : Act} {w : World} (A : Act) (W : World) (h : c.wp P (fun e a' w' => e = .normal ∧ a' = A ∧ w' = W) a w) (hq : Q .normal A W) : c.wp P Q a w :=
  Code.wp_mono (by rintro e a' w' ⟨rfl, rfl, rfl⟩; exact hq) h
theorem sheets_calls (n : Int) (w : World) :
    Calls Try.prog 21 #[.int .i64 n] w fun e w' => e = .returned (.func (.func 25) #[] #[.pointer (some ⟨w.heap.size, 0, none⟩), .pointer (some ⟨w.heap.size + 1, 0, none⟩)]) ∧
      w' = (w.alloc (.cells #[.int .i64 n] 3)).alloc (.cells #[.func (.func 24) #[] #[.pointer (some ⟨w.heap.size, 0, none⟩)]] 52) := by
  have hmf : ∀ (fn : Fn) (first cap : Array Value) (w : World), (Instr.makeFunc fn first cap).run Try.prog w = .ok (.func fn first cap) w := fun _ _ _ _ => rfl
  go_enter Try.func21, Try.ntmps21
  go_wp2
  go_ret
  exact ⟨rfl, rfl⟩
/-- The two faces of sheet j (from 0) of a booklet of K sheets with n pages. -/
def front (n K : Int) (j : Nat) : S29 := ⟨(j : Int) + 1, false, clip n (K * 4 - 2 * (j : Int)), 2 * (j : Int) + 1⟩
def backf (n K : Int) (j : Nat) : S29 := ⟨(j : Int) + 1, true, clip n (2 * (j : Int) + 2), clip n (K * 4 - 2 * (j : Int) - 1)⟩
def pairs (n K : Int) (m : Nat) : List (S29 × S29) := (List.range m).map fun j => (front n K j, backf n K j)
def enc29 (x : S29) : Value := .agg #[.int .i64 x.f0, .bool x.f1, .int .i64 x.f2, .int .i64 x.f3]

theorem pairs_succ (n K : Int) (j : Nat) : pairs n K (j + 1) = pairs n K j ++ [(front n K j, backf n K j)] := by simp [pairs, List.range_succ]
theorem pairs_prefix (n K : Int) (j : Nat) : ∀ m : Nat, j < m → pairs n K j ++ [(front n K j, backf n K j)] <+: pairs n K m := by
  intro m hm
  rw [← pairs_succ]
  induction m with
  | zero => omega
  | succ m ih =>
    by_cases e : j = m
    · subst e; exact List.prefix_refl _
    · rw [pairs_succ n K m]
      exact (ih (by omega)).trans (List.prefix_append _ _)
set_option maxRecDepth 100000 in
set_option maxHeartbeats 4000000 in
theorem sheets_iter (n : Int) (K : Nat) (hn0 : 0 ≤ n) (hn1 : n ≤ 500) (hK : (K : Int) = (n + 3) / 4) (Bn Bc : Nat) (M : Nat → Prop) (w : World) (hM1 : M Bn) (hM2 : M Bc)
    (hB1 : Boxed w Bn 3 (.int .i64 n)) (hB2 : Boxed w Bc 52 (.func (.func 24) #[] #[.pointer (some ⟨Bn, 0, none⟩)])) :
    Iter Try.prog 25 #[.pointer (some ⟨Bn, 0, none⟩), .pointer (some ⟨Bc, 0, none⟩)] (fun x : S29 × S29 => #[enc29 x.1, enc29 x.2]) (fun pre x W => pre ++ [x] <+: pairs n K K) M
      (fun xs => xs = pairs n K K) (fun _ => True) w := by
  intro l J Jx W hW hJ hJx hY h0
  have hb1 : Boxed W Bn 3 (.int .i64 n) := (hW.block _ hB1.lt).trans hB1
  have hb2 : Boxed W Bc 52 (.func (.func 24) #[] #[.pointer (some ⟨Bn, 0, none⟩)]) := (hW.block _ hB2.lt).trans hB2
  have hc1 := hb1.cell
  have hc2 := hb2.cell
  refine (callsIn_wide (n := 1)).1 ?_
  refine callsIn_of_wp Try.func25 rfl trivial ?_ rfl
  simp only [Try.ntmps25, List.size_toArray, List.length_cons, List.length_nil, Nat.reduceAdd, Nat.reduceSub, Array.replicate_succ, Array.replicate_zero, List.push_toArray, List.append_toArray, List.nil_append, List.cons_append]
  gi_wp2
  refine wpIn_wide.2 ?_
  go_quiet (fail)
  gi_wp2
  obtain ⟨WQ, hWQ⟩ : ∃ WQ, W.drewN nq = WQ := ⟨_, rfl⟩
  have HJ0 := Aside0.mk (show J [] WQ by rw [← hWQ]; exact hJ _ _ _ h0 (pw_below_drewN (Below.refl _ _) _))
  have HB1 := Aside0.mk (show Boxed WQ Bn 3 (.int .i64 n) by rw [← hWQ]; exact hb1)
  have HB2 := Aside0.mk (show Boxed WQ Bc 52 (.func (.func 24) #[] #[.pointer (some ⟨Bn, 0, none⟩)]) by rw [← hWQ]; exact hb2)
  rw [hWQ]
  clear hWQ h0 hb1 hb2 hc1 hc2
  rw [← hK]
  have HK := Aside0.mk hK
  clear hK
  gi_loopw [4, 5, 6] (fun v4 v5 v6 wr => ∃ j : Nat, v4 = .int .i64 (2 * (j : Int) + 1) ∧ v5 = .int .i64 ((K : Int) * 4 - 2 * j) ∧ v6 = .int .i64 ((j : Int) + 1) ∧ Aside0 (j ≤ K) ∧ Aside0 (J (pairs n K j) wr) ∧ Aside0 (Boxed wr Bn 3 (.int .i64 n)) ∧ Aside0 (Boxed wr Bc 52 (.func (.func 24) #[] #[.pointer (some ⟨Bn, 0, none⟩)])))
    (fun v4 _ _ _ => 2 * K - (intOf v4).toNat)
  case atStart => exact ⟨0, by simp, by simp, by simp, ⟨Nat.zero_le _⟩, HJ0, HB1, HB2⟩
  case round =>
    clear HJ0 HB1 HB2
    obtain ⟨j, rfl, rfl, rfl, HI, HJ, HB1, HB2⟩ := hrel
    have hc1 := HB1.out.cell
    have hc2 := HB2.out.cell
    have HIO := HI.out
    have HK2 : K ≤ 126 := by have := HK.out; omega
    by_cases hlt : j < K
    · have hd : decide (2 * (j : Int) + 1 < (K : Int) * 4 - 2 * j) = true := by rw [decide_eq_true_eq]; omega
      gi_wp2_with (refine ⟨trivial, ?_⟩; gi_at_call 24; refine (callsIn_wide.2 (clip_calls n _ Bn _ hc1)).mono ?_; rintro e w' ⟨rfl, rfl⟩)
      have s1 : IntKind.i64.wrap (2 * (j : Int) + 1 + 1) = 2 * (j : Int) + 2 := by rw [IntWalk.i64_in _ (by omega)]; omega
      have s2 : IntKind.i64.wrap ((K : Int) * 4 - 2 * j - 1) = (K : Int) * 4 - 2 * j - 1 := IntWalk.i64_in _ (by omega)
      refine wpIn_wide.2 ?_
      apply wp_cut
      case h =>
       have hn1 : (wr.alloc (Obj.cells #[Value.int IntKind.i64 (↑j + 1), Value.bool false, Value.int IntKind.i64 (clip n (↑K * 4 - 2 * ↑j)), Value.int IntKind.i64 (2 * ↑j + 1)] 29)).cell? ⟨Bn, 0, none⟩ = some (.int .i64 n) := (HB1.out.alloc _).cell
       have hn2 : (wr.alloc (Obj.cells #[Value.int IntKind.i64 (↑j + 1), Value.bool false, Value.int IntKind.i64 (clip n (↑K * 4 - 2 * ↑j)), Value.int IntKind.i64 (2 * ↑j + 1)] 29)).cell? ⟨Bc, 0, none⟩ = some (.func (.func 24) #[] #[.pointer (some ⟨Bn, 0, none⟩)]) := (HB2.out.alloc _).cell
       have hz1 := HB1.out.lt
       have hz2 := HB2.out.lt
       go_region_held3 (fun w' => w'.cell? ⟨Bn, 0, none⟩ = some (.int .i64 n) ∧ w'.cell? ⟨Bc, 0, none⟩ = some (.func (.func 24) #[] #[.pointer (some ⟨Bn, 0, none⟩)])) (go_keep)
         (first | (go_at_call 24; refine (clip_calls n _ Bn _ ?_).mono ?_; (simp [*]); rintro e w' ⟨rfl, rfl⟩))
       all_goals exact ⟨rfl, rfl, rfl⟩
      case hq =>
        obtain ⟨W1, hW1⟩ : ∃ W1, (((wr.alloc (Obj.cells #[Value.int IntKind.i64 (↑j + 1), Value.bool false, Value.int IntKind.i64 (clip n (↑K * 4 - 2 * ↑j)), Value.int IntKind.i64 (2 * ↑j + 1)] 29)).alloc (Obj.cells #[Value.int IntKind.i64 (↑j + 1), Value.bool true, Value.int IntKind.i64 (clip n (2 * ↑j + 2)), Value.int IntKind.i64 (clip n (↑K * 4 - 2 * ↑j - 1))] 29)).drew) = W1 := ⟨_, rfl⟩
        have hbe : Below wr.heap.size wr W1 := by rw [← hW1]; exact below_drew (((Below.refl _ wr).alloc (Nat.le_refl _) _).alloc (by simp) _)
        have hp : pairs n K j ++ [(front n K j, backf n K j)] <+: pairs n K K := pairs_prefix n K j K hlt
        have hf : W1.heap[wr.heap.size]? = some (Obj.cells #[Value.int IntKind.i64 (↑j + 1), Value.bool false, Value.int IntKind.i64 (clip n (↑K * 4 - 2 * ↑j)), Value.int IntKind.i64 (2 * ↑j + 1)] 29) := by
          rw [← hW1]; exact (Below.heap_alloc _ _ _ (by simp)).trans (heap_alloc_new wr _)
        have hg : W1.heap[wr.heap.size + 1]? = some (Obj.cells #[Value.int IntKind.i64 (↑j + 1), Value.bool true, Value.int IntKind.i64 (clip n (2 * ↑j + 2)), Value.int IntKind.i64 (clip n (↑K * 4 - 2 * ↑j - 1))] 29) := by
          rw [← hW1]; have := heap_alloc_new (wr.alloc (Obj.cells #[Value.int IntKind.i64 (↑j + 1), Value.bool false, Value.int IntKind.i64 (clip n (↑K * 4 - 2 * ↑j)), Value.int IntKind.i64 (2 * ↑j + 1)] 29)) (Obj.cells #[Value.int IntKind.i64 (↑j + 1), Value.bool true, Value.int IntKind.i64 (clip n (2 * ↑j + 2)), Value.int IntKind.i64 (clip n (↑K * 4 - 2 * ↑j - 1))] 29); rwa [World.size_alloc] at this
        rw [hW1]
        have f0 := (blk_cell hf 0).trans rfl
        have f1 := (blk_cell hf 1).trans rfl
        have f2 := (blk_cell hf 2).trans rfl
        have f3 := (blk_cell hf 3).trans rfl
        have g0 := (blk_cell hg 0).trans rfl
        have g1 := (blk_cell hg 1).trans rfl
        have g2 := (blk_cell hg 2).trans rfl
        have g3 := (blk_cell hg 3).trans rfl
        obtain ⟨fn, tmps, assign, body, hy, hR⟩ := hY (pairs n K j) (front n K j, backf n K j) wr W1 HJ.out hbe hp
        simp only [enc29, front, backf] at hy
        have HBE := Aside0.mk hbe
        clear hf hg hbe hp hW1 hc1 hc2
        gi_wp2
        refine hR.mono ?_
        rintro e W3 (⟨rfl, hJ3, hk3⟩ | ⟨rfl, hJx3⟩)
        · have kept : ∀ k, M k → k < wr.heap.size → W3.heap[k]? = wr.heap[k]? := fun k hk hlt' => (hk3.same k (Nat.lt_of_lt_of_le hlt' HBE.out.size) (.inl hk)).trans (HBE.out.block k hlt')
          have kb1 : Aside0 (Boxed W3 Bn 3 (.int .i64 n)) := ⟨(kept _ hM1 HB1.out.lt).trans HB1.out⟩
          have kb2 : Aside0 (Boxed W3 Bc 52 (.func (.func 24) #[] #[.pointer (some ⟨Bn, 0, none⟩)])) := ⟨(kept _ hM2 HB2.out.lt).trans HB2.out⟩
          clear kept hk3
          gi_wp2
          go_roundw
          case rel => exact ⟨j + 1, by go_num, by go_num, by go_num, ⟨by omega⟩, ⟨by rw [pairs_succ]; exact hJ3⟩, kb1, kb2⟩
          case measure => simp [intOf]; omega
        · gi_wp2
          refine bodyPost_ret (results_none rfl _ _ _) rfl ?_
          exact ⟨⟨_, rfl⟩, .inr ⟨_, trivial, hJx3⟩⟩
    · obtain rfl : j = K := by omega
      have hd : decide (2 * (j : Int) + 1 < (j : Int) * 4 - 2 * j) = false := by rw [decide_eq_false_iff_not]; omega
      gi_wp2
      go_end0
      exact ⟨⟨_, rfl⟩, .inl ⟨_, rfl, HJ.out⟩⟩
end Go.Proofs.Ytbllpiboodlepaa.P
