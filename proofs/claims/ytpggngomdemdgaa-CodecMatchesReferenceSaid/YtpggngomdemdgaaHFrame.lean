import Derived.Test.YtpggngomdemdgaaPx1
import Derived.Test.YtpggngomdemdgaaHPure
import Derived.IntWalk
import Derived.Laws.Tables
import Derived.Laws.Rows
import Derived.Deep.WholeRow
set_option linter.unusedVariables false
set_option linter.unusedSimpArgs false
namespace Go.Proofs.Ytpggngomdemdgaa.P
open Go.RowKit Go.Proofs.YtpggngomdemdgaaW.PrintWords Go.Proofs.YtpggngomdemdgaaW.PrintLast Go.Proofs.YtpggngomdemdgaaW.PrintMore Go.Codec
attribute [local go_sem] Oper.semAt_some
/-- The eight bytes of a sum, the greatest first; the bytes from i on are not yet written. -/
def arrTo (r : Int) (i : Nat) : Array Value := #[.int .u8 (if 0 < i then r / 72057594037927936 % 256 else 0), .int .u8 (if 1 < i then r / 281474976710656 % 256 else 0), .int .u8 (if 2 < i then r / 1099511627776 % 256 else 0), .int .u8 (if 3 < i then r / 4294967296 % 256 else 0), .int .u8 (if 4 < i then r / 16777216 % 256 else 0), .int .u8 (if 5 < i then r / 65536 % 256 else 0), .int .u8 (if 6 < i then r / 256 % 256 else 0), .int .u8 (if 7 < i then r % 256 else 0)]
def arr8 (r : Int) : Array Value := #[.int .u8 (r / 72057594037927936 % 256), .int .u8 (r / 281474976710656 % 256), .int .u8 (r / 1099511627776 % 256), .int .u8 (r / 4294967296 % 256), .int .u8 (r / 16777216 % 256), .int .u8 (r / 65536 % 256), .int .u8 (r / 256 % 256), .int .u8 (r % 256)]
theorem size53 : (Try.prog.info? 53).map (·.size) = some 8 := by kernel_rfl
set_option maxRecDepth 100000 in
set_option maxHeartbeats 1000000 in
theorem sum30_calls (k : Nat) (A0 : Option Addr) (c0 : Nat) (l0 : List Int) (r : Int) (w : World) (hr0 : Kd.C (Kd.int .u8) w A0 l0.length l0) (hc0 : l0.length ≤ c0) (h : digest_Sum.f k l0 = some r) :
    Calls Try.prog 30 #[.slice A0 l0.length c0] w fun e w' => e = .returned (.agg (arr8 r)) ∧ Below w.heap.size w w' := by
  have HC := Aside0.mk hr0
  have HCAP := Aside0.mk hc0
  have HF := Aside0.mk h
  clear hr0 hc0 h
  go_enter Try.func30, Try.ntmps30
  go_upto_region 3 with (first | (go_at_call 39; (with_reducible refine (digest_Sum.calls k A0 c0 l0 r _ (Kd.C_alloc HC.out _) HCAP.out HF.out).mono ?_); rintro e w' ⟨rfl, ⟨nd, rfl⟩⟩))
  obtain ⟨W, hW⟩ : ∃ W, (((w.alloc (.cells (arrTo r 0) 53)).drewN nd).alloc (.cells (arrTo r 0) 53)) = W := ⟨_, rfl⟩
  rw [show (((w.alloc (Obj.cells #[Value.int IntKind.u8 0, Value.int IntKind.u8 0, Value.int IntKind.u8 0, Value.int IntKind.u8 0, Value.int IntKind.u8 0, Value.int IntKind.u8 0, Value.int IntKind.u8 0, Value.int IntKind.u8 0] 53)).drewN nd).alloc (Obj.cells #[Value.int IntKind.u8 0, Value.int IntKind.u8 0, Value.int IntKind.u8 0, Value.int IntKind.u8 0, Value.int IntKind.u8 0, Value.int IntKind.u8 0, Value.int IntKind.u8 0, Value.int IntKind.u8 0] 53)) = W from hW]
  have hsz : ((w.alloc (.cells (arrTo r 0) 53)).drewN nd).heap.size = w.heap.size + 1 := by show (w.alloc (.cells (arrTo r 0) 53)).heap.size = _; simp
  have H2 : Aside0 (W.heap[w.heap.size]? = some (.cells (arrTo r 0) 53 (0, 0))) := ⟨by
    rw [← hW]; exact blk_alloc (blk_drewN (blk_new w _) nd) _⟩
  have H4 : Aside0 (W.heap[w.heap.size + 1]? = some (.cells (arrTo r 0) 53 (0, 0))) := ⟨by
    rw [← hW, ← hsz]; exact blk_new _ _⟩
  have HB : Aside0 (Below w.heap.size w W) := ⟨by rw [← hW]; exact below_alloc (pw_below_drewN (below_alloc (Below.refl _ _) _) nd) _⟩
  clear hW hsz HC HCAP HF
  go_wp2
  obtain ⟨B4, hB4⟩ : ∃ B, w.heap.size + 1 = B := ⟨_, rfl⟩
  rw [hB4] at H4 ⊢
  have HNE : Aside0 (B4 ≠ w.heap.size) := ⟨by omega⟩
  have HLB : Aside0 (w.heap.size ≤ B4) := ⟨by omega⟩
  clear hB4
  go_loopg [8] 8 (fun kq v8 w' => ∃ (i : Nat), v8 = .int .i64 (i : Int) ∧ Aside0 (kq + i = 8) ∧ Aside0 (w'.heap[w.heap.size]? = some (.cells (arrTo r 0) 53 (0, 0))) ∧ Aside0 (w'.heap[B4]? = some (.cells (arrTo r i) 53 (0, 0))) ∧ Aside0 (Below w.heap.size w w'))
  case atStart => exact ⟨0, rfl, ⟨rfl⟩, H2, H4, HB⟩
  case round =>
    clear H2 H4 HB
    obtain ⟨i, rfl, HK, H2, H4, HB⟩ := hrel
    cases gk with
    | zero =>
      obtain rfl : i = 8 := by have := HK.out; omega
      have c0 : wr.cell? ⟨B4, 0, none⟩ = some (.int .u8 (r / 72057594037927936 % 256)) := (blk_cell H4.out 0).trans rfl
      have z0 : wr.cell? ⟨w.heap.size, 0, none⟩ = some (.int .u8 0) := (blk_cell H2.out 0).trans rfl
      have f0 := blk_frozen H2.out 0
      have c1 : wr.cell? ⟨B4, 1, none⟩ = some (.int .u8 (r / 281474976710656 % 256)) := (blk_cell H4.out 1).trans rfl
      have z1 : wr.cell? ⟨w.heap.size, 1, none⟩ = some (.int .u8 0) := (blk_cell H2.out 1).trans rfl
      have f1 := blk_frozen H2.out 1
      have c2 : wr.cell? ⟨B4, 2, none⟩ = some (.int .u8 (r / 1099511627776 % 256)) := (blk_cell H4.out 2).trans rfl
      have z2 : wr.cell? ⟨w.heap.size, 2, none⟩ = some (.int .u8 0) := (blk_cell H2.out 2).trans rfl
      have f2 := blk_frozen H2.out 2
      have c3 : wr.cell? ⟨B4, 3, none⟩ = some (.int .u8 (r / 4294967296 % 256)) := (blk_cell H4.out 3).trans rfl
      have z3 : wr.cell? ⟨w.heap.size, 3, none⟩ = some (.int .u8 0) := (blk_cell H2.out 3).trans rfl
      have f3 := blk_frozen H2.out 3
      have c4 : wr.cell? ⟨B4, 4, none⟩ = some (.int .u8 (r / 16777216 % 256)) := (blk_cell H4.out 4).trans rfl
      have z4 : wr.cell? ⟨w.heap.size, 4, none⟩ = some (.int .u8 0) := (blk_cell H2.out 4).trans rfl
      have f4 := blk_frozen H2.out 4
      have c5 : wr.cell? ⟨B4, 5, none⟩ = some (.int .u8 (r / 65536 % 256)) := (blk_cell H4.out 5).trans rfl
      have z5 : wr.cell? ⟨w.heap.size, 5, none⟩ = some (.int .u8 0) := (blk_cell H2.out 5).trans rfl
      have f5 := blk_frozen H2.out 5
      have c6 : wr.cell? ⟨B4, 6, none⟩ = some (.int .u8 (r / 256 % 256)) := (blk_cell H4.out 6).trans rfl
      have z6 : wr.cell? ⟨w.heap.size, 6, none⟩ = some (.int .u8 0) := (blk_cell H2.out 6).trans rfl
      have f6 := blk_frozen H2.out 6
      have c7 : wr.cell? ⟨B4, 7, none⟩ = some (.int .u8 (r % 256)) := (blk_cell H4.out 7).trans rfl
      have z7 : wr.cell? ⟨w.heap.size, 7, none⟩ = some (.int .u8 0) := (blk_cell H2.out 7).trans rfl
      have f7 := blk_frozen H2.out 7
      have hne := HNE.out
      go_wp2
      refine ⟨rfl, .agg (arr8 r), ?_, rfl, (below_set (below_set (below_set (below_set (below_set (below_set (below_set (below_set HB.out (Nat.le_refl _)) (Nat.le_refl _)) (Nat.le_refl _)) (Nat.le_refl _)) (Nat.le_refl _)) (Nat.le_refl _)) (Nat.le_refl _)) (Nat.le_refl _))⟩
      simp [results, Try.results30, go_sem, arr8, *]
    | succ k1 =>
      have hi : i = 0 ∨ i = 1 ∨ i = 2 ∨ i = 3 ∨ i = 4 ∨ i = 5 ∨ i = 6 ∨ i = 7 := by have := HK.out; omega
      have hk : k1 = 7 - i := by have := HK.out; omega
      subst hk
      rcases hi with rfl | rfl | rfl | rfl | rfl | rfl | rfl | rfl
      · have cc := (blk_cell H4.out 0).trans rfl
        have fc := blk_frozen H4.out 0
        have H4' := Aside0.mk (blk_set H4.out 0 (.int .u8 (r / 72057594037927936 % 256)))
        go_wp2
        go_roundg 7
        case measure => omega
        case rel =>
          exact ⟨1, rfl, ⟨rfl⟩, ⟨(Below.heap_setCell _ _ _ _ (Ne.symm HNE.out)).trans H2.out⟩, H4', ⟨below_set HB.out HLB.out⟩⟩
      · have cc := (blk_cell H4.out 1).trans rfl
        have fc := blk_frozen H4.out 1
        have H4' := Aside0.mk (blk_set H4.out 1 (.int .u8 (r / 281474976710656 % 256)))
        go_wp2
        go_roundg 6
        case measure => omega
        case rel =>
          exact ⟨2, rfl, ⟨rfl⟩, ⟨(Below.heap_setCell _ _ _ _ (Ne.symm HNE.out)).trans H2.out⟩, H4', ⟨below_set HB.out HLB.out⟩⟩
      · have cc := (blk_cell H4.out 2).trans rfl
        have fc := blk_frozen H4.out 2
        have H4' := Aside0.mk (blk_set H4.out 2 (.int .u8 (r / 1099511627776 % 256)))
        go_wp2
        go_roundg 5
        case measure => omega
        case rel =>
          exact ⟨3, rfl, ⟨rfl⟩, ⟨(Below.heap_setCell _ _ _ _ (Ne.symm HNE.out)).trans H2.out⟩, H4', ⟨below_set HB.out HLB.out⟩⟩
      · have cc := (blk_cell H4.out 3).trans rfl
        have fc := blk_frozen H4.out 3
        have H4' := Aside0.mk (blk_set H4.out 3 (.int .u8 (r / 4294967296 % 256)))
        go_wp2
        go_roundg 4
        case measure => omega
        case rel =>
          exact ⟨4, rfl, ⟨rfl⟩, ⟨(Below.heap_setCell _ _ _ _ (Ne.symm HNE.out)).trans H2.out⟩, H4', ⟨below_set HB.out HLB.out⟩⟩
      · have cc := (blk_cell H4.out 4).trans rfl
        have fc := blk_frozen H4.out 4
        have H4' := Aside0.mk (blk_set H4.out 4 (.int .u8 (r / 16777216 % 256)))
        go_wp2
        go_roundg 3
        case measure => omega
        case rel =>
          exact ⟨5, rfl, ⟨rfl⟩, ⟨(Below.heap_setCell _ _ _ _ (Ne.symm HNE.out)).trans H2.out⟩, H4', ⟨below_set HB.out HLB.out⟩⟩
      · have cc := (blk_cell H4.out 5).trans rfl
        have fc := blk_frozen H4.out 5
        have H4' := Aside0.mk (blk_set H4.out 5 (.int .u8 (r / 65536 % 256)))
        go_wp2
        go_roundg 2
        case measure => omega
        case rel =>
          exact ⟨6, rfl, ⟨rfl⟩, ⟨(Below.heap_setCell _ _ _ _ (Ne.symm HNE.out)).trans H2.out⟩, H4', ⟨below_set HB.out HLB.out⟩⟩
      · have cc := (blk_cell H4.out 6).trans rfl
        have fc := blk_frozen H4.out 6
        have H4' := Aside0.mk (blk_set H4.out 6 (.int .u8 (r / 256 % 256)))
        go_wp2
        go_roundg 1
        case measure => omega
        case rel =>
          exact ⟨7, rfl, ⟨rfl⟩, ⟨(Below.heap_setCell _ _ _ _ (Ne.symm HNE.out)).trans H2.out⟩, H4', ⟨below_set HB.out HLB.out⟩⟩
      · have cc := (blk_cell H4.out 7).trans rfl
        have fc := blk_frozen H4.out 7
        have H4' := Aside0.mk (blk_set H4.out 7 (.int .u8 (r % 256)))
        go_wp2
        go_roundg 0
        case measure => omega
        case rel =>
          exact ⟨8, rfl, ⟨rfl⟩, ⟨(Below.heap_setCell _ _ _ _ (Ne.symm HNE.out)).trans H2.out⟩, H4', ⟨below_set HB.out HLB.out⟩⟩
theorem arr_C {w : World} {B : Nat} {r : Int} (h : w.heap[B]? = some (.cells (arr8 r) 53 (0, 0))) : Kd.C (Kd.int .u8) w (some ⟨B, 0, none⟩) 8 (be8 r) := by
  refine Kd.C_of_reads (d := 0) ⟨rfl, by decide, fun _ => ⟨_, rfl, fun j hj => ?_⟩⟩
  rw [add_plain, blk_cell h]
  rcases (by omega : j = 0 ∨ j = 1 ∨ j = 2 ∨ j = 3 ∨ j = 4 ∨ j = 5 ∨ j = 6 ∨ j = 7) with rfl | rfl | rfl | rfl | rfl | rfl | rfl | rfl <;> rfl
set_option maxRecDepth 100000 in
set_option maxHeartbeats 1000000 in
theorem codec_Frame.calls (A0 : Option Addr) (c0 : Nat) (l0 : List Int) (r1 : List Int) (r2 : Int) (w : World) (hr0 : Kd.C (Kd.int .i64) w A0 l0.length l0) (hc0 : l0.length ≤ c0) (h : codec_Frame.f l0 = some (r1, r2)) :
    Calls Try.prog 14 #[.slice A0 l0.length c0] w fun e w' => ∃ v0_ : Value, e = .returned (.tuple #[v0_, .int .i64 r2]) ∧ Kd.R (Kd.int .u8) 5 w' w.heap.size (fun _ => True) v0_ r1 ∧ Below w.heap.size w w' := by
  have HR0 := Aside0.mk hr0
  have HC0 := Aside0.mk hc0
  have HB := Aside0.mk (Below.refl w.heap.size w)
  unfold codec_Frame.f at h
  by_cases ha : (l0.all (fun x => decide (-9223372036854775808 ≤ x) && decide (x ≤ 9223372036854775807))) = true
  case neg => rw [if_neg ha] at h; cases h
  rw [if_pos ha] at h
  have hi : ∀ x ∈ l0, i64 x := fun x hx => by
    have := List.all_eq_true.1 ha x hx
    simpa [i64] using this
  have hput := Put_f hi (Nat.le_refl 5000)
  clear ha hr0 hc0
  by_cases hl : 4000 < l0.length
  · rw [if_pos hl] at h hput
    simp only [Option.some.injEq, Prod.mk.injEq] at h
    obtain ⟨rfl, rfl⟩ := h
    have HP := Aside0.mk hput
    clear hput hi hl
    go_enter Try.func14, Try.ntmps14
    go_wp2_with (first | ((with_reducible refine gate_callee (f := 11) rfl ?_); refine goesL_ (some 10) rfl rfl Try.func11 (by kernel_rfl) rfl #[.slice A0 l0.length c0] rfl (by (try simp only [List.map_toArray, List.map_cons, List.map_nil]); first | done | rfl | (simp only [List.length_drop, List.length_take]; rfl)) ?_; (with_reducible refine (codec_Put.calls 5000 _ _ l0 [] 2 _ ?side1 ?side2 HP.out).mono ?_); (case side1 => repeat (first | exact HR0.out | (with_reducible refine Kd.C_alloc ?_ _) | (with_reducible refine Kd.C_drewN ?_ _) | (with_reducible refine Kd.C_drew ?_))); (case side2 => exact HC0.out); rintro e w8 ⟨v228, rfl, ho0, hb⟩; refine ⟨_, rfl, ?_⟩; have HO := Aside0.mk (Kd.R_lower ho0 (below_size (by repeat (first | (with_reducible first | exact HB.out | apply below_alloc | apply pw_below_drewN | apply below_drew1) | exact HB.out)))); have n1_ := Aside0.mk (below_step (by repeat (first | (with_reducible first | exact HB.out | apply below_alloc | apply pw_below_drewN | apply below_drew1) | exact HB.out)) hb); clear HB; have HB := n1_; clear n1_ hb ho0; obtain ⟨Ap, cp, eo9⟩ := Kd.R_slice HO.out; subst eo9))
    go_ret2
    exact ⟨_, rfl, Kd.R_nil _ _ _ _ _, (by repeat (first | (with_reducible first | exact HB.out | apply below_alloc | apply pw_below_drewN | apply below_drew1) | exact HB.out))⟩
  · rw [if_neg hl] at h hput
    simp only [Option.some.injEq, Prod.mk.injEq] at h
    obtain ⟨rfl, rfl⟩ := h
    have HP := Aside0.mk hput
    have hle := enc_len l0
    unfold frame
    obtain ⟨p, hp⟩ : ∃ p, enc l0 = p := ⟨_, rfl⟩
    rw [hp] at HP hle ⊢
    have HLEN : Aside0 (p.length ≤ 40010) := ⟨by omega⟩
    have HS : Aside0 (digest_Sum.f 50000 (pack p) = some (fnv (pack p))) := ⟨Sum_f (by have := HLEN.out; simp [pack, head3]; omega) (by have := HLEN.out; simp [pack, head3]; omega)⟩
    clear hput hi hl hle hp
    go_enter Try.func14, Try.ntmps14
    go_wp2_with (first | ((with_reducible refine gate_callee (f := 11) rfl ?_); refine goesL_ (some 10) rfl rfl Try.func11 (by kernel_rfl) rfl #[.slice A0 l0.length c0] rfl (by (try simp only [List.map_toArray, List.map_cons, List.map_nil]); first | done | rfl | (simp only [List.length_drop, List.length_take]; rfl)) ?_; (with_reducible refine (codec_Put.calls 5000 _ _ l0 p 0 _ ?side1 ?side2 HP.out).mono ?_); (case side1 => repeat (first | exact HR0.out | (with_reducible refine Kd.C_alloc ?_ _) | (with_reducible refine Kd.C_drewN ?_ _) | (with_reducible refine Kd.C_drew ?_))); (case side2 => exact HC0.out); rintro e w8 ⟨v228, rfl, ho0, hb⟩; refine ⟨_, rfl, ?_⟩; have HO := Aside0.mk (Kd.R_lower ho0 (below_size (by repeat (first | (with_reducible first | exact HB.out | apply below_alloc | apply pw_below_drewN | apply below_drew1) | exact HB.out)))); have n1_ := Aside0.mk (below_step (by repeat (first | (with_reducible first | exact HB.out | apply below_alloc | apply pw_below_drewN | apply below_drew1) | exact HB.out)) hb); clear HB; have HB := n1_; clear n1_ hb ho0; obtain ⟨Ap, cp, eo9⟩ := Kd.R_slice HO.out; subst eo9) | ((with_reducible refine gate_dst (N := 26) rfl ?_); refine Kd.R_lit (Kd.int .u8) _ 5 ?hg (N := 26) ?hd (xs := (head3 (p.length : Int))) (inner := [.int .u8 ((p.length : Int) / 65536 % 256), .int .u8 ((p.length : Int) / 256 % 256), .int .u8 ((p.length : Int) % 256)]) (ok := fun _ => True) (okp := fun _ => True) ?hr ?hp (fun _ hk => hk) trivial (Below.refl _ _) (Nat.le_refl _) (by simp [head3]) ?_; (case hd => rfl); (case hg => rfl); (case hr => first | (go_simp; done) | (go_simp; rfl)); (case hp => exact (Reps.one (show Kd.M (Kd.int .u8) _ _ _ ((p.length : Int) / 65536 % 256) [.int .u8 ((p.length : Int) / 65536 % 256)] from rfl) (Reps.one (show Kd.M (Kd.int .u8) _ _ _ ((p.length : Int) / 256 % 256) [.int .u8 ((p.length : Int) / 256 % 256)] from rfl) (Reps.one (show Kd.M (Kd.int .u8) _ _ _ ((p.length : Int) % 256) [.int .u8 ((p.length : Int) % 256)] from rfl) (Reps.none _ _))))); intro v231 w10 ho11 hb hg_ hnew_; clear hg_ hnew_; have n0_ := Aside0.mk (Kd.R_below (by (with_reducible repeat (first | apply Kd.R_alloc | apply Kd.R_drewN | apply Kd.R_drew)); exact HO.out) hb); have n1_ := Aside0.mk (Kd.R_lower ho11 (below_size (by repeat (first | (with_reducible first | exact HB.out | apply below_alloc | apply pw_below_drewN | apply below_drew1) | exact HB.out)))); have n2_ := Aside0.mk (below_step (by repeat (first | (with_reducible first | exact HB.out | apply below_alloc | apply pw_below_drewN | apply below_drew1) | exact HB.out)) hb); clear HO HB; have HO := n0_; have HL := n1_; have HB := n2_; clear n0_ n1_ n2_ hb ho11) | ((with_reducible refine gate_builtin (b := .append) (xs := #[.tmp 26, .tmp 27]) rfl ?_); at_builtin; refine Kd.R_append_rows (Kd.int .u8) (w0 := w) w.heap.size rfl (.tmp 26) (.tmp 27) 23 5 (.int .u8 0) 1 rfl Try.underlying23 info5 rfl (by decide) (by omega) v231 (head3 (p.length : Int)) p _ _ _ (fun _ => True) (fun _ => False) rfl rfl ?aO ?aR (fun _ _ h => h) (fun _ h => h.elim) (fun _ _ => trivial) ?aB ?aS ?aL ?_; (case aR => repeat (first | exact (Kd.R_reads' HO.out).2.2 | (with_reducible refine Kd.C_alloc ?_ _) | (with_reducible refine Kd.C_drewN ?_ _) | (with_reducible refine Kd.C_drew ?_))); (case aB => exact (by repeat (first | (with_reducible first | exact HB.out | apply below_alloc | apply pw_below_drewN | apply below_drew1) | exact HB.out))); (case aO => exact (by (with_reducible repeat (first | apply Kd.R_alloc | apply Kd.R_drewN | apply Kd.R_drew)); exact HL.out)); (case aS => exact (below_size (by repeat (first | (with_reducible first | exact HB.out | apply below_alloc | apply pw_below_drewN | apply below_drew1) | exact HB.out)))); (case aL => have := HLEN.out; simp only [head3, pack, be8, List.length_append, List.length_cons, List.length_nil] at *; omega); intro v234 w12 ho hb hg hat; have n1_ := Aside0.mk hb; clear HB; have HB := n1_; have HQ := Aside0.mk (show Kd.R (Kd.int .u8) 5 w12 w.heap.size (fun _ => True) v234 (pack p) from ho); clear n1_ ho hb hg hat HO HL; obtain ⟨Aq, cq, eo13⟩ := Kd.R_slice HQ.out; subst eo13) | ((with_reducible refine gate_callee (f := 30) rfl ?_); refine goesL_ (some 30) rfl rfl Try.func30 (by kernel_rfl) rfl #[.slice Aq (pack p).length cq] rfl (by (try simp only [List.map_toArray, List.map_cons, List.map_nil]); first | done | rfl) ?_; (with_reducible refine (sum30_calls 50000 _ _ (pack p) (fnv (pack p)) _ ?side1 ?side2 HS.out).mono ?_); (case side1 => repeat (first | exact (Kd.R_reads' HQ.out).2.2 | (with_reducible refine Kd.C_alloc ?_ _) | (with_reducible refine Kd.C_drewN ?_ _) | (with_reducible refine Kd.C_drew ?_))); (case side2 => exact (Kd.R_reads' HQ.out).2.1); rintro e w13 ⟨rfl, hb⟩; refine ⟨_, rfl, ?_⟩; simp only [arr8]; have n0_ := Aside0.mk (Kd.R_below (by (with_reducible repeat (first | apply Kd.R_alloc | apply Kd.R_drewN | apply Kd.R_drew)); exact HQ.out) hb); have n1_ := Aside0.mk (below_step (by repeat (first | (with_reducible first | exact HB.out | apply below_alloc | apply pw_below_drewN | apply below_drew1) | exact HB.out)) hb); clear HQ HB; have HQ := n0_; have HB := n1_; clear n0_ n1_ hb) | ((with_reducible refine gate_builtin (b := .append) (xs := #[.tmp 31, .tmp 32]) rfl ?_); at_builtin; refine Kd.R_append_rows (Kd.int .u8) (w0 := w) w.heap.size rfl (.tmp 31) (.tmp 32) 23 5 (.int .u8 0) 1 rfl Try.underlying23 info5 rfl (by decide) (by omega) (.slice Aq (pack p).length cq) (pack p) (be8 (fnv (pack p))) _ _ _ (fun _ => True) (fun _ => False) rfl rfl ?aO ?aR (fun _ _ h => h) (fun _ h => h.elim) (fun _ _ => trivial) ?aB ?aS ?aL ?_; (case aR => exact arr_C (blk_new _ _)); (case aB => exact (by repeat (first | (with_reducible first | exact HB.out | apply below_alloc | apply pw_below_drewN | apply below_drew1) | exact HB.out))); (case aO => exact (by (with_reducible repeat (first | apply Kd.R_alloc | apply Kd.R_drewN | apply Kd.R_drew)); exact HQ.out)); (case aS => exact (below_size (by repeat (first | (with_reducible first | exact HB.out | apply below_alloc | apply pw_below_drewN | apply below_drew1) | exact HB.out)))); (case aL => have := HLEN.out; simp only [head3, pack, be8, List.length_append, List.length_cons, List.length_nil] at *; omega); intro v234 w15 ho hb hg hat; have n1_ := Aside0.mk hb; clear HB; have HB := n1_; have HZ := Aside0.mk ho; clear n1_ ho hb hg hat HQ))
    go_ret2
    exact ⟨_, rfl, HZ.out, HB.out⟩
end Go.Proofs.Ytpggngomdemdgaa.P
