import Derived.Test.YtpggngomdemdgaaPx1
import Derived.IntWalk
set_option linter.unusedVariables false
set_option linter.unusedSimpArgs false
namespace Go.Proofs.Ytpggngomdemdgaa.P
open Go.RowKit Go.Proofs.YtpggngomdemdgaaW.PrintWords Go.Proofs.YtpggngomdemdgaaW.PrintLast Go.Proofs.YtpggngomdemdgaaW.PrintMore
attribute [local go_sem] Oper.semAt_some
def codec_Text.f (s : ByteArray) : Option (List Int × Int) := if s.size > 2000 then some ([], 2) else some ((s.size : Int) :: bytesOf s, 0)
theorem cell_eq_of_blk {w w' : World} {a : Addr} (h : w'.heap[a.block]? = w.heap[a.block]?) : w'.cell? a = w.cell? a := by unfold World.cell?; rw [h]
set_option maxRecDepth 100000 in
set_option maxHeartbeats 1000000 in
theorem codec_Text.calls (a0 : ByteArray) (r1 : List Int) (r2 : Int) (w : World) (h : codec_Text.f a0 = some (r1, r2)) :
    Calls Try.prog 16 #[.string a0] w fun e w' => ∃ v0_ : Value, e = .returned (.tuple #[v0_, .int .i64 r2]) ∧ Kd.R (Kd.int .i64) 3 w' w.heap.size (fun _ => True) v0_ r1 ∧ Below w.heap.size w w' := by
  have HB := Aside0.mk (Below.refl w.heap.size w)
  unfold codec_Text.f at h
  by_cases c2 : a0.size > 2000
  · rw [if_pos c2] at h
    have c2b0 : decide (2000 < (a0.size : Int)) = true := decide_eq_true (by omega)
    have c2b1 : decide (2000 < a0.size) = true := decide_eq_true (by omega)
    clear c2
    simp only [Option.some.injEq, Prod.mk.injEq] at h
    obtain ⟨rfl, rfl⟩ := h
    go_enter Try.func16, Try.ntmps16
    go_wp2
    go_ret2
    exact ⟨_, rfl, Kd.R_nil _ _ _ _ _, HB.out⟩
  · rw [if_neg c2] at h
    have c2b0 : decide (2000 < (a0.size : Int)) = false := decide_eq_false (by omega)
    have c2b1 : decide (2000 < a0.size) = false := decide_eq_false (by omega)
    have HSZ : Aside0 (a0.size ≤ 2000) := ⟨by omega⟩
    clear c2
    simp only [Option.some.injEq, Prod.mk.injEq] at h
    obtain ⟨rfl, rfl⟩ := h
    go_enter Try.func16, Try.ntmps16
    go_upto_region 4 with (first | ((with_reducible refine gate_dst (N := 12) rfl ?_); refine Kd.R_lit (Kd.int .i64) _ 3 ?hg (N := 12) ?hd (xs := ([(a0.size : Int)] : List Int)) (inner := [.int .i64 (a0.size : Int)]) (ok := fun _ => True) (okp := fun _ => True) ?hr ?hp (fun _ hk => hk) trivial (Below.refl _ _) (Nat.le_refl _) (by simp) ?_; (case hd => rfl); (case hg => rfl); (case hr => first | (go_simp; done) | (go_simp; rfl)); (case hp => exact (Reps.one (show Kd.M (Kd.int .i64) _ _ _ (a0.size : Int) [.int .i64 (a0.size : Int)] from rfl) (Reps.none _ _))); intro v244 w3 ho4 hb hg_ hnew_; clear hg_ hnew_; have n0_ := Aside0.mk (Kd.R_lower ho4 (below_size (by repeat (first | (with_reducible first | exact HB.out | apply below_alloc | apply pw_below_drewN | apply below_drew1) | exact HB.out)))); have n1_ := Aside0.mk (below_step (by repeat (first | (with_reducible first | exact HB.out | apply below_alloc | apply pw_below_drewN | apply below_drew1) | exact HB.out)) hb); clear HB; have HO := n0_; have HB := n1_; clear n0_ n1_; clear hb ho4))
    have kb := print_bytes (P := Try.prog) 9 23 5 Try.underlying9 Try.underlying23 Try.underlying5 a0 w3
    have HRD := Aside0.mk (bytes_reads w3 5 a0 (by have := HSZ.out; omega))
    have HLE : Aside0 (w.heap.size ≤ w3.heap.size) := ⟨HB.out.size⟩
    have HO1 := Aside0.mk (Kd.R_below HO.out (bytes_below (Below.refl w3.heap.size w3) (Nat.le_refl _) 5 a0))
    have HB1 := Aside0.mk (bytes_below HB.out HLE.out 5 a0)
    have HNE : Aside0 (some w3.heap.size ≠ v244.ownBlock) := ⟨fun e => by have := Kd.R_lt HO.out _ e.symm; omega⟩
    have HLT : Aside0 (w3.heap.size < (Lib.bytesWorld w3 5 a0).heap.size) := ⟨by rw [Lib.bytesWorld_size]; omega⟩
    clear HO HB HLE c2b0 c2b1
    go_wp2
    clear kb
    generalize Lib.bytesWorld w3 5 a0 = wX at HRD HO1 HB1 HLT ⊢
    obtain ⟨B, hB⟩ : ∃ B, w3.heap.size = B := ⟨_, rfl⟩
    rw [hB] at HRD HNE HLT ⊢
    clear hB
    obtain ⟨ad0, had⟩ : ∃ ad0 : Addr, (⟨B, 0, none⟩ : Addr) = ad0 := ⟨_, rfl⟩
    have HAD : Aside0 (ad0.block = B) := ⟨by rw [← had]⟩
    rw [had] at HRD ⊢
    clear had
    go_loopg [4, 16] a0.size (fun kq v4 v16 w' => ∃ (i : Nat), v16 = .int .i64 (i : Int) ∧ Aside0 (kq + i = a0.size) ∧ Aside0 (w'.heap[B]? = wX.heap[B]? ∧ B < w'.heap.size ∧ some B ≠ v4.ownBlock) ∧ Aside0 (Kd.R (Kd.int .i64) 3 w' w.heap.size (fun _ => True) v4 ((a0.size : Int) :: (bytesOf a0).take i)) ∧ Aside0 (Below w.heap.size w w'))
    case atStart => exact ⟨0, rfl, ⟨rfl⟩, ⟨rfl, HLT.out, HNE.out⟩, HO1, HB1⟩
    case round =>
      clear HO1 HB1 HLT HNE
      obtain ⟨i, rfl, HK, HKB, HO, HB⟩ := hrel
      cases gk with
      | zero =>
        obtain rfl : i = a0.size := by have := HK.out; omega
        have d0 : decide ((a0.size : Int) < (a0.size : Int)) = false := by simp
        have HO2 : Aside0 (Kd.R (Kd.int .i64) 3 wr w.heap.size (fun _ => True) u4 ((a0.size : Int) :: bytesOf a0)) := ⟨by
          have := HO.out
          rwa [List.take_of_length_le (Nat.le_of_eq (bytesOf_length a0))] at this⟩
        go_wp2
        go_ret2
        exact ⟨_, rfl, HO2.out, HB.out⟩
      | succ k1 =>
        have hi : i < a0.size := by have := HK.out; omega
        have p1 : (0 ≤ (i : Int)) = True := eq_true (by omega)
        have q1 : ((i : Int) < (a0.size : Int)) = True := eq_true (by omega)
        have q2 : (i < a0.size) = True := eq_true hi
        have d0 : decide ((i : Int) < (a0.size : Int)) = true := decide_eq_true (by omega)
        have d1 : decide (i < a0.size) = true := decide_eq_true (by omega)
        have hsum : IntKind.i64.wrap ((i : Int) + 1) = ((i + 1 : Nat) : Int) := by have := HSZ.out; exact IntWalk.i64_in _ (by omega)
        have hsum2 : wrap64 ((i : Int) + 1) = ((i + 1 : Nat) : Int) := by have := HSZ.out; unfold wrap64; omega
        obtain ⟨ad, ead, hx⟩ := HRD.out.at_ (i : Int) (by omega) (by omega)
        cases ead
        rw [Int.toNat_natCast] at hx
        obtain ⟨x, hxx⟩ : ∃ x, rd (bytesOf a0) (i : Int) = x := ⟨_, rfl⟩
        rw [hxx] at hx
        have hx2 : wr.cell? (ad0.add i) = some (.int .u8 x) := (cell_eq_of_blk (by have e : (ad0.add i).block = B := (by unfold Addr.add; split <;> exact HAD.out); rw [e]; exact HKB.out.1)).trans hx
        have hil : i < (bytesOf a0).length := by rw [bytesOf_length]; exact hi
        have hxi : (bytesOf a0)[i]? = some x := by rw [← hxx]; simp [rd, List.getD_eq_getElem?_getD, List.getElem?_eq_getElem hil]
        have hxb : 0 ≤ x ∧ x < 256 := by
          obtain ⟨b, _, rfl⟩ := List.mem_map.1 (List.mem_of_getElem? hxi)
          have := b.toNat_lt
          omega
        have hxw : wrap64 x = x := by unfold wrap64; omega
        have hxw2 : IntKind.i64.wrap x = x := IntWalk.i64_in _ (by omega)
        have HTK : Aside0 (((a0.size : Int) :: (bytesOf a0).take i) ++ [x] = (a0.size : Int) :: (bytesOf a0).take (i + 1)) := ⟨by
          rw [List.take_add_one, hxi]; rfl⟩
        clear hxx hxi hxb hx hil hi
        go_wp2_with (first | ((with_reducible refine gate_builtin (b := .append) (xs := #[.tmp 20, .tmp 23]) rfl ?_); at_builtin; refine Kd.R_append (Kd.int .i64) (w0 := w) w.heap.size rfl (.tmp 20) (.tmp 23) 22 3 (.int .i64 0) 8 rfl Try.underlying22 info3 rfl (by decide) (by omega) u4 ((a0.size : Int) :: (bytesOf a0).take i) x [.int .i64 x] (fun _ => True) (fun _ => False) rfl rfl ?aP (fun _ hk => hk.elim) ?aF ?aO ?aB ?aS ?aL ?_; (case aP => exact rfl); (case aB => exact (by repeat (first | (with_reducible first | exact HB.out | apply below_alloc | apply pw_below_drewN | apply below_drew1) | exact HB.out))); (case aF => exact (fun _ _ => trivial)); (case aO => exact (by (with_reducible repeat (first | apply Kd.R_alloc | apply Kd.R_drewN | apply Kd.R_drew)); exact HO.out)); (case aS => exact (below_size (by repeat (first | (with_reducible first | exact HB.out | apply below_alloc | apply pw_below_drewN | apply below_drew1) | exact HB.out)))); (case aL => have := HSZ.out; have := HK.out; rw [List.length_cons, List.length_take, bytesOf_length]; omega); intro v247 w9 ho hb hg hat; rw [HTK.out] at ho; have HO2 := Aside0.mk ho; have HB2 := Aside0.mk hb; have HG := Aside0.mk (And.intro hg hat); clear ho hb hg hat))
        go_roundg k1
        case measure => omega
        case rel =>
          have h1 := HKB.out
          have hg := HG.out.1
          refine ⟨i + 1, by simp [hsum, hsum2], ⟨by have := HK.out; omega⟩, ⟨?_, ?_, ?_⟩, HO2, HB2⟩
          · exact (hg.block B h1.2.1 h1.2.2).trans h1.1
          · exact Nat.lt_of_lt_of_le h1.2.1 hg.size
          · intro e
            rcases HG.out.2 with h2 | ⟨b, h2, h3⟩
            · exact h1.2.2 (e.trans h2)
            · rw [h2] at e
              have := Option.some.inj e
              have := h1.2.1
              omega
end Go.Proofs.Ytpggngomdemdgaa.P
