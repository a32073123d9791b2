import Derived.Test.YtdnhjkldhdolpaaHPlaceA
import Derived.Stop.RegionWithIn
set_option linter.unusedVariables false
set_option linter.unusedSimpArgs false
namespace Go.Proofs.Ytdnhjkldhdolpaa.P
open Go.RowKit Go.Proofs.YtdnhjkldhdolpaaW.PrintWords Go.Proofs.YtdnhjkldhdolpaaW.PrintLast Go.Proofs.YtdnhjkldhdolpaaW.PrintMore Go.Proofs.Ytdnhjkldhdolpaa.Rng
attribute [local go_sem] Oper.semAt_some
/-- Where box i begins. -/
def xAt (x0 gap : Int) (ws : List Int) : Nat → Int
  | 0 => x0
  | i + 1 => wrap64 (xAt x0 gap ws i + wrap64 (rd ws (i : Int) + gap))
def bxAt (x0 gap : Int) (ws hs : List Int) (i : Nat) : S38 := ⟨0, xAt x0 gap ws i, 0, rd ws (i : Int), rd hs (i : Int), false, []⟩
def boxList (x0 gap : Int) (ws hs : List Int) (n : Nat) : List S38 := (List.range n).map (bxAt x0 gap ws hs)
def enc38 (x : S38) : Value := .agg #[.int .i64 x.f0, .int .i64 x.f1, .int .i64 x.f2, .int .i64 x.f3, .int .i64 x.f4, .bool x.f5, .slice none 0 0]
theorem boxList_succ (x0 gap : Int) (ws hs : List Int) (j : Nat) : boxList x0 gap ws hs (j + 1) = boxList x0 gap ws hs j ++ [bxAt x0 gap ws hs j] := by simp [boxList, List.range_succ]
theorem boxList_prefix (x0 gap : Int) (ws hs : List Int) (j : Nat) : ∀ m : Nat, j < m → boxList x0 gap ws hs j ++ [bxAt x0 gap ws hs j] <+: boxList x0 gap ws hs m := by
  intro m hm
  rw [← boxList_succ]
  induction m with
  | zero => omega
  | succ m ih =>
    by_cases e : j = m
    · subst e; exact List.prefix_refl _
    · rw [boxList_succ x0 gap ws hs m]
      exact (ih (by omega)).trans (List.prefix_append _ _)
def cutPost (A : Bool → Act) (G : Bool → World → Prop) : Exit → Act → World → Prop
  | .normal, a', w' => ∃ b, a' = A b ∧ G b w'
  | _, _, _ => False
theorem wpIn_cutB {F : Fence} {n : Nat} {P : Program} {c : Code} {Q : Exit → Act → World → Prop} {a : Act} {w : World} (A : Bool → Act) (G : Bool → World → Prop) (h : c.wpIn F n P (cutPost A G) a w) (hq : ∀ b w', G b w' → Q .normal (A b) w') : c.wpIn F n P Q a w :=
  wpIn_mono h (by
    intro e a' w' hp
    cases e with
    | normal => obtain ⟨b, rfl, hg⟩ := hp; exact hq b w' hg
    | _ => exact hp.elim)
theorem addr_block (a : Addr) (k : Nat) : (a.add k).block = a.block := by unfold Addr.add; split <;> rfl
theorem cell_of_blk {W wr : World} {a : Addr} {v : Value} (h : W.cell? a = some v) (hb : wr.heap[a.block]? = W.heap[a.block]?) : wr.cell? a = some v := (World.cell?_of_block hb).trans h
set_option maxRecDepth 100000 in
set_option maxHeartbeats 4000000 in
theorem boxes_iter (ws hs : List Int) (A B : Option Addr) (c d : Nat) (x0 gap : Int) (Bx : Nat) (M : Nat → Prop) (w : World) (hl : ws.length = hs.length) (hn : ws.length ≤ 1000000)
    (hM0 : M Bx) (hM1 : M (Bx + 1)) (hM2 : M (Bx + 2)) (hM3 : M (Bx + 3))
    (hb0 : Boxed w Bx 3 (.int .i64 x0)) (hb1 : Boxed w (Bx + 1) 22 (.slice A ws.length c)) (hb2 : Boxed w (Bx + 2) 22 (.slice B hs.length d)) (hb3 : Boxed w (Bx + 3) 3 (.int .i64 gap))
    (hrA : Kd.C (Kd.int .i64) w A ws.length ws) (hrB : Kd.C (Kd.int .i64) w B hs.length hs)
    (hA : ∀ ad, A = some ad → 0 < ws.length → M ad.block ∧ ad.block < Bx) (hB : ∀ ad, B = some ad → 0 < hs.length → M ad.block ∧ ad.block < Bx) :
    IterO (fun k => k = Bx) Try.prog 38 #[.pointer (some ⟨Bx + 1, 0, none⟩), .pointer (some ⟨Bx, 0, none⟩), .pointer (some ⟨Bx + 2, 0, none⟩), .pointer (some ⟨Bx + 3, 0, none⟩)] (fun x : S38 => #[enc38 x]) (fun pre x W => pre ++ [x] <+: boxList x0 gap ws hs ws.length) M
      (fun xs => xs = boxList x0 gap ws hs ws.length) (fun _ => True) w := by
  intro l J Jx W hW hJ hJx hY h0
  have kW : ∀ k, k < w.heap.size → W.heap[k]? = w.heap[k]? := fun k hk => hW.block k hk
  have b0 : Boxed W Bx 3 (.int .i64 x0) := (kW _ hb0.lt).trans hb0
  have b1 : Boxed W (Bx + 1) 22 (.slice A ws.length c) := (kW _ hb1.lt).trans hb1
  have b2 : Boxed W (Bx + 2) 22 (.slice B hs.length d) := (kW _ hb2.lt).trans hb2
  have b3 : Boxed W (Bx + 3) 3 (.int .i64 gap) := (kW _ hb3.lt).trans hb3
  have rA := Kd.C_below hrA hW
  have rB := Kd.C_below hrB hW
  have lt3 : Bx + 3 < W.heap.size := b3.lt
  have hc1 := b1.cell
  clear kW hb0 hb1 hb2 hb3 hrA hrB
  refine (callsIn_wide (n := 1)).1 ?_
  refine callsIn_of_wp Try.func38 rfl trivial ?_ rfl
  simp only [Try.ntmps38, List.size_toArray, List.length_cons, List.length_nil, Nat.reduceAdd, Nat.reduceSub, Array.replicate_succ, Array.replicate_zero, List.push_toArray, List.append_toArray, List.nil_append, List.cons_append]
  gi_wp2
  gi_loopw [10] (fun v10 wr => ∃ i : Nat, v10 = .int .i64 (i : Int) ∧ Aside0 (i ≤ ws.length) ∧ Aside0 (J (boxList x0 gap ws hs i) wr) ∧ Aside0 (Boxed wr Bx 3 (.int .i64 (xAt x0 gap ws i))) ∧ Aside0 (∀ k, M k → k ≠ Bx → k < W.heap.size → wr.heap[k]? = W.heap[k]?) ∧ Aside0 (W.heap.size ≤ wr.heap.size))
    (fun v10 _ => ws.length - (intOf v10).toNat)
  case atStart => exact ⟨0, rfl, ⟨Nat.zero_le _⟩, ⟨h0⟩, ⟨b0⟩, ⟨fun _ _ _ _ => rfl⟩, ⟨Nat.le_refl _⟩⟩
  case round =>
    obtain ⟨i, rfl, HI, HJ, HX, HK, HS⟩ := hrel
    by_cases hlt : i < ws.length
    · have hd : decide ((i : Int) < (ws.length : Int)) = true := by simpa using hlt
      obtain ⟨adA, eA, hxA⟩ := Kd.at_int rA (i : Int) (by omega) (by omega)
      cases eA
      obtain ⟨adB, eB, hxB⟩ := Kd.at_int rB (i : Int) (by omega) (by omega)
      cases eB
      rw [Int.toNat_natCast] at hxA hxB
      obtain ⟨mA, tA⟩ := hA adA rfl (by omega)
      obtain ⟨mB, tB⟩ := hB adB rfl (by omega)
      have yA : wr.cell? (adA.add i) = some (.int .i64 (rd ws (i : Int))) := cell_of_blk hxA (by rw [addr_block]; exact HK.out _ mA (by omega) (by omega))
      have yB : wr.drew.cell? (adB.add i) = some (.int .i64 (rd hs (i : Int))) := cell_of_blk (wr := wr.drew) hxB (by rw [addr_block]; exact HK.out _ mB (by omega) (by omega))
      have y0 : wr.drew.cell? ⟨Bx, 0, none⟩ = some (.int .i64 (xAt x0 gap ws i)) := HX.out.cell
      have y2 : wr.drew.cell? ⟨Bx + 2, 0, none⟩ = some (.slice (some adB) hs.length d) := Boxed.cell (t := 22) ((HK.out (Bx + 2) hM2 (by omega) (by omega)).trans b2)
      have y3 : wr.heap[Bx + 3]? = some (.cells #[.int .i64 gap] 3 (0, 0)) := (HK.out (Bx + 3) hM3 (by omega) (by omega)).trans b3
      have p1 : 0 ≤ (i : Int) := by omega
      have q1 : (i : Int) < (ws.length : Int) := by omega
      have q2 : (i : Int) < (hs.length : Int) := by omega
      have q3 : i < ws.length := hlt
      have q4 : i < hs.length := by omega
      obtain ⟨fn, tmps, assign, body, hy, hR0⟩ := hY (boxList x0 gap ws hs i) (bxAt x0 gap ws hs i) wr wr.drew HJ.out (BelowO.refl _ wr).drew (boxList_prefix x0 gap ws hs i _ hlt)
      obtain ⟨R', hRR⟩ : ∃ R' : Ending → World → Prop, R' = fun e W3 => ∃ b : Bool, e = .returned (.bool b) ∧ (b = true → J (boxList x0 gap ws hs i ++ [bxAt x0 gap ws hs i]) W3 ∧ Lets M wr wr.drew W3) ∧ (b = false → Jx (boxList x0 gap ws hs i ++ [bxAt x0 gap ws hs i]) W3) := ⟨_, rfl⟩
      have hR := hR0.mono (fun e W3 h => show R' e W3 by
        rw [hRR]
        rcases h with ⟨h1, h2, h3⟩ | ⟨h1, h2⟩
        · exact ⟨true, h1, fun _ => ⟨h2, h3⟩, fun h => by cases h⟩
        · exact ⟨false, h1, (fun h => by cases h), fun _ => h2⟩)
      have HRR := Aside0.mk hRR
      have HY3 := Aside0.mk y3
      have HLT := Aside0.mk hlt
      simp only [enc38, bxAt] at hy
      clear hR0 hRR hxA hxB mB tB mA tA hY y3 hlt
      replace p1 := eq_true p1
      replace q1 := eq_true q1
      replace q2 := eq_true q2
      replace q3 := eq_true q3
      replace q4 := eq_true q4
      gi_wp2
      apply wpIn_cutB (G := fun b W3 => (b = true → J (boxList x0 gap ws hs i ++ [bxAt x0 gap ws hs i]) W3 ∧ Lets M wr wr.drew W3) ∧ (b = false → Jx (boxList x0 gap ws hs i ++ [bxAt x0 gap ws hs i]) W3))
      case h =>
        gi_region_with (refine hR.mono ?_; intro e W3 hh; rw [HRR.out] at hh; obtain ⟨b, rfl, hh⟩ := hh)
        all_goals exact ⟨_, rfl, hh⟩
      case hq =>
        rintro b W3 ⟨g1, g2⟩
        cases b with
        | false =>
          have hJx3 := g2 rfl
          clear g1 g2
          gi_wp2
          refine bodyPost_ret (results_none rfl _ _ _) rfl ?_
          exact ⟨⟨_, rfl⟩, .inr ⟨_, trivial, hJx3⟩⟩
        | true =>
          obtain ⟨hJ3, hL3⟩ := g1 rfl
          clear g1 g2 hc1
          have hlt0 : Bx < wr.heap.size := HX.out.lt
          have hlt3 : Bx + 3 < wr.heap.size := by have := HS.out; omega
          have kb0 : W3.heap[Bx]? = some (.cells #[.int .i64 (xAt x0 gap ws i)] 3 (0, 0)) := (hL3.same Bx hlt0 (.inl hM0)).trans HX.out
          have kb3 : W3.heap[Bx + 3]? = some (.cells #[.int .i64 gap] 3 (0, 0)) := (hL3.same (Bx + 3) hlt3 (.inl hM3)).trans HY3.out
          have z0 : W3.cell? ⟨Bx, 0, none⟩ = some (.int .i64 (xAt x0 gap ws i)) := (blk_cell kb0 0).trans rfl
          have f0 := blk_frozen kb0 0
          have z3 : W3.cell? ⟨Bx + 3, 0, none⟩ = some (.int .i64 gap) := (blk_cell kb3 0).trans rfl
          have hsum : IntKind.i64.wrap ((i : Int) + 1) = ((i + 1 : Nat) : Int) := IntWalk.i64_in _ (by have := HLT.out; omega)
          have hsum2 : wrap64 ((i : Int) + 1) = ((i + 1 : Nat) : Int) := by have := HLT.out; unfold wrap64; omega
          have hx1 : wrap64 (xAt x0 gap ws i + wrap64 (rd ws (i : Int) + gap)) = xAt x0 gap ws (i + 1) := rfl
          have KB0 := Aside0.mk kb0
          have HL3 := Aside0.mk hL3
          have HX1 := Aside0.mk hx1
          clear kb0 kb3 hL3 hx1
          gi_wp2
          go_roundw
          case rel =>
            refine ⟨i + 1, by simp [hsum, hsum2], ⟨HLT.out⟩, ⟨?_⟩, ⟨?_⟩, ⟨fun k hk hne hk2 => ?_⟩, ⟨?_⟩⟩
            · rw [boxList_succ]
              exact hJ _ W3 _ hJ3 ((BelowO.refl (fun k => k = Bx) W3).setCell (p := ⟨Bx, 0, none⟩) rfl _)
            · exact Boxed.set _ KB0.out
            · refine (Below.heap_setCell W3 ⟨Bx, 0, none⟩ _ k hne).trans ?_
              exact (HL3.out.same k (by have := HS.out; exact Nat.lt_of_lt_of_le hk2 this) (.inl hk)).trans (HK.out k hk hne hk2)
            · have h1 := HL3.out.size
              have h2 := HS.out
              have h3 : (W3.setCell ⟨Bx, 0, none⟩ (.int .i64 (xAt x0 gap ws (i + 1)))).heap.size = W3.heap.size := by show (W3.heap.modify _ _).size = _; rw [Array.size_modify]
              have h4 : wr.drew.heap.size = wr.heap.size := rfl
              first
              | exact Nat.le_trans h2 (Nat.le_trans (h4 ▸ h1) (Nat.le_of_eq (by show _ = (W3.heap.modify _ _).size; rw [Array.size_modify])))
          case measure => have := HLT.out; simp [intOf]; omega
    · obtain rfl : i = ws.length := by have := HI.out; omega
      have hd : decide ((ws.length : Int) < (ws.length : Int)) = false := by simp
      gi_wp2
      go_end0
      exact ⟨⟨_, rfl⟩, .inl ⟨_, rfl, HJ.out⟩⟩
end Go.Proofs.Ytdnhjkldhdolpaa.P
