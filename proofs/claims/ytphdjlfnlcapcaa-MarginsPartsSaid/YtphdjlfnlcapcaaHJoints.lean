import Derived.Test.YtphdjlfnlcapcaaHJoin
import Derived.Test.YtphdjlfnlcapcaaHRange
import Derived.Maps.AppendAt
set_option linter.unusedVariables false
set_option linter.unusedSimpArgs false
namespace Go.Proofs.Ytphdjlfnlcapcaa.P
open Go.RowKit Go.Proofs.YtphdjlfnlcapcaaW.PrintWords Go.Proofs.YtphdjlfnlcapcaaW.PrintLast Go.Proofs.YtphdjlfnlcapcaaW.PrintMore Go.Proofs.Ytphdjlfnlcapcaa.Rng
attribute [local go_sem] Oper.semAt_some

/-- What meets above, between and below items. -/
def jl : List Int → List S39 → List (List Int)
  | b, [] => [b]
  | b, x :: r => (b ++ [x.f0]) :: jl [x.f1] r

theorem add_block (a : Addr) (k : Nat) : (a.add k).block = a.block := by unfold Addr.add; split <;> rfl
theorem cell_from (W wr : World) {a : Addr} {v : Value} (h : W.cell? a = some v) (hb : wr.heap[a.block]? = W.heap[a.block]?) : wr.cell? a = some v := (World.cell?_of_block hb).trans h
theorem nums_snoc (b : List Int) (x : Int) : nums .i64 b ++ [Value.int .i64 x] = nums .i64 (b ++ [x]) := by simp [nums]
/-- A slice literal of one number. -/
theorem own_one (W : World) (base : Nat) (hb : base ≤ W.heap.size) (e : TypeId) (x : Int) : (W.alloc (.cells #[.int .i64 x] e)).ownsRow base e 1 (.slice (some ⟨W.heap.size, 0, none⟩) 1 1) 1 (nums .i64 [x]) :=
  ⟨by simp [nums], .inr ⟨W.heap.size, 1, #[.int .i64 x], rfl, hb, heap_alloc_new W _, Nat.le_refl _, by decide, by simp, by simp [nums]⟩⟩
theorem V_of_own {W : World} {base : Nat} {v : Value} {xs : List Int} (h : W.ownsRow base 3 1 v xs.length (nums .i64 xs)) : ∃ A c, v = .slice A xs.length c ∧ xs.length ≤ c ∧ Kd.C (Kd.int .i64) W A xs.length xs :=
  Kd.R_reads (d := Kd.int .i64) (e := 3) (base := base) (ok := fun _ => True) (Kd.R_of_own h (fun _ _ => trivial))
theorem joints_calls (A : Option Addr) (n c : Nat) (w : World) :
    Calls Try.prog 20 #[.slice A n c] w fun e w' => e = .returned (.func (.func 22) #[] #[.pointer (some ⟨w.heap.size, 0, none⟩)]) ∧ w' = w.alloc (.cells #[.slice A n c] 23) := by
  go_enter Try.func20, Try.ntmps20
  go_wp2
  go_ret
  exact ⟨rfl, rfl⟩

set_option maxRecDepth 100000 in
set_option maxHeartbeats 2000000 in
theorem joints_iter (l0 : List S39) (A0 : Option Addr) (c0 : Nat) (Bl : Nat) (M : Nat → Prop) (w : World) (hlen : l0.length ≤ 4000)
    (hB : w.heap[Bl]? = some (.cells #[.slice A0 l0.length c0] 23 (0, 0))) (hr : Kd.C k39 w A0 l0.length l0) (hM1 : M Bl) (hM2 : ∀ ad, A0 = some ad → 0 < l0.length → M ad.block ∧ ad.block < w.heap.size) :
    Iter Try.prog 22 #[.pointer (some ⟨Bl, 0, none⟩)] (fun x : Value × List Int => #[x.1]) (fun pre x W => pre.map (·.2) ++ [x.2] <+: jl [] l0 ∧ ∃ A c, x.1 = .slice A x.2.length c ∧ x.2.length ≤ c ∧ Kd.C (Kd.int .i64) W A x.2.length x.2) M
      (fun xs => xs.map (·.2) = jl [] l0) (fun _ => True) w := by
  intro l J Jx W hW hJ hJx hY h0
  have hBW : W.heap[Bl]? = some (.cells #[.slice A0 l0.length c0] 23 (0, 0)) := (hW.block _ (Array.getElem?_eq_some_iff.1 hB).1).trans hB
  have hrW := Kd.C_below hr hW
  have hcell := (Boxed.cell hBW)
  refine (callsIn_wide (n := 1)).1 ?_
  refine callsIn_of_wp Try.func22 rfl trivial ?_ rfl
  simp only [Try.ntmps22, List.size_toArray, List.length_cons, List.length_nil, Nat.reduceAdd, Nat.reduceSub, Array.replicate_succ, Array.replicate_zero, List.push_toArray, List.append_toArray, List.nil_append, List.cons_append]
  gi_wp2
  gi_loopw [3, 8] (fun v3 v8 wr => ∃ (i : Nat) (pre : List (Value × List Int)) (b : List Int) (W0 : World), v8 = .int .i64 (i : Int) ∧ Aside0 (i ≤ l0.length) ∧ Aside0 (pre.map (·.2) ++ jl b (l0.drop i) = jl [] l0) ∧
      Aside0 (J pre W0) ∧ Aside0 (Below W0.heap.size W0 wr) ∧ Aside0 (wr.ownsRow W0.heap.size 3 1 v3 b.length (nums .i64 b)) ∧ Aside0 (b.length ≤ 1) ∧ Aside0 (∀ k, M k → k < w.heap.size → wr.heap[k]? = W.heap[k]?) ∧ Aside0 (w.heap.size ≤ W0.heap.size))
    (fun _ v8 _ => l0.length - (intOf v8).toNat)
  case atStart => exact ⟨0, [], [], W, rfl, ⟨Nat.zero_le _⟩, ⟨rfl⟩, ⟨h0⟩, ⟨Below.refl _ _⟩, ⟨own_nil _ _ _ _⟩, ⟨by simp⟩, ⟨fun _ _ _ => rfl⟩, ⟨hW.size⟩⟩
  case round =>
    obtain ⟨i, pre, b, W0, rfl, HI, HP, HJ, HB, HO, HL, HM, HS⟩ := hrel
    by_cases hlt : i < l0.length
    · have hd : decide ((i : Int) < (l0.length : Int)) = true := by simpa using hlt
      obtain ⟨ad, e, hx0, hx1, hx2⟩ := at_T39 hrW (i : Int) (by omega) (by omega)
      cases e
      obtain ⟨hm1, hm2⟩ := hM2 ad rfl (by omega)
      have hblk := HM.out ad.block hm1 hm2
      replace hx0 := cell_from W wr hx0 (by rw [add_block]; exact hblk)
      replace hx1 := cell_from W wr hx1 (by show wr.heap[(ad.add _).block]? = W.heap[(ad.add _).block]?; rw [add_block]; exact hblk)
      replace hx2 := cell_from W wr hx2 (by show wr.heap[(ad.add _).block]? = W.heap[(ad.add _).block]?; rw [add_block]; exact hblk)
      rw [Int.toNat_natCast] at hx0 hx1 hx2
      clear hblk
      obtain ⟨i0, hi, hz0, hz1, hz2⟩ := info_parts info3
      gi_wp2_with (gi_at_builtin; refine wpListIn_append_own _ rfl _ _ 22 rfl W0.heap.size 3 i0 (.int .i64 0) 1 8 Try.underlying22 hi hz0 hz1 hz2 rfl (by decide) _ _ _ rfl ((HO.out.alloc _).alloc _) ⟨wr.heap.size + 1, 0, none⟩ 1 1 [.int .i64 (rd_T39 l0 i).f0] rfl rfl ?c1 ?c2 ?c3 ?c4 ?c5 ?_)
      case c1 =>
        have h := cell_one_new (wr.alloc (Obj.cells #[Value.int IntKind.i64 (rd_T39 l0 ↑i).f0, Value.int IntKind.i64 (rd_T39 l0 ↑i).f1, Value.int IntKind.i64 (rd_T39 l0 ↑i).f2] 39)) (.int .i64 (rd_T39 l0 (i : Int)).f0) 3
        rw [World.size_alloc] at h
        exact h
      case c2 => simp [Value.oneCell']
      case c3 => have := HL.out; unfold maxLen; omega
      case c4 => have := HL.out; omega
      case c5 => have := HB.out.size; simp; omega
      intro v' w1 hown hgrow _
      have hbx : Below W0.heap.size wr w1 := ((((Below.refl W0.heap.size wr).alloc HB.out.size _).alloc (by simp; have := HB.out.size; omega) _).grown hgrow (by simp; have := HB.out.size; omega) (own_base HO.out))
      rw [nums_snoc] at hown
      have hown' : w1.ownsRow W0.heap.size 3 1 v' (b ++ [(rd_T39 l0 (i : Int)).f0]).length (nums .i64 (b ++ [(rd_T39 l0 (i : Int)).f0])) := by rw [List.length_append]; exact hown
      have hmem : pre.map (·.2) ++ [b ++ [(rd_T39 l0 (i : Int)).f0]] <+: jl [] l0 := by
        rw [← HP.out, List.drop_eq_getElem_cons hlt]
        exact ⟨jl [l0[i].f1] (l0.drop (i + 1)), by simp [jl, rd_T39, List.getD_eq_getElem?_getD, hlt]⟩
      have hxb : w1.heap[wr.heap.size]? = some (Obj.cells #[Value.int IntKind.i64 (rd_T39 l0 ↑i).f0, Value.int IntKind.i64 (rd_T39 l0 ↑i).f1, Value.int IntKind.i64 (rd_T39 l0 ↑i).f2] 39) := by
        refine (hgrow.block _ (by simp; omega) (fun e => ?_)).trans ?_
        · have := own_lt HO.out _ e.symm; omega
        · refine (Below.heap_alloc _ _ _ (by simp)).trans (heap_alloc_new wr _)
      have HXB := Aside0.mk hxb
      have HBX := Aside0.mk hbx
      have HOWN := Aside0.mk hown'
      have HGR := Aside0.mk hgrow
      obtain ⟨fn, tmps, assign, body, hy, hR⟩ := hY pre (v', b ++ [(rd_T39 l0 (i : Int)).f0]) W0 w1 HJ.out (HB.out.trans hbx) ⟨hmem, V_of_own hown'⟩
      dsimp only at hy
      clear hxb hbx hown hown' hgrow
      gi_wp2
      refine hR.mono ?_
      rintro e W3 (⟨rfl, hJ3, hk3⟩ | ⟨rfl, hJx3⟩)
      · have hx1' : W3.cell? ⟨wr.heap.size, 1, none⟩ = some (.int .i64 (rd_T39 l0 (i : Int)).f1) := by
          have hh := (hk3.same wr.heap.size (Array.getElem?_eq_some_iff.1 HXB.out).1 (.inr HB.out.size)).trans HXB.out
          exact (blk_cell hh 1).trans rfl
        have HK := Aside0.mk hk3
        clear hk3
        gi_wp2
        go_roundw
        case rel =>
          refine ⟨i + 1, pre ++ [(v', b ++ [(rd_T39 l0 (i : Int)).f0])], [(rd_T39 l0 (i : Int)).f1], W3, by go_num, ⟨by omega⟩, ⟨?_⟩, ⟨hJ3⟩, ⟨(Below.refl _ _).alloc (Nat.le_refl _) _⟩, ⟨own_one W3 _ (Nat.le_refl _) 3 _⟩, ⟨by simp⟩, ⟨fun k hk hk2 => ?_⟩, ⟨?_⟩⟩
          · rw [← HP.out, List.drop_eq_getElem_cons hlt]
            simp [jl, rd_T39, List.getD_eq_getElem?_getD, hlt]
          · have h1 : k < wr.heap.size := by have := HB.out.size; have := HS.out; omega
            have h2 : k < w1.heap.size := by have := HBX.out.size; omega
            refine (Below.heap_alloc W3 _ _ (by have := HK.out.size; omega)).trans ((HK.out.same k h2 (.inl hk)).trans ?_)
            refine (HBX.out.block k ?_).trans (HM.out k hk hk2)
            have := HS.out; omega
          · have := HK.out.size; have := HBX.out.size; have := HB.out.size; have := HS.out; omega
        case measure => simp [intOf]; omega
      · gi_wp2
        refine bodyPost_ret (results_none rfl _ _ _) rfl ?_
        exact ⟨⟨_, rfl⟩, .inr ⟨_, trivial, hJx3⟩⟩
    · obtain rfl : i = l0.length := by have := HI.out; omega
      have hd : decide ((l0.length : Int) < (l0.length : Int)) = false := by simp
      have hown : wr.ownsRow W0.heap.size 3 1 u3 b.length (nums .i64 b) := HO.out
      obtain ⟨A, c, rfl, _⟩ := V_of_own hown
      have hP := HP.out
      rw [List.drop_length] at hP
      obtain ⟨fn, tmps, assign, body, hy, hR⟩ := hY pre (.slice A b.length c, b) W0 wr HJ.out HB.out ⟨by rw [← hP]; exact ⟨[], by simp [jl]⟩, V_of_own hown⟩
      dsimp only at hy
      clear hown
      gi_wp2
      refine hR.mono ?_
      rintro e W3 (⟨rfl, hJ3, hk3⟩ | ⟨rfl, hJx3⟩)
      · gi_wp2
        go_end0
        exact ⟨⟨_, rfl⟩, .inl ⟨_, by rw [List.map_append, ← hP]; rfl, hJ3⟩⟩
      · gi_wp2
        go_end0
        exact ⟨⟨_, rfl⟩, .inr ⟨_, trivial, hJx3⟩⟩
end Go.Proofs.Ytphdjlfnlcapcaa.P
