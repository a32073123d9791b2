import Derived.Test.YtdmfhabhcagioaaHTurn
import Derived.LoopN
set_option linter.unusedVariables false
set_option linter.unusedSimpArgs false
namespace Go.Proofs.Ytdmfhabhcagioaa.P
open Go.RowKit Go.Proofs.YtdmfhabhcagioaaW.PrintWords Go.Proofs.YtdmfhabhcagioaaW.PrintLast Go.Proofs.YtdmfhabhcagioaaW.PrintMore Go.Proofs.Ytdmfhabhcagioaa.Rng Go.Bidi
attribute [local go_sem] Oper.semAt_some
theorem C_grown {k : IntKind} {w W : World} {A : Option Addr} {n : Nat} {xs : List Int} (h : Kd.C (Kd.int k) w A n xs) {row : Option Nat} (hg : w.grownBy W row) (hne : ∀ ad, A = some ad → 0 < n → some ad.block ≠ row) : Kd.C (Kd.int k) W A n xs := by
  obtain ⟨h1, h2, h3⟩ := h
  refine ⟨h1, h2, fun hn => ?_⟩
  obtain ⟨ad, e, hc⟩ := h3 hn
  refine ⟨ad, e, fun j p hp => ?_⟩
  obtain ⟨cs, hs, hr, hcc⟩ := hc j p hp
  refine ⟨cs, hs, hr, fun i u hu => ?_⟩
  have := hcc i u hu
  refine (World.cell?_of_block ?_).trans this
  refine hg.block _ (World.block_lt_of_cell? _ _ this) ?_
  rw [add_block]
  exact hne ad e hn
theorem ownFrom_grown {β : Type} {w0 : World} {row : Option Nat} {B : Nat} (hB : w0.heap.size ≤ B) : OwnFrom B (fun (_ : β) W => w0.grownBy W row) := fun s W W' row' hs hg hr =>
  hs.andThen hg (fun j e => .inl (by have := (hr j e).1; omega))
theorem ownFrom_obj {β : Type} {D B : Nat} {o : Obj} (hB : D < B) : OwnFrom B (fun (_ : β) W => W.heap[D]? = some o) := fun s W W' row' hs hg hr =>
  (hg.block D (Array.getElem?_eq_some_iff.1 hs).1 (fun e => by have := (hr D e.symm).1; omega)).trans hs
theorem fold_rev_len {α : Type} (p : α → Bool) (l : List α) : ∀ (pre z : List (Nat × Nat)), runsL p 0 0 l = pre ++ z → (pre.foldl revSeg l).length = l.length := by
  intro pre z h
  have hb : ∀ x ∈ pre, x.1 ≤ x.2 ∧ x.2 ≤ l.length := fun x hx => by
    have := runsL_bd p l 0 0 (Nat.le_refl _) x (by rw [h]; simp [hx])
    omega
  clear h
  have : ∀ (pre : List (Nat × Nat)) (m : List α), m.length = l.length → (∀ x ∈ pre, x.1 ≤ x.2 ∧ x.2 ≤ l.length) → (pre.foldl revSeg m).length = l.length := by
    intro pre
    induction pre with
    | nil => intro m hm _; exact hm
    | cons x r ih =>
      intro m hm hb
      have h1 := hb x (by simp)
      have h2 := revSeg_length m x h1.1 (by omega)
      exact ih (revSeg m x) (by rw [h2]; exact hm) (fun y hy => hb y (by simp [hy]))
  exact this pre l rfl hb
theorem turnL_len {α : Type} (p : α → Bool) (l : List α) : (turnL p [] l).length = l.length := by simpa using (turnL_perm p l []).length_eq
theorem turnL_mem {α : Type} {p : α → Bool} {l : List α} {x : α} (h : x ∈ turnL p [] l) : x ∈ l := by simpa using (turnL_perm p l []).mem_iff.1 h
theorem Below_grown {w W : World} (h : Below w.heap.size w W) (row : Option Nat) : w.grownBy W row := ⟨h.os, h.tape, h.output, h.size, fun i hi _ => h.block i hi⟩
def TurnPost (A1 : Option Addr) (c1 : Nat) (xs : List Int) (lev : List Int) (base : Nat) (w : World) (e : Ending) (w' : World) : Prop :=
  (∃ v, e = .returned v) ∧ Kd.R (Kd.int .i64) 3 w' base (fun k => k < w.heap.size) (.slice A1 xs.length c1) (turnL (high lev 1) [] (turnL (high lev 2) [] xs)) ∧ w.grownBy w' (Value.slice A1 xs.length c1).ownBlock
set_option maxRecDepth 100000 in
set_option maxHeartbeats 4000000 in
theorem turn28_calls (A1 A2 : Option Addr) (b3 : Nat) (c1 c2 c3 : Nat) (xs lev : List Int) (base : Nat) (w : World) (hR : Kd.R (Kd.int .i64) 3 w base (fun k => k < w.heap.size) (.slice A1 xs.length c1) xs)
    (hL : Kd.C (Kd.int .i64) w A2 lev.length lev) (hN : w.cell? ⟨b3, 0, none⟩ = some (.int .i64 2) ∧ w.cell? ⟨b3, 1, none⟩ = some (.int .i64 1)) (hl : xs.length ≤ 1000000) (hin : ∀ x ∈ xs, ∃ i : Nat, i < lev.length ∧ x = (i : Int))
    (hn2 : ∀ ad, A2 = some ad → 0 < lev.length → some ad.block ≠ (Value.slice A1 xs.length c1).ownBlock) (hn3 : some b3 ≠ (Value.slice A1 xs.length c1).ownBlock) :
    Calls Try.prog 28 #[.slice A1 xs.length c1, .slice A2 lev.length c2, .slice (some ⟨b3, 0, none⟩) 2 c3] w (TurnPost A1 c1 xs lev base w) := by
  obtain ⟨row, hrow⟩ : ∃ row, (Value.slice A1 xs.length c1).ownBlock = row := ⟨_, rfl⟩
  rw [hrow] at hn2 hn3
  have hrl : ∀ k, row = some k → k < w.heap.size := fun k e => Kd.R_lt hR k (hrow.trans e)
  have HRL := Aside0.mk hrl
  have HROW := Aside0.mk hrow
  have HR := Aside0.mk hR
  have HL := Aside0.mk hL
  have HN := Aside0.mk hN
  have HLN := Aside0.mk hl
  have HIN := Aside0.mk hin
  have HN2 := Aside0.mk hn2
  have HN3 := Aside0.mk hn3
  obtain ⟨b0, hb0⟩ : ∃ b0, w.heap.size = b0 := ⟨_, rfl⟩
  have HB0 := Aside0.mk hb0
  clear hR hL hN hl hin hn2 hn3 hrl hrow
  refine (callsIn_wide (n := 3)).1 ?_
  refine callsIn_of_wp_marks Try.func28 rfl trivial ?_ rfl
  simp only [Try.ntmps28, List.size_toArray, List.length_cons, List.length_nil, Nat.reduceAdd, Nat.reduceSub, Array.replicate_succ, Array.replicate_zero, List.push_toArray, List.append_toArray, List.nil_append, List.cons_append]
  refine wpIn_wide.2 ?_
  go_upto_region 2 with (fail)
  obtain ⟨W0, hW0⟩ : ∃ W0, (w.alloc (.cells #[.slice A1 xs.length c1] 23)).alloc (.cells #[.slice A2 lev.length c2] 23) = W0 := ⟨_, rfl⟩
  simp only [hW0, hb0]
  have BO : Aside0 (Boxed W0 b0 23 (.slice A1 xs.length c1)) := ⟨by rw [← hW0, ← hb0]; exact (Boxed.new w 23 _).alloc _⟩
  have BL : Aside0 (Boxed W0 (b0 + 1) 23 (.slice A2 lev.length c2)) := ⟨by
    rw [← hW0]; have := Boxed.new (w.alloc (.cells #[.slice A1 xs.length c1] 23)) 23 (.slice A2 lev.length c2); rwa [World.size_alloc, hb0] at this⟩
  have HG : Aside0 (w.grownBy W0 row) := ⟨by rw [← hW0]; exact (World.grownBy_alloc w _ row).trans (World.grownBy_alloc _ _ row)⟩
  have HO : Aside0 (Kd.R (Kd.int .i64) 3 W0 base (fun k => k < w.heap.size) (.slice A1 xs.length c1) xs) := ⟨by rw [← hW0]; exact Kd.R_alloc (Kd.R_alloc HR.out _) _⟩
  clear hW0 HR
  have hb0' := hb0
  clear hb0
  have d1 : decide ((0 : Int) < ((2 : Nat) : Int)) = true := by decide
  refine wp_loop_rounds 3 ?_
  rw [rounds_succ]
  have hc3 : W0.cell? ⟨b3, 0, none⟩ = some (.int .i64 2) := HG.out.cell HN.out.1 HN3.out
  have co := BO.out.cell
  have co' : ∀ o, (W0.alloc o).cell? ⟨b0, 0, none⟩ = some (.slice A1 xs.length c1) := fun o => (BO.out.alloc o).cell
  have hclone : ∀ o, Calls Try.prog 38 #[.slice A1 xs.length c1] (W0.alloc o) (ClonePost (xs) (W0.alloc o)) := fun o => by
    have hC := (Kd.R_reads' (Kd.R_alloc HO.out o)).2.2
    have := clone38_calls A1 c1 (xs) (W0.alloc o) (by rw [(rfl : xs.length = xs.length)] at hC ⊢; exact hC) (by rw [(rfl : xs.length = xs.length)]; exact HLN.out)
    rwa [(rfl : xs.length = xs.length)] at this
  go_wp2_with (first | (go_at_call 38; (with_reducible refine (hclone _).mono ?_); rintro e w2 ⟨v, rfl, hR2, hb2⟩; obtain ⟨Ac, cc, ev⟩ := Kd.R_slice hR2; rw [(rfl : xs.length = xs.length)] at ev; subst ev; have HR2 := Aside0.mk hR2; have HB2 := Aside0.mk hb2; clear hR2 hb2) | (go_at_call 37; (with_reducible refine (runs37_calls _ _ _ _ _ _).mono ?_); rintro e w3 ⟨rfl, rfl⟩))
  obtain ⟨Nb, hNb⟩ : ∃ Nb, W0.heap.size = Nb := ⟨_, rfl⟩
  obtain ⟨Bl, hBl⟩ : ∃ Bl, w2.heap.size = Bl := ⟨_, rfl⟩
  simp only [World.size_alloc, hNb, hBl]
  obtain ⟨W9, hW9⟩ : ∃ W9, (w2.alloc (.cells #[.slice Ac xs.length cc] 23)).alloc (.cells #[.func (.func 36) #[] #[.pointer (some ⟨b0 + 1, 0, none⟩), .pointer (some ⟨Nb, 0, none⟩)]] 51) = W9 := ⟨_, rfl⟩
  simp only [hW9]
  have bl2 : Below W0.heap.size W0 w2 := (below_alloc (Below.refl _ _) _).trans (HB2.out.mono (by simp))
  have bl9 : Below w2.heap.size w2 W9 := by rw [← hW9]; exact below_alloc (below_alloc (Below.refl _ _) _) _
  have blr : Below W0.heap.size W0 W9 := bl2.trans (bl9.mono bl2.size)
  have hs9 : W9.heap.size = Bl + 2 := by rw [← hW9]; simp [hBl]
  have hs2 : Nb + 1 ≤ Bl := by have := HB2.out.size; simp at this; omega
  have hsw : b0 + 2 ≤ Nb := by have := BL.out.lt; omega
  have bs9 : Boxed W9 Bl 23 (.slice Ac (xs).length cc) := by
    rw [(rfl : xs.length = xs.length), ← hW9, ← hBl]; exact (Boxed.new w2 23 _).alloc _
  have bh9 : Boxed W9 (Bl + 1) 51 (.func (.func 36) #[] #[.pointer (some ⟨b0 + 1, 0, none⟩), .pointer (some ⟨Nb, 0, none⟩)]) := by
    rw [← hW9]
    have := Boxed.new (w2.alloc (.cells #[.slice Ac xs.length cc] 23)) 51 (.func (.func 36) #[] #[.pointer (some ⟨b0 + 1, 0, none⟩), .pointer (some ⟨Nb, 0, none⟩)])
    rwa [World.size_alloc, hBl] at this
  have hrc := Kd.R_below HR2.out bl9
  have hcc : Kd.C (Kd.int .i64) W9 Ac (xs).length (xs) := (Kd.R_reads' hrc).2.2
  have hcb : ∀ ad, Ac = some ad → Nb + 1 ≤ ad.block ∧ ad.block < Bl := by
    intro ad e
    obtain ⟨inner, ho⟩ := Kd.R_own HR2.out
    rcases ho.2 with ⟨e2, _⟩ | ⟨g, cap, cur, e2, hgb, hh, _⟩
    · injection e2 with q1 q2 q3; rw [e] at q1; cases q1
    · injection e2 with q1 q2 q3
      rw [e] at q1
      cases q1
      have h1 := (Array.getElem?_eq_some_iff.1 hh).1
      simp only [World.size_alloc] at hgb
      refine ⟨?_, ?_⟩
      · show Nb + 1 ≤ g; omega
      · show g < Bl; omega
  have bn9 : Boxed W9 Nb 3 (.int .i64 2) := by
    have bn1 : Boxed (W0.alloc (.cells #[.int .i64 2] 3)) Nb 3 (.int .i64 2) := by rw [← hNb]; exact Boxed.new _ 3 _
    exact (bl9.block _ (by omega)).trans ((HB2.out.block _ (by simp; omega)).trans bn1)
  have bo9 : Boxed W9 b0 23 (.slice A1 xs.length c1) := (blr.block _ BO.out.lt).trans BO.out
  have bL9 : Boxed W9 (b0 + 1) 23 (.slice A2 lev.length c2) := (blr.block _ BL.out.lt).trans BL.out
  have hg9 : w.grownBy W9 row := HG.out.trans (Below_grown blr row)
  have ho9 := Kd.R_below HO.out blr
  have hl9 : Kd.C (Kd.int .i64) W9 A2 lev.length lev := C_grown HL.out hg9 (fun ad e h => HN2.out ad e h)
  have hrow : ∀ k, row = some k → k < b0 := fun k e => by have := HRL.out k e; omega
  have hiter := runs41_iter lev 2 A2 c2 (b0 + 1) Nb (xs) Ac cc Bl (Bl + 1) (fun k => k < Bl + 2 ∧ some k ≠ row) W9 (by rw [(rfl : xs.length = xs.length)]; exact HLN.out) bs9 bh9 hcc
    ⟨by omega, fun e => by have := hrow _ e.symm; omega⟩ ⟨by omega, fun e => by have := hrow _ e.symm; omega⟩
    (fun ad e _ => ⟨⟨by have := hcb ad e; omega, fun e2 => by have := hrow _ e2.symm; have := hcb ad e; omega⟩, by have := hcb ad e; omega⟩)
    bL9 bn9 hl9 ⟨by omega, fun e => by have := hrow _ e.symm; omega⟩ ⟨by omega, fun e => by have := hrow _ e.symm; omega⟩
    (fun ad e h => by
      have h1 := HN2.out ad e h
      have h2 : ad.block < w.heap.size := by
        obtain ⟨ad', e', hx⟩ := Kd.at_int HL.out 0 (by omega) (by omega)
        rw [e] at e'
        cases e'
        have := World.block_lt_of_cell? _ _ hx
        rwa [add_block] at this
      exact ⟨⟨by omega, h1⟩, by omega⟩)
    HIN.out
  clear bs9 bh9 hcc hcb bn9 hl9 hrc bl2 bl9 hclone co co' hc3 hW9 bL9
  refine (wpIn_wide (n := 3)).1 ?_
  refine rangeFunc (lb := #[.pointer (some ⟨Bl, 0, none⟩), .pointer (some ⟨Bl + 1, 0, none⟩)]) (gf := 41) rfl (enters_of Try.func41 (by kernel_rfl) rfl) hiter (fun _ => rfl) (fun k hk => by have := hk.1; omega) (fun _ _ _ _ _ _ h _ _ => h)
    (fun pre W => Boxed W b0 23 (.slice A1 xs.length c1) ∧ Boxed W (b0 + 1) 23 (.slice A2 lev.length c2) ∧ Kd.R (Kd.int .i64) 3 W base (fun k => k < w.heap.size) (.slice A1 xs.length c1) (pre.foldl revSeg (xs)) ∧ w.grownBy W row )
    (fun _ _ _ => False)
    (OwnFrom.and (Own.from (boxed_own _ _ (fun _ => _)) _) (OwnFrom.and (Own.from (boxed_own _ _ (fun _ => _)) _) (OwnFrom.and (R_from (fun pre : List (Nat × Nat) => pre.foldl revSeg (xs)) (fun k hk => by omega)) (ownFrom_grown (by omega)))))
    (fun _ _ _ _ _ hs _ _ => hs) ⟨bo9, (blr.block _ BL.out.lt).trans BL.out, ho9, hg9⟩ ?a10 ?assign0 ?body0 ?done0 ?stop0
  case assign0 =>
    intro l x W K hK
    gi_wp2
    exact hK
  case body0 =>
    rintro l pre ⟨i, k⟩ Wa Wb hlt ⟨h1, h2, h3, h4⟩ hab ⟨z, hz⟩
    have hbd := runsL_bd (high lev 2) (xs) 0 0 (Nat.le_refl _) (i, k) (by rw [hz]; simp)
    rw [(rfl : xs.length = xs.length)] at hbd
    simp only [Nat.zero_le, Nat.zero_add, true_and] at hbd
    have hxl : (pre.foldl revSeg (xs)).length = xs.length := by rw [fold_rev_len (high lev 2) (xs) pre _ hz, (rfl : xs.length = xs.length)]
    have HNX : Aside0 ((pre ++ [(i, k)]).foldl revSeg (xs) = revSeg (pre.foldl revSeg (xs)) (i, k)) := ⟨by rw [List.foldl_append]; rfl⟩
    obtain ⟨ys, hys⟩ : ∃ ys, pre.foldl revSeg (xs) = ys := ⟨_, rfl⟩
    rw [hys] at HNX hxl h3
    have k1 := (hab.block _ h1.lt).trans h1
    have k2 := (hab.block _ h2.lt).trans h2
    have k3 := Kd.R_below h3 hab
    obtain ⟨g, cap, eg, hgb, hgl, cells, hcells⟩ := Kd.R_form h3 (by omega)
    rw [hxl] at eg
    have hA1 : A1 = some ⟨g, 0, none⟩ ∧ c1 = cap := by injection eg with e1 e2 e3; exact ⟨e1, e3⟩
    have hrg : row = some g := by
      have := HROW.out
      rw [hA1.1] at this
      exact this.symm
    have hcap : xs.length ≤ c1 := (Kd.R_reads' (A := A1) (n := xs.length) (c := c1) (by exact k3)).2.1
    have co : Wb.cell? ⟨b0, 0, none⟩ = some (.slice (some ⟨g, 0, none⟩) xs.length c1) := by have := Boxed.cell k1; rw [hA1.1] at this; exact this
    have hrev : Calls Try.prog 39 #[.slice (some ⟨g, i, none⟩) (k - i) (c1 - i)] Wb fun e w' => (∃ v, e = .returned v) ∧ Kd.R (Kd.int .i64) 3 w' base (fun k => k < w.heap.size) (.slice A1 xs.length c1) (revSeg ys (i, k)) ∧ Wb.grownBy w' (some g) := by
      have := rev39_calls g i k c1 (c1 - i) ys Wb base (fun k => k < w.heap.size) (by rw [hxl, ← hA1.1]; exact k3) (by omega) (by omega) (by have := HLN.out; omega) hgb (by have := hab.size; omega)
      rwa [hxl, ← hA1.1] at this
    have m1 : (0 ≤ (i : Int)) = True := eq_true (by omega)
    have m2 : (0 ≤ (k : Int)) = True := eq_true (by omega)
    have m3 : ((i : Int) ≤ (k : Int)) = True := eq_true (by omega)
    have m4 : ((k : Int) ≤ (c1 : Int)) = True := eq_true (by omega)
    have m5 : (i ≤ k) = True := eq_true (by omega)
    have m6 : (k ≤ c1) = True := eq_true (by omega)
    have m7 : (k < i) = False := eq_false (by omega)
    have m8 : (c1 < k) = False := eq_false (by omega)
    have m9 : (i = c1) = False := eq_false (by omega)
    have m10 : (c1 = i) = False := eq_false (by omega)
    have hadd : (⟨g, 0, none⟩ : Addr).add i = ⟨g, i, none⟩ := by simp [Addr.add]; try omega
    have K1 : Aside0 (Boxed Wb b0 23 _) := ⟨k1⟩
    have K2 : Aside0 (Boxed Wb (b0 + 1) 23 _) := ⟨k2⟩
    have HGW := Aside0.mk (h4.trans (Below_grown hab row))
    have HGL : Aside0 (g < b0 ∧ g < Wa.heap.size) := ⟨by have := HRL.out g hrg; omega, hgl⟩
    have HN1 : Aside0 (∀ W3, Wb.grownBy W3 (some g) → Lets (fun k => k < Bl + 2 ∧ some k ≠ row) Wa Wb W3) := ⟨fun W3 hg => (Lets.refl _ Wa Wb).grown hg (fun k e => by
      cases e
      refine ⟨.inr ⟨hgl, fun hh => hh.2 hrg.symm⟩, fun o ho => ?_⟩
      rw [(hab.block g hgl).trans hcells] at ho
      cases ho
      rfl)⟩
    have HRG := Aside0.mk hrg
    have arms := True.intro
    clear h1 h2 h3 h4 k1 k2 k3 hab hz hbd hxl hys hgb hgl hcells hcap hiter bo9 ho9 hg9 blr hlt hsw hs2 hs9 eg hrg hrow hA1 BO BL HG HO HR2 HB2 hNb hBl
    gi_wp2_with (first | (refine ⟨trivial, rfl, ?_⟩; gi_at_call 39; (with_reducible refine (CallsIn.inRound l (callsIn_wide.2 hrev)).mono ?_); rintro e W3 ⟨⟨v, rfl⟩, hR3, hg3⟩; have HR3 := Aside0.mk hR3; have HG3 := Aside0.mk hg3; clear hR3 hg3))
    have nb : ∀ b, b ≠ g → some b ≠ some g := fun b h e => h (by cases e; rfl)
    have hg1 := HGL.out
    refine And.intro (a := Lets _ Wa Wb _) (HN1.out _ HG3.out) ⟨K1.out.kept HG3.out (nb _ (by omega)), K2.out.kept HG3.out (nb _ (by omega)), ?_, ?_⟩
    · rw [HNX.out]
      exact HR3.out
    · refine HGW.out.trans ?_
      rw [HRG.out]
      exact HG3.out
  case stop0 =>
    intro D c pre W _ _ h _
    exact h.elim
  case done0 =>
    rintro D ys W hD rfl ⟨h1, h2, h3, h4⟩ hK
    rw [turn_runs] at h3
    have BO := Aside0.mk h1
    have BL := Aside0.mk h2
    have HO := Aside0.mk h3
    have HG := Aside0.mk h4
    have HK1 := Aside0.mk hK
    have HDB : Aside0 (b0 + 2 ≤ D) := ⟨by omega⟩
    have HDW : Aside0 (D < W.heap.size) := ⟨(Array.getElem?_eq_some_iff.1 hK).1⟩
    clear h1 h2 h3 h4 hK hiter bo9 ho9 hg9 blr hD hrow hs9 hs2 hsw hBl hNb HR2 HB2
    go_wp2
    rw [rounds_succ]
    have d2 : decide ((1 : Int) < ((2 : Nat) : Int)) = true := by decide
    have hc3 : W.cell? ⟨b3, 1, none⟩ = some (.int .i64 1) := HG.out.cell HN.out.2 HN3.out
    have co := BO.out.cell
    have co' : ∀ o, (W.alloc o).cell? ⟨b0, 0, none⟩ = some (.slice A1 xs.length c1) := fun o => (BO.out.alloc o).cell
    have hclone : ∀ o, Calls Try.prog 38 #[.slice A1 xs.length c1] (W.alloc o) (ClonePost (turnL (high lev 2) [] xs) (W.alloc o)) := fun o => by
      have hC := (Kd.R_reads' (Kd.R_alloc HO.out o)).2.2
      have := clone38_calls A1 c1 (turnL (high lev 2) [] xs) (W.alloc o) (by rw [(turnL_len (high lev 2) xs)] at hC ⊢; exact hC) (by rw [(turnL_len (high lev 2) xs)]; exact HLN.out)
      rwa [(turnL_len (high lev 2) xs)] at this
    go_wp2_with (first | (go_at_call 38; (with_reducible refine (hclone _).mono ?_); rintro e w2 ⟨v, rfl, hR2, hb2⟩; obtain ⟨Ac, cc, ev⟩ := Kd.R_slice hR2; rw [(turnL_len (high lev 2) xs)] at ev; subst ev; have HR2 := Aside0.mk hR2; have HB2 := Aside0.mk hb2; clear hR2 hb2) | (go_at_call 37; (with_reducible refine (runs37_calls _ _ _ _ _ _).mono ?_); rintro e w3 ⟨rfl, rfl⟩))
    obtain ⟨Nb, hNb⟩ : ∃ Nb, W.heap.size = Nb := ⟨_, rfl⟩
    obtain ⟨Bl, hBl⟩ : ∃ Bl, w2.heap.size = Bl := ⟨_, rfl⟩
    simp only [World.size_alloc, hNb, hBl]
    obtain ⟨W9, hW9⟩ : ∃ W9, (w2.alloc (.cells #[.slice Ac xs.length cc] 23)).alloc (.cells #[.func (.func 36) #[] #[.pointer (some ⟨b0 + 1, 0, none⟩), .pointer (some ⟨Nb, 0, none⟩)]] 51) = W9 := ⟨_, rfl⟩
    simp only [hW9]
    have bl2 : Below W.heap.size W w2 := (below_alloc (Below.refl _ _) _).trans (HB2.out.mono (by simp))
    have bl9 : Below w2.heap.size w2 W9 := by rw [← hW9]; exact below_alloc (below_alloc (Below.refl _ _) _) _
    have blr : Below W.heap.size W W9 := bl2.trans (bl9.mono bl2.size)
    have hs9 : W9.heap.size = Bl + 2 := by rw [← hW9]; simp [hBl]
    have hs2 : Nb + 1 ≤ Bl := by have := HB2.out.size; simp at this; omega
    have hsw : b0 + 2 ≤ Nb := by have := BL.out.lt; omega
    have bs9 : Boxed W9 Bl 23 (.slice Ac (turnL (high lev 2) [] xs).length cc) := by
      rw [(turnL_len (high lev 2) xs), ← hW9, ← hBl]; exact (Boxed.new w2 23 _).alloc _
    have bh9 : Boxed W9 (Bl + 1) 51 (.func (.func 36) #[] #[.pointer (some ⟨b0 + 1, 0, none⟩), .pointer (some ⟨Nb, 0, none⟩)]) := by
      rw [← hW9]
      have := Boxed.new (w2.alloc (.cells #[.slice Ac xs.length cc] 23)) 51 (.func (.func 36) #[] #[.pointer (some ⟨b0 + 1, 0, none⟩), .pointer (some ⟨Nb, 0, none⟩)])
      rwa [World.size_alloc, hBl] at this
    have hrc := Kd.R_below HR2.out bl9
    have hcc : Kd.C (Kd.int .i64) W9 Ac (turnL (high lev 2) [] xs).length (turnL (high lev 2) [] xs) := (Kd.R_reads' hrc).2.2
    have hcb : ∀ ad, Ac = some ad → Nb + 1 ≤ ad.block ∧ ad.block < Bl := by
      intro ad e
      obtain ⟨inner, ho⟩ := Kd.R_own HR2.out
      rcases ho.2 with ⟨e2, _⟩ | ⟨g, cap, cur, e2, hgb, hh, _⟩
      · injection e2 with q1 q2 q3; rw [e] at q1; cases q1
      · injection e2 with q1 q2 q3
        rw [e] at q1
        cases q1
        have h1 := (Array.getElem?_eq_some_iff.1 hh).1
        simp only [World.size_alloc] at hgb
        refine ⟨?_, ?_⟩
        · show Nb + 1 ≤ g; omega
        · show g < Bl; omega
    have bn9 : Boxed W9 Nb 3 (.int .i64 1) := by
      have bn1 : Boxed (W.alloc (.cells #[.int .i64 1] 3)) Nb 3 (.int .i64 1) := by rw [← hNb]; exact Boxed.new _ 3 _
      exact (bl9.block _ (by omega)).trans ((HB2.out.block _ (by simp; omega)).trans bn1)
    have bo9 : Boxed W9 b0 23 (.slice A1 xs.length c1) := (blr.block _ BO.out.lt).trans BO.out
    have bL9 : Boxed W9 (b0 + 1) 23 (.slice A2 lev.length c2) := (blr.block _ BL.out.lt).trans BL.out
    have hg9 : w.grownBy W9 row := HG.out.trans (Below_grown blr row)
    have ho9 := Kd.R_below HO.out blr
    have hl9 : Kd.C (Kd.int .i64) W9 A2 lev.length lev := C_grown HL.out hg9 (fun ad e h => HN2.out ad e h)
    have hrow : ∀ k, row = some k → k < b0 := fun k e => by have := HRL.out k e; omega
    have hiter := runs41_iter lev 1 A2 c2 (b0 + 1) Nb (turnL (high lev 2) [] xs) Ac cc Bl (Bl + 1) (fun k => k < Bl + 2 ∧ some k ≠ row) W9 (by rw [(turnL_len (high lev 2) xs)]; exact HLN.out) bs9 bh9 hcc
      ⟨by omega, fun e => by have := hrow _ e.symm; omega⟩ ⟨by omega, fun e => by have := hrow _ e.symm; omega⟩
      (fun ad e _ => ⟨⟨by have := hcb ad e; omega, fun e2 => by have := hrow _ e2.symm; have := hcb ad e; omega⟩, by have := hcb ad e; omega⟩)
      bL9 bn9 hl9 ⟨by omega, fun e => by have := hrow _ e.symm; omega⟩ ⟨by omega, fun e => by have := hrow _ e.symm; omega⟩
      (fun ad e h => by
        have h1 := HN2.out ad e h
        have h2 : ad.block < w.heap.size := by
          obtain ⟨ad', e', hx⟩ := Kd.at_int HL.out 0 (by omega) (by omega)
          rw [e] at e'
          cases e'
          have := World.block_lt_of_cell? _ _ hx
          rwa [add_block] at this
        exact ⟨⟨by omega, h1⟩, by omega⟩)
      (fun x hx => HIN.out x (turnL_mem hx))
    clear bs9 bh9 hcc hcb bn9 hl9 hrc bl2 bl9 hclone co co' hc3 hW9 bL9
    refine (wpIn_wide (n := 3)).1 ?_
    refine rangeFunc (lb := #[.pointer (some ⟨Bl, 0, none⟩), .pointer (some ⟨Bl + 1, 0, none⟩)]) (gf := 41) rfl (enters_of Try.func41 (by kernel_rfl) rfl) hiter (fun _ => rfl) (fun k hk => by have := hk.1; omega) (fun _ _ _ _ _ _ h _ _ => h)
      (fun pre W => Boxed W b0 23 (.slice A1 xs.length c1) ∧ Boxed W (b0 + 1) 23 (.slice A2 lev.length c2) ∧ Kd.R (Kd.int .i64) 3 W base (fun k => k < w.heap.size) (.slice A1 xs.length c1) (pre.foldl revSeg (turnL (high lev 2) [] xs)) ∧ w.grownBy W row ∧ W.heap[D]? = some (.deferred (some [])))
      (fun _ _ _ => False)
      (OwnFrom.and (Own.from (boxed_own _ _ (fun _ => _)) _) (OwnFrom.and (Own.from (boxed_own _ _ (fun _ => _)) _) (OwnFrom.and (R_from (fun pre : List (Nat × Nat) => pre.foldl revSeg (turnL (high lev 2) [] xs)) (fun k hk => by omega)) (OwnFrom.and (ownFrom_grown (by omega)) (ownFrom_obj (by have := HDW.out; have := blr.size; omega))))))
      (fun _ _ _ _ _ hs _ _ => hs) ⟨bo9, (blr.block _ BL.out.lt).trans BL.out, ho9, hg9, (blr.block _ HDW.out).trans HK1.out⟩ ?a11 ?assign1 ?body1 ?done1 ?stop1
    case assign1 =>
      intro l x W K hK
      gi_wp2
      exact hK
    case body1 =>
      rintro l pre ⟨i, k⟩ Wa Wb hlt ⟨h1, h2, h3, h4, h5⟩ hab ⟨z, hz⟩
      have hbd := runsL_bd (high lev 1) (turnL (high lev 2) [] xs) 0 0 (Nat.le_refl _) (i, k) (by rw [hz]; simp)
      rw [(turnL_len (high lev 2) xs)] at hbd
      simp only [Nat.zero_le, Nat.zero_add, true_and] at hbd
      have hxl : (pre.foldl revSeg (turnL (high lev 2) [] xs)).length = xs.length := by rw [fold_rev_len (high lev 1) (turnL (high lev 2) [] xs) pre _ hz, (turnL_len (high lev 2) xs)]
      have HNX : Aside0 ((pre ++ [(i, k)]).foldl revSeg (turnL (high lev 2) [] xs) = revSeg (pre.foldl revSeg (turnL (high lev 2) [] xs)) (i, k)) := ⟨by rw [List.foldl_append]; rfl⟩
      obtain ⟨ys, hys⟩ : ∃ ys, pre.foldl revSeg (turnL (high lev 2) [] xs) = ys := ⟨_, rfl⟩
      rw [hys] at HNX hxl h3
      have k1 := (hab.block _ h1.lt).trans h1
      have k2 := (hab.block _ h2.lt).trans h2
      have k3 := Kd.R_below h3 hab
      obtain ⟨g, cap, eg, hgb, hgl, cells, hcells⟩ := Kd.R_form h3 (by omega)
      rw [hxl] at eg
      have hA1 : A1 = some ⟨g, 0, none⟩ ∧ c1 = cap := by injection eg with e1 e2 e3; exact ⟨e1, e3⟩
      have hrg : row = some g := by
        have := HROW.out
        rw [hA1.1] at this
        exact this.symm
      have hcap : xs.length ≤ c1 := (Kd.R_reads' (A := A1) (n := xs.length) (c := c1) (by exact k3)).2.1
      have co : Wb.cell? ⟨b0, 0, none⟩ = some (.slice (some ⟨g, 0, none⟩) xs.length c1) := by have := Boxed.cell k1; rw [hA1.1] at this; exact this
      have hrev : Calls Try.prog 39 #[.slice (some ⟨g, i, none⟩) (k - i) (c1 - i)] Wb fun e w' => (∃ v, e = .returned v) ∧ Kd.R (Kd.int .i64) 3 w' base (fun k => k < w.heap.size) (.slice A1 xs.length c1) (revSeg ys (i, k)) ∧ Wb.grownBy w' (some g) := by
        have := rev39_calls g i k c1 (c1 - i) ys Wb base (fun k => k < w.heap.size) (by rw [hxl, ← hA1.1]; exact k3) (by omega) (by omega) (by have := HLN.out; omega) hgb (by have := hab.size; omega)
        rwa [hxl, ← hA1.1] at this
      have m1 : (0 ≤ (i : Int)) = True := eq_true (by omega)
      have m2 : (0 ≤ (k : Int)) = True := eq_true (by omega)
      have m3 : ((i : Int) ≤ (k : Int)) = True := eq_true (by omega)
      have m4 : ((k : Int) ≤ (c1 : Int)) = True := eq_true (by omega)
      have m5 : (i ≤ k) = True := eq_true (by omega)
      have m6 : (k ≤ c1) = True := eq_true (by omega)
      have m7 : (k < i) = False := eq_false (by omega)
      have m8 : (c1 < k) = False := eq_false (by omega)
      have m9 : (i = c1) = False := eq_false (by omega)
      have m10 : (c1 = i) = False := eq_false (by omega)
      have hadd : (⟨g, 0, none⟩ : Addr).add i = ⟨g, i, none⟩ := by simp [Addr.add]; try omega
      have K1 : Aside0 (Boxed Wb b0 23 _) := ⟨k1⟩
      have K2 : Aside0 (Boxed Wb (b0 + 1) 23 _) := ⟨k2⟩
      have HGW := Aside0.mk (h4.trans (Below_grown hab row))
      have HGL : Aside0 (g < b0 ∧ g < Wa.heap.size) := ⟨by have := HRL.out g hrg; omega, hgl⟩
      have HN1 : Aside0 (∀ W3, Wb.grownBy W3 (some g) → Lets (fun k => k < Bl + 2 ∧ some k ≠ row) Wa Wb W3) := ⟨fun W3 hg => (Lets.refl _ Wa Wb).grown hg (fun k e => by
        cases e
        refine ⟨.inr ⟨hgl, fun hh => hh.2 hrg.symm⟩, fun o ho => ?_⟩
        rw [(hab.block g hgl).trans hcells] at ho
        cases ho
        rfl)⟩
      have HRG := Aside0.mk hrg
      have HKD : Aside0 (Wb.heap[D]? = some (.deferred (some []))) := ⟨(hab.block _ (Array.getElem?_eq_some_iff.1 h5).1).trans h5⟩
      clear h1 h2 h3 h4 h5 k1 k2 k3 hab hz hbd hxl hys hgb hgl hcells hcap hiter bo9 ho9 hg9 blr hlt hsw hs2 hs9 eg hrg hrow hA1 BO BL HG HO HR2 HB2 hNb hBl
      gi_wp2_with (first | (refine ⟨trivial, rfl, ?_⟩; gi_at_call 39; (with_reducible refine (CallsIn.inRound l (callsIn_wide.2 hrev)).mono ?_); rintro e W3 ⟨⟨v, rfl⟩, hR3, hg3⟩; have HR3 := Aside0.mk hR3; have HG3 := Aside0.mk hg3; clear hR3 hg3))
      have nb : ∀ b, b ≠ g → some b ≠ some g := fun b h e => h (by cases e; rfl)
      have hg1 := HGL.out
      refine And.intro (a := Lets _ Wa Wb _) (HN1.out _ HG3.out) ⟨K1.out.kept HG3.out (nb _ (by omega)), K2.out.kept HG3.out (nb _ (by omega)), ?_, ?_, (HG3.out.block _ (Array.getElem?_eq_some_iff.1 HKD.out).1 (nb _ (by have := HDB.out; omega))).trans HKD.out⟩
      · rw [HNX.out]
        exact HR3.out
      · refine HGW.out.trans ?_
        rw [HRG.out]
        exact HG3.out
    case stop1 =>
      intro D c pre W _ _ h _
      exact h.elim
    case done1 =>
      rintro D2 ys W4 hD2 rfl ⟨h1, h2, h3, h4, h5⟩ hK
      rw [turn_runs] at h3
      have HO := Aside0.mk h3
      have HG := Aside0.mk h4
      have HK2 := Aside0.mk hK
      have HK1 := Aside0.mk h5
      have HD2 : Aside0 (D < D2 ∧ b0 + 2 ≤ D2) := ⟨by have := HDW.out; have := HDB.out; omega⟩
      clear h1 h2 h3 h4 h5 hK hiter bo9 ho9 hg9 blr hD2 hrow hs9 hs2 hsw
      go_wp2
      rw [rounds_succ]
      have d3 : decide ((2 : Int) < ((2 : Nat) : Int)) = false := by decide
      go_wp2
      have h12 := HD2.out
      refine ⟨by simp, .inl ⟨_, _, rfl, run_takeDeferred HK2.out, ?_⟩⟩
      refine ⟨by simp, .inl ⟨_, _, rfl, run_takeDeferred ((World.putObj_heap_other (by omega)).trans HK1.out), ?_⟩⟩
      refine ⟨_, results_none rfl _ _ _, ?_⟩
      have g2 := grownBy_putObj' W4 D2 (.deferred none)
      have g1 := grownBy_putObj' (W4.putObj D2 (.deferred none)) D (.deferred none)
      have hdb := HDB.out
      refine ⟨⟨_, rfl⟩, ?_, ?_⟩
      · exact Kd.R_grown (Kd.R_grown HO.out g2 (fun k hk e => by cases e; omega)) g1 (fun k hk e => by cases e; omega)
      · rw [HROW.out]
        exact (HG.out.andThen g2 (fun j e => .inl (by cases e; omega))).andThen g1 (fun j e => .inl (by cases e; omega))

def bidi_Order.f (s : ByteArray) (dir : Int) : Option (List Int × Int) :=
  if s.size ≤ 140737488351232 then (if lineB s dir = true then some (order (levels dir (classes s)), 0) else some ([], 1)) else none
/-- What the loop has written. -/
def iotaTo (n i : Nat) : List Int := iota i ++ List.replicate (n - i) 0
theorem iotaTo_length (n i : Nat) (h : i ≤ n) : (iotaTo n i).length = n := by simp [iotaTo, iota_length]; omega
theorem iotaTo_succ (n i : Nat) (h : i < n) : iotaTo n (i + 1) = (iotaTo n i).set i (i : Int) := by
  unfold iotaTo
  rw [List.set_append_right _ _ (by rw [iota_length]; exact Nat.le_refl _), iota_length, Nat.sub_self, show n - i = (n - (i + 1)) + 1 by omega, List.replicate_succ, List.set_cons_zero, iota_app i 1]
  simp [iota]
theorem iotaTo_all (n : Nat) : iotaTo n n = iota n := by simp [iotaTo]
set_option maxRecDepth 100000 in
set_option maxHeartbeats 2000000 in
theorem bidi_Order.calls (a0 : ByteArray) (a1 : Int) (r1 : List Int) (r2 : Int) (w : World) (h : bidi_Order.f a0 a1 = some (r1, r2)) :
    Calls Try.prog 14 #[.string a0, .int .i64 a1] w fun e w' => ∃ v0_ : Value, e = .returned (.tuple #[v0_, .int .i64 r2]) ∧ Kd.R (Kd.int .i64) 3 w' w.heap.size (fun _ => True) v0_ r1 ∧ Below w.heap.size w w' := by
  unfold bidi_Order.f at h
  by_cases hs : a0.size ≤ 140737488351232
  case neg =>
    rw [if_neg hs] at h
    cases h
  rw [if_pos hs] at h
  cases hb : lineB a0 a1
  · rw [hb] at h
    obtain ⟨rfl, rfl⟩ : [] = r1 ∧ 1 = r2 := by simpa using h
    have hlev := fun W => bidi_Levels.calls a0 a1 [] 1 W (by unfold bidi_Levels.f; rw [if_pos hs, hb]; rfl)
    clear h hb hs
    go_enter Try.func14, Try.ntmps14
    go_wp2_with (first | (go_at_call 11; (with_reducible refine (hlev _).mono ?_); rintro e w1 ⟨v, rfl, hR, hb1⟩; have HB1 := Aside0.mk hb1; clear hb1 hR))
    refine bodyPost_ret (results_tmp2 rfl _ _ _) rfl ?_
    exact ⟨.slice none 0 0, rfl, Kd.R_nil _ _ _ _ _, HB1.out⟩
  · rw [hb, if_pos rfl] at h
    obtain ⟨rfl, rfl⟩ : order (levels a1 (classes a0)) = r1 ∧ 0 = r2 := by simpa using h
    have hlev := fun W => bidi_Levels.calls a0 a1 (levels a1 (classes a0)) 0 W (by unfold bidi_Levels.f; rw [if_pos hs, hb]; rfl)
    have hsz : a0.size ≤ 2000 := by
      unfold lineB validB at hb
      simp only [Bool.and_eq_true, decide_eq_true_eq] at hb
      exact hb.1.2
    have HS := Aside0.mk hsz
    obtain ⟨lev, hlv⟩ : ∃ lev, levels a1 (classes a0) = lev := ⟨_, rfl⟩
    have HLL : Aside0 (lev.length = a0.size) := ⟨by rw [← hlv, lv_len]⟩
    rw [hlv] at hlev ⊢
    clear h hb hs hlv hsz
    have hms : a0.size ≤ 9223372036854775807 := by have := HS.out; omega
    go_enter Try.func14, Try.ntmps14
    go_upto_region 5 with (first | (go_at_call 11; (with_reducible refine (hlev _).mono ?_); rintro e w1 ⟨v, rfl, hR, hb1⟩; obtain ⟨A2, c2, ev⟩ := Kd.R_slice hR; subst ev; have HR := Aside0.mk hR; have HB1 := Aside0.mk hb1; clear hR hb1) | ((with_reducible refine gate_dst (N := 21) rfl ?_); refine Kd.R_make (Kd.int .i64) (w0 := w1) w1.heap.size 3 rfl (N := 21) rfl 23 _ _ rfl (a0.size : Int) rfl rfl Try.underlying23 (.int .i64 0) 8 info3 rfl (by decide) (by omega) 0 (ok := fun _ => True) (okp := fun _ => True) rfl (fun _ hk => hk) trivial (by omega) (by have := HS.out; omega) (Below.refl _ _) (Nat.le_refl _) ?_; intro v1 w2 ho hb hg _; obtain ⟨A1, c1, e1⟩ := Kd.R_slice ho; simp only [Int.toNat_natCast, List.length_replicate] at e1 ho; subst e1; have HO1 := Aside0.mk ho; have HB2 := Aside0.mk hb; clear ho hb hg))
    clear hlev
    have HL2 := Aside0.mk (Kd.C_below (Kd.R_reads' HR.out).2.2 HB2.out)
    have HLT : Aside0 (∀ ad, A2 = some ad → 0 < lev.length → ad.block < w1.heap.size) := ⟨fun ad e h0 => by
      obtain ⟨ad', e', hx⟩ := Kd.at_int (Kd.R_reads' HR.out).2.2 0 (by omega) (by omega)
      rw [e] at e'
      cases e'
      have := World.block_lt_of_cell? _ _ hx
      rwa [add_block] at this⟩
    have HO : Aside0 (Kd.R (Kd.int .i64) 3 w2 w1.heap.size (fun _ => True) (.slice A1 a0.size c1) (iotaTo a0.size 0)) := ⟨by have := HO1.out; simpa [iotaTo, iota] using this⟩
    clear HR HO1
    go_wp2
    go_loopg [24] a0.size (fun kq v24 w' => ∃ i : Nat, v24 = .int .i64 (i : Int) ∧ Aside0 (kq + i = a0.size) ∧ Aside0 (Kd.R (Kd.int .i64) 3 w' w1.heap.size (fun _ => True) (.slice A1 a0.size c1) (iotaTo a0.size i)) ∧ Aside0 (Below w1.heap.size w1 w') ∧ Aside0 (Kd.C (Kd.int .i64) w' A2 lev.length lev))
    case atStart => exact ⟨0, rfl, ⟨rfl⟩, HO, HB2, HL2⟩
    case round =>
      clear HO HB2 HL2
      obtain ⟨i, rfl, HK, HO, HB2, HL2⟩ := hrel
      cases gk with
      | succ k1 =>
        have hi : i < a0.size := by have := HK.out; omega
        have d1 : decide ((i : Int) < (a0.size : Int)) = true := decide_eq_true (by omega)
        have p1 : (0 ≤ (i : Int)) = True := eq_true (by omega)
        have q1 : ((i : Int) < (a0.size : Int)) = True := eq_true (by omega)
        have hsum : IntKind.i64.wrap ((i : Int) + 1) = ((i + 1 : Nat) : Int) := IntWalk.i64_in _ (by have := HS.out; omega)
        have hsum2 : wrap64 ((i : Int) + 1) = ((i + 1 : Nat) : Int) := by have := HS.out; unfold wrap64; omega
        obtain ⟨g, cap, eg, hgb, hgl, cells, hcells⟩ := Kd.R_form HO.out (by rw [iotaTo_length a0.size i (by omega)]; omega)
        rw [iotaTo_length a0.size i (by omega)] at eg
        cases eg
        have hf := blk_frozen hcells i
        have hc := (Kd.R_celln 0 HO.out (i : Int) (by omega) (by omega)).1
        rw [Int.toNat_natCast] at hc
        obtain ⟨z, hz⟩ : ∃ z, rdOf 0 (iotaTo a0.size i) (i : Int) = z := ⟨_, rfl⟩
        rw [hz] at hc
        have hp := Kd.R_putg HO.out (i : Int) (i : Int)
        rw [Int.toNat_natCast] at hp
        have HP := Aside0.mk hp
        have HG := Aside0.mk hgb
        have HNX : Aside0 (iotaTo a0.size (i + 1) = (iotaTo a0.size i).set i (i : Int)) := ⟨iotaTo_succ a0.size i hi⟩
        clear hi hz hp hgb hgl hcells
        go_wp2
        go_roundg k1
        case measure => omega
        case rel => exact ⟨i + 1, by simp [hsum, hsum2], ⟨by have := HK.out; omega⟩, ⟨by rw [HNX.out]; exact HP.out.1⟩, ⟨HB2.out.setCell (p := ⟨g, i, none⟩) HG.out _⟩, ⟨C_grown HL2.out HP.out.2 (fun ad e h0 e2 => by have := HLT.out ad e h0; have := HG.out; injection e2 with e2; omega)⟩⟩
      | zero =>
        obtain rfl : i = a0.size := by have := HK.out; omega
        have d1 : decide ((a0.size : Int) < (a0.size : Int)) = false := by simp
        have hO := HO.out
        rw [iotaTo_all] at hO
        have HO := Aside0.mk hO
        clear hO
        have hturn : Calls Try.prog 28 #[.slice A1 a0.size c1, .slice A2 lev.length c2, .slice (some ⟨wr.heap.size, 0, none⟩) 2 2] (wr.alloc (.cells #[.int .i64 2, .int .i64 1] 3)) (TurnPost A1 c1 (iota a0.size) lev w1.heap.size (wr.alloc (.cells #[.int .i64 2, .int .i64 1] 3))) := by
          have hro : ∀ k, (Value.slice A1 (iota a0.size).length c1).ownBlock = some k → w1.heap.size ≤ k ∧ k < wr.heap.size := fun k e => by
            rw [iota_length] at e
            exact ⟨Kd.R_base HO.out k e, Kd.R_lt HO.out k e⟩
          have := turn28_calls A1 A2 wr.heap.size c1 c2 2 (iota a0.size) lev w1.heap.size (wr.alloc (.cells #[.int .i64 2, .int .i64 1] 3))
            (by rw [iota_length]; exact Kd.R_mono (R_upto (Kd.R_alloc HO.out _)) (fun k hk => hk.1)) (Kd.C_alloc HL2.out _)
            ⟨(blk_cell (blk_new wr (.cells #[.int .i64 2, .int .i64 1] 3)) 0).trans rfl, (blk_cell (blk_new wr (.cells #[.int .i64 2, .int .i64 1] 3)) 1).trans rfl⟩
            (by rw [iota_length]; have := HS.out; omega) (fun x hx => by rw [HLL.out]; exact iota_mem hx)
            (fun ad e h0 e2 => by have := HLT.out ad e h0; have := hro _ e2.symm; omega)
            (fun e2 => by have := hro _ e2.symm; omega)
          rwa [iota_length] at this
        have HE : Aside0 (turnL (high lev 1) [] (turnL (high lev 2) [] (iota a0.size)) = order lev) := ⟨by unfold order; rw [HLL.out]⟩
        go_wp2_with (first | (go_at_call 28; (with_reducible refine hturn.mono ?_); rintro e w4 ⟨⟨v, rfl⟩, hR4, hg4⟩; have HR4 := Aside0.mk hR4; have HG4 := Aside0.mk hg4; clear hR4 hg4))
        refine bodyPost_ret (results_tmp2 rfl _ _ _) rfl ?_
        have hb := HB1.out.size
        have hro : ∀ k, some k = (Value.slice A1 (iota a0.size).length c1).ownBlock → w1.heap.size ≤ k := fun k e => by
          rw [iota_length] at e
          exact Kd.R_base HO.out k e.symm
        refine ⟨_, rfl, ?_, ?_⟩
        · have h4 := HR4.out
          rw [HE.out, iota_length] at h4
          exact Kd.R_lower (Kd.R_mono h4 (fun _ _ => trivial)) hb
        · have hbw : Below w.heap.size w (wr.alloc (.cells #[.int .i64 2, .int .i64 1] 3)) := below_alloc (HB1.out.trans (HB2.out.mono hb)) _
          exact hbw.grown HG4.out hbw.size (fun k e => by have := hro k e.symm; omega)
end Go.Proofs.Ytdmfhabhcagioaa.P
