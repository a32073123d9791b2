/- For every booklet: each page from 1 to n is on it once, and up to 3 places are empty. Conditions: those of the statement alone. -/
import Derived.Test.YtbllpiboodlepaaHWhere
import Derived.Test.YtbllpiboodlepaaHPures
import Derived.Maps.OwnOps
set_option linter.unusedVariables false
set_option linter.unusedSimpArgs false
namespace Go.Proofs.Ytbllpiboodlepaa.Pure
open Go.RowKit Go.Proofs.Ytbllpiboodlepaa.P Go.Proofs.YtbllpiboodlepaaW.PrintWords Go.Proofs.YtbllpiboodlepaaW.PrintLast Go.Proofs.YtbllpiboodlepaaW.PrintMore
open Go.Maps (Keyed int_keyed keyOf_int_mk)

/-- How often a page is on faces. -/
def cnt (p : Int) : List S29 → Nat
  | [] => 0
  | f :: l => (if f.f2 = p then 1 else 0) + (if f.f3 = p then 1 else 0) + cnt p l
theorem cnt_snoc (p : Int) (f : S29) : ∀ l, cnt p (l ++ [f]) = cnt p l + (if f.f2 = p then 1 else 0) + (if f.f3 = p then 1 else 0)
  | [] => by simp [cnt]
  | g :: l => by simp [cnt, cnt_snoc p f l]; omega
theorem cnt_le (p : Int) : ∀ l, cnt p l ≤ 2 * l.length
  | [] => by simp [cnt]
  | g :: l => by have := cnt_le p l; simp only [cnt, List.length_cons]; split <;> split <;> omega
def Counts (D : DataW Unit) (l : List S29) : Prop := Go.Maps.IsMap D ∧ ∀ p : Int, D.atKey (.int .i64 p) (.lit (.int .i64 0)) = .lit (.int .i64 (cnt p l))
theorem Counts.made : Counts (.map []) [] := ⟨⟨_, rfl⟩, fun p => rfl⟩
theorem Counts.put {D : DataW Unit} {l : List S29} (h : Counts D l) (f : S29) (c1 c2 : Int) (e1 : c1 = cnt f.f2 l + 1) (e2 : (D.put (.int .i64 f.f2) (.lit (.int .i64 c1))).atKey (.int .i64 f.f3) (.lit (.int .i64 0)) = .lit (.int .i64 c2)) :
    Counts ((D.put (.int .i64 f.f2) (.lit (.int .i64 c1))).put (.int .i64 f.f3) (.lit (.int .i64 (c2 + 1)))) (l ++ [f]) := by
  have m1 : Go.Maps.IsMap (D.put (.int .i64 f.f2) (.lit (.int .i64 c1))) := by obtain ⟨es, rfl⟩ := h.1; exact ⟨_, rfl⟩
  have a1 : ∀ p, (D.put (.int .i64 f.f2) (.lit (.int .i64 c1))).atKey (.int .i64 p) (.lit (.int .i64 0)) = .lit (.int .i64 (cnt p l + (if f.f2 = p then 1 else 0) : Nat)) := fun p => by
    by_cases h2 : f.f2 = p
    · rw [if_pos h2, ← h2, Go.Maps.atKey_put_same h.1 (show WideAt.IsKeyLit (.int .i64 f.f2) from trivial), e1]; rfl
    · rw [if_neg h2, Go.Maps.atKey_put_other (by simpa using Ne.symm h2), h.2]; rfl
  refine ⟨by obtain ⟨es, hes⟩ := m1; rw [hes]; exact ⟨_, rfl⟩, fun p => ?_⟩
  rw [cnt_snoc]
  by_cases h3 : f.f3 = p
  · rw [if_pos h3, ← h3, Go.Maps.atKey_put_same m1 (show WideAt.IsKeyLit (.int .i64 f.f3) from trivial)]
    rw [a1] at e2
    injection e2 with e2
    injection e2 with _ e2
    rw [← e2]; simp
  · rw [if_neg h3, Go.Maps.atKey_put_other (by simpa using Ne.symm h3), a1]; rfl
theorem cnt_page (n : Int) (K p : Nat) (h0 : 0 ≤ n) (hK : (K : Int) = (n + 3) / 4) (hp : 1 ≤ p) (hpn : (p : Int) ≤ n) : ∀ m : Nat, m ≤ 2 * K →
    cnt (p : Int) ((List.range m).map (face n K)) = if (if p ≤ 2 * K then p - 1 else 4 * K - p) < m then 1 else 0
  | 0, _ => by simp [cnt]
  | m + 1, hm => by
    rw [List.range_succ, List.map_append, List.map_cons, List.map_nil, cnt_snoc, cnt_page n K p h0 hK hp hpn m (by omega)]
    have hf := face_cases n K m
    unfold clip at hf
    rcases hf with ⟨a, b, c, d, e⟩ | ⟨a, b, c, d, e⟩
    · rw [c, d]
      clear b c d e
      repeat' split
      all_goals omega
    · rw [c, d]
      clear b c d e
      repeat' split
      all_goals omega
theorem cnt_none (n : Int) (K : Nat) (h0 : 0 ≤ n) (hK : (K : Int) = (n + 3) / 4) : ∀ m : Nat, m ≤ 2 * K →
    ((cnt 0 ((List.range m).map (face n K)) : Nat) : Int) = (if n < m then m - n else 0) + (if (m : Int) < 4 * K - n then (m : Int) else 4 * K - n)
  | 0, _ => by
    simp only [List.range_zero, List.map_nil, cnt]
    repeat' split
    all_goals omega
  | m + 1, hm => by
    have IH := cnt_none n K h0 hK m (by omega)
    rw [List.range_succ, List.map_append, List.map_cons, List.map_nil, cnt_snoc]
    have hf := face_cases n K m
    unfold clip at hf
    rcases hf with ⟨a, b, c, d, e⟩ | ⟨a, b, c, d, e⟩
    · rw [c, d]
      clear b c d e
      push_cast
      revert IH
      repeat' split
      all_goals (intro IH; omega)
    · rw [c, d]
      clear b c d e
      push_cast
      revert IH
      repeat' split
      all_goals (intro IH; omega)
theorem cnt_faces (n : Int) (K p : Nat) (h0 : 0 ≤ n) (hK : (K : Int) = (n + 3) / 4) (hp : 1 ≤ p) (hpn : (p : Int) ≤ n) : cnt (p : Int) (faces n K) = 1 := by
  rw [faces, cnt_page n K p h0 hK hp hpn _ (Nat.le_refl _)]
  split <;> split <;> omega
theorem cnt_empty (n : Int) (K : Nat) (h0 : 0 ≤ n) (hK : (K : Int) = (n + 3) / 4) : ((cnt 0 (faces n K) : Nat) : Int) = 4 * K - n := by
  rw [faces, cnt_none n K h0 hK _ (Nat.le_refl _)]
  repeat' split
  all_goals omega

end Go.Proofs.Ytbllpiboodlepaa.Pure
namespace Go.Proofs.Ytbllpiboodlepaa.P
open Go.RowKit Go.Proofs.YtbllpiboodlepaaW.PrintWords Go.Proofs.YtbllpiboodlepaaW.PrintLast Go.Proofs.YtbllpiboodlepaaW.PrintMore Go.Proofs.Ytbllpiboodlepaa.Pure
theorem headC (w : World) : Calls Try.prog 10 #[] w fun e w' => e = .returned (.bool true) ∧ Below w.heap.size w w' := by
  obtain ⟨k, hk⟩ := Ev.rounds head_ev
  exact formelaw42_head.calls k true w hk
theorem facesC (n : Int) (K : Nat) (w : World) (h0 : 0 ≤ n) (h1 : n ≤ 500) (hK : (K : Int) = (n + 3) / 4) : Calls Try.prog 19 #[.int .i64 n] w fun e w' => ∃ v0_ : Value, e = .returned (.tuple #[v0_, .bool true, .bool true]) ∧ Kd.R k29 29 w' w.heap.size (fun _ => True) v0_ (faces n K) ∧ Below w.heap.size w w' :=
  formelaw42_faces.calls n _ true true w (law_faces n K h0 h1 hK)
theorem noneC (n : Int) (w : World) (h0 : n < 0 ∨ 500 < n) : Calls Try.prog 19 #[.int .i64 n] w fun e w' => ∃ v0_ : Value, e = .returned (.tuple #[v0_, .bool false, .bool true]) ∧ Kd.R k29 29 w' w.heap.size (fun _ => True) v0_ [] ∧ Below w.heap.size w w' :=
  formelaw42_faces.calls n _ false true w (law_none n h0)
theorem faces_wf (n : Int) (K : Nat) (h0 : 0 ≤ n) (h1 : n ≤ 500) (hK : (K : Int) = (n + 3) / 4) : ∀ f ∈ faces n K, (Lit.int .i64 f.f2).wf = true ∧ (Lit.int .i64 f.f3).wf = true := by
  intro f hf
  refine wf_pairs n (by omega) K K (Nat.le_refl _) (by omega) f ?_
  rw [pairs_faces]
  exact hf
open Go.Maps (Keyed int_keyed keyOf_int_mk)
attribute [local go_sem] Oper.semAt_some
theorem wf_i64 (a : Int) (h0 : -9223372036854775808 ≤ a) (h1 : a ≤ 9223372036854775807) : (Lit.int .i64 a).wf = true := by
  have m1 : IntKind.i64.min = -9223372036854775808 := by decide +kernel
  have m2 : IntKind.i64.max = 9223372036854775807 := by decide +kernel
  simp [Lit.wf, m1, m2]; omega
theorem um39 : Try.prog.underlying 39 = some (.map 3 3) := by kernel_rfl
theorem i3 : (Try.prog.info? 3).map (fun i => (i.zero, i.size, i.bytes)) = some (some (.int .i64 0), 1, 8) := by kernel_rfl
theorem z3 (w : World) : (zeroValue 3).run Try.prog w = .ok (.int .i64 0) w := by
  obtain ⟨i, hi, h1, _, _⟩ := info_parts i3
  simp [zeroValue, typeInfo, hi, h1]
/-- What a page's count is. -/
theorem look_cnt {w : World} {b n : Nat} {D : DataW Unit} {l : List S29} (h : w.ownsMap Try.prog 3 (plainElem Try.prog 3) b n D) (hs : Counts D l) {p : Int} (hp : (Lit.int .i64 p).wf = true) :
    (Instr.lookup 39 (.map (some b)) (.int .i64 p) false).run Try.prog w = .ok (.int .i64 (cnt p l)) w := by
  obtain ⟨c, hrun, hat, hwc⟩ := h.lookup_int keyed3 um39 Try.underlying3 (z3 w) (keyOf_int_mk Try.underlying3 hp)
  rw [hs.2] at hat
  injection hat with hat
  injection hat with _ hat
  rw [hrun, ← hat]
set_option maxRecDepth 100000 in
set_option maxHeartbeats 4000000 in
theorem formelaw42_ImposeOnce.walk (a0 : Int) (w : World) (w0 : (Lit.int .i64 a0).wf = true) :
    Calls Try.prog 4 #[.int .i64 a0] w fun e w' => e = .returned (.bool true) ∧ Below w.heap.size w w' := by
  have HB := Aside0.mk (Below.refl w.heap.size w)
  by_cases hn : 0 ≤ a0 ∧ a0 ≤ 500
  · obtain ⟨K, hK⟩ : ∃ K : Nat, (K : Int) = (a0 + 3) / 4 := ⟨((a0 + 3) / 4).toNat, by omega⟩
    obtain ⟨l, hl⟩ : ∃ l, l = faces a0 K := ⟨_, rfl⟩
    have hlen : l.length = 2 * K := by rw [hl, faces_length]
    have hK2 : K ≤ 125 := by omega
    have hc1 : ∀ p : Nat, 1 ≤ p → (p : Int) ≤ a0 → cnt (p : Int) l = 1 := fun p h1 h2 => by rw [hl]; exact cnt_faces a0 K p hn.1 hK h1 h2
    have hc0 : ((cnt 0 l : Nat) : Int) = 4 * K - a0 := by rw [hl]; exact cnt_empty a0 K hn.1 hK
    have hwf : ∀ f ∈ l, (Lit.int .i64 f.f2).wf = true ∧ (Lit.int .i64 f.f3).wf = true := by rw [hl]; exact faces_wf a0 K hn.1 hn.2 hK
    have hfc : ∀ w : World, Calls Try.prog 19 #[.int .i64 a0] w fun e w' => ∃ v0_ : Value, e = .returned (.tuple #[v0_, .bool true, .bool true]) ∧ Kd.R k29 29 w' w.heap.size (fun _ => True) v0_ l ∧ Below w.heap.size w w' := fun w => by rw [hl]; exact facesC a0 K w hn.1 hn.2 hK
    have HF := Aside0.mk hfc
    have HC1 := Aside0.mk hc1
    have HC0 := Aside0.mk hc0
    have HLN : Aside0 (l.length ≤ 250 ∧ ∀ f ∈ l, (Lit.int .i64 f.f2).wf = true ∧ (Lit.int .i64 f.f3).wf = true) := ⟨by omega, hwf⟩
    have HLK := Aside0.mk hlen
    have HN := Aside0.mk hn
    have HKK := Aside0.mk hK
    clear hfc hc1 hc0 hwf hlen hK2 hl hn hK
    have hmm : ∀ w, (Instr.makeMap 39 none).run Try.prog w = .ok (.map (some w.heap.size)) (w.alloc (.map #[] 0)) := fun w => run_makeMap 39 w
    go_enter Try.func4, Try.ntmps4
    go_upto_region 6 with (first | (go_at_call 10; with_reducible refine (headC _).mono ?_; rintro e w1 ⟨rfl, hb⟩; have HB1 := Aside0.mk hb; clear hb) | (go_at_call 19; with_reducible refine (HF.out _).mono ?_; rintro e w2 ⟨v2, rfl, ho0, hb⟩; have HL := Aside0.mk ho0; have HB2 := Aside0.mk hb; clear ho0 hb; obtain ⟨A1, c1, e1⟩ := Kd.R_slice HL.out; subst e1))
    have HW1 : Aside0 (w.heap.size ≤ w2.heap.size) := ⟨Nat.le_trans HB1.out.size HB2.out.size⟩
    have HR : Aside0 (Kd.R k29 29 (w2.alloc (.map #[] 0)) w.heap.size (fun k => True ∧ k ≠ w2.heap.size) (.slice A1 l.length c1) l) := ⟨Kd.R_alloc (Kd.R_elderB (Kd.R_lower HL.out HB1.out.size) _ (Nat.le_refl _)) _⟩
    have HBm : Aside0 (Below w.heap.size w (w2.alloc (.map #[] 0))) := ⟨(HB1.out.trans (HB2.out.mono HB1.out.size)).alloc HW1.out _⟩
    have HM : Aside0 ((w2.alloc (.map #[] 0)).ownsMap Try.prog 3 (plainElem (H := Unit) Try.prog 3) w2.heap.size 0 (.map [])) := ⟨World.ownsMap_made w2 _ _ _⟩
    clear HB HB1 HB2 HL
    go_wp2
    go_loopg [31] l.length (fun kq v31 w' => ∃ (j : Nat) (D : DataW Unit), v31 = .int .i64 j ∧ Aside0 (kq + j = l.length) ∧ Aside0 (Counts D (l.take j)) ∧ Aside0 (w'.ownsMap Try.prog 3 (plainElem (H := Unit) Try.prog 3) w2.heap.size (2 * j) D) ∧ Aside0 (Kd.R k29 29 w' w.heap.size (fun k => True ∧ k ≠ w2.heap.size) (.slice A1 l.length c1) l) ∧ Aside0 (Below w.heap.size w w'))
    case atStart => exact ⟨0, _, rfl, ⟨rfl⟩, ⟨Counts.made⟩, HM, HR, HBm⟩
    case round =>
      clear HM HR HBm
      obtain ⟨j, D, rfl, HK, HS, HM, HR, HB⟩ := hrel
      cases gk with
      | zero =>
        have hjl : j = l.length := by have := HK.out; omega
        subst hjl
        have c1b : decide ((l.length : Int) < (l.length : Int)) = false := by simp
        have hS := HS.out
        rw [List.take_length] at hS
        have HS2 := Aside0.mk hS
        clear hS HS HR HK
        go_wp2
        go_loopg [3, 10] a0.toNat (fun kq v3 v10 w' => ∃ p : Nat, v3 = .bool true ∧ v10 = .int .i64 (p : Int) ∧ Aside0 ((kq : Int) + p = a0 + 1) ∧ Aside0 (1 ≤ p) ∧ Aside0 (wr = w'))
        case atStart => exact ⟨1, rfl, rfl, ⟨by have := HN.out.1; omega⟩, ⟨by omega⟩, ⟨rfl⟩⟩
        case round =>
          obtain ⟨p, rfl, rfl, HP, HP1, ⟨rfl⟩⟩ := hrel
          cases gk with
          | zero =>
            have d1 : decide ((p : Int) ≤ a0) = false := by have := HP.out; simp; omega
            obtain ⟨c0, hc0⟩ : ∃ c0 : Int, ((cnt 0 l : Nat) : Int) = c0 := ⟨_, rfl⟩
            have hk0 := look_cnt HM.out HS2.out (p := 0) (by decide)
            rw [hc0] at hk0
            have e0 := HC0.out
            rw [hc0] at e0
            have b0 : c0 = 4 * K - a0 := e0
            have b1 : 0 ≤ c0 ∧ c0 ≤ 3 := by have := HKK.out; have := HN.out; omega
            have d2 : decide (c0 ≤ 3) = true := by simp; omega
            have s1 : IntKind.i64.wrap (c0 + a0) = c0 + a0 := IntWalk.i64_in _ (by have := HN.out; omega)
            have s1b : wrap64 (c0 + a0) = c0 + a0 := by have := HN.out; unfold wrap64; omega
            have s2 : IntKind.i64.wrap (2 * (l.length : Int)) = 2 * (l.length : Int) := IntWalk.i64_in _ (by have := HLN.out.1; omega)
            have s2b : wrap64 (2 * (l.length : Int)) = 2 * (l.length : Int) := by have := HLN.out.1; unfold wrap64; omega
            have s3 : (c0 + a0 == 2 * (l.length : Int)) = true := by have := HLK.out; simp; omega
            have s4 : c0 + a0 = 2 * (l.length : Int) := by have := HLK.out; omega
            clear b0 b1 e0 hc0
            go_wp2
            go_ret
            exact ⟨rfl, HB.out⟩
          | succ k1 =>
            have d1 : decide ((p : Int) ≤ a0) = true := by have := HP.out; simp; omega
            have hk0 := look_cnt HM.out HS2.out (p := (p : Int)) (by have := HP.out; have := HN.out; exact wf_i64 _ (by omega) (by omega))
            rw [HC1.out p HP1.out (by have := HP.out; omega)] at hk0
            have hk1 : (Instr.lookup 39 (.map (some w2.heap.size)) (.int .i64 (p : Int)) false).run Try.prog wr = .ok (.int .i64 1) wr := hk0
            have hsum : IntKind.i64.wrap ((p : Int) + 1) = ((p + 1 : Nat) : Int) := by have := HP.out; have := HN.out; exact IntWalk.i64_in _ (by omega)
            have hsum2 : wrap64 ((p : Int) + 1) = ((p + 1 : Nat) : Int) := by have := HP.out; have := HN.out; unfold wrap64; omega
            clear hk0
            go_wp2
            go_roundg k1
            case measure => omega
            case rel => exact ⟨p + 1, by first | rfl | simp, by first | rfl | simp [hsum, hsum2], ⟨by have := HP.out; omega⟩, ⟨by omega⟩, ⟨rfl⟩⟩
      | succ k1 =>
        have hj : j < l.length := by have := HK.out; omega
        have p1 : 0 ≤ (j : Int) := by omega
        have q1 : (j : Int) < (l.length : Int) := by omega
        have c1b : decide ((j : Int) < (l.length : Int)) = true := decide_eq_true q1
        have hsum : IntKind.i64.wrap ((j : Int) + 1) = ((j + 1 : Nat) : Int) := by have := HLN.out.1; exact IntWalk.i64_in _ (by omega)
        have hsum2 : wrap64 ((j : Int) + 1) = ((j + 1 : Nat) : Int) := by have := HLN.out.1; unfold wrap64; omega
        obtain ⟨ad, ead, hx0, hx1, hx2, hx3⟩ := at_T29 (Kd.R_reads' HR.out).2.2 (j : Int) p1 q1
        cases ead
        obtain ⟨f, hf⟩ : ∃ f, rd_T29 l (j : Int) = f := ⟨_, rfl⟩
        rw [hf] at hx0 hx1 hx2 hx3
        simp only [Int.toNat_natCast] at hx0 hx1 hx2 hx3
        have HFF := Aside0.mk hf
        have HWF : Aside0 ((Lit.int .i64 f.f2).wf = true ∧ (Lit.int .i64 f.f3).wf = true) := ⟨HLN.out.2 f (by rw [← hf]; simp [rd_T29, List.getD_eq_getElem?_getD, List.getElem?_eq_getElem hj])⟩
        clear hf
        have HJ := Aside0.mk hj
        replace p1 := eq_true p1
        replace q1 := eq_true q1
        go_upto_region 9 with (first | ((with_reducible refine gate_dst (N := 9) rfl ?_); refine box_event ?hg (N := 9) ?hd (cs := #[.int .i64 0, .bool false, .int .i64 0, .int .i64 0]) (t := 29) ?hr ?_; (case hd => rfl); (case hg => rfl); (case hr => first | (go_simp; done) | (go_simp; rfl)); intro gb hg w4 hbox hb; have BX := Aside0.mk hbox; have HB2 := Aside0.mk hb; have HG := Aside0.mk hg; clear hbox hb hg; have hz0 : w4.cell? ⟨gb, 0, none⟩ = some (.int .i64 0) := (blk_cell BX.out 0).trans rfl; have hz1 : w4.cell? ⟨gb, 1, none⟩ = some (.bool false) := (blk_cell BX.out 1).trans rfl; have hz2 : w4.cell? ⟨gb, 2, none⟩ = some (.int .i64 0) := (blk_cell BX.out 2).trans rfl; have hz3 : w4.cell? ⟨gb, 3, none⟩ = some (.int .i64 0) := (blk_cell BX.out 3).trans rfl; have hf0 := blk_frozen BX.out 0; have hf1 := blk_frozen BX.out 1; have hf2 := blk_frozen BX.out 2; have hf3 := blk_frozen BX.out 3))
        obtain ⟨W3, hW3⟩ : ∃ W3, ((((w4.setCell ⟨gb, 0, none⟩ (.int .i64 f.f0)).setCell ⟨gb, 1, none⟩ (.bool f.f1)).setCell ⟨gb, 2, none⟩ (.int .i64 f.f2)).setCell ⟨gb, 3, none⟩ (.int .i64 f.f3)) = W3 := ⟨_, rfl⟩
        have hgw := HG.out
        have hwr : w.heap.size ≤ wr.heap.size := HB.out.size
        have hbl0 : Below wr.heap.size wr W3 := by rw [← hW3]; exact below4 HB2.out (by omega) _ _ _ _
        have BB := Aside0.mk (by rw [← hW3]; exact four BX.out _ _ _ _ : W3.heap[gb]? = some (.cells #[.int .i64 f.f0, .bool f.f1, .int .i64 f.f2, .int .i64 f.f3] 29 (0, 0)))
        have HM3 := Aside0.mk (ownsMap_heap HM.out (hbl0.block _ HM.out.lt))
        have HR3 := Aside0.mk (Kd.R_below HR.out hbl0)
        have HB3 := Aside0.mk (HB.out.trans (hbl0.mono hwr))
        have HNE : Aside0 (w2.heap.size ≠ gb) := ⟨by have := HM.out.lt; omega⟩
        rw [hW3]
        clear hW3 HM HR HB BX HB2 hbl0 hz0 hz1 hz2 hz3 hf0 hf1 hf2 hf3 hgw
        have hk1 := look_cnt HM3.out HS.out (p := f.f2) HWF.out.1
        have hy2 : W3.cell? ⟨gb, 2, none⟩ = some (.int .i64 f.f2) := (blk_cell BB.out 2).trans rfl
        have hcn : cnt f.f2 (l.take j) ≤ 500 := by have h1 := cnt_le f.f2 (l.take j); have h2 := HLN.out.1; have h3 : (l.take j).length ≤ l.length := List.length_take_le' _ _; omega
        obtain ⟨c1, hc1⟩ : ∃ c1 : Int, ((cnt f.f2 (l.take j) : Nat) : Int) + 1 = c1 := ⟨_, rfl⟩
        have hs1 : IntKind.i64.wrap (((cnt f.f2 (l.take j) : Nat) : Int) + 1) = c1 := by rw [← hc1]; exact IntWalk.i64_in _ (by omega)
        have hs1b : wrap64 (((cnt f.f2 (l.take j) : Nat) : Int) + 1) = c1 := by rw [← hc1]; unfold wrap64; omega
        have hw1 : (Lit.int .i64 c1).wf = true := by rw [← hc1]; exact wf_i64 _ (by omega) (by omega)
        obtain ⟨w26, hrun1, hM1, hg1⟩ := HM3.out.update keyed3 um39 (by have := HLN.out.1; have := HJ.out; simp [maxLen]; omega) (keyOf_int_mk Try.underlying3 (a := f.f2) HWF.out.1) (plainElem_int Try.underlying3 hw1)
        have BX1 := grown_cell BB.out hg1 (Ne.symm HNE.out)
        obtain ⟨c2, hrun2, hat2, hw2⟩ := hM1.lookup_int keyed3 um39 Try.underlying3 (z3 w26) (keyOf_int_mk Try.underlying3 (a := f.f3) HWF.out.2)
        have hc2 : 0 ≤ c2 ∧ c2 ≤ 1000 := by
          have a1 : (D.put (.int .i64 f.f2) (.lit (.int .i64 c1))).atKey (.int .i64 f.f3) (.lit (.int .i64 0)) = .lit (.int .i64 c2) := hat2
          by_cases h2 : f.f2 = f.f3
          · rw [← h2, Go.Maps.atKey_put_same HS.out.1 (show WideAt.IsKeyLit (.int .i64 f.f2) from trivial)] at a1
            injection a1 with a1
            injection a1 with _ a1
            omega
          · rw [Go.Maps.atKey_put_other (by simpa using Ne.symm h2), HS.out.2] at a1
            injection a1 with a1
            injection a1 with _ a1
            have h1 := cnt_le f.f3 (l.take j)
            have h2 := HLN.out.1
            have h3 : (l.take j).length ≤ l.length := List.length_take_le' _ _
            omega
        have HA2 := Aside0.mk hat2
        clear hat2
        have hs2 : IntKind.i64.wrap (c2 + 1) = c2 + 1 := IntWalk.i64_in _ (by omega)
        have hs2b : wrap64 (c2 + 1) = c2 + 1 := by unfold wrap64; omega
        obtain ⟨w27, hrun3, hM2, hg2⟩ := hM1.update keyed3 um39 (by have := HLN.out.1; have := HJ.out; simp [maxLen]; omega) (keyOf_int_mk Try.underlying3 (a := f.f3) HWF.out.2) (plainElem_int (a := c2 + 1) Try.underlying3 (wf_i64 _ (by omega) (by omega)))
        have hy3 : w26.cell? ⟨gb, 3, none⟩ = some (.int .i64 f.f3) := (blk_cell BX1 3).trans rfl
        have HM2 := Aside0.mk hM2
        have HG1 := Aside0.mk hg1
        have HG2 := Aside0.mk hg2
        have HC1e := Aside0.mk hc1
        clear hM2 hg1 hg2 hM1 BX1 hc2 hcn hw1 hw2 hc1
        go_wp2
        go_roundg k1
        case measure => omega
        case rel =>
          refine ⟨j + 1, _, by first | rfl | simp [hsum], ⟨by have := HK.out; omega⟩, ⟨?_⟩, ⟨World.ownsMap.mono HM2.out (by omega)⟩, ⟨?_⟩, ⟨?_⟩⟩
          · have hs := HS.out.put f c1 c2 HC1e.out.symm HA2.out
            rwa [List.take_succ_eq_append_getElem HJ.out, show l[j]'HJ.out = f by rw [← HFF.out]; simp [rd_T29, List.getD_eq_getElem?_getD, List.getElem?_eq_getElem HJ.out]]
          · exact r_map (r_map HR3.out HG1.out (fun k hk => hk.2)) HG2.out (fun k hk => hk.2)
          · exact (HB3.out.grown HG1.out HB3.out.size (fun k e => by cases e; have := HW1.out; omega)).grown HG2.out (by have := HB3.out.size; have := HG1.out.size; omega) (fun k e => by cases e; have := HW1.out; omega)
  · obtain ⟨hno⟩ : Aside0 (a0 < 0 ∨ 500 < a0) := ⟨by omega⟩
    have HNO := Aside0.mk hno
    clear hno hn
    go_enter Try.func4, Try.ntmps4
    go_wp2_with (first | (go_at_call 10; with_reducible refine (headC _).mono ?_; rintro e w1 ⟨rfl, hb⟩; have HB1 := Aside0.mk hb; clear hb) | (go_at_call 19; with_reducible refine (noneC _ _ HNO.out).mono ?_; rintro e w2 ⟨v2, rfl, ho0, hb⟩; have HB2 := Aside0.mk hb; clear ho0 hb))
    go_ret
    exact ⟨rfl, HB1.out.trans (HB2.out.mono HB1.out.size)⟩
end Go.Proofs.Ytbllpiboodlepaa.P
