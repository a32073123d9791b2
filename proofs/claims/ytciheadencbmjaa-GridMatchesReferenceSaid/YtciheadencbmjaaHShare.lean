import Derived.Test.YtciheadencbmjaaHShareP
import Derived.Test.YtciheadencbmjaaHDeal
import Derived.WalkMore
import Derived.Maps.OwnOps
import Derived.Maps.OwnSet
import Derived.Maps.RangeWalk
set_option linter.unusedVariables false
set_option linter.unusedSimpArgs false
namespace Go.Proofs.Ytciheadencbmjaa.P
open Go.RowKit Go.Proofs.YtciheadencbmjaaW.PrintWords Go.Proofs.YtciheadencbmjaaW.PrintLast Go.Proofs.YtciheadencbmjaaW.PrintMore
open Go.Maps (Keyed int_keyed keyOf_int_mk Tidy has size)
attribute [local go_sem] Oper.semAt_some

def leftN (l : List S64) (space gap : Int) : Int := mx 0 (space - gap * ((l.length : Int) - 1) - (l.map (·.f0)).sum)
def Share (l : List S64) (a1 a2 : Int) : Option (Nat → Int) := rounds l (l.length + 1) (fun i => decide (i < l.length) && decide (0 < (tk l i).f1)) (leftN l a1 a2) (grown l (fun i => decide (i < l.length) && decide (0 < (tk l i).f1)) l.length) (fun i => (tk l i).f0)
def tracks_Share.f (l0 : List S64) (a1 a2 : Int) : Option (List Int × Int) :=
 if (inside (l0.length : Int) 1 64 && !l0.any wrongW) = true ∧ inside a1 0 1000000 = true ∧ inside a2 0 100000 = true then (Share l0 a1 a2).map (fun w => (tab l0.length w, 0)) else some ([], 1)

theorem wf_i64 (a : Int) (h0 : -9223372036854775808 ≤ a) (h1 : a ≤ 9223372036854775807) : (Lit.int .i64 a).wf = true := by
 have m1 : IntKind.i64.min = -9223372036854775808 := by decide +kernel
 have m2 : IntKind.i64.max = 9223372036854775807 := by decide +kernel
 simp [Lit.wf, m1, m2]; omega
theorem um44 : Try.prog.underlying 69 = some (.map 3 4) := by kernel_rfl
theorem um48 : Try.prog.underlying 58 = some (.map 3 3) := by kernel_rfl
theorem i3z : (Try.prog.info? 3).map (fun i => (i.zero, i.size, i.bytes)) = some (some (.int .i64 0), 1, 8) := by kernel_rfl
theorem i4z : (Try.prog.info? 4).map (fun i => (i.zero, i.size, i.bytes)) = some (some (.bool false), 1, 1) := by kernel_rfl
theorem z3 (w : World) : (zeroValue 3).run Try.prog w = .ok (.int .i64 0) w := by
 obtain ⟨i, hi, h1, _, _⟩ := info_parts i3z
 simp [zeroValue, typeInfo, hi, h1]
theorem z4 (w : World) : (zeroValue 4).run Try.prog w = .ok (.bool false) w := by
 obtain ⟨i, hi, h1, _, _⟩ := info_parts i4z
 simp [zeroValue, typeInfo, hi, h1]
theorem keyed3 : Keyed Try.prog 3 := int_keyed Try.underlying3
theorem left_loop (l : List S64) (hl : l.length ≤ 64) (hb : ∀ i, i < l.length → 0 ≤ (tk l i).f0 ∧ (tk l i).f0 ≤ 1000000) : ∀ (d i : Nat) (x : Int), i + d = l.length → (1000000 * ((l.length : Int) - i) - 100000000000 ≤ x) → x ≤ 100000000000 →
  Ev (fun k => tracks_left.l0 k x l (l.length : Int) (i : Int)) (mx 0 (x - ((l.drop i).map (·.f0)).sum))
 | 0, i, x, h, h1, h2 => by
  refine EvT.succ (fun k => rfl) (EvT.ifn (by omega) (EvT.now ?_))
  rw [List.drop_eq_nil_of_le (by omega)]
  simp
 | d + 1, i, x, h, h1, h2 => by
  have hi : i < l.length := by omega
  have b := hb i hi
  have e1 : l.drop i = tk l i :: l.drop (i + 1) := by
   rw [List.drop_eq_getElem_cons hi]
   congr 1
   simp [tk, rd_T64, List.getD_eq_getElem?_getD, List.getElem?_eq_getElem hi]
  have IH := left_loop l hl hb d (i + 1) (x - (tk l i).f0) (by omega) (by push_cast; omega) (by omega)
  refine EvT.succ (fun k => rfl) (EvT.ifp (by omega) (EvT.ifp (by omega) (EvT.ifp (by omega) ?_)))
  rw [show wrap64 ((i : Int) + 1) = ((i + 1 : Nat) : Int) from EvT.w64 (by omega) (by omega)]
  rw [show rd_T64 l (i : Int) = tk l i from rfl, EvT.w64 (by omega) (by omega), e1]
  rw [List.map_cons, List.sum_cons, show x - ((tk l i).f0 + ((l.drop (i + 1)).map (·.f0)).sum) = x - (tk l i).f0 - ((l.drop (i + 1)).map (·.f0)).sum by omega]
  exact IH
theorem left_ev (l : List S64) (ok : OkL l) (a1 a2 : Int) (h1 : 0 ≤ a1 ∧ a1 ≤ 1000000) (h2 : 0 ≤ a2 ∧ a2 ≤ 100000) : Ev (fun k => tracks_left.f k l a1 a2) (leftN l a1 a2) := by
 have n1 := ok.n1
 have n2 := ok.n64
 obtain ⟨m, hm⟩ : ∃ m : Int, (l.length : Int) - 1 = m := ⟨_, rfl⟩
 have hm1 : 0 ≤ m ∧ m ≤ 63 := by omega
 have hp : 0 ≤ a2 * m ∧ a2 * m ≤ 6300000 := by
  refine ⟨Int.mul_nonneg h2.1 hm1.1, ?_⟩
  have := Int.mul_le_mul h2.2 hm1.2 hm1.1 (by omega)
  omega
 have := left_loop l n2 (fun i hi => ⟨(ok.bd i hi).1, (ok.bd i hi).2.1⟩) l.length 0 (a1 - a2 * m) (by omega) (by omega) (by omega)
 unfold tracks_left.f leftN
 rw [hm, EvT.w64 (x := m) (by omega) (by omega), EvT.w64 (x := a2 * m) (by omega) (by omega), EvT.w64 (by omega) (by omega)]
 simpa using this
theorem three {w : World} {g : Nat} {t : TypeId} {a b c : Value} (h : w.heap[g]? = some (.cells #[a, b, c] t (0, 0))) (a' b' c' : Value) :
  (((w.setCell ⟨g, 0, none⟩ a').setCell ⟨g, 1, none⟩ b').setCell ⟨g, 2, none⟩ c').heap[g]? = some (.cells #[a', b', c'] t (0, 0)) :=
 blk_put (blk_put (blk_put h 0 a' rfl) 1 b' rfl) 2 c' rfl
theorem below3 {w W : World} {g n : Nat} (h : Below n w W) (hg : n ≤ g) (a' b' c' : Value) :
  Below n w (((W.setCell ⟨g, 0, none⟩ a').setCell ⟨g, 1, none⟩ b').setCell ⟨g, 2, none⟩ c') := ((h.setCell hg _).setCell hg _).setCell hg _
theorem ownsMap_heap {H : Type} {P : Program} {k : TypeId} {R : Value → Option (DataW H × List MemPlace)} {w w' : World} {b n : Nat} {D : DataW H} (h : w.ownsMap P k R b n D) (e : w'.heap[b]? = w.heap[b]?) : w'.ownsMap P k R b n D := by
 obtain ⟨es, clock, hb, rest⟩ := h
 exact ⟨es, clock, e.trans hb, rest⟩
theorem r_map {α : Type} {d : Kd α} {e : TypeId} {w w1 : World} {base b : Nat} {ok : Nat → Prop} {v : Value} {xs : List α} (h : d.R e w base ok v xs) (hg : w.grownBy w1 (some b)) (hok : ∀ k, ok k → k ≠ b) : d.R e w1 base ok v xs :=
 Kd.R_step h (fun k ho hk => hg.block k hk (by simpa using hok k ho))
theorem grown_cell {w w1 : World} {b g : Nat} {o : Obj} (h : w.heap[g]? = some o) (hg : w.grownBy w1 (some b)) (hne : g ≠ b) : w1.heap[g]? = some o := blk_grown h hg (by simpa using hne)
theorem map_step {P : Program} {ops : Array Oper} {o : Oper} {a : Act} {W W1 : World} {Kc : Act → World → Prop} {Q : Exit → Act → World → Prop} {N : Option Tmp} (hw : Region.wanted o (yielded ops a.tmps) = true) (m x v : Operand) (t : TypeId) (hop : o.op = Op.mapUpdate t m x v)
  (mv key val : Value) (hm : a.eval m = mv) (hx : a.eval x = key) (hv : a.eval v = val) (hrun : (Instr.mapUpdate t mv key val).run P W = .ok () W1) (hd : o.dst = N) (h : Kc (a.put N undef) W1) : if Region.wanted o (yielded ops a.tmps) = true then Oper.wp P o a W Kc Q else Kc (a.put N undef) W := by
 subst hd
 rw [if_pos hw]
 unfold Oper.wp
 simp [execOp, hop, hm, hx, hv, hrun, Result.andThen]
 exact h
/-- A cell of a row of whole numbers: what a store into it wants. -/
theorem row_at {W : World} {base g n cap : Nat} {ok : Nat → Prop} {xs : List Int} (h : Kd.R (Kd.int .i64) 3 W base ok (.slice (some ⟨g, 0, none⟩) n cap) xs) (hn : xs.length = n) (j : Nat) (hj : j < n) :
  W.cell? ⟨g, j, none⟩ = some (.int .i64 (rd xs (j : Int))) ∧ W.frozen? ⟨g, j, none⟩ = false ∧ g < W.heap.size ∧ base ≤ g := by
 subst hn
 obtain ⟨b2, eb2, hx2⟩ := Kd.at_int (Kd.R_reads' h).2.2 (j : Int) (by omega) (by omega)
 cases eb2
 simp only [Int.toNat_natCast] at hx2
 have ea : ∀ k : Nat, (⟨g, 0, none⟩ : Addr).add k = ⟨g, k, none⟩ := fun k => by simp [Addr.add]; exact fun h => h.symm
 rw [ea] at hx2
 obtain ⟨cs, hcs⟩ := own_typed (Kd.own_of_R h) g rfl
 exact ⟨hx2, blk_frozen hcs j, blk_lt hcs, own_base (Kd.own_of_R h) g rfl⟩
theorem sum_nonneg' (l : List Int) (h : ∀ x ∈ l, 0 ≤ x) : 0 ≤ l.sum := by
 induction l with
 | nil => simp
 | cons x l ih => rw [List.sum_cons]; have := h x (by simp); have := ih (fun y hy => h y (by simp [hy])); omega
theorem leftN_bd (l : List S64) (ok : OkL l) (a1 a2 : Int) (h1 : 0 ≤ a1 ∧ a1 ≤ 1000000) (h2 : 0 ≤ a2 ∧ a2 ≤ 100000) : 0 ≤ leftN l a1 a2 ∧ leftN l a1 a2 ≤ 1000000 := by
 have hs : 0 ≤ (l.map (·.f0)).sum := sum_nonneg' _ (fun x hx => by
  obtain ⟨t, ht, rfl⟩ := List.mem_map.1 hx
  obtain ⟨i, hi, e⟩ := List.getElem_of_mem ht
  have := (ok.bd i hi).1
  have e2 : tk l i = l[i] := by simp [tk, rd_T64, List.getD_eq_getElem?_getD, List.getElem?_eq_getElem hi]
  rw [e2, e] at this
  exact this)
 have hm : 0 ≤ a2 * ((l.length : Int) - 1) := Int.mul_nonneg h2.1 (by have := ok.n1; omega)
 unfold leftN mx
 split <;> omega
theorem plainBool_inv {v : Value} {z : DataW Unit × List MemPlace} (h : plainElem Try.prog 4 v = some z) : ∃ x, v = .bool x ∧ z.1 = .lit (.bool x) := by
 have hu := Try.underlying4
 unfold plainElem at h
 cases v <;> simp [hu] at h
 exact ⟨_, rfl, by rw [← h]⟩
theorem row_only {W W' : World} {base g n cap : Nat} {ok : Nat → Prop} {xs : List Int} (h : Kd.R (Kd.int .i64) 3 W base ok (.slice (some ⟨g, 0, none⟩) n cap) xs) (e : W'.heap[g]? = W.heap[g]?) : Kd.R (Kd.int .i64) 3 W' base ok (.slice (some ⟨g, 0, none⟩) n cap) xs :=
 Kd.R_mono (Kd.R_step (Kd.R_flat (ok' := fun k => k = g ∧ ok k) (fun h => h) h (fun k hk ho => ⟨by simpa [Value.ownBlock] using hk.symm, ho⟩)) (fun k hk _ => by rw [hk.1]; exact e)) (fun k hk => hk.2)
theorem look_open {w : World} {b n N : Nat} {D : DataW Unit} {op : Nat → Bool} (h : w.ownsMap Try.prog 3 (plainElem (H := Unit) Try.prog 4) b n D) (hs : OpenSays D op N) (j : Nat) (hj : j < N) (hjn : j < 1000) :
  (Instr.lookup 69 (.map (some b)) (.int .i64 (j : Int)) false).run Try.prog w = .ok (.bool (op j)) w := by
 obtain ⟨es, clock, hb, F, _, rfl⟩ := h
 have h1 := hs.at_ j hj
 rcases Go.Maps.fit_look false keyed3 um44 (z4 w) hb F (keyOf_int_mk Try.underlying3 (a := (j : Int)) (wf_i64 _ (by omega) (by omega))) with ⟨hrun, _, hat⟩ | ⟨e0, y, _, _, hrun, hRv, hat, _⟩
 ·
  rw [hat (.lit (.bool false))] at h1
  injection h1 with h1
  injection h1 with h1
  rw [hrun, ← h1]; rfl
 ·
  rw [hat] at h1
  obtain ⟨x, hx, hx2⟩ := plainBool_inv hRv
  rw [hx2] at h1
  injection h1 with h1
  injection h1 with h1
  rw [hrun, hx, ← h1]; rfl
theorem look_part {w : World} {b n N : Nat} {D : DataW Unit} {op : Nat → Bool} {p : Nat → Int} (h : w.ownsMap Try.prog 3 (plainElem (H := Unit) Try.prog 3) b n D) (hs : PartSays D op p N) (j : Nat) (hj : j < N) (hjn : j < 1000) (ho : op j = true) :
  (Instr.lookup 58 (.map (some b)) (.int .i64 (j : Int)) false).run Try.prog w = .ok (.int .i64 (p j)) w := by
 obtain ⟨c, hrun, hat, hwc⟩ := h.lookup_int keyed3 um48 Try.underlying3 (z3 w) (keyOf_int_mk Try.underlying3 (a := (j : Int)) (wf_i64 _ (by omega) (by omega)))
 rw [hs.at_ j hj ho] at hat
 injection hat with hat
 injection hat with _ hat
 rw [hrun, ← hat]
theorem nocut_facts (l0 : List S64) (op : Nat → Bool) (num all : Int) (wd : Nat → Int) (j : Nat) (h : cutAt l0 op num all j = false) : allTo l0 op num all (j + 1) = allTo l0 op num all j ∧ numTo l0 op num all (j + 1) = numTo l0 op num all j ∧ anyOf (cutAt l0 op num all) (j + 1) = anyOf (cutAt l0 op num all) j ∧
  (∀ i, i < l0.length → (op i && !(decide (i < j) && cutAt l0 op num all i)) = (op i && !(decide (i < j + 1) && cutAt l0 op num all i))) ∧
  tab l0.length (fun i => if (decide (i < j) && cutAt l0 op num all i) = true then (tk l0 i).f2 else wd i) = tab l0.length (fun i => if (decide (i < j + 1) && cutAt l0 op num all i) = true then (tk l0 i).f2 else wd i) := by
 have hd : ∀ i, (decide (i < j) && cutAt l0 op num all i) = (decide (i < j + 1) && cutAt l0 op num all i) := fun i => by
  by_cases e : i = j
  ·
   subst e; rw [h]; simp
  ·
   rw [show decide (i < j) = decide (i < j + 1) by by_cases h : i < j <;> simp [h] <;> omega]
 refine ⟨by simp [allTo, h], by simp [numTo, h], by simp [anyOf, h], fun i _ => by rw [hd i], tab_congr fun i _ => by rw [hd i]⟩
theorem ranges_heap {H : Type} {P : Program} {k : TypeId} {R : Value → Option (DataW H × List MemPlace)} {w w' : World} {b r n : Nat} {D : DataW H} {left : Lit → Bool} {cnt : Nat} (h : w.ranges P k R b r n D left cnt) (e1 : w'.heap[b]? = w.heap[b]?) (e2 : w'.heap[r]? = w.heap[r]?) : w'.ranges P k R b r n D left cnt := by
 obtain ⟨es, clock, since, seen, c0, hb, F, hs, hD, hr, rest⟩ := h
 exact ⟨es, clock, since, seen, c0, e1.trans hb, F, hs, hD, e2.trans hr, rest⟩
theorem deal_facts {l : List S64} {op : Nat → Bool} {num all : Int} (ok : OkL l) (hv : Inv l op num all) (ha : 0 < all) (j : Nat) (hj : j < l.length) (hop : op j = true) :
  wrap64 (grown l op j + (tk l j).f1) = grown l op j + (tk l j).f1 ∧ wrap64 (num * (grown l op j + (tk l j).f1)) = num * (grown l op j + (tk l j).f1) ∧
  wrap64 (Int.tdiv (num * (grown l op j + (tk l j).f1)) all) = Int.tdiv (num * (grown l op j + (tk l j).f1)) all ∧
  wrap64 (Int.tdiv (num * (grown l op j + (tk l j).f1)) all - quo l op num all j) = Int.tdiv (num * (grown l op j + (tk l j).f1)) all - quo l op num all j ∧
  wrap64 (quo l op num all j + (Int.tdiv (num * (grown l op j + (tk l j).f1)) all - quo l op num all j)) = Int.tdiv (num * (grown l op j + (tk l j).f1)) all ∧
  grown l op j + (tk l j).f1 = grown l op (j + 1) ∧ Int.tdiv (num * (grown l op j + (tk l j).f1)) all = quo l op num all (j + 1) ∧ (-9223372036854775808 ≤ Int.tdiv (num * (grown l op j + (tk l j).f1)) all - quo l op num all j ∧ Int.tdiv (num * (grown l op j + (tk l j).f1)) all - quo l op num all j ≤ 9223372036854775807) := by
 have e1 : grown l op j + (tk l j).f1 = grown l op (j + 1) := by simp [grown, hop]
 have e2 : Int.tdiv (num * grown l op (j + 1)) all = quo l op num all (j + 1) := rfl
 have g1 := grown_bd (op := op) ok (j + 1) (by omega)
 have q1 := quo_bd ok hv ha (j + 1) (by omega)
 have q0 := quo_bd ok hv ha j (by omega)
 have hn := hv.num
 have hl := ok.n64
 have m1 : 0 ≤ num * grown l op (j + 1) := Int.mul_nonneg hn.1 g1.1
 have m2 : num * grown l op (j + 1) ≤ 1000000 * 64000 := Int.mul_le_mul hn.2 (by omega) g1.1 (by omega)
 rw [e1, e2]
 refine ⟨EvT.w64 (by omega) (by omega), EvT.w64 (by omega) (by omega), EvT.w64 (by omega) (by omega), EvT.w64 (by omega) (by omega), ?_, rfl, rfl, by omega, by omega⟩
 rw [EvT.w64 (by omega) (by omega)]
 omega
theorem deal_at {l : List S64} {op : Nat → Bool} {num all : Int} (ok : OkL l) (hv : Inv l op num all) (ha : 0 < all) (j : Nat) (hj : j < l.length) (hop : op j = true) (t : S64) (ht : tk l j = t)
  (s n0 : Nat) (w0 w : World) (hB : Below n0 w0 w) (h1 : Boxed w (s + 2) 3 (.int .i64 (grown l op j))) (h2 : Boxed w s 3 (.int .i64 num)) (h3 : Boxed w (s + 1) 3 (.int .i64 all)) (h4 : Boxed w (s + 3) 3 (.int .i64 (quo l op num all j))) (hn : n0 ≤ s) :
  Calls Try.prog 49 #[.int .i64 t.f1, .pointer (some ⟨s + 2, 0, none⟩), .pointer (some ⟨s, 0, none⟩), .pointer (some ⟨s + 1, 0, none⟩), .pointer (some ⟨s + 3, 0, none⟩)] w fun e w' => e = .returned (.int .i64 (part l op num all j)) ∧
   Boxed w' (s + 2) 3 (.int .i64 (grown l op (j + 1))) ∧ Boxed w' s 3 (.int .i64 num) ∧ Boxed w' (s + 1) 3 (.int .i64 all) ∧ Boxed w' (s + 3) 3 (.int .i64 (quo l op num all (j + 1))) ∧ Below n0 w0 w' ∧ w'.heap.size = w.heap.size ∧ ∀ k, k ≠ s + 2 → k ≠ s + 3 → w'.heap[k]? = w.heap[k]? := by
 subst ht
 obtain ⟨d1, d2, d3, d4, d5, d6, d7, d8⟩ := deal_facts ok hv ha j hj hop
 refine (deal_calls (tk l j).f1 num all (grown l op j) (quo l op num all j) (s + 2) s (s + 1) (s + 3) w0 w n0 hB h1 h2 h3 h4 (by omega) (by omega) (by omega) (by omega) (by omega) (by omega) (by omega) (by omega) d1 d2 d3 d4 d5).mono ?_
 rintro e w' ⟨rfl, a1, a2, a3, a4, a5, a6, a7⟩
 rw [d6] at a1
 rw [d7] at a4
 exact ⟨by rw [d7]; rfl, a1, a2, a3, a4, a5, a6, a7⟩
theorem part_wf {l : List S64} {op : Nat → Bool} {num all : Int} (ok : OkL l) (hv : Inv l op num all) (ha : 0 < all) (j : Nat) (hj : j < l.length) : (Lit.int .i64 (part l op num all j)).wf = true :=
 wf_i64 _ (by have := part_bd ok hv ha j hj; omega) (by have := part_bd ok hv ha j hj; omega)
set_option maxRecDepth 100000 in
set_option maxHeartbeats 8000000 in
theorem tracks_Share.calls (A0 : Option Addr) (c0 : Nat) (l0 : List S64) (a1 a2 : Int) (r1 : List Int) (r2 : Int) (w : World) (hr0 : Kd.C k64 w A0 l0.length l0) (hc0 : l0.length ≤ c0) (h : tracks_Share.f l0 a1 a2 = some (r1, r2)) :
  Calls Try.prog 31 #[.slice A0 l0.length c0, .int .i64 a1, .int .i64 a2] w fun e w' => ∃ v0_ : Value, e = .returned (.tuple #[v0_, .int .i64 r2]) ∧ Kd.R (Kd.int .i64) 3 w' w.heap.size (fun _ => True) v0_ r1 ∧ Below w.heap.size w w' := by
 have HR := Aside0.mk hr0
 have HC := Aside0.mk hc0
 clear hr0 hc0
 unfold tracks_Share.f at h
 have hwi : ∀ (n lo hi : Int) (b : Bool), inside n lo hi = b → ∀ w, Calls Try.prog 38 #[.int .i64 n, .int .i64 lo, .int .i64 hi] w fun e w' => e = .returned (.bool b) ∧ w = w' := fun n lo hi b hb w => by rw [← hb]; exact within_calls n lo hi w
 have hva : ∀ b, (inside (l0.length : Int) 1 64 && !l0.any wrongW) = b → Calls Try.prog 37 #[.slice A0 l0.length c0] w fun e w' => e = .returned (.bool b) ∧ Below w.heap.size w w' := fun b hb => tracks_Valid.calls A0 c0 l0 b w HR.out HC.out (by rw [tracks_Valid.f, hb])
 cases hv : (inside (l0.length : Int) 1 64 && !l0.any wrongW)
 ·
  have hva := hva _ hv
  obtain ⟨rfl, rfl⟩ : [] = r1 ∧ 1 = r2 := by simpa [hv] using h
  clear h hwi hv
  go_enter Try.func31, Try.ntmps31
  go_wp2
  apply wp_scope_straight
  go_wp2_with (first | (go_at_call 37; with_reducible refine hva.mono ?_; rintro e w1 ⟨rfl, hb⟩; have HB1 := Aside0.mk hb; clear hb))
  rw [Exit.noGoto_ret]; refine bodyPost_ret (results_tmp2 rfl _ _ _) rfl ?_
  exact ⟨.slice none 0 0, rfl, Kd.R_nil _ _ _ _ _, HB1.out⟩
 ·
  have hva := hva _ hv
  cases h1 : inside a1 0 1000000
  ·
   have hw1 := hwi _ _ _ _ h1
   obtain ⟨rfl, rfl⟩ : [] = r1 ∧ 1 = r2 := by simpa [h1] using h
   clear h hwi hv h1
   go_enter Try.func31, Try.ntmps31
   go_wp2
   apply wp_scope_straight
   go_wp2_with (first | (go_at_call 37; with_reducible refine hva.mono ?_; rintro e w1 ⟨rfl, hb⟩; have HB1 := Aside0.mk hb; clear hb) | (go_at_call 38; with_reducible refine (hw1 _).mono ?_; rintro e w' ⟨rfl, rfl⟩))
   rw [Exit.noGoto_ret]; refine bodyPost_ret (results_tmp2 rfl _ _ _) rfl ?_
   exact ⟨.slice none 0 0, rfl, Kd.R_nil _ _ _ _ _, HB1.out⟩
  ·
   have hw1 := hwi _ _ _ _ h1
   cases h2 : inside a2 0 100000
   ·
    have hw2 := hwi _ _ _ _ h2
    obtain ⟨rfl, rfl⟩ : [] = r1 ∧ 1 = r2 := by simpa [h2] using h
    clear h hwi hv h1 h2
    go_enter Try.func31, Try.ntmps31
    go_wp2
    apply wp_scope_straight
    go_wp2_with (first | (go_at_call 37; with_reducible refine hva.mono ?_; rintro e w1 ⟨rfl, hb⟩; have HB1 := Aside0.mk hb; clear hb) | (go_at_call 38; with_reducible refine (hw1 _).mono ?_; rintro e w' ⟨rfl, rfl⟩) | (go_at_call 38; with_reducible refine (hw2 _).mono ?_; rintro e w' ⟨rfl, rfl⟩))
    rw [Exit.noGoto_ret]; refine bodyPost_ret (results_tmp2 rfl _ _ _) rfl ?_
    exact ⟨.slice none 0 0, rfl, Kd.R_nil _ _ _ _ _, HB1.out⟩
   ·
    have hw2 := hwi _ _ _ _ h2
    obtain ⟨res, hS, hres⟩ : ∃ res, Share l0 a1 a2 = some res ∧ (tab l0.length res, (0 : Int)) = (r1, r2) := by
     rw [if_pos ⟨hv, h1, h2⟩] at h
     simpa using h
    obtain ⟨rfl, rfl⟩ : tab l0.length res = r1 ∧ 0 = r2 := by simpa using hres
    have hok := OkL.of hv
    have b1 : 0 ≤ a1 ∧ a1 ≤ 1000000 := by simpa [inside] using h1
    have b2 : 0 ≤ a2 ∧ a2 ≤ 100000 := by simpa [inside] using h2
    obtain ⟨kl, hkl⟩ := Ev.rounds (left_ev l0 hok a1 a2 b1 b2)
    have OK := Aside0.mk hok
    have HS_ := hS
    have HL := Aside0.mk hkl
    have HLB : Aside0 (0 ≤ leftN l0 a1 a2 ∧ leftN l0 a1 a2 ≤ 1000000) := ⟨leftN_bd l0 hok a1 a2 b1 b2⟩
    clear hok b1 b2 hkl hS hres h hwi hv h1 h2 
    go_enter Try.func31, Try.ntmps31
    go_wp2
    apply wp_scope_straight
    have hmm44 : ∀ w, (Instr.makeMap 69 none).run Try.prog w = .ok (.map (some w.heap.size)) (w.alloc (.map #[] 0)) := fun w => run_makeMap 69 w
    have hmm48 : ∀ w, (Instr.makeMap 58 none).run Try.prog w = .ok (.map (some w.heap.size)) (w.alloc (.map #[] 0)) := fun w => run_makeMap 58 w
    go_upto_region 4 with (first | (go_at_call 37; with_reducible refine hva.mono ?_; rintro e w1 ⟨rfl, hb⟩; have HB1 := Aside0.mk hb; clear hb) | (go_at_call 38; with_reducible refine (hw1 _).mono ?_; rintro e w' ⟨rfl, rfl⟩) | (go_at_call 38; with_reducible refine (hw2 _).mono ?_; rintro e w' ⟨rfl, rfl⟩))
    obtain ⟨b1, hb1⟩ : ∃ b, w1.heap.size = b := ⟨_, rfl⟩
    have HM0 : Aside0 ((w1.alloc (.map #[] 0)).ownsMap Try.prog 3 (plainElem (H := Unit) Try.prog 4) b1 0 (.map [])) := ⟨by rw [← hb1]; exact World.ownsMap_made w1 _ _ _⟩
    have HB3 : Aside0 (Below w.heap.size w (w1.alloc (.map #[] 0))) := ⟨HB1.out.alloc HB1.out.size _⟩
    have Hb1 : Aside0 (w.heap.size ≤ b1) := ⟨by rw [← hb1]; exact HB1.out.size⟩
    have Hsz : Aside0 ((w1.alloc (.map #[] 0)).heap.size ≠ b1) := ⟨by rw [← hb1]; simp⟩
    rw [hb1]
    generalize w1.alloc (.map #[] 0) = w3 at HM0 HB3 Hsz ⊢
    clear hb1 HB1 hva hw1 hw2 w1
    have HNN : Aside0 (1 ≤ l0.length ∧ l0.length ≤ 64) := ⟨OK.out.n1, OK.out.n64⟩
    go_upto_region 5 with (first | ((with_reducible refine gate_dst (N := 39) rfl ?_); refine Kd.R_make (Kd.int .i64) w.heap.size 3 rfl (N := 39) rfl 22 _ _ rfl (l0.length : Int) rfl rfl Try.underlying22 (.int .i64 0) 8 i3z rfl (by decide) (by omega) 0 (ok := fun k => k ≠ b1) (okp := fun k => k ≠ b1) rfl (fun _ hk => hk) Hsz.out (by omega) (by have := HNN.out; omega) HB3.out HB3.out.size ?_; intro v1 w4 ho hb hg _; have HO := Aside0.mk ho; have HB4 := Aside0.mk hb; have HM4 := Aside0.mk (HM0.out.kept hg (by simp)); clear ho hb hg HM0 HB3 Hsz))
    obtain ⟨g, cap, eg⟩ : ∃ g cap, v1 = .slice (some ⟨g, 0, none⟩) l0.length cap := by
     have hrow := Kd.own_of_R HO.out
     have hlen : (List.replicate (l0.length : Int).toNat (0 : Int)).length = (l0.length - 1) + 1 := by have := HNN.out; simp; omega
     rw [hlen] at hrow
     obtain ⟨g, cap, e⟩ := ownsRow_succ hrow
     exact ⟨g, cap, by rw [e, show l0.length - 1 + 1 = l0.length by have := HNN.out; omega]⟩
    subst eg
    have HO4 : Aside0 (Kd.R (Kd.int .i64) 3 w4 w.heap.size (fun k => k ≠ b1) (.slice (some ⟨g, 0, none⟩) l0.length cap) (tab l0.length (fun i => if i < 0 then (tk l0 i).f0 else 0))) := ⟨by have := HO.out; rw [show tab l0.length (fun i => if i < 0 then (tk l0 i).f0 else 0) = List.replicate l0.length 0 from tab_zero _]; simpa using this⟩
    have HGB : Aside0 (g ≠ b1) := ⟨HO.out.1 g rfl⟩
    clear HO
    obtain ⟨opA, hopA⟩ : ∃ o : Nat → Bool, o = fun i => decide (i < l0.length) && decide (0 < (tk l0 i).f1) := ⟨_, rfl⟩
    have HOP := Aside0.mk hopA
    rw [Share, ← hopA] at HS_
    clear hopA
    go_wp2
    go_loopg [9, 42] l0.length (fun kq v9 v42 w' => ∃ (j : Nat) (D : DataW Unit), v9 = .int .i64 (grown l0 opA j) ∧ v42 = .int .i64 (j : Int) ∧ Aside0 (kq + j = l0.length) ∧ Aside0 (OpenSays D (fun i => decide (i < j) && opA i) l0.length) ∧ Aside0 (w'.ownsMap Try.prog 3 (plainElem (H := Unit) Try.prog 4) b1 j D) ∧ Aside0 (Kd.R (Kd.int .i64) 3 w' w.heap.size (fun k => k ≠ b1) (.slice (some ⟨g, 0, none⟩) l0.length cap) (tab l0.length (fun i => if i < j then (tk l0 i).f0 else 0))) ∧ Aside0 (Below w.heap.size w w'))
    case atStart => exact ⟨0, _, rfl, rfl, ⟨rfl⟩, ⟨by simpa using OpenSays.made l0.length⟩, HM4, HO4, HB4⟩
    case round =>
     clear HM4 HO4 HB4
     obtain ⟨j, D, rfl, rfl, HK, HD, HM, HO, HB⟩ := hrel
     cases gk with
     | zero =>
      have hjl : j = l0.length := by have := HK.out; omega
      subst hjl
      have c1b : decide ((l0.length : Int) < (l0.length : Int)) = false := by simp
      have HDA : Aside0 (OpenSays D opA l0.length) := ⟨HD.out.congr fun i hi => by simp [hi]⟩
      have HOA : Aside0 (Kd.R (Kd.int .i64) 3 wr w.heap.size (fun k => k ≠ b1) (.slice (some ⟨g, 0, none⟩) l0.length cap) (tab l0.length (fun i => (tk l0 i).f0))) := ⟨Eq.mp (congrArg _ (tab_congr fun i hi => by rw [if_pos hi])) HO.out⟩
      have hinv : Inv l0 opA (leftN l0 a1 a2) (grown l0 opA l0.length) := ⟨fun i hi => by rw [HOP.out] at hi; simpa using hi, HLB.out, rfl⟩
      have HI := Aside0.mk hinv
      have HS2 := Aside0.mk HS_
      clear HD HO HK hinv HS_
      obtain ⟨all0, hall0⟩ : ∃ x, grown l0 opA l0.length = x := ⟨_, rfl⟩
      obtain ⟨num0, hnum0⟩ : ∃ x, leftN l0 a1 a2 = x := ⟨_, rfl⟩
      rw [hall0] at HI
      have HS3 : Aside0 (rounds l0 (l0.length + 1) opA num0 all0 (fun i => (tk l0 i).f0) = some res) := ⟨by rw [← hall0, ← hnum0, HOP.out]; have := HS2.out; rw [HOP.out] at this; exact this⟩
      rw [hnum0] at HI
      have HL2 : Aside0 (tracks_left.f kl l0 a1 a2 = some num0) := ⟨by rw [← hnum0]; exact HL.out⟩
      rw [hall0]
      clear hall0 hnum0 HS2
      go_wp2_with (first | (go_at_call 39; with_reducible refine (tracks_left.calls kl A0 c0 l0 a1 a2 num0 _ (Kd.C_below HR.out HB.out) HC.out HL2.out).mono ?_; rintro e w8 ⟨rfl, hb⟩; have HB8 := Aside0.mk (HB.out.trans (hb.mono HB.out.size)); have HM8 := Aside0.mk (ownsMap_heap HM.out (hb.block _ HM.out.lt)); have HO8 := Aside0.mk (Kd.R_below HOA.out hb); clear hb HB HM HOA))
      apply wp_label
      go_wp2
      clear HL HLB HOP HL2
      go_loopg [9, 13] (l0.length + 1) (fun kq v9 v13 w' => ∃ (op : Nat → Bool) (num all : Int) (wd : Nat → Int) (D : DataW Unit), v9 = .int .i64 all ∧ v13 = .int .i64 num ∧ Aside0 (rounds l0 kq op num all wd = some res) ∧ Aside0 (∀ i, i < l0.length → 0 ≤ wd i ∧ wd i ≤ 1000000) ∧ Aside0 (Inv l0 op num all) ∧ Aside0 (OpenSays D op l0.length) ∧ Aside0 (w'.ownsMap Try.prog 3 (plainElem (H := Unit) Try.prog 4) b1 l0.length D) ∧ Aside0 (Kd.R (Kd.int .i64) 3 w' w.heap.size (fun k => k ≠ b1) (.slice (some ⟨g, 0, none⟩) l0.length cap) (tab l0.length wd)) ∧ Aside0 (Below w.heap.size w w'))
      case atStart => exact ⟨opA, num0, all0, _, D, rfl, rfl, HS3, ⟨fun i hi => by have := OK.out.bd i hi; omega⟩, HI, HDA, HM8, HO8, HB8⟩
      case round =>
       clear HS3 HI HDA HM8 HO8 HB8
       clear c1b
       clear D
       obtain ⟨op, num, all, wd, D, rfl, rfl, HS, HWD, HI, HD, HM, HO, HB⟩ := hrel
       cases gk with
       | zero => exact absurd HS.out (by simp [rounds])
       | succ k1 =>
        have hS := HS.out
        clear HS
        cases hany : anyOf op l0.length
        ·
         have hres : wd = res := by simpa [rounds, hany] using hS
         have hsz : size D = 0 := by rw [HD.out.size_]; exact (count_zero op _).2 hany
         have hln : ∀ ty, (Builtin.len_ #[69] ty #[.map (some b1)]).run Try.prog wr = .ok (.int .i64 0) wr := fun ty => by rw [HM.out.len um44 ty, hsz]; rfl
         have HRS := Aside0.mk hres
         clear hsz hany hS hres
         go_wp2
         rw [Exit.noGoto_ret]
         refine bodyPost_ret (results_tmp2 rfl _ _ _) rfl ?_
         exact ⟨_, rfl, by rw [← HRS.out]; exact Kd.R_mono HO.out (fun _ _ => trivial), HB.out⟩
        ·
         have hsz : size D ≠ 0 := by rw [HD.out.size_]; intro h; rw [(count_zero op _).1 h] at hany; cases hany
         obtain ⟨sz, hsz2⟩ : ∃ s : Int, ((size D : Nat) : Int) = s := ⟨_, rfl⟩
         have hszp : decide (sz > 0) = true := by simp; omega
         have hln : ∀ ty, (Builtin.len_ #[69] ty #[.map (some b1)]).run Try.prog wr = .ok (.int .i64 sz) wr := fun ty => by rw [HM.out.len um44 ty, hsz2]
         have hapos : 0 < all := by obtain ⟨i, hi, ho⟩ := anyOf_true hany; exact HI.out.all_pos OK.out ho
         have HAP := Aside0.mk hapos
         have HS := Aside0.mk hS
         have HANY := Aside0.mk hany
         clear hsz hsz2 hapos hS hany
         obtain ⟨s, hs⟩ : ∃ s, wr.heap.size = s := ⟨_, rfl⟩
         have HSB : Aside0 (w.heap.size ≤ s) := ⟨by rw [← hs]; exact HB.out.size⟩
         have HSM : Aside0 (b1 < s) := ⟨by rw [← hs]; exact HM.out.lt⟩
         have HSG : Aside0 (g < s) := ⟨by rw [← hs]; exact (row_at HO.out (tab_length _ _) 0 (by have := HNN.out; omega)).2.2.1⟩
         go_wp2_with (first | (go_at_call 40; with_reducible refine (dealer_calls num all _).mono ?_; rintro e w9 ⟨rfl, hx1, hx2, hx3, hx4, hb⟩; rw [hs] at hx1 hx2 hx3 hx4 hb ⊢; have HX1 := Aside0.mk hx1; have HX2 := Aside0.mk hx2; have HX3 := Aside0.mk hx3; have HX4 := Aside0.mk hx4; have HBX := Aside0.mk hb; clear hx1 hx2 hx3 hx4 hb))
         obtain ⟨b2, hb2⟩ : ∃ b, w9.heap.size = b := ⟨_, rfl⟩
         have HM20 : Aside0 ((w9.alloc (.map #[] 0)).ownsMap Try.prog 3 (plainElem (H := Unit) Try.prog 3) b2 0 (.map [])) := ⟨by rw [← hb2]; exact World.ownsMap_made w9 _ _ _⟩
         have Hb2 : Aside0 (s + 4 ≤ b2) := ⟨by have := HX4.out.lt; omega⟩
         have HMb : Aside0 ((w9.alloc (.map #[] 0)).ownsMap Try.prog 3 (plainElem (H := Unit) Try.prog 4) b1 l0.length D) := ⟨(ownsMap_heap HM.out (HBX.out.block _ (by rw [← hs] at *; exact HM.out.lt))).alloc _⟩
         have HOb : Aside0 (Kd.R (Kd.int .i64) 3 (w9.alloc (.map #[] 0)) w.heap.size (fun k => k ≠ b1) (.slice (some ⟨g, 0, none⟩) l0.length cap) (tab l0.length wd)) := ⟨Kd.R_alloc (Kd.R_below HO.out (by rw [hs]; exact HBX.out)) _⟩
         have HBb : Aside0 (Below w.heap.size w (w9.alloc (.map #[] 0))) := ⟨(HB.out.trans (HBX.out.mono HSB.out)).alloc (Nat.le_trans HSB.out (by have := HX4.out.lt; omega)) _⟩
         have HY1 : Aside0 (Boxed (w9.alloc (.map #[] 0)) s 3 (.int .i64 num)) := ⟨HX1.out.alloc _⟩
         have HY2 : Aside0 (Boxed (w9.alloc (.map #[] 0)) (s + 1) 3 (.int .i64 all)) := ⟨HX2.out.alloc _⟩
         have HY3 : Aside0 (Boxed (w9.alloc (.map #[] 0)) (s + 2) 3 (.int .i64 0)) := ⟨HX3.out.alloc _⟩
         have HY4 : Aside0 (Boxed (w9.alloc (.map #[] 0)) (s + 3) 3 (.int .i64 0)) := ⟨HX4.out.alloc _⟩
         rw [hb2]
         generalize w9.alloc (.map #[] 0) = w10 at HM20 HMb HOb HBb HY1 HY2 HY3 HY4 ⊢
         clear hb2 HX1 HX2 HX3 HX4 HBX HM HO HB hln hs
         clear w9
         go_loopg [75] l0.length (fun kq v75 w' => ∃ (j : Nat) (D2 : DataW Unit), v75 = .int .i64 (j : Int) ∧ Aside0 (kq + j = l0.length) ∧ Aside0 (PartSays D2 (fun i => decide (i < j) && op i) (part l0 op num all) l0.length) ∧ Aside0 (w'.ownsMap Try.prog 3 (plainElem (H := Unit) Try.prog 3) b2 j D2) ∧
          Aside0 (Boxed w' s 3 (.int .i64 num)) ∧ Aside0 (Boxed w' (s + 1) 3 (.int .i64 all)) ∧ Aside0 (Boxed w' (s + 2) 3 (.int .i64 (grown l0 op j))) ∧ Aside0 (Boxed w' (s + 3) 3 (.int .i64 (quo l0 op num all j))) ∧
          Aside0 (w'.ownsMap Try.prog 3 (plainElem (H := Unit) Try.prog 4) b1 l0.length D) ∧ Aside0 (Kd.R (Kd.int .i64) 3 w' w.heap.size (fun k => k ≠ b1) (.slice (some ⟨g, 0, none⟩) l0.length cap) (tab l0.length wd)) ∧ Aside0 (Below w.heap.size w w'))
         case atStart => exact ⟨0, _, rfl, ⟨rfl⟩, ⟨by simpa using PartSays.made (part l0 op num all) l0.length⟩, HM20, HY1, HY2, ⟨by simpa [grown] using HY3.out⟩, ⟨by simpa [quo_zero] using HY4.out⟩, HMb, HOb, HBb⟩
         case round =>
          clear HM20 HMb HOb HBb HY1 HY2 HY3 HY4
          obtain ⟨j, D2, rfl, HK, HD2, HM2, HY1, HY2, HY3, HY4, HM, HO, HB⟩ := hrel
          cases gk with
          | zero =>
           have hjl : j = l0.length := by have := HK.out; omega
           subst hjl
           have c1b : decide ((l0.length : Int) < (l0.length : Int)) = false := by simp
           have HPB : Aside0 (∀ i, i < l0.length → 0 ≤ part l0 op num all i ∧ part l0 op num all i ≤ 1000000) := ⟨fun i hi => part_bd OK.out HI.out HAP.out i hi⟩
           have HDP : Aside0 (PartSays D2 op (part l0 op num all) l0.length) := ⟨HD2.out.congr fun i hi => by simp [hi]⟩
           clear HK HD2 HY1 HY2 HY3 HY4
           go_wp2
           go_loopg [9, 13, 16, 93] l0.length (fun kq v9 v13 v16 v93 w' => ∃ (j : Nat) (Dc : DataW Unit), v9 = .int .i64 (allTo l0 op num all j) ∧ v13 = .int .i64 (numTo l0 op num all j) ∧ v16 = .bool (anyOf (cutAt l0 op num all) j) ∧ v93 = .int .i64 (j : Int) ∧ Aside0 (kq + j = l0.length) ∧
            Aside0 (OpenSays Dc (fun i => op i && !(decide (i < j) && cutAt l0 op num all i)) l0.length) ∧ Aside0 (w'.ownsMap Try.prog 3 (plainElem (H := Unit) Try.prog 4) b1 l0.length Dc) ∧ Aside0 (w'.ownsMap Try.prog 3 (plainElem (H := Unit) Try.prog 3) b2 l0.length D2) ∧
            Aside0 (Kd.R (Kd.int .i64) 3 w' w.heap.size (fun k => k ≠ b1) (.slice (some ⟨g, 0, none⟩) l0.length cap) (tab l0.length (fun i => if (decide (i < j) && cutAt l0 op num all i) = true then (tk l0 i).f2 else wd i))) ∧ Aside0 (Below w.heap.size w w'))
           case atStart => exact ⟨0, D, rfl, rfl, rfl, rfl, ⟨rfl⟩, ⟨by simpa using HD.out⟩, HM, HM2, ⟨by simpa using HO.out⟩, HB⟩
           case round =>
            clear HM HM2 HO HB
            obtain ⟨j, Dc, rfl, rfl, rfl, rfl, HK, HDc, HM, HM2, HO, HB⟩ := hrel
            cases gk with
            | zero =>
             have hjl : j = l0.length := by have := HK.out; omega
             subst hjl
             have c1b : decide ((l0.length : Int) < (l0.length : Int)) = false := by simp
             have HDn : Aside0 (OpenSays Dc (fun i => op i && !cutAt l0 op num all i) l0.length) := ⟨HDc.out.congr fun i hi => by simp [hi]⟩
             have HOn : Aside0 (Kd.R (Kd.int .i64) 3 wr w.heap.size (fun k => k ≠ b1) (.slice (some ⟨g, 0, none⟩) l0.length cap) (tab l0.length (fun i => if cutAt l0 op num all i = true then (tk l0 i).f2 else wd i))) := ⟨Eq.mp (congrArg _ (tab_congr fun i hi => by simp [hi])) HO.out⟩
             clear HK HDc HO
             cases hac : anyOf (cutAt l0 op num all) l0.length
             ·
              have hSS := HS.out
              have hSS2 : (fun i => if op i = true then wd i + part l0 op num all i else wd i) = res := by
               simpa [rounds, HANY.out, hac] using hSS
              have HRS := Aside0.mk hSS2
              have HNOC := Aside0.mk hac
              clear hSS hSS2 hac
              have HOe : Aside0 (Kd.R (Kd.int .i64) 3 wr w.heap.size (fun k => k ≠ b1) (.slice (some ⟨g, 0, none⟩) l0.length cap) (tab l0.length wd)) := ⟨Eq.mp (congrArg _ (tab_congr fun i hi => by rw [anyOf_false HNOC.out i hi]; rfl)) HOn.out⟩
              clear HOn HDn HS HI HD HANY HM
              obtain ⟨rb, hrb⟩ : ∃ r, wr.heap.size = r := ⟨_, rfl⟩
              have HRg : Aside0 (g < rb ∧ w.heap.size ≤ rb) := ⟨by have h1 := (row_at HOe.out (tab_length _ _) 0 (by have := HNN.out; omega)).2.2.1; have h2 := HB.out.size; omega⟩
              go_wp2_with (first | (at_range; refine wpList_range_own _ rfl _ 58 rfl 3 3 keyed3 um48 _ b2 l0.length D2 rfl HM2.out ?_; intro w14 hrg hgr hsz; rw [hrb] at hrg ⊢))
              go_frame
              have HOf : Aside0 (Kd.R (Kd.int .i64) 3 w14 w.heap.size (fun k => k ≠ b1) (.slice (some ⟨g, 0, none⟩) l0.length cap) (tab l0.length wd)) := ⟨row_only HOe.out (hgr.block g (by have := HRg.out; omega) (by simp))⟩
              have HBf : Aside0 (Below w.heap.size w w14) := ⟨HB.out.grown hgr HB.out.size (fun k e => by cases e)⟩
              have HRf := Aside0.mk hrg
              have HRb2 : Aside0 (b2 < rb) := ⟨by rw [← hrb]; exact HM2.out.lt⟩
              clear hrg hgr hsz HOe HB HM2 hrb
              go_loopg [21] (size D2) (fun kq v21 w' => ∃ left : Lit → Bool, Aside0 (w'.ranges Try.prog 3 (plainElem (H := Unit) Try.prog 3) b2 rb l0.length D2 left kq) ∧ Aside0 (∀ x : Int, left (.int .i64 x) = true → has D2 (.int .i64 x) = true) ∧ Aside0 (Kd.R (Kd.int .i64) 3 w' w.heap.size (fun k => k ≠ b1) (.slice (some ⟨g, 0, none⟩) l0.length cap) (tab l0.length (fun i => if (op i && !left (.int .i64 (i : Int))) = true then wd i + part l0 op num all i else wd i))) ∧ Aside0 (Below w.heap.size w w'))
              case atStart =>
               refine ⟨_, HRf, ⟨fun x hx => hx⟩, ⟨Eq.mp (congrArg _ (tab_congr fun i hi => ?_)) HOf.out⟩, HBf⟩
               cases ho : op i
               ·
                rfl
               ·
                have h1 : has D2 (.int .i64 (i : Int)) = true := Go.Maps.has_true_of_atKey (fun z => HDP.out.at_ i hi ho z)
                rw [h1]; rfl
              case round =>
               clear HRf HOf HBf
               obtain ⟨left, HRG, HLF, HO, HB⟩ := hrel
               rcases HRG.out.next keyed3 0 with ⟨h0, hl, hrun⟩ | ⟨key, v, kl, y, w15, cnt', hkey, hlk, hv, hat, hrun, hrg, hlt, hgr, hsz, hen⟩
               ·
                have HLL := Aside0.mk hl
                clear hl h0
                go_wp2
                rw [Exit.noGoto_ret]
                refine bodyPost_ret (results_tmp2 rfl _ _ _) rfl ?_
                refine ⟨_, rfl, Kd.R_mono (Eq.mp (congrArg _ (tab_congr fun i hi => ?_)) HO.out) (fun _ _ => trivial), HB.out⟩
                rw [HLL.out, ← HRS.out]; simp
               ·
                obtain ⟨x, rfl, rfl, hwx⟩ := Go.Maps.keyOf_int_inv Try.underlying3 hkey
                obtain ⟨c, rfl, rfl, hwc⟩ := plainElem_int_inv Try.underlying3 hv
                obtain ⟨j, hj, rfl, hop⟩ := HDP.out.has_ x (HLF.out x hlk)
                have hcp : c = part l0 op num all j := by
                 have h1 := hat (.lit (.int .i64 0))
                 rw [HDP.out.at_ j hj hop] at h1
                 injection h1 with h1
                 injection h1 with _ h1
                 exact h1.symm
                subst hcp
                have HOg : Aside0 (Kd.R (Kd.int .i64) 3 w15 w.heap.size (fun k => k ≠ b1) (.slice (some ⟨g, 0, none⟩) l0.length cap) (tab l0.length (fun i => if (op i && !left (.int .i64 (i : Int))) = true then wd i + part l0 op num all i else wd i))) := ⟨row_only HO.out (hgr.block g (by have h1 := (row_at HO.out (tab_length _ _) 0 (by have := HNN.out; omega)).2.2.1; exact h1) (by have := HRg.out; simp; omega))⟩
                have HBg : Aside0 (Below w.heap.size w w15) := ⟨HB.out.grown hgr HB.out.size (fun k e => by cases e; exact HRg.out.2)⟩
                obtain ⟨hro, hrf, _, hrb⟩ := row_at HOg.out (tab_length _ _) j hj
                rw [tab_rd _ _ _ hj, hlk] at hro
                simp only [Bool.not_true, Bool.and_false, Bool.false_eq_true, if_false] at hro
                have HRB := Aside0.mk hrb
                have HRN := Aside0.mk hrg
                have HJ := Aside0.mk hj
                have HOPJ := Aside0.mk hop
                have HLJ := Aside0.mk hlk
                have HLT := Aside0.mk hlt
                have hpb := HPB.out j hj
                have hwb := HWD.out j hj
                obtain ⟨pj, hpj⟩ : ∃ p, part l0 op num all j = p := ⟨_, rfl⟩
                obtain ⟨wj, hwj⟩ : ∃ p, wd j = p := ⟨_, rfl⟩
                rw [hpj] at hrun hen hpb
                rw [hwj] at hro hwb
                have hs1 : wrap64 (wj + pj) = wj + pj := EvT.w64 (by omega) (by omega)
                have HPJ := Aside0.mk hpj
                have HWJ := Aside0.mk hwj
                have p1 : (0 ≤ (j : Int)) = True := eq_true (by omega)
                have q1 : ((j : Int) < (l0.length : Int)) = True := eq_true (by omega)
                clear hrb hrg hj hop hlk hlt hkey hv hat hwx hwc hgr hsz hpj hwj hpb hwb HRG HO HB
                go_wp2
                go_roundg cnt'
                case measure => exact HLT.out
                case rel =>
                 have HP0 := (Kd.R_put (xs := tab l0.length (fun i => if (op i && !left (.int .i64 (i : Int))) = true then wd i + part l0 op num all i else wd i)) (g := g) (cap := cap) (by rw [tab_length]; exact HOg.out) (j : Int) (wj + pj)).1
                 rw [tab_length, Int.toNat_natCast, tab_set _ _ _ _ HJ.out] at HP0
                 refine ⟨_, ⟨ranges_heap HRN.out (Below.heap_setCell w15 ⟨g, j, none⟩ _ b2 (by have := HSG.out; have := Hb2.out; show b2 ≠ g; omega)) (Below.heap_setCell w15 ⟨g, j, none⟩ _ rb (by have := HRg.out; show rb ≠ g; omega))⟩, ⟨fun x hx => HLF.out x (by simp at hx; exact hx.1)⟩, ⟨Eq.mp (congrArg _ (tab_congr fun i hi => ?_)) HP0⟩, ⟨HBg.out.setCell (p := ⟨g, j, none⟩) HRB.out _⟩⟩
                 by_cases e : i = j
                 ·
                  subst e
                  rw [if_pos rfl, WideAt.sameKey_self (show WideAt.IsKeyLit (.int .i64 (i : Int)) from trivial), HOPJ.out]
                  simp [HPJ.out, HWJ.out]
                 ·
                  rw [if_neg e, Go.Maps.sameKey_ne (keyNe e)]
                  simp
             ·
              have hSS := HS.out
              simp only [rounds, HANY.out, Bool.true_eq_false, if_false, hac, if_true] at hSS
              have HSS := Aside0.mk hSS
              clear hSS hac
              go_wp2
              go_roundg k1
              case measure => omega
              case rel =>
               refine ⟨_, _, _, _, Dc, rfl, rfl, HSS, ⟨fun i hi => ?_⟩, ⟨HI.out.next OK.out HAP.out⟩, HDn, HM, HOn, HB⟩
               by_cases hc : cutAt l0 op num all i = true
               ·
                rw [if_pos hc]
                have h1 := cutAt_true hc
                have h2 := OK.out.bd i hi
                omega
               ·
                rw [if_neg hc]
                exact HWD.out i hi
            | succ k2 =>
             have hj : j < l0.length := by have := HK.out; omega
             have c1b : decide ((j : Int) < (l0.length : Int)) = true := decide_eq_true (by omega)
             have p1 : 0 ≤ (j : Int) := by omega
             have q1 : (j : Int) < (l0.length : Int) := by omega
             have hsum : IntKind.i64.wrap ((j : Int) + 1) = ((j + 1 : Nat) : Int) := by have := HNN.out; exact IntWalk.i64_in _ (by omega)
             have hsum2 : wrap64 ((j : Int) + 1) = ((j + 1 : Nat) : Int) := by have := HNN.out; unfold wrap64; omega
             obtain ⟨ad, ead, hx0, hx1, hx2⟩ := at_T64 (Kd.C_below HR.out HB.out) (j : Int) p1 q1
             cases ead
             obtain ⟨t, ht⟩ : ∃ t, tk l0 j = t := ⟨_, rfl⟩
             have ht' : rd_T64 l0 (j : Int) = t := ht
             rw [ht'] at hx0 hx1 hx2
             simp only [Int.toNat_natCast] at hx0 hx1 hx2
             have HT := Aside0.mk ht
             have HJ := Aside0.mk hj
             clear ht ht' hj
             replace p1 := eq_true p1
             replace q1 := eq_true q1
             go_upto_region 24 with (first | ((with_reducible refine gate_dst (N := 20) rfl ?_); refine box_event ?hg (N := 20) ?hd (cs := #[.int .i64 0, .int .i64 0, .int .i64 0]) (t := 64) ?hr ?_; (case hd => rfl); (case hg => rfl); (case hr => first | (go_simp; done) | (go_simp; rfl)); intro gb hg w5 hbox hb; have BX := Aside0.mk hbox; have HB2 := Aside0.mk hb; have HG := Aside0.mk hg; clear hbox hb hg; have hz0 : w5.cell? ⟨gb, 0, none⟩ = some (.int .i64 0) := (blk_cell BX.out 0).trans rfl; have hz1 : w5.cell? ⟨gb, 1, none⟩ = some (.int .i64 0) := (blk_cell BX.out 1).trans rfl; have hz2 : w5.cell? ⟨gb, 2, none⟩ = some (.int .i64 0) := (blk_cell BX.out 2).trans rfl; have hf0 := blk_frozen BX.out 0; have hf1 := blk_frozen BX.out 1; have hf2 := blk_frozen BX.out 2))
             obtain ⟨W3, hW3⟩ : ∃ W3, (((w5.setCell ⟨gb, 0, none⟩ (.int .i64 t.f0)).setCell ⟨gb, 1, none⟩ (.int .i64 t.f1)).setCell ⟨gb, 2, none⟩ (.int .i64 t.f2)) = W3 := ⟨_, rfl⟩
             have hgw := HG.out
             have hwr : w.heap.size ≤ wr.heap.size := HB.out.size
             have hbl0 : Below wr.heap.size wr W3 := by rw [← hW3]; exact below3 HB2.out (by omega) _ _ _
             have BB := Aside0.mk (by rw [← hW3]; exact three BX.out _ _ _ : W3.heap[gb]? = some (.cells #[.int .i64 t.f0, .int .i64 t.f1, .int .i64 t.f2] 64 (0, 0)))
             have HM3 := Aside0.mk (ownsMap_heap HM.out (hbl0.block _ HM.out.lt))
             have HM23 := Aside0.mk (ownsMap_heap HM2.out (hbl0.block _ HM2.out.lt))
             have HO3 := Aside0.mk (Kd.R_below HO.out hbl0)
             have HB3 := Aside0.mk (HB.out.trans (hbl0.mono hwr))
             have HGB3 : Aside0 (b1 ≠ gb ∧ b2 ≠ gb) := ⟨by have := HM2.out.lt; have := HM.out.lt; omega⟩
             have HNE2 : Aside0 (gb ≠ g) := ⟨by have := (row_at HO.out (tab_length _ _) j HJ.out).2.2.1; omega⟩
             rw [hW3]
             clear hW3 HM HM2 HO HB BX HB2 hbl0 hz0 hz1 hz2 hf0 hf1 hf2 hgw HG
             have hy0 : W3.cell? ⟨gb, 0, none⟩ = some (.int .i64 t.f0) := (blk_cell BB.out 0).trans rfl
             have hy2 : W3.cell? ⟨gb, 2, none⟩ = some (.int .i64 t.f2) := (blk_cell BB.out 2).trans rfl
             have hlk : (Instr.lookup 69 (.map (some b1)) (.int .i64 (j : Int)) false).run Try.prog W3 = .ok (.bool (op j)) W3 := by
              have := look_open HM3.out HDc.out j HJ.out (by have := HNN.out; have := HJ.out; omega)
              rw [this]; simp
             have hnc : cutAt l0 op num all j = false → allTo l0 op num all (j + 1) = allTo l0 op num all j ∧ numTo l0 op num all (j + 1) = numTo l0 op num all j ∧ anyOf (cutAt l0 op num all) (j + 1) = anyOf (cutAt l0 op num all) j ∧
               (∀ i, i < l0.length → (op i && !(decide (i < j) && cutAt l0 op num all i)) = (op i && !(decide (i < j + 1) && cutAt l0 op num all i))) ∧
               tab l0.length (fun i => if (decide (i < j) && cutAt l0 op num all i) = true then (tk l0 i).f2 else wd i) = tab l0.length (fun i => if (decide (i < j + 1) && cutAt l0 op num all i) = true then (tk l0 i).f2 else wd i) := fun h => nocut_facts l0 op num all wd j h
             cases hop : op j
             ·
              rw [hop] at hlk
              have HNC := Aside0.mk (hnc (by simp [cutAt, hop]))
              clear hop hnc
              go_wp2
              go_roundg k2
              case measure => omega
              case rel =>
               refine ⟨j + 1, _, by rw [HNC.out.1], by rw [HNC.out.2.1], by rw [HNC.out.2.2.1], by first | rfl | simp [hsum, hsum2], ⟨by have := HK.out; omega⟩, ⟨HDc.out.congr HNC.out.2.2.2.1⟩, HM3, HM23, ⟨by rw [← HNC.out.2.2.2.2]; exact HO3.out⟩, HB3⟩

             ·
              rw [hop] at hlk
              by_cases hz : t.f2 = 0
              ·
               have hzb : (t.f2 == 0) = true := by simpa using hz
               have HNC := Aside0.mk (hnc (by simp [cutAt, HT.out, hz]))
               clear hop hnc hz
               go_wp2
               go_roundg k2
               case measure => omega
               case rel =>
                refine ⟨j + 1, _, by rw [HNC.out.1], by rw [HNC.out.2.1], by rw [HNC.out.2.2.1], by first | rfl | simp [hsum, hsum2], ⟨by have := HK.out; omega⟩, ⟨HDc.out.congr HNC.out.2.2.2.1⟩, HM3, HM23, ⟨by rw [← HNC.out.2.2.2.2]; exact HO3.out⟩, HB3⟩

              ·
               have hzb : (t.f2 == 0) = false := by simpa using hz
               have hlp := look_part HM23.out HDP.out j HJ.out (by have := HNN.out; have := HJ.out; omega) hop
               have hpb := part_bd OK.out HI.out HAP.out j HJ.out
               have hbd := OK.out.bd j HJ.out
               rw [HT.out] at hbd
               obtain ⟨pj, hpj⟩ : ∃ p, part l0 op num all j = p := ⟨_, rfl⟩
               rw [hpj] at hlp hpb
               have hs1 : wrap64 (t.f0 + pj) = t.f0 + pj := EvT.w64 (by omega) (by omega)
               by_cases hle : t.f0 + pj ≤ t.f2
               ·
                have hleb : decide (t.f0 + pj ≤ t.f2) = true := decide_eq_true hle
                have HNC := Aside0.mk (hnc (by simp [cutAt, HT.out, hpj, hle]))
                clear hop hnc hz hpb hbd hle hpj
                go_wp2
                go_roundg k2
                case measure => omega
                case rel =>
                 refine ⟨j + 1, _, by rw [HNC.out.1], by rw [HNC.out.2.1], by rw [HNC.out.2.2.1], by first | rfl | simp [hsum, hsum2], ⟨by have := HK.out; omega⟩, ⟨HDc.out.congr HNC.out.2.2.2.1⟩, HM3, HM23, ⟨by rw [← HNC.out.2.2.2.2]; exact HO3.out⟩, HB3⟩

               ·
                have hleb : decide (t.f0 + pj ≤ t.f2) = false := decide_eq_false hle
                have hcut : cutAt l0 op num all j = true := by simp [cutAt, HT.out, hop, hz, hpj]; omega
                have HCUT := Aside0.mk hcut
                clear hnc hz hpb hle hpj
                go_upto_region 25 with (fail)
                obtain ⟨hro, hrf, _, hrb⟩ := row_at HO3.out (tab_length _ _) j HJ.out
                have HRB := Aside0.mk hrb
                have HBD := Aside0.mk hbd
                clear hrb hop hlk hlp hs1 hleb hzb hcut hbd hy0
                go_upto_region 26 with (fail)
                have HP0 := (Kd.R_put (xs := tab l0.length (fun i => if (decide (i < j) && cutAt l0 op num all i) = true then (tk l0 i).f2 else wd i)) (g := g) (cap := cap) (by rw [tab_length]; exact HO3.out) (j : Int) t.f2).1
                rw [tab_length, Int.toNat_natCast, tab_set _ _ _ _ HJ.out] at HP0
                obtain ⟨W4, hW4⟩ : ∃ W4, W3.setCell ⟨g, j, none⟩ (.int .i64 t.f2) = W4 := ⟨_, rfl⟩
                have HO4 : Aside0 (Kd.R (Kd.int .i64) 3 W4 w.heap.size (fun k => k ≠ b1) (.slice (some ⟨g, 0, none⟩) l0.length cap) (tab l0.length (fun i => if (decide (i < j + 1) && cutAt l0 op num all i) = true then (tk l0 i).f2 else wd i))) := ⟨by
                 rw [← hW4]
                 refine Eq.mp (congrArg _ (tab_congr fun i hi => ?_)) HP0
                 by_cases e : i = j
                 ·
                  subst e; rw [if_pos rfl, HCUT.out]; simp [HT.out]
                 ·
                  rw [if_neg e, show decide (i < j) = decide (i < j + 1) by by_cases h : i < j <;> simp [h] <;> omega]⟩
                have HM4 : Aside0 (W4.ownsMap Try.prog 3 (plainElem (H := Unit) Try.prog 4) b1 l0.length Dc) := ⟨by rw [← hW4]; exact HM3.out.setCell (a := ⟨g, j, none⟩) (Ne.symm HGB.out) _⟩
                have HGB2 : Aside0 (g ≠ b2) := ⟨by have := HSG.out; have := Hb2.out; omega⟩
                have HM24 : Aside0 (W4.ownsMap Try.prog 3 (plainElem (H := Unit) Try.prog 3) b2 l0.length D2) := ⟨by rw [← hW4]; exact HM23.out.setCell (a := ⟨g, j, none⟩) (Ne.symm HGB2.out) _⟩
                have BB4 := Aside0.mk (by rw [← hW4]; exact blk_far (p := ⟨g, j, none⟩) BB.out HNE2.out _ : W4.heap[gb]? = some (.cells #[.int .i64 t.f0, .int .i64 t.f1, .int .i64 t.f2] 64 (0, 0)))
                have HB4 : Aside0 (Below w.heap.size w W4) := ⟨by rw [← hW4]; exact HB3.out.setCell (p := ⟨g, j, none⟩) HRB.out _⟩
                rw [hW4]
                clear hW4 HP0 HM3 HM23 HO3 HB3 hy2 hro hrf BB
                have hy0 : W4.cell? ⟨gb, 0, none⟩ = some (.int .i64 t.f0) := (blk_cell BB4.out 0).trans rfl
                have hy1 : W4.cell? ⟨gb, 1, none⟩ = some (.int .i64 t.f1) := (blk_cell BB4.out 1).trans rfl
                have hy2 : W4.cell? ⟨gb, 2, none⟩ = some (.int .i64 t.f2) := (blk_cell BB4.out 2).trans rfl
                apply wp_cut
                case h =>
                 go_region_held3 (fun w' => w'.cell? ⟨gb, 0, none⟩ = some (.int .i64 t.f0) ∧ w'.cell? ⟨gb, 1, none⟩ = some (.int .i64 t.f1) ∧ w'.cell? ⟨gb, 2, none⟩ = some (.int .i64 t.f2)) (go_keep) (first | fail)
                 all_goals exact ⟨rfl, rfl, rfl⟩
                case hq =>
                 have hnb := numTo_in OK.out HI.out HAP.out j (by have := HJ.out; omega)
                 have hnb2 := numTo_in OK.out HI.out HAP.out (j + 1) (by have := HJ.out; omega)
                 have hab := allTo_in OK.out HI.out j (by have := HJ.out; omega)
                 have hab2 := allTo_in OK.out HI.out (j + 1) (by have := HJ.out; omega)
                 have hn1 : numTo l0 op num all (j + 1) = numTo l0 op num all j - (t.f2 - t.f0) := by simp only [numTo, HCUT.out, if_true, HT.out]
                 have ha1 : allTo l0 op num all (j + 1) = allTo l0 op num all j - t.f1 := by simp only [allTo, HCUT.out, if_true, HT.out]
                 have hbd := HBD.out
                 have v1 : wrap64 (t.f2 - t.f0) = t.f2 - t.f0 := EvT.w64 (by omega) (by omega)
                 have v2 : wrap64 (numTo l0 op num all j - (t.f2 - t.f0)) = numTo l0 op num all (j + 1) := by rw [hn1]; exact EvT.w64 (by omega) (by omega)
                 have v3 : wrap64 (allTo l0 op num all j - t.f1) = allTo l0 op num all (j + 1) := by rw [ha1]; exact EvT.w64 (by omega) (by omega)
                 clear hnb hnb2 hab hab2 hn1 ha1 hbd
                 simp only [i64_w, v1, v2, v3]
                 clear v1 v2 v3 hy0 hy1 hy2
                 have HM5 := Aside0.mk (ownsMap_heap (w' := W4.drew) HM4.out rfl)
                 have HM25 := Aside0.mk (ownsMap_heap (w' := W4.drew) HM24.out rfl)
                 have HO5 := Aside0.mk (Kd.R_drew HO4.out)
                 have HB5 := Aside0.mk (below_drew HB4.out)
                 clear HM4 HM24 HO4 HB4 BB4
                 generalize W4.drew = w25 at HM5 HM25 HO5 HB5 ⊢
                 obtain ⟨w26, hrun1, hM1, hT1⟩ := HM5.out.drop keyed3 um44 (keyOf_int_mk Try.underlying3 (a := (j : Int)) (wf_i64 _ (by omega) (by have := HNN.out; have := HJ.out; omega))) 0
                 have hgr1 := hT1.grown
                 have HM1 := Aside0.mk hM1
                 have HGR1 := Aside0.mk hgr1
                 have HB12 : Aside0 (b2 ≠ b1) := ⟨by have := HSM.out; have := Hb2.out; omega⟩
                 clear hM1 hT1 hgr1
                 go_wp2
                 go_roundg k2
                 case measure => omega
                 case rel =>
                  have hopj : op j = true := (cutAt_true HCUT.out).1
                  refine ⟨j + 1, _, rfl, rfl, by simp [anyOf, HCUT.out], by first | rfl | simp [hsum, hsum2], ⟨by have := HK.out; omega⟩, ⟨(HDc.out.del j HJ.out (by simp [hopj])).congr fun i hi => ?_⟩, HM1, ⟨HM25.out.kept HGR1.out (by simpa using HB12.out)⟩, ⟨r_map HO5.out HGR1.out (fun k hk => hk)⟩, ⟨HB5.out.grown HGR1.out HB5.out.size (fun k e => by cases e; exact Hb1.out)⟩⟩
                  by_cases e : i = j
                  ·
                   subst e; rw [if_pos rfl, HCUT.out]; simp
                  ·
                   rw [if_neg e, show decide (i < j) = decide (i < j + 1) by by_cases h : i < j <;> simp [h] <;> omega]
          | succ k2 =>
           have hj : j < l0.length := by have := HK.out; omega
           have c1b : decide ((j : Int) < (l0.length : Int)) = true := decide_eq_true (by omega)
           have p1 : 0 ≤ (j : Int) := by omega
           have q1 : (j : Int) < (l0.length : Int) := by omega
           have hsum : IntKind.i64.wrap ((j : Int) + 1) = ((j + 1 : Nat) : Int) := by have := HNN.out; exact IntWalk.i64_in _ (by omega)
           have hsum2 : wrap64 ((j : Int) + 1) = ((j + 1 : Nat) : Int) := by have := HNN.out; unfold wrap64; omega
           obtain ⟨ad, ead, hx0, hx1, hx2⟩ := at_T64 (Kd.C_below HR.out HB.out) (j : Int) p1 q1
           cases ead
           obtain ⟨t, ht⟩ : ∃ t, tk l0 j = t := ⟨_, rfl⟩
           have ht' : rd_T64 l0 (j : Int) = t := ht
           rw [ht'] at hx0 hx1 hx2
           simp only [Int.toNat_natCast] at hx0 hx1 hx2
           have HT := Aside0.mk ht
           have HJ := Aside0.mk hj
           clear ht ht' hj
           replace p1 := eq_true p1
           replace q1 := eq_true q1
           go_upto_region 18 with (first | ((with_reducible refine gate_dst (N := 18) rfl ?_); refine box_event ?hg (N := 18) ?hd (cs := #[.int .i64 0, .int .i64 0, .int .i64 0]) (t := 64) ?hr ?_; (case hd => rfl); (case hg => rfl); (case hr => first | (go_simp; done) | (go_simp; rfl)); intro gb hg w5 hbox hb; have BX := Aside0.mk hbox; have HB2 := Aside0.mk hb; have HG := Aside0.mk hg; clear hbox hb hg; have hz0 : w5.cell? ⟨gb, 0, none⟩ = some (.int .i64 0) := (blk_cell BX.out 0).trans rfl; have hz1 : w5.cell? ⟨gb, 1, none⟩ = some (.int .i64 0) := (blk_cell BX.out 1).trans rfl; have hz2 : w5.cell? ⟨gb, 2, none⟩ = some (.int .i64 0) := (blk_cell BX.out 2).trans rfl; have hf0 := blk_frozen BX.out 0; have hf1 := blk_frozen BX.out 1; have hf2 := blk_frozen BX.out 2))
           obtain ⟨W3, hW3⟩ : ∃ W3, (((w5.setCell ⟨gb, 0, none⟩ (.int .i64 t.f0)).setCell ⟨gb, 1, none⟩ (.int .i64 t.f1)).setCell ⟨gb, 2, none⟩ (.int .i64 t.f2)) = W3 := ⟨_, rfl⟩
           have hgw := HG.out
           have hwr : w.heap.size ≤ wr.heap.size := HB.out.size
           have hbl0 : Below wr.heap.size wr W3 := by rw [← hW3]; exact below3 HB2.out (by omega) _ _ _
           have BB := Aside0.mk (by rw [← hW3]; exact three BX.out _ _ _ : W3.heap[gb]? = some (.cells #[.int .i64 t.f0, .int .i64 t.f1, .int .i64 t.f2] 64 (0, 0)))
           have HM3 := Aside0.mk (ownsMap_heap HM.out (hbl0.block _ HM.out.lt))
           have HM23 := Aside0.mk (ownsMap_heap HM2.out (hbl0.block _ HM2.out.lt))
           have HO3 := Aside0.mk (Kd.R_below HO.out hbl0)
           have HB3 := Aside0.mk (HB.out.trans (hbl0.mono hwr))
           have HZ1 : Aside0 (Boxed W3 s 3 (.int .i64 num)) := ⟨(hbl0.block _ HY1.out.lt).trans HY1.out⟩
           have HZ2 : Aside0 (Boxed W3 (s + 1) 3 (.int .i64 all)) := ⟨(hbl0.block _ HY2.out.lt).trans HY2.out⟩
           have HZ3 : Aside0 (Boxed W3 (s + 2) 3 (.int .i64 (grown l0 op j))) := ⟨(hbl0.block _ HY3.out.lt).trans HY3.out⟩
           have HZ4 : Aside0 (Boxed W3 (s + 3) 3 (.int .i64 (quo l0 op num all j))) := ⟨(hbl0.block _ HY4.out.lt).trans HY4.out⟩
           have HGB2 : Aside0 (s + 4 ≤ gb ∧ b2 < gb) := ⟨by have := HM2.out.lt; have := Hb2.out; omega⟩
           rw [hW3]
           clear hW3 HM HM2 HO HB BX HB2 hbl0 hz0 hz1 hz2 hf0 hf1 hf2 hgw HG HY1 HY2 HY3 HY4
           have hy1 : W3.cell? ⟨gb, 1, none⟩ = some (.int .i64 t.f1) := (blk_cell BB.out 1).trans rfl
           have hlk : (Instr.lookup 69 (.map (some b1)) (.int .i64 (j : Int)) false).run Try.prog W3 = .ok (.bool (op j)) W3 := look_open HM3.out HD.out j HJ.out (by have := HNN.out; have := HJ.out; omega)
           cases hop : op j
           ·
            rw [hop] at hlk
            have hg1 : grown l0 op (j + 1) = grown l0 op j := by simp [grown, hop]
            have hq1 : quo l0 op num all (j + 1) = quo l0 op num all j := by unfold quo; rw [hg1]
            have HG1 := Aside0.mk hg1
            have HQ1 := Aside0.mk hq1
            have HOPJ := Aside0.mk hop
            clear hg1 hq1 hop
            go_wp2
            go_roundg k2
            case measure => omega
            case rel =>
             refine ⟨j + 1, _, by first | rfl | simp [hsum, hsum2], ⟨by have := HK.out; omega⟩, ⟨HD2.out.congr fun i hi => ?_⟩, ⟨HM23.out.mono (by omega)⟩, HZ1, HZ2, ⟨by rw [HG1.out]; exact HZ3.out⟩, ⟨by rw [HQ1.out]; exact HZ4.out⟩, HM3, HO3, HB3⟩
             by_cases e : i = j
             ·
              subst e; simp [HOPJ.out]
             ·
              have : decide (i < j) = decide (i < j + 1) := by by_cases h : i < j <;> simp [h] <;> omega
              rw [this]
           ·
            rw [hop] at hlk
            have HOPJ := Aside0.mk hop
            clear hop
            go_wp2_with (first | (go_at_call 49; with_reducible refine (deal_at OK.out HI.out HAP.out j HJ.out HOPJ.out t HT.out s w.heap.size w _ HB3.out HZ3.out HZ1.out HZ2.out HZ4.out HSB.out).mono ?_; rintro e w12 ⟨rfl, hq3, hq1, hq2, hq4, hqb, hqs, hqk⟩; have hM2c := ownsMap_heap HM23.out (hqk b2 (by have := Hb2.out; omega) (by have := Hb2.out; omega)); obtain ⟨w13, hrun1, hM13, hgr1⟩ := hM2c.update keyed3 um48 (by have := HNN.out; have := HJ.out; simp [maxLen]; omega) (keyOf_int_mk Try.underlying3 (a := (j : Int)) (wf_i64 _ (by omega) (by have := HNN.out; have := HJ.out; omega))) (plainElem_int Try.underlying3 (part_wf OK.out HI.out HAP.out j HJ.out))))
            have HP3 : Aside0 (Boxed w13 (s + 2) 3 (.int .i64 (grown l0 op (j + 1)))) := ⟨grown_cell hq3 hgr1 (by have := Hb2.out; omega)⟩
            have HP1 : Aside0 (Boxed w13 s 3 (.int .i64 num)) := ⟨grown_cell hq1 hgr1 (by have := Hb2.out; omega)⟩
            have HP2 : Aside0 (Boxed w13 (s + 1) 3 (.int .i64 all)) := ⟨grown_cell hq2 hgr1 (by have := Hb2.out; omega)⟩
            have HP4 : Aside0 (Boxed w13 (s + 3) 3 (.int .i64 (quo l0 op num all (j + 1)))) := ⟨grown_cell hq4 hgr1 (by have := Hb2.out; omega)⟩
            have HPB : Aside0 (Below w.heap.size w w13) := ⟨hqb.grown hgr1 hqb.size (fun k e => by cases e; have := Hb2.out; have := HSB.out; omega)⟩
            have HPM : Aside0 (w13.ownsMap Try.prog 3 (plainElem (H := Unit) Try.prog 4) b1 l0.length D) := ⟨(ownsMap_heap HM3.out (hqk b1 (by have := HSM.out; omega) (by have := HSM.out; omega))).kept hgr1 (by have := Hb2.out; have := HSM.out; simp; omega)⟩
            have HPO : Aside0 (Kd.R (Kd.int .i64) 3 w13 w.heap.size (fun k => k ≠ b1) (.slice (some ⟨g, 0, none⟩) l0.length cap) (tab l0.length wd)) := ⟨row_only HO3.out ((hgr1.block g (by rw [hqs]; exact Nat.lt_of_lt_of_le HSG.out (by have := HZ4.out.lt; omega)) (by have := Hb2.out; have := HSG.out; simp; omega)).trans (hqk g (by have := HSG.out; omega) (by have := HSG.out; omega)))⟩
            have HPP : Aside0 (PartSays (D2.put (.int .i64 (j : Int)) (.lit (.int .i64 (part l0 op num all j)))) (fun i => if i = j then true else (decide (i < j) && op i)) (part l0 op num all) l0.length) := ⟨HD2.out.put j HJ.out⟩
            have HM13 := Aside0.mk hM13
            clear hM13 hM2c hq1 hq2 hq3 hq4 hqb hqs hqk hlk hy1 HM3 HM23 HO3 HB3 HZ1 HZ2 HZ3 HZ4 BB hgr1
            go_wp2
            go_roundg k2
            case measure => omega
            case rel =>
             refine ⟨j + 1, _, by first | rfl | simp [hsum, hsum2], ⟨by have := HK.out; omega⟩, ⟨HPP.out.congr fun i hi => ?_⟩, HM13, HP1, HP2, HP3, HP4, HPM, HPO, HPB⟩
             by_cases e : i = j
             ·
              subst e; rw [if_pos rfl, HOPJ.out]; simp
             ·
              rw [if_neg e]
              have : decide (i < j) = decide (i < j + 1) := by by_cases h : i < j <;> simp [h] <;> omega
              rw [this]
     | succ k1 =>
      have hj : j < l0.length := by have := HK.out; omega
      have c1b : decide ((j : Int) < (l0.length : Int)) = true := decide_eq_true (by omega)
      have p1 : 0 ≤ (j : Int) := by omega
      have q1 : (j : Int) < (l0.length : Int) := by omega
      have hsum : IntKind.i64.wrap ((j : Int) + 1) = ((j + 1 : Nat) : Int) := by have := HNN.out; exact IntWalk.i64_in _ (by omega)
      have hsum2 : wrap64 ((j : Int) + 1) = ((j + 1 : Nat) : Int) := by have := HNN.out; unfold wrap64; omega
      obtain ⟨ad, ead, hx0, hx1, hx2⟩ := at_T64 (Kd.C_below HR.out HB.out) (j : Int) p1 q1
      cases ead
      obtain ⟨t, ht⟩ : ∃ t, tk l0 j = t := ⟨_, rfl⟩
      have ht' : rd_T64 l0 (j : Int) = t := ht
      rw [ht'] at hx0 hx1 hx2
      simp only [Int.toNat_natCast] at hx0 hx1 hx2
      have HT := Aside0.mk ht
      have HJ := Aside0.mk hj
      clear ht ht' hj
      replace p1 := eq_true p1
      replace q1 := eq_true q1
      go_upto_region 8 with (first | ((with_reducible refine gate_dst (N := 12) rfl ?_); refine box_event ?hg (N := 12) ?hd (cs := #[.int .i64 0, .int .i64 0, .int .i64 0]) (t := 64) ?hr ?_; (case hd => rfl); (case hg => rfl); (case hr => first | (go_simp; done) | (go_simp; rfl)); intro gb hg w5 hbox hb; have BX := Aside0.mk hbox; have HB2 := Aside0.mk hb; have HG := Aside0.mk hg; clear hbox hb hg; have hz0 : w5.cell? ⟨gb, 0, none⟩ = some (.int .i64 0) := (blk_cell BX.out 0).trans rfl; have hz1 : w5.cell? ⟨gb, 1, none⟩ = some (.int .i64 0) := (blk_cell BX.out 1).trans rfl; have hz2 : w5.cell? ⟨gb, 2, none⟩ = some (.int .i64 0) := (blk_cell BX.out 2).trans rfl; have hf0 := blk_frozen BX.out 0; have hf1 := blk_frozen BX.out 1; have hf2 := blk_frozen BX.out 2))
      obtain ⟨W3, hW3⟩ : ∃ W3, (((w5.setCell ⟨gb, 0, none⟩ (.int .i64 t.f0)).setCell ⟨gb, 1, none⟩ (.int .i64 t.f1)).setCell ⟨gb, 2, none⟩ (.int .i64 t.f2)) = W3 := ⟨_, rfl⟩
      have hgw := HG.out
      have hwr : w.heap.size ≤ wr.heap.size := HB.out.size
      have hbl0 : Below wr.heap.size wr W3 := by rw [← hW3]; exact below3 HB2.out (by omega) _ _ _
      have BB := Aside0.mk (by rw [← hW3]; exact three BX.out _ _ _ : W3.heap[gb]? = some (.cells #[.int .i64 t.f0, .int .i64 t.f1, .int .i64 t.f2] 64 (0, 0)))
      have HM3 := Aside0.mk (ownsMap_heap HM.out (hbl0.block _ HM.out.lt))
      have HO3 := Aside0.mk (Kd.R_below HO.out hbl0)
      have HB3 := Aside0.mk (HB.out.trans (hbl0.mono hwr))
      have HNE : Aside0 (b1 ≠ gb) := ⟨by have := HM.out.lt; omega⟩
      have HNE2 : Aside0 (gb ≠ g) := ⟨by have := (row_at HO.out (tab_length _ _) j HJ.out).2.2.1; omega⟩
      rw [hW3]
      clear hW3 HM HO HB BX HB2 hbl0 hz0 hz1 hz2 hf0 hf1 hf2 hgw HG
      have hy0 : W3.cell? ⟨gb, 0, none⟩ = some (.int .i64 t.f0) := (blk_cell BB.out 0).trans rfl
      have hy1 : W3.cell? ⟨gb, 1, none⟩ = some (.int .i64 t.f1) := (blk_cell BB.out 1).trans rfl
      obtain ⟨hro, hrf, _, hrb⟩ := row_at HO3.out (tab_length _ _) j HJ.out
      have HRB := Aside0.mk hrb
      clear hrb
      go_upto_region 9 with (fail)
      have HP0 := (Kd.R_put (xs := tab l0.length (fun i => if i < j then (tk l0 i).f0 else 0)) (g := g) (cap := cap) (by rw [tab_length]; exact HO3.out) (j : Int) t.f0).1
      rw [tab_length, Int.toNat_natCast, tab_set _ _ _ _ HJ.out] at HP0
      obtain ⟨W4, hW4⟩ : ∃ W4, W3.setCell ⟨g, j, none⟩ (.int .i64 t.f0) = W4 := ⟨_, rfl⟩
      have HO4 : Aside0 (Kd.R (Kd.int .i64) 3 W4 w.heap.size (fun k => k ≠ b1) (.slice (some ⟨g, 0, none⟩) l0.length cap) (tab l0.length (fun i => if i < j + 1 then (tk l0 i).f0 else 0))) := ⟨by
       rw [← hW4]
       refine Eq.mp (congrArg _ (tab_congr fun i hi => ?_)) HP0
       by_cases e : i = j
       ·
        subst e; rw [if_pos rfl, if_pos (by omega), HT.out]
       ·
        rw [if_neg e]
        by_cases e2 : i < j
        ·
         rw [if_pos e2, if_pos (by omega)]
        ·
         rw [if_neg e2, if_neg (by omega)]⟩
      have HM4 : Aside0 (W4.ownsMap Try.prog 3 (plainElem (H := Unit) Try.prog 4) b1 j D) := ⟨by rw [← hW4]; exact HM3.out.setCell (a := ⟨g, j, none⟩) (Ne.symm HGB.out) _⟩
      have BB4 := Aside0.mk (by rw [← hW4]; exact blk_far (p := ⟨g, j, none⟩) BB.out HNE2.out _ : W4.heap[gb]? = some (.cells #[.int .i64 t.f0, .int .i64 t.f1, .int .i64 t.f2] 64 (0, 0)))
      have HB4 : Aside0 (Below w.heap.size w W4) := ⟨by rw [← hW4]; exact HB3.out.setCell (p := ⟨g, j, none⟩) HRB.out _⟩
      rw [hW4]
      clear hW4 HP0 HM3 HO3 HB3 hy0 hy1 hro hrf BB
      have hy1 : W4.cell? ⟨gb, 1, none⟩ = some (.int .i64 t.f1) := (blk_cell BB4.out 1).trans rfl
      have hbd := OK.out.bd j HJ.out
      rw [HT.out] at hbd
      have hopj : opA j = decide (0 < t.f1) := by rw [HOP.out]; simp [HJ.out, HT.out]
      by_cases hgr : 0 < t.f1
      ·
       have c2b : decide (t.f1 > 0) = true := decide_eq_true hgr
       have hop1 : opA j = true := by rw [hopj]; exact decide_eq_true hgr
       have hg1 : grown l0 opA (j + 1) = grown l0 opA j + t.f1 := by simp only [grown, hop1, if_true, HT.out]
       have hgb := grown_bd (op := opA) OK.out j (by have := HJ.out; omega)
       have hs1 : wrap64 (grown l0 opA j + t.f1) = grown l0 opA (j + 1) := by rw [hg1]; have := HNN.out; have := HJ.out; unfold wrap64; omega
       clear hopj hbd hgb
       go_upto_region 10 with (fail)
       have HG1 := Aside0.mk hg1
       have HOP1 := Aside0.mk hop1
       clear hg1 hop1 hgr c2b hy1
       refine start_ (n := 8) (S := fun w' => w'.cell? ⟨gb, 0, none⟩ = some (.int .i64 t.f0) ∧ w'.cell? ⟨gb, 1, none⟩ = some (.int .i64 t.f1) ∧ w'.cell? ⟨gb, 2, none⟩ = some (.int .i64 t.f2)) (ds := []) #[false, false, false, false, false, false, false, false] (by kernel_rfl) rfl rfl ⟨(blk_cell BB4.out 0).trans rfl, (blk_cell BB4.out 1).trans rfl, (blk_cell BB4.out 2).trans rfl⟩ (fun hHeld => ?_)
       have HM5 := Aside0.mk (ownsMap_heap (w' := W4.drew) HM4.out rfl)
       have HO5 := Aside0.mk (Kd.R_drew HO4.out)
       have HB5 := Aside0.mk (below_drew HB4.out)
       have BX := Aside0.mk (blk_drew BB4.out)
       clear HM4 HO4 HB4 BB4
       generalize W4.drew = w25 at HM5 HO5 HB5 BX hHeld ⊢
       refine pure_ (i := 0) (N := some 55) (v := ?_) (a' := ?_) #[true, false, false, false, false, false, false, false] rfl rfl (by kernel_rfl) (fun _ _ _ h => h) (Or.inl ⟨by rfl, ?_⟩) ?_ ?_
       rotate_left
       ·
        intro w'
        go_simp
        with_reducible rfl
       rotate_left
       ·
        simp only [Act.put, List.setIfInBounds_toArray, List.set_cons_zero, List.set_cons_succ, i64_w, i32_w]
        rfl
       refine pure_ (i := 1) (N := some 56) (v := ?_) (a' := ?_) #[true, true, false, false, false, false, false, false] rfl rfl (by kernel_rfl) (fun _ _ _ h => h) (Or.inl ⟨by rfl, ?_⟩) ?_ ?_
       rotate_left
       ·
        intro w'
        go_simp
        with_reducible rfl
       rotate_left
       ·
        simp only [Act.put, List.setIfInBounds_toArray, List.set_cons_zero, List.set_cons_succ, i64_w, i32_w]
        rfl
       refine pure_ (i := 2) (N := some 57) (v := ?_) (a' := ?_) #[true, true, true, false, false, false, false, false] rfl rfl (by kernel_rfl) (fun _ _ _ h => h) (Or.inl ⟨by rfl, ?_⟩) ?_ ?_
       rotate_left
       ·
        intro w'
        go_simp
        with_reducible rfl
       rotate_left
       ·
        simp only [Act.put, List.setIfInBounds_toArray, List.set_cons_zero, List.set_cons_succ, i64_w, i32_w]
        rfl
       refine pure_ (i := 3) (N := some 58) (v := ?_) (a' := ?_) #[true, true, true, true, false, false, false, false] rfl rfl (by kernel_rfl) (fun _ _ _ h => h) (Or.inl ⟨by rfl, ?_⟩) ?_ ?_
       rotate_left
       ·
        intro w'
        go_simp
        with_reducible rfl
       rotate_left
       ·
        simp only [Act.put, List.setIfInBounds_toArray, List.set_cons_zero, List.set_cons_succ, i64_w, i32_w]
        rfl
       refine take_ (i := 4) (N := some 59) (v := ?_) (a' := ?_) #[true, true, true, true, true, false, false, false] rfl rfl (by kernel_rfl) (fun _ _ _ h => h) (Or.inl ⟨by rfl, ?_⟩) hHeld ?_ ?_
       rotate_left
       ·
        rintro w' ⟨s0, s1, s2⟩
        go_simp
        with_reducible rfl
       rotate_left
       ·
        simp only [Act.put, List.setIfInBounds_toArray, List.set_cons_zero, List.set_cons_succ, i64_w, i32_w]
        rfl
       refine pure_ (i := 5) (N := some 60) (v := ?_) (a' := ?_) #[true, true, true, true, true, true, false, false] rfl rfl (by kernel_rfl) (fun _ _ _ h => h) (Or.inl ⟨by rfl, ?_⟩) ?_ ?_
       rotate_left
       ·
        intro w'
        go_simp
        with_reducible rfl
       rotate_left
       ·
        simp only [Act.put, List.setIfInBounds_toArray, List.set_cons_zero, List.set_cons_succ, i64_w, i32_w]
        rfl
       obtain ⟨w26, hrun1, hM1, hgr1⟩ := HM5.out.update keyed3 um44 (by have := HNN.out; have := HJ.out; simp [maxLen]; omega) (keyOf_int_mk Try.underlying3 (a := (j : Int)) (wf_i64 _ (by omega) (by have := HNN.out; have := HJ.out; omega))) (plainElem_bool Try.underlying4 true)
       have BX1 := grown_cell BX.out hgr1 (Ne.symm HNE.out)
       refine one_ (i := 6) (N := none) #[true, true, true, true, true, true, true, false] rfl rfl (by kernel_rfl) (by decide) (fun K hK => ?_)
       refine map_step (by rfl) _ _ _ _ rfl _ _ _ rfl rfl rfl hrun1 rfl ?_
       refine hK.out _ _ ⟨(blk_cell BX1 0).trans rfl, (blk_cell BX1 1).trans rfl, (blk_cell BX1 2).trans rfl⟩ (fun hHeld1 => ?_)
       clear hK K
       refine pure_ (i := 7) (N := some 9) (v := ?_) (a' := ?_) #[true, true, true, true, true, true, true, true] rfl rfl (by kernel_rfl) (fun _ _ _ h => h) (Or.inl ⟨by rfl, ?_⟩) ?_ ?_
       rotate_left
       ·
        intro w'
        go_simp
        with_reducible rfl
       rotate_left
       ·
        simp only [Act.put, List.setIfInBounds_toArray, List.set_cons_zero, List.set_cons_succ, i64_w, i32_w]
        rfl
       refine done_ (by kernel_rfl) ?_
       go_wp2
       go_roundg k1
       case measure => omega
       case rel =>
        refine ⟨j + 1, _, by first | rfl | simp, by first | rfl | simp [hsum, hsum2], ⟨by have := HK.out; omega⟩, ⟨(HD.out.put j HJ.out (by simp)).congr fun i hi => ?_⟩, ⟨hM1⟩, ⟨r_map HO5.out hgr1 (fun k hk => hk)⟩, ⟨HB5.out.grown hgr1 HB5.out.size (fun k e => by cases e; exact Hb1.out)⟩⟩
        by_cases e : i = j
        ·
         subst e; rw [if_pos rfl, HOP1.out]; simp
        ·
         rw [if_neg e]
         have : decide (i < j) = decide (i < j + 1) := by by_cases h : i < j <;> simp [h] <;> omega
         rw [this]
      ·
       have c2b : decide (t.f1 > 0) = false := decide_eq_false hgr
       have hop1 : opA j = false := by rw [hopj]; exact decide_eq_false hgr
       have hg1 : grown l0 opA (j + 1) = grown l0 opA j := by simp only [grown, hop1, Bool.false_eq_true, if_false, Int.add_zero]
       have HG1 := Aside0.mk hg1
       have HOP1 := Aside0.mk hop1
       clear hopj hbd hg1 hop1 hgr
       go_wp2
       go_roundg k1
       case measure => omega
       case rel =>
        refine ⟨j + 1, _, by rw [HG1.out], by first | rfl | simp [hsum, hsum2], ⟨by have := HK.out; omega⟩, ⟨HD.out.congr fun i hi => ?_⟩, ⟨HM4.out.mono (by omega)⟩, HO4, HB4⟩
        by_cases e : i = j
        ·
         subst e; simp [HOP1.out]
        ·
         have : decide (i < j) = decide (i < j + 1) := by by_cases h : i < j <;> simp [h] <;> omega
         rw [this]
end Go.Proofs.Ytciheadencbmjaa.P
