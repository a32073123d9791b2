import Derived.Test.YtdmfhabhcagioaaHRuns
import Derived.Lib.ConvBytes
import Derived.Laws.EntriesVeiled
set_option linter.unusedVariables false
set_option linter.unusedSimpArgs false
namespace Go.Proofs.Ytdmfhabhcagioaa.P
open Go.RowKit Go.Proofs.YtdmfhabhcagioaaW.PrintWords Go.Proofs.YtdmfhabhcagioaaW.PrintLast Go.Proofs.YtdmfhabhcagioaaW.PrintMore Go.Proofs.Ytdmfhabhcagioaa.Rng Go.Bidi
attribute [local go_sem] Oper.semAt_some
def classes (s : ByteArray) : List Int := (bytesOf s).map cls
theorem classes_length (s : ByteArray) : (classes s).length = s.size := by simp [classes, bytesOf]
theorem runsL_map {α β : Type} (p : β → Bool) (f : α → β) : ∀ (l : List α) (st i : Nat), runsL (fun x => p (f x)) st i l = runsL p st i (l.map f)
  | [], _, _ => rfl
  | x :: r, st, i => by
    rw [List.map_cons, runsL, runsL, runsL_map p f r, runsL_map p f r]
theorem runs_classes (s : ByteArray) : runsL neutC 0 0 (bytesOf s) = runsL neutral 0 0 (classes s) := runsL_map neutral cls (bytesOf s) 0 0
theorem at_len (dir : Int) (l : List Int) (i : Int) (h0 : ¬ i < 0) (h1 : i < (l.length : Int)) : at_ dir l i = rd l i := by unfold at_; rw [if_neg (by omega)]; rfl
theorem at31_calls (Bo Bd : Nat) (A : Option Addr) (c : Nat) (xs : List Int) (dir i : Int) (w : World) (h1 : w.cell? ⟨Bo, 0, none⟩ = some (.slice A xs.length c)) (h2 : w.cell? ⟨Bd, 0, none⟩ = some (.int .i64 dir)) (hC : Kd.C (Kd.int .i64) w A xs.length xs) :
    Calls Try.prog 31 #[.int .i64 i, .pointer (some ⟨Bo, 0, none⟩), .pointer (some ⟨Bd, 0, none⟩)] w fun e w' => e = .returned (.int .i64 (at_ dir xs i)) ∧ w = w' := by
  by_cases h0 : i < 0
  · have hv : at_ dir xs i = dir := by unfold at_; rw [if_pos (.inl h0)]
    rw [hv]
    have d1 : decide (i < 0) = true := decide_eq_true h0
    clear h0 hv hC
    go_enter Try.func31, Try.ntmps31
    go_wp2
    go_ret
    exact ⟨rfl, rfl⟩
  · have d1 : decide (i < 0) = false := decide_eq_false h0
    by_cases h3 : i < (xs.length : Int)
    · rw [at_len dir xs i h0 h3]
      have d2 : decide (i ≥ (xs.length : Int)) = false := decide_eq_false (by omega)
      obtain ⟨ad, ead, hx⟩ := Kd.at_int hC i (by omega) h3
      cases ead
      obtain ⟨x, hxx⟩ : ∃ x, rd xs i = x := ⟨_, rfl⟩
      rw [hxx] at hx ⊢
      have p1 : (0 ≤ i) = True := eq_true (by omega)
      have q1 : (i < (xs.length : Int)) = True := eq_true h3
      clear h0 h3 hC hxx
      go_enter Try.func31, Try.ntmps31
      go_wp2
      go_ret
      exact ⟨rfl, rfl⟩
    · have hv : at_ dir xs i = dir := by unfold at_; rw [if_pos (.inr (by omega))]
      rw [hv]
      have d2 : decide (i ≥ (xs.length : Int)) = true := decide_eq_true (by omega)
      clear h0 h3 hC hv
      go_enter Try.func31, Try.ntmps31
      go_wp2
      go_ret
      exact ⟨rfl, rfl⟩
theorem fillSeg_nil (l : List Int) (i : Nat) (n : Int) (h : i ≤ l.length) : fillSeg l i i n = l := by simp [fillSeg]
theorem fillSeg_length (l : List Int) (i k : Nat) (n : Int) (h : i ≤ k) (h2 : k ≤ l.length) : (fillSeg l i k n).length = l.length := by simp [fillSeg]; omega
theorem fillSeg_succ (l : List Int) (i k : Nat) (n : Int) (h : i ≤ k) (h2 : k < l.length) : fillSeg l i (k + 1) n = (fillSeg l i k n).set k n := by
  unfold fillSeg
  have hl : (l.take i ++ List.replicate (k - i) n).length = k := by simp; omega
  rw [List.drop_eq_getElem_cons h2, show k + 1 - i = (k - i) + 1 by omega, List.replicate_succ', List.set_append_right _ _ (by rw [hl]; exact Nat.le_refl _), hl, Nat.sub_self, List.set_cons_zero]
  simp
set_option maxRecDepth 100000 in
set_option maxHeartbeats 2000000 in
theorem fill34_calls (g i k cap c2 : Nat) (n : Int) (xs : List Int) (w : World) (base : Nat) (ok : Nat → Prop) (hR : Kd.R (Kd.int .i64) 3 w base ok (.slice (some ⟨g, 0, none⟩) xs.length cap) xs) (hik : i ≤ k) (hk : k ≤ xs.length) (hl : xs.length ≤ 1000000) :
    Calls Try.prog 34 #[.slice (some ⟨g, i, none⟩) (k - i) c2, .int .i64 n] w fun e w' => (∃ v, e = .returned v) ∧ Kd.R (Kd.int .i64) 3 w' base ok (.slice (some ⟨g, 0, none⟩) xs.length cap) (fillSeg xs i k n) ∧ w.grownBy w' (some g) := by
  have HR := Aside0.mk hR
  have HK := Aside0.mk (And.intro hik hk)
  have HL := Aside0.mk hl
  obtain ⟨m, hm⟩ : ∃ m, k - i = m := ⟨_, rfl⟩
  rw [hm]
  have HM := Aside0.mk hm
  clear hR hik hk hl hm
  go_enter Try.func34, Try.ntmps34
  go_wp2
  go_loopg [7] m (fun kq v7 w' => ∃ j : Nat, v7 = .int .i64 (j : Int) ∧ Aside0 (kq + j = m) ∧ Aside0 (Kd.R (Kd.int .i64) 3 w' base ok (.slice (some ⟨g, 0, none⟩) xs.length cap) (fillSeg xs i (i + j) n)) ∧ Aside0 (w.grownBy w' (some g)))
  case atStart => exact ⟨0, rfl, ⟨rfl⟩, ⟨by rw [Nat.add_zero, fillSeg_nil _ _ _ (by have := HK.out; omega)]; exact HR.out⟩, ⟨World.grownBy.refl _ _⟩⟩
  case round =>
    obtain ⟨j, rfl, HQ, HO, HG⟩ := hrel
    cases gk with
    | zero =>
      have hjm : j = m := by have := HQ.out; omega
      subst hjm
      have d1 : decide ((j : Int) < (j : Int)) = false := by simp
      have HE : Aside0 (i + j = k) := ⟨by have := HM.out; have := HK.out; omega⟩
      go_wp2
      first | go_end0 | ((try simp only [Exit.inBlock, Exit.then]); refine bodyPost_ret (results_none rfl _ _ _) rfl ?_)
      exact ⟨⟨_, rfl⟩, by rw [← HE.out]; exact HO.out, HG.out⟩
    | succ k1 =>
      have hj : j < m := by have := HQ.out; omega
      have d1 : decide ((j : Int) < (m : Int)) = true := decide_eq_true (by omega)
      have p1 : (0 ≤ (j : Int)) = True := eq_true (by omega)
      have q1 : ((j : Int) < (m : Int)) = True := eq_true (by omega)
      have hsum : IntKind.i64.wrap ((j : Int) + 1) = ((j + 1 : Nat) : Int) := IntWalk.i64_in _ (by have := HM.out; have := HK.out; have := HL.out; omega)
      have hsum2 : wrap64 ((j : Int) + 1) = ((j + 1 : Nat) : Int) := by have := HM.out; have := HK.out; have := HL.out; unfold wrap64; omega
      have hlen : (fillSeg xs i (i + j) n).length = xs.length := fillSeg_length xs i (i + j) n (by omega) (by have := HM.out; have := HK.out; omega)
      have hO := HO.out
      have hc := Kd.R_celln 0 hO ((i + j : Nat) : Int) (by omega) (by have := HM.out; have := HK.out; omega)
      have hp := Kd.R_putg hO ((i + j : Nat) : Int) n
      rw [Int.toNat_natCast] at hc hp
      obtain ⟨z, hz⟩ : ∃ z, rdOf 0 (fillSeg xs i (i + j) n) ((i + j : Nat) : Int) = z := ⟨_, rfl⟩
      rw [hz] at hc
      obtain ⟨hc1, hc2⟩ := hc
      have hadd : (⟨g, i, none⟩ : Addr).add j = ⟨g, i + j, none⟩ := by simp [Addr.add]; try omega
      have HP := Aside0.mk hp
      have HJ := Aside0.mk hj
      have HNX : Aside0 (fillSeg xs i (i + (j + 1)) n = (fillSeg xs i (i + j) n).set (i + j) n) := ⟨fillSeg_succ xs i (i + j) n (by omega) (by have := HM.out; have := HK.out; omega)⟩
      clear hO hp hz hlen hj
      go_wp2
      go_roundg k1
      case measure => omega
      case rel => exact ⟨j + 1, by simp [hsum, hsum2], ⟨by have := HQ.out; omega⟩, ⟨by rw [HNX.out]; exact HP.out.1⟩, ⟨HG.out.trans HP.out.2⟩⟩

theorem R_from {β α : Type} {d : Kd α} {e base B : Nat} {ok : Nat → Prop} {v : Value} (f : β → List α) (hok : ∀ k, ok k → k < B) : OwnFrom B (fun s W => Kd.R d e W base ok v (f s)) := fun s W W' row hs hg hr =>
  Kd.R_grown hs hg (fun k hk e => by
    have := (hr k e.symm).1
    have := hok k hk
    omega)
theorem R_upto {α : Type} {d : Kd α} {e base : Nat} {W : World} {ok : Nat → Prop} {v : Value} {xs : List α} (h : Kd.R d e W base ok v xs) : Kd.R d e W base (fun k => k < W.heap.size ∧ base ≤ k) v xs := Kd.R_mono (Kd.R_bound h) (fun k hk => ⟨hk.2.2.1, hk.2.1⟩)
theorem endD_snoc (now c : Int) : ∀ l : List Int, endD now (l ++ [c]) = upd (endD now l) c := by
  intro l
  induction l generalizing now with
  | nil => rfl
  | cons x r ih => exact ih _
theorem lets_snoc (now c : Int) : ∀ l : List Int, lets now (l ++ [c]) = lets now l ++ [upd (endD now l) c] := by
  intro l
  induction l generalizing now with
  | nil => rfl
  | cons x r ih => simp [lets, endD, ih]
theorem fold_len {α : Type} (dir : Int) (p : α → Bool) (l : List α) (out : List Int) (ho : out.length = l.length) : ∀ pre z, runsL p 0 0 l = pre ++ z → (pre.foldl (fillStep dir) out).length = out.length := by
  intro pre z h
  have hb : ∀ x ∈ pre, x.1 ≤ x.2 ∧ x.2 ≤ out.length := fun x hx => by
    have := runsL_bd p l 0 0 (Nat.le_refl _) x (by rw [h]; simp [hx])
    omega
  clear h
  induction pre generalizing out with
  | nil => rfl
  | cons x r ih =>
    have h1 := hb x (by simp)
    have h2 := fillStep_length dir out x h1.1 h1.2
    rw [List.foldl_cons, ih (fillStep dir out x) (by rw [h2]; exact ho) (fun y hy => by rw [h2]; exact hb y (by simp [hy])), h2]
/-- What the first loop has written. -/
def letsTo (s : ByteArray) (dir : Int) (i : Nat) : List Int := lets dir ((classes s).take i) ++ List.replicate (s.size - i) 0
theorem letsTo_length (s : ByteArray) (dir : Int) (i : Nat) (h : i ≤ s.size) : (letsTo s dir i).length = s.size := by simp [letsTo, lets_length, classes_length]; omega
theorem class_at (s : ByteArray) (i : Nat) (h : i < s.size) : (classes s).take (i + 1) = (classes s).take i ++ [cls (bt s (i : Int))] := by
  have hl : i < (classes s).length := by rw [classes_length]; exact h
  rw [List.take_succ_eq_append_getElem hl]
  congr 2
  simp only [classes, List.getElem_map]
  congr 1
  have := rd_bytesOf s (i : Int)
  rw [← this]
  have hb : i < (bytesOf s).length := by simpa [classes] using hl
  simp [rd, List.getD_eq_getElem?_getD, List.getElem?_eq_getElem hb]
theorem letsTo_succ (s : ByteArray) (dir : Int) (i : Nat) (h : i < s.size) : letsTo s dir (i + 1) = (letsTo s dir i).set i (upd (endD dir ((classes s).take i)) (cls (bt s (i : Int)))) := by
  unfold letsTo
  have hl : (lets dir ((classes s).take i)).length = i := by simp [lets_length, classes_length]; omega
  rw [class_at s i h, lets_snoc, List.set_append_right _ _ (by rw [hl]; exact Nat.le_refl _), hl, Nat.sub_self, show s.size - i = (s.size - (i + 1)) + 1 by omega, List.replicate_succ, List.set_cons_zero]
  simp
theorem letsTo_all (s : ByteArray) (dir : Int) : letsTo s dir s.size = lets dir (classes s) := by
  unfold letsTo
  rw [List.take_of_length_le (by rw [classes_length]; exact Nat.le_refl _), Nat.sub_self]
  simp
def DirPost (s : ByteArray) (dir : Int) (w : World) (e : Ending) (w' : World) : Prop := ∃ v : Value, e = .returned v ∧ Kd.R (Kd.int .i64) 3 w' w.heap.size (fun _ => True) v (dirs dir dir (classes s)) ∧ Below w.heap.size w w'
set_option maxRecDepth 100000 in
set_option maxHeartbeats 1000000 in
theorem dirs25_calls (s : ByteArray) (dir : Int) (w : World) (hs : s.size ≤ 2000) : Calls Try.prog 25 #[.string s, .int .i64 dir] w (DirPost s dir w) := by
  have HS := Aside0.mk hs
  clear hs
  refine (callsIn_wide (n := 3)).1 ?_
  refine callsIn_of_wp_marks Try.func25 rfl trivial ?_ rfl
  simp only [Try.ntmps25, List.size_toArray, List.length_cons, List.length_nil, Nat.reduceAdd, Nat.reduceSub, Array.replicate_succ, Array.replicate_zero, List.push_toArray, List.append_toArray, List.nil_append, List.cons_append]
  refine wpIn_wide.2 ?_
  have hms : s.size ≤ 9223372036854775807 := by have := HS.out; omega
  go_upto_region 2 with (first | ((with_reducible refine gate_dst (N := 15) rfl ?_); refine Kd.R_make (Kd.int .i64) (w.heap.size + 1) 3 rfl (N := 15) rfl 23 _ _ rfl (s.size : Int) rfl rfl Try.underlying23 (.int .i64 0) 8 info3 rfl (by decide) (by omega) 0 (ok := fun _ => True) (okp := fun _ => True) rfl (fun _ hk => hk) trivial (by omega) (by have := HS.out; omega) (Below.refl _ _) (by simp) ?_; intro v1 w1 ho hb hg _; obtain ⟨A1, c1, e1⟩ := Kd.R_slice ho; simp only [Int.toNat_natCast, List.length_replicate] at e1 ho; subst e1; have HO1 := Aside0.mk ho; have HB1 := Aside0.mk hb; clear ho hb hg))
  obtain ⟨W0, hW0⟩ : ∃ W0, w1.alloc (.cells #[.slice A1 s.size c1] 23) = W0 := ⟨_, rfl⟩
  rw [hW0]
  have hsz1 : w.heap.size + 1 ≤ w1.heap.size := by have := HB1.out.size; simpa using this
  have BD : Aside0 (Boxed W0 w.heap.size 3 (.int .i64 dir)) := ⟨by
    rw [← hW0]
    refine Boxed.alloc ?_ _
    exact (HB1.out.block _ (by omega)).trans (Boxed.new w 3 (.int .i64 dir))⟩
  have BO : Aside0 (Boxed W0 w1.heap.size 23 (.slice A1 s.size c1)) := ⟨by rw [← hW0]; exact Boxed.new w1 23 _⟩
  have HO : Aside0 (Kd.R (Kd.int .i64) 3 W0 (w.heap.size + 1) (fun k => k < w1.heap.size) (.slice A1 s.size c1) (letsTo s dir 0)) := ⟨by
    have h1 := Kd.R_alloc (Kd.R_mono (R_upto HO1.out) (fun k hk => hk.1)) (.cells #[.slice A1 s.size c1] 23)
    rw [hW0] at h1
    simpa [letsTo, lets] using h1⟩
  have HBL : Aside0 (Below w.heap.size w W0) := ⟨by
    rw [← hW0]
    refine below_alloc (((Below.refl _ w).alloc (Nat.le_refl _) (.cells #[.int .i64 dir] 3)).trans (HB1.out.mono (by omega))) _⟩
  have HSZ : Aside0 (w.heap.size < w1.heap.size ∧ w1.heap.size < W0.heap.size) := ⟨by omega, by rw [← hW0]; simp⟩
  clear hW0 hsz1 HO1 HB1
  have cd := BD.out.cell
  have co := BO.out.cell
  go_upto_region 4 with (fail)
  clear cd co
  go_loopg [6, 19] s.size (fun kq v6 v19 w' => ∃ i : Nat, v19 = .int .i64 (i : Int) ∧ v6 = .int .i64 (endD dir ((classes s).take i)) ∧ Aside0 (kq + i = s.size) ∧ Aside0 (Boxed w' w.heap.size 3 (.int .i64 dir)) ∧ Aside0 (Boxed w' w1.heap.size 23 (.slice A1 s.size c1)) ∧ Aside0 (Kd.R (Kd.int .i64) 3 w' (w.heap.size + 1) (fun k => k < w1.heap.size) (.slice A1 s.size c1) (letsTo s dir i)) ∧ Aside0 (Below w.heap.size w w') ∧ Aside0 (W0.heap.size ≤ w'.heap.size))
  case atStart => exact ⟨0, rfl, rfl, ⟨rfl⟩, BD, BO, HO, HBL, ⟨Nat.le_refl _⟩⟩
  case round =>
    clear BD BO HO HBL
    obtain ⟨i, rfl, rfl, HK, BD, BO, HO, HBL, HZ⟩ := hrel
    cases gk with
    | succ k1 =>
      have hi : i < s.size := by have := HK.out; omega
      have d1 : decide ((i : Int) < (s.size : Int)) = true := decide_eq_true (by omega)
      have d1b : decide (i < s.size) = true := decide_eq_true hi
      have p1 : (0 ≤ (i : Int)) = True := eq_true (by omega)
      have q1 : ((i : Int) < (s.size : Int)) = True := eq_true (by omega)
      have hsum : IntKind.i64.wrap ((i : Int) + 1) = ((i + 1 : Nat) : Int) := IntWalk.i64_in _ (by have := HS.out; omega)
      have hsum2 : wrap64 ((i : Int) + 1) = ((i + 1 : Nat) : Int) := by have := HS.out; unfold wrap64; omega
      have co := BO.out.cell
      obtain ⟨g, cap, eg, hgb, hgl, cells, hcells⟩ := Kd.R_form HO.out (by rw [letsTo_length s dir i (by omega)]; omega)
      rw [letsTo_length s dir i (by omega)] at eg
      cases eg
      have hf := blk_frozen hcells i
      have hc := (Kd.R_celln 0 HO.out (i : Int) (by omega) (by omega)).1
      rw [Int.toNat_natCast] at hc
      obtain ⟨z, hz⟩ : ∃ z, rdOf 0 (letsTo s dir i) (i : Int) = z := ⟨_, rfl⟩
      rw [hz] at hc
      have hb := bt_at s (i : Int)
      simp only [Int.toNat_natCast] at hb
      obtain ⟨b, hbb⟩ : ∃ b, bt s (i : Int) = b := ⟨_, rfl⟩
      simp only [hbb] at hb
      obtain ⟨nw, hnw⟩ : ∃ nw, endD dir ((classes s).take i) = nw := ⟨_, rfl⟩
      have HNX : Aside0 (letsTo s dir (i + 1) = (letsTo s dir i).set i (upd nw (cls b)) ∧ endD dir ((classes s).take (i + 1)) = upd nw (cls b)) := ⟨by rw [letsTo_succ s dir i hi, hnw, hbb], by rw [class_at s i hi, endD_snoc, hnw, hbb]⟩
      rw [hnw]
      have HI := Aside0.mk hi
      have hp := Kd.R_putg HO.out (i : Int) (upd nw (cls b))
      rw [Int.toNat_natCast] at hp
      have HP := Aside0.mk hp
      have HG := Aside0.mk (And.intro hgb hgl)
      have HGO := Aside0.mk (HO.out.1 g rfl)
      have hcl := class_calls b
      obtain ⟨cl, hcc⟩ : ∃ cl, cls b = cl := ⟨_, rfl⟩
      rw [hcc] at HNX HP hcl
      clear hz hbb hnw hgb hgl hcells hp hcc
      by_cases h1 : cl = 1
      · have e1 : (cl == 1) = true := beq_iff_eq.2 h1
        have HU : Aside0 (upd nw cl = 0) := ⟨by unfold upd; rw [if_pos h1]⟩
        clear h1
        rw [HU.out] at HNX HP
        go_wp2_with (first | (go_at_call 26; (with_reducible refine (hcl _).mono ?_); rintro e w2 ⟨rfl, rfl⟩))
        go_roundg k1
        case measure => omega
        case rel => exact ⟨i + 1, by simp [hsum, hsum2], by rw [HNX.out.2], ⟨by have := HK.out; omega⟩, ⟨BD.out.kept HP.out.2 (by have := HG.out; simp; omega)⟩, ⟨BO.out.kept HP.out.2 (by have := HGO.out; simp; omega)⟩, ⟨by rw [HNX.out.1]; exact HP.out.1⟩, ⟨HBL.out.setCell (p := ⟨g, i, none⟩) (by have := HG.out; show w.heap.size ≤ g; omega) _⟩, ⟨by have := HZ.out; have := HP.out.2.size; omega⟩⟩
      · have e1 : (cl == 1) = false := beq_eq_false_iff_ne.2 h1
        by_cases h2 : cl = 2
        · have e2 : (cl == 2) = true := beq_iff_eq.2 h2
          have HU : Aside0 (upd nw cl = 1) := ⟨by unfold upd; rw [if_neg h1, if_pos h2]⟩
          clear h1 h2
          rw [HU.out] at HNX HP
          go_wp2_with (first | (go_at_call 26; (with_reducible refine (hcl _).mono ?_); rintro e w2 ⟨rfl, rfl⟩))
          go_roundg k1
          case measure => omega
          case rel => exact ⟨i + 1, by simp [hsum, hsum2], by rw [HNX.out.2], ⟨by have := HK.out; omega⟩, ⟨BD.out.kept HP.out.2 (by have := HG.out; simp; omega)⟩, ⟨BO.out.kept HP.out.2 (by have := HGO.out; simp; omega)⟩, ⟨by rw [HNX.out.1]; exact HP.out.1⟩, ⟨HBL.out.setCell (p := ⟨g, i, none⟩) (by have := HG.out; show w.heap.size ≤ g; omega) _⟩, ⟨by have := HZ.out; have := HP.out.2.size; omega⟩⟩
        · have e2 : (cl == 2) = false := beq_eq_false_iff_ne.2 h2
          have HU : Aside0 (upd nw cl = nw) := ⟨by unfold upd; rw [if_neg h1, if_neg h2]⟩
          clear h1 h2
          rw [HU.out] at HNX HP
          go_wp2_with (first | (go_at_call 26; (with_reducible refine (hcl _).mono ?_); rintro e w2 ⟨rfl, rfl⟩))
          go_roundg k1
          case measure => omega
          case rel => exact ⟨i + 1, by simp [hsum, hsum2], by rw [HNX.out.2], ⟨by have := HK.out; omega⟩, ⟨BD.out.kept HP.out.2 (by have := HG.out; simp; omega)⟩, ⟨BO.out.kept HP.out.2 (by have := HGO.out; simp; omega)⟩, ⟨by rw [HNX.out.1]; exact HP.out.1⟩, ⟨HBL.out.setCell (p := ⟨g, i, none⟩) (by have := HG.out; show w.heap.size ≤ g; omega) _⟩, ⟨by have := HZ.out; have := HP.out.2.size; omega⟩⟩
    | zero =>
      obtain rfl : i = s.size := by have := HK.out; omega
      have d1 : decide ((s.size : Int) < (s.size : Int)) = false := by simp
      have hO := HO.out
      rw [letsTo_all] at hO
      have HO := Aside0.mk hO
      have kb := fun W => print_bytes (P := Try.prog) 9 43 5 Try.underlying9 Try.underlying43 Try.underlying5 s W
      clear hO HK
      go_wp2_with (first | (go_at_call 32; (with_reducible refine (runs32_calls _ _ _ _ _ _).mono ?_); rintro e w2 ⟨rfl, rfl⟩))
      obtain ⟨B, hB⟩ : ∃ B, wr.heap.size = B := ⟨_, rfl⟩
      obtain ⟨Wc, hWc⟩ : ∃ Wc, wr.alloc (.cells #[.func (.func 31) #[] #[.pointer (some ⟨w1.heap.size, 0, none⟩), .pointer (some ⟨w.heap.size, 0, none⟩)]] 45) = Wc := ⟨_, rfl⟩
      simp only [hWc, World.size_alloc, Lib.bytesWorld_size, hB]
      have hsc : Wc.heap.size = B + 1 := by rw [← hWc]; simp [hB]
      obtain ⟨gc, hgc⟩ : ∃ gc, grownCap Wc s.size 0 5 = gc := ⟨_, rfl⟩
      simp only [hsc, hgc]
      obtain ⟨W9, hW9⟩ : ∃ W9, ((Lib.bytesWorld Wc 5 s).alloc (.cells #[.slice (some ⟨B + 1, 0, none⟩) s.size gc] 43)).alloc (.cells #[.func (.func 33) #[] #[]] 49) = W9 := ⟨_, rfl⟩
      simp only [hW9]
      have bc : Boxed Wc B 45 (.func (.func 31) #[] #[.pointer (some ⟨w1.heap.size, 0, none⟩), .pointer (some ⟨w.heap.size, 0, none⟩)]) := by rw [← hWc, ← hB]; exact Boxed.new wr 45 _
      have bl1 : Below wr.heap.size wr Wc := by rw [← hWc]; exact below_alloc (Below.refl _ _) _
      have bl2 : Below Wc.heap.size Wc W9 := by rw [← hW9]; exact below_alloc (below_alloc (bytes_below (Below.refl _ _) (Nat.le_refl _) 5 s) _) _
      have blr : Below wr.heap.size wr W9 := bl1.trans (bl2.mono (by rw [hsc]; omega))
      have hr0 := bytes_reads Wc 5 s (by have := HS.out; omega)
      rw [hsc] at hr0
      have hr1 : Kd.C (Kd.int .u8) (Lib.bytesWorld Wc 5 s) (some ⟨B + 1, 0, none⟩) s.size (bytesOf s) := Kd.C_of_reads (enc := Value.int .u8) (d := (0 : Int)) (h1 := fun _ => rfl) hr0
      have hr9 : Kd.C (Kd.int .u8) W9 (some ⟨B + 1, 0, none⟩) (bytesOf s).length (bytesOf s) := by rw [bytesOf_length, ← hW9]; exact Kd.C_alloc (Kd.C_alloc hr1 _) _
      have bs9 : Boxed W9 (B + 2) 43 (.slice (some ⟨B + 1, 0, none⟩) (bytesOf s).length gc) := by
        rw [bytesOf_length, ← hW9]
        have := Boxed.new (Lib.bytesWorld Wc 5 s) 43 (.slice (some ⟨B + 1, 0, none⟩) s.size gc)
        rw [Lib.bytesWorld_size, hsc] at this
        exact this.alloc _
      have bh9 : Boxed W9 (B + 3) 49 (.func (.func 33) #[] #[]) := by
        rw [← hW9]
        have := Boxed.new ((Lib.bytesWorld Wc 5 s).alloc (.cells #[.slice (some ⟨B + 1, 0, none⟩) s.size gc] 43)) 49 (.func (.func 33) #[] #[])
        rwa [World.size_alloc, Lib.bytesWorld_size, hsc] at this
      have hs9 : W9.heap.size = B + 4 := by rw [← hW9]; simp [Lib.bytesWorld_size, hsc]
      have bc9 := (bl2.block _ bc.lt).trans bc
      have bd9 := (blr.block _ BD.out.lt).trans BD.out
      have bo9 := (blr.block _ BO.out.lt).trans BO.out
      have ho9 := Kd.R_below HO.out blr
      have hbl9 := HBL.out.trans (blr.mono HBL.out.size)
      have hzz : W0.heap.size ≤ B := by have := HZ.out; omega
      have hsw := HSZ.out
      have hiter := runs40_iter (bytesOf s) (some ⟨B + 1, 0, none⟩) gc (B + 2) (B + 3) (fun k => B + 1 ≤ k ∧ k < B + 4) W9 (by rw [bytesOf_length]; have := HS.out; omega) bs9 bh9 hr9 (by omega) (by omega) (fun ad e _ => by cases e; refine ⟨⟨?_, ?_⟩, ?_⟩ <;> first | omega | (show _ ≤ B + 1; omega) | (show B + 1 < _; omega))
      clear hr0 hr1 hr9 bs9 bh9 bl1 bl2 bc hWc hW9 kb d1 hgc hsc HO BD BO HBL HZ
      refine (wpIn_wide (n := 3)).1 ?_
      refine rangeFunc (lb := #[.pointer (some ⟨B + 2, 0, none⟩), .pointer (some ⟨B + 3, 0, none⟩)]) (gf := 40) rfl (enters_of Try.func40 (by kernel_rfl) rfl) hiter (fun _ => rfl) (fun k hk => by omega) (fun _ _ _ _ _ _ h _ _ => h)
        (fun pre W => Boxed W w.heap.size 3 (.int .i64 dir) ∧ Boxed W w1.heap.size 23 (.slice A1 s.size c1) ∧ Boxed W B 45 (.func (.func 31) #[] #[.pointer (some ⟨w1.heap.size, 0, none⟩), .pointer (some ⟨w.heap.size, 0, none⟩)]) ∧ Kd.R (Kd.int .i64) 3 W (w.heap.size + 1) (fun k => k < w1.heap.size) (.slice A1 s.size c1) (pre.foldl (fillStep dir) (lets dir (classes s))) ∧ Below w.heap.size w W)
        (fun _ _ _ => False)
        (OwnFrom.and (Own.from (boxed_own _ _ (fun _ => _)) _) (OwnFrom.and (Own.from (boxed_own _ _ (fun _ => _)) _) (OwnFrom.and (Own.from (boxed_own _ _ (fun _ => _)) _) (OwnFrom.and (R_from (fun pre : List (Nat × Nat) => pre.foldl (fillStep dir) (lets dir (classes s))) (fun k hk => by omega)) (ownFrom_below (Nat.le_refl _) hbl9.size)))))
        (fun _ _ _ _ _ hs _ _ => hs) ⟨bd9, bo9, bc9, ho9, hbl9⟩ ?a1 ?assign ?body ?done ?stop
      case assign =>
        intro l x W K hK
        gi_wp2
        exact hK
      case body =>
        rintro l pre ⟨i, k⟩ Wa Wb hlt ⟨h1, h2, h3, h4, h5⟩ hab ⟨z, hz⟩
        have hbd := runsL_bd neutC (bytesOf s) 0 0 (Nat.le_refl _) (i, k) (by rw [hz]; simp)
        rw [bytesOf_length] at hbd
        simp only [Nat.zero_le, Nat.zero_add, true_and] at hbd
        have hxl : (pre.foldl (fillStep dir) (lets dir (classes s))).length = s.size := by
          rw [fold_len dir neutC (bytesOf s) (lets dir (classes s)) (by rw [lets_length, classes_length, bytesOf_length]) pre _ hz, lets_length, classes_length]
        have HNX : Aside0 ((pre ++ [(i, k)]).foldl (fillStep dir) (lets dir (classes s)) = fillStep dir (pre.foldl (fillStep dir) (lets dir (classes s))) (i, k)) := ⟨by rw [List.foldl_append]; rfl⟩
        obtain ⟨xs, hxs⟩ : ∃ xs, pre.foldl (fillStep dir) (lets dir (classes s)) = xs := ⟨_, rfl⟩
        rw [hxs] at HNX hxl h4
        have k1 := (hab.block _ h1.lt).trans h1
        have k2 := (hab.block _ h2.lt).trans h2
        have k3 := (hab.block _ h3.lt).trans h3
        have k4 := Kd.R_below h4 hab
        obtain ⟨g, cap, eg, hgb, hgl, cells, hcells⟩ := Kd.R_form h4 (by omega)
        rw [hxl] at eg
        cases eg
        have hgo : g < w1.heap.size := h4.1 g rfl
        have hrd := Kd.R_reads' k4
        have hC : Kd.C (Kd.int .i64) Wb (some ⟨g, 0, none⟩) xs.length xs := hrd.2.2
        have hcap : s.size ≤ c1 := hrd.2.1
        have co := Boxed.cell k2
        have cd := Boxed.cell k1
        have cc : Wb.cell? ⟨B, 0, none⟩ = some (.func (.func 31) #[] #[.pointer (some ⟨w1.heap.size, 0, none⟩), .pointer (some ⟨w.heap.size, 0, none⟩)]) := Boxed.cell k3
        have hat : ∀ j : Int, Calls Try.prog 31 #[.int .i64 j, .pointer (some ⟨w1.heap.size, 0, none⟩), .pointer (some ⟨w.heap.size, 0, none⟩)] Wb fun e w' => e = .returned (.int .i64 (at_ dir xs j)) ∧ Wb = w' := fun j => at31_calls w1.heap.size w.heap.size (some ⟨g, 0, none⟩) c1 xs dir j Wb (by rw [hxl]; exact co) cd hC
        have ha := hat ((i : Int) - 1)
        have hb := hat (k : Int)
        obtain ⟨b1, hb1⟩ : ∃ b1, at_ dir xs ((i : Int) - 1) = b1 := ⟨_, rfl⟩
        obtain ⟨b2, hb2⟩ : ∃ b2, at_ dir xs (k : Int) = b2 := ⟨_, rfl⟩
        rw [hb1] at ha
        rw [hb2] at hb
        have hfl : ∀ n, Calls Try.prog 34 #[.slice (some ⟨g, i, none⟩) (k - i) (c1 - i), .int .i64 n] Wb fun e w' => (∃ v, e = .returned v) ∧ Kd.R (Kd.int .i64) 3 w' (w.heap.size + 1) (fun k => k < w1.heap.size) (.slice (some ⟨g, 0, none⟩) s.size c1) (fillSeg xs i k n) ∧ Wb.grownBy w' (some g) := fun n => by
          have := fill34_calls g i k c1 (c1 - i) n xs Wb (w.heap.size + 1) (fun k => k < w1.heap.size) (by rw [hxl]; exact k4) (by omega) (by omega) (by have := HS.out; omega)
          rwa [hxl] at this
        have HFS : Aside0 (fillStep dir xs (i, k) = fillSeg xs i k (if b1 = b2 then b1 else dir)) := ⟨by unfold fillStep; simp only [hb1, hb2]⟩
        have hsub : IntKind.i64.wrap ((i : Int) - 1) = (i : Int) - 1 := IntWalk.i64_in _ (by have := HS.out; omega)
        have hsub2 : wrap64 ((i : Int) - 1) = (i : Int) - 1 := by have := HS.out; unfold wrap64; omega
        have m1 : (0 ≤ (i : Int)) = True := eq_true (by omega)
        have m2 : (0 ≤ (k : Int)) = True := eq_true (by omega)
        have m3 : ((i : Int) ≤ (k : Int)) = True := eq_true (by omega)
        have m4 : ((k : Int) ≤ (c1 : Int)) = True := eq_true (by omega)
        have m5 : (i ≤ k) = True := eq_true (by omega)
        have m6 : (k ≤ c1) = True := eq_true (by omega)
        have m7 : (k < i) = False := eq_false (by omega)
        have m8 : (c1 < k) = False := eq_false (by omega)
        have m9 : (i = c1) = False := eq_false (by omega)
        have m10 : (c1 = i) = False := eq_false (by omega)
        have hadd : (⟨g, 0, none⟩ : Addr).add i = ⟨g, i, none⟩ := by simp [Addr.add]; try omega
        have HA := Aside0.mk hab
        have K1 : Aside0 (Boxed Wb w.heap.size 3 _) := ⟨k1⟩
        have K2 : Aside0 (Boxed Wb w1.heap.size 23 _) := ⟨k2⟩
        have K3 : Aside0 (Boxed Wb B 45 _) := ⟨k3⟩
        have HX := Aside0.mk hxl
        have H5 := Aside0.mk (h5.trans (hab.mono h5.size))
        have HG : Aside0 (g < Wa.heap.size ∧ g < w1.heap.size ∧ w.heap.size + 1 ≤ g) := ⟨by omega, hgo, hgb⟩
        have HSW := Aside0.mk (And.intro hsw hzz)
        have HCE := Aside0.mk ((hab.block g hgl).trans hcells)
        have HN1 : Aside0 (∀ W3, Wb.grownBy W3 (some g) → Lets (fun k => B + 1 ≤ k ∧ k < B + 4) Wa Wb W3) := ⟨fun W3 hg => (Lets.refl _ Wa Wb).grown hg (fun k e => by
          cases e
          have h1 := HG.out
          have h2 := HSW.out
          refine ⟨.inr ⟨h1.1, by omega⟩, fun o ho => ?_⟩
          rw [HCE.out] at ho
          cases ho
          rfl)⟩
        clear h1 h2 h3 h4 h5 k1 k2 k3 k4 hab hz hbd hxl hxs hgb hgl hcells hgo hrd hC hcap hat hb1 hb2 hiter bd9 bo9 bc9 ho9 hbl9 blr hlt hsw hzz
        dsimp only
        by_cases hbb : b1 = b2
        · have e1 : (b1 == b2) = true := beq_iff_eq.2 hbb
          rw [if_pos hbb] at HFS
          clear hbb
          gi_wp2_with (first | (refine ⟨trivial, rfl, ?_⟩; gi_at_call 31; (with_reducible refine (CallsIn.inRound l (callsIn_wide.2 ha)).mono ?_); rintro e w' ⟨rfl, rfl⟩) | (refine ⟨trivial, rfl, ?_⟩; gi_at_call 31; (with_reducible refine (CallsIn.inRound l (callsIn_wide.2 hb)).mono ?_); rintro e w' ⟨rfl, rfl⟩) | (refine ⟨trivial, rfl, ?_⟩; gi_at_call 34; (with_reducible refine (CallsIn.inRound l (callsIn_wide.2 (hfl _))).mono ?_); rintro e W3 ⟨⟨v, rfl⟩, hR3, hg3⟩; have HR3 := Aside0.mk hR3; have HG3 := Aside0.mk hg3; clear hR3 hg3))
          have nb : ∀ b, b ≠ g → some b ≠ some g := fun b h e => h (by cases e; rfl)
          have hg1 := HG.out
          have hg2 := HSW.out
          refine And.intro (a := Lets _ Wa Wb _) (HN1.out _ HG3.out) ⟨K1.out.kept HG3.out (nb _ (by omega)), K2.out.kept HG3.out (nb _ (by omega)), K3.out.kept HG3.out (nb _ (by omega)), ?_, H5.out.grown HG3.out H5.out.size (fun k e => by cases e; omega)⟩
          rw [HNX.out, HFS.out]
          exact HR3.out
        · have e1 : (b1 == b2) = false := beq_eq_false_iff_ne.2 hbb
          rw [if_neg hbb] at HFS
          clear hbb
          gi_wp2_with (first | (refine ⟨trivial, rfl, ?_⟩; gi_at_call 31; (with_reducible refine (CallsIn.inRound l (callsIn_wide.2 ha)).mono ?_); rintro e w' ⟨rfl, rfl⟩) | (refine ⟨trivial, rfl, ?_⟩; gi_at_call 31; (with_reducible refine (CallsIn.inRound l (callsIn_wide.2 hb)).mono ?_); rintro e w' ⟨rfl, rfl⟩) | (refine ⟨trivial, rfl, ?_⟩; gi_at_call 34; (with_reducible refine (CallsIn.inRound l (callsIn_wide.2 (hfl _))).mono ?_); rintro e W3 ⟨⟨v, rfl⟩, hR3, hg3⟩; have HR3 := Aside0.mk hR3; have HG3 := Aside0.mk hg3; clear hR3 hg3))
          have nb : ∀ b, b ≠ g → some b ≠ some g := fun b h e => h (by cases e; rfl)
          have hg1 := HG.out
          have hg2 := HSW.out
          refine And.intro (a := Lets _ Wa Wb _) (HN1.out _ HG3.out) ⟨K1.out.kept HG3.out (nb _ (by omega)), K2.out.kept HG3.out (nb _ (by omega)), K3.out.kept HG3.out (nb _ (by omega)), ?_, H5.out.grown HG3.out H5.out.size (fun k e => by cases e; omega)⟩
          rw [HNX.out, HFS.out]
          exact HR3.out
      case done =>
        rintro D ys W hD rfl ⟨h1, h2, h3, h4, h5⟩ hK
        have co := h2.cell
        rw [runs_classes, fill_runs] at h4
        have H4 := Aside0.mk h4
        have H5 := Aside0.mk h5
        have HKD := Aside0.mk hK
        have HD := Aside0.mk hD
        have HS9 := Aside0.mk hs9
        clear h1 h2 h3 h4 h5 hK hD hiter bd9 bo9 bc9 ho9 hbl9 blr hs9
        go_wp2
        refine ⟨by simp, .inl ⟨_, _, rfl, run_takeDeferred HKD.out, ?_⟩⟩
        refine ⟨_, results_tmp rfl _ _ _, ?_⟩
        have hfar : w1.heap.size ≤ D := by have := HD.out; have := HS9.out; omega
        refine ⟨.slice A1 s.size c1, rfl, Kd.R_lower (Kd.R_mono (Kd.R_grown H4.out (grownBy_putObj' W D _) (fun k hk e => by cases e; omega)) (fun _ _ => trivial)) (by omega), H5.out.grown (grownBy_putObj' W D _) H5.out.size (fun k e => by cases e; have := HD.out; have := HS9.out; omega)⟩
      case stop =>
        intro D c pre W _ _ h _
        exact h.elim
end Go.Proofs.Ytdmfhabhcagioaa.P
