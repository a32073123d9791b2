import Derived.Test.YtciheadencbmjaaHRep
import Derived.Test.YtciheadencbmjaaHShare
set_option linter.unusedVariables false
set_option linter.unusedSimpArgs false
namespace Go.Proofs.Ytciheadencbmjaa.P
open Go.RowKit Go.Proofs.YtciheadencbmjaaW.PrintWords Go.Proofs.YtciheadencbmjaaW.PrintLast Go.Proofs.YtciheadencbmjaaW.PrintMore
attribute [local go_sem] Oper.semAt_some
def tr1 (n : Nat) : List S64 := List.replicate n ⟨0, 1, 0⟩
theorem tr1_length (n : Nat) : (tr1 n).length = n := by simp [tr1]
theorem C_rowA {W : World} {g n : Nat} (hn : n ≤ 64) (h : W.heap[g]? = some (.cells (rowA n n).toArray 64 (0, 0))) : Kd.C k64 W (some ⟨g, 0, none⟩) (tr1 n).length (tr1 n) := by
  refine ⟨rfl, by rw [tr1_length]; omega, fun _ => ⟨⟨g, 0, none⟩, rfl, fun i x hx => ?_⟩⟩
  have hi : i < n := by have := (List.getElem?_eq_some_iff.1 hx).1; rwa [tr1_length] at this
  obtain rfl : (⟨0, 1, 0⟩ : S64) = x := by simpa [tr1, hi] using hx
  refine ⟨[.int .i64 0, .int .i64 1, .int .i64 0], rfl, k64_mk W ⟨0, 1, 0⟩, fun q u hq => ?_⟩
  have hq3 : q < 3 := (List.getElem?_eq_some_iff.1 hq).1
  have ha : (⟨g, 0, none⟩ : Addr).add (i * k64.sz + q) = ⟨g, i * 3 + q, none⟩ := by
    show (⟨g, 0, none⟩ : Addr).add (i * 3 + q) = _
    unfold Addr.add; split <;> simp_all
  rw [ha]
  refine (blk_cell h (i * 3 + q)).trans ?_
  rw [List.getElem?_toArray, rowA_get n n _ (by omega), ← hq]
  have h3 : q = 0 ∨ q = 1 ∨ q = 2 := by omega
  rcases h3 with rfl | rfl | rfl
  · simp only [rowV, show ¬ ((i * 3 + 0) % 3 = 1) by omega, and_false, if_false]; rfl
  · simp only [rowV, show (i * 3 + 1) % 3 = 1 by omega, show i * 3 + 1 < 3 * n by omega, and_self, if_true]; rfl
  · simp only [rowV, show ¬ ((i * 3 + 2) % 3 = 1) by omega, and_false, if_false]; rfl
theorem share_calls {n g : Nat} {space gap : Int} {ws : List Int} {e : Int} (hn : n ≤ 64) (h : tracks_Share.f (tr1 n) space gap = some (ws, e)) (w : World) (hG : w.heap[g]? = some (.cells (rowA n n).toArray 64 (0, 0))) :
    Calls Try.prog 31 #[.slice (some ⟨g, 0, none⟩) n n, .int .i64 space, .int .i64 gap] w fun e' w' => ∃ A c, e' = .returned (.tuple #[.slice A ws.length c, .int .i64 e]) ∧ ws.length ≤ c ∧ Kd.C (Kd.int .i64) w' A ws.length ws ∧ (∀ ad, A = some ad → w.heap.size ≤ ad.block) ∧ Below w.heap.size w w' := by
  have := tracks_Share.calls (some ⟨g, 0, none⟩) n (tr1 n) space gap ws e w (C_rowA hn hG) (by rw [tr1_length]; exact Nat.le_refl _) h
  rw [tr1_length] at this
  refine this.mono ?_
  rintro e' w' ⟨v, rfl, hR, hB⟩
  obtain ⟨A, c, rfl, h1, h2⟩ := Kd.R_reads hR
  exact ⟨A, c, rfl, h1, h2, fun ad e => by subst e; exact own_base (Kd.own_of_R hR) _ rfl, hB⟩
theorem starts_calls {A0 : Option Addr} {c0 : Nat} {ws : List Int} {gap : Int} {ss : List Int} {e : Int} (h : tracks_Starts.f ws gap = some (ss, e)) (w : World) (hC : Kd.C (Kd.int .i64) w A0 ws.length ws) (hc : ws.length ≤ c0) :
    Calls Try.prog 33 #[.slice A0 ws.length c0, .int .i64 gap] w fun e' w' => ∃ A c, e' = .returned (.tuple #[.slice A ss.length c, .int .i64 e]) ∧ ss.length ≤ c ∧ Kd.C (Kd.int .i64) w' A ss.length ss ∧ (∀ ad, A = some ad → w.heap.size ≤ ad.block) ∧ Below w.heap.size w w' := by
  refine (tracks_Starts.calls A0 c0 ws gap ss e w hC hc h).mono ?_
  rintro e' w' ⟨v, rfl, hR, hB⟩
  obtain ⟨A, c, rfl, h1, h2⟩ := Kd.R_reads hR
  exact ⟨A, c, rfl, h1, h2, fun ad e => by subst e; exact own_base (Kd.own_of_R hR) _ rfl, hB⟩
theorem C_setCell {W : World} {A : Option Addr} {n : Nat} {xs : List Int} (h : Kd.C (Kd.int .i64) W A n xs) {b k : Nat} {v : Value} (hb : ∀ ad, A = some ad → ad.block ≠ b) : Kd.C (Kd.int .i64) (W.setCell ⟨b, k, none⟩ v) A n xs := by
  obtain ⟨h1, h2, h3⟩ := h
  refine ⟨h1, h2, fun hn => ?_⟩
  obtain ⟨ad, e, hc⟩ := h3 hn
  refine ⟨ad, e, fun j p hp => ?_⟩
  obtain ⟨cs, hs, hr, hcc⟩ := hc j p hp
  refine ⟨cs, hs, hr, fun i u hu => (World.cell?_of_block (Below.heap_setCell W ⟨b, k, none⟩ v _ ?_)).trans (hcc i u hu)⟩
  rw [addr_block]
  exact hb ad e
theorem two_cells {W : World} {g : Nat} {t : TypeId} {a b : Value} (h : W.heap[g]? = some (.cells #[a, b] t (0, 0))) :
    W.cell? ⟨g, 0, none⟩ = some a ∧ W.cell? ⟨g, 1, none⟩ = some b ∧ W.frozen? ⟨g, 0, none⟩ = false ∧ W.frozen? ⟨g, 1, none⟩ = false :=
  ⟨(blk_cell h 0).trans rfl, (blk_cell h 1).trans rfl, blk_frozen h 0, blk_frozen h 1⟩
set_option maxRecDepth 100000 in
set_option maxHeartbeats 4000000 in
theorem cols_bad (n : Nat) (hn : 1 ≤ n ∧ n ≤ 64) (space gap : Int) (ws : List Int) (e : Int) (he : e ≠ 0) (h : tracks_Share.f (tr1 n) space gap = some (ws, e)) (w : World) :
    Calls Try.prog 23 #[.int .i64 (n : Int), .int .i64 space, .int .i64 gap] w fun e' w' => e' = .returned (.tuple #[.agg #[.slice none 0 0, .slice none 0 0], .int .i64 e]) ∧ Below w.heap.size w w' := by
  have H := Aside0.mk h
  have HN := Aside0.mk hn
  have he1 : (e != 0) = true := bne_iff_ne.2 he
  have he2 : (e == 0) = false := beq_eq_false_iff_ne.2 he
  have HB0 := Aside0.mk (((Below.refl _ w).alloc (Nat.le_refl _) (Obj.cells #[Value.slice none 0 0, Value.slice none 0 0] 50)).alloc (by simp) (Obj.cells #[Value.int IntKind.i64 0, Value.int IntKind.i64 1, Value.int IntKind.i64 0] 64))
  have HX0 : Aside0 (((w.alloc (Obj.cells #[Value.slice none 0 0, Value.slice none 0 0] 50)).alloc (Obj.cells #[Value.int IntKind.i64 0, Value.int IntKind.i64 1, Value.int IntKind.i64 0] 64)).heap[w.heap.size]? = some (Obj.cells #[Value.slice none 0 0, Value.slice none 0 0] 50)) :=
    ⟨(Below.heap_alloc _ _ _ (by simp)).trans (heap_alloc_new w _)⟩
  have HR0 : Aside0 (((w.alloc (Obj.cells #[Value.slice none 0 0, Value.slice none 0 0] 50)).alloc (Obj.cells #[Value.int IntKind.i64 0, Value.int IntKind.i64 1, Value.int IntKind.i64 0] 64)).heap[w.heap.size + 1]? = some (Obj.cells #[Value.int IntKind.i64 0, Value.int IntKind.i64 1, Value.int IntKind.i64 0] 64)) := by
    have := heap_alloc_new (w.alloc (Obj.cells #[Value.slice none 0 0, Value.slice none 0 0] 50)) (Obj.cells #[Value.int IntKind.i64 0, Value.int IntKind.i64 1, Value.int IntKind.i64 0] 64)
    rw [World.size_alloc] at this
    exact ⟨this⟩
  have HC0 : Aside0 (((w.alloc (Obj.cells #[Value.slice none 0 0, Value.slice none 0 0] 50)).alloc (Obj.cells #[Value.int IntKind.i64 0, Value.int IntKind.i64 1, Value.int IntKind.i64 0] 64)).cell? ⟨w.heap.size + 1, 0, none⟩ = some (.int .i64 0)) := ⟨(blk_cell HR0.out 0).trans rfl⟩
  have HC1 : Aside0 (((w.alloc (Obj.cells #[Value.slice none 0 0, Value.slice none 0 0] 50)).alloc (Obj.cells #[Value.int IntKind.i64 0, Value.int IntKind.i64 1, Value.int IntKind.i64 0] 64)).cell? ((⟨w.heap.size + 1, 0, none⟩ : Addr).add 1) = some (.int .i64 1)) := ⟨(blk_cell HR0.out 1).trans rfl⟩
  have HC2 : Aside0 (((w.alloc (Obj.cells #[Value.slice none 0 0, Value.slice none 0 0] 50)).alloc (Obj.cells #[Value.int IntKind.i64 0, Value.int IntKind.i64 1, Value.int IntKind.i64 0] 64)).cell? ((⟨w.heap.size + 1, 0, none⟩ : Addr).add 2) = some (.int .i64 0)) := ⟨(blk_cell HR0.out 2).trans rfl⟩
  clear h hn he
  go_enter Try.func23, Try.ntmps23
  go_wp2_with (first | (go_at_call 32; with_reducible refine (repeat_calls _ 1 n HN.out _ HC0.out HC1.out HC2.out).mono ?_; rintro e1 w1 ⟨g, rfl, hg, hG, hB⟩; have HG := Aside0.mk hG; have HX1 := Aside0.mk ((hB.block w.heap.size (by simp; omega)).trans HX0.out); have HB1 := Aside0.mk (HB0.out.trans (hB.mono (by simp; omega))); clear hG hB hg) | (go_at_call 31; with_reducible refine (share_calls HN.out.2 H.out _ HG.out).mono ?_; rintro e1 w2 ⟨A, c, rfl, hc, hC, hF, hB⟩; have HF := Aside0.mk hF; clear hF; have HS1 := Aside0.mk (Array.getElem?_eq_some_iff.1 HX1.out).1; have HX2 := Aside0.mk ((hB.block w.heap.size (Array.getElem?_eq_some_iff.1 HX1.out).1).trans HX1.out); have HB2 := Aside0.mk (HB1.out.trans (hB.mono HB1.out.size)); obtain ⟨x0, x1, f0, f1⟩ := two_cells HX2.out; clear hC hB hc))
  have hh := two (two0 HX2.out (.slice none 0 0)) (.slice none 0 0)
  have hbel := (HB2.out.setCell (p := ⟨w.heap.size, 0, none⟩) (Nat.le_refl _) (.slice none 0 0)).setCell (p := ⟨w.heap.size, 1, none⟩) (Nat.le_refl _) (.slice none 0 0)
  generalize (w2.setCell ⟨w.heap.size, 0, none⟩ (.slice none 0 0)).setCell ⟨w.heap.size, 1, none⟩ (.slice none 0 0) = W3 at hh hbel ⊢
  obtain ⟨z0, z1, _, _⟩ := two_cells hh
  exact bodyPost_ret (v := .tuple #[.agg #[.slice none 0 0, .slice none 0 0], .int .i64 e]) (by simp [results, Try.results23, go_sem, z0, z1]) rfl ⟨rfl, hbel⟩
set_option maxRecDepth 100000 in
set_option maxHeartbeats 4000000 in
theorem cols_good (n : Nat) (hn : 1 ≤ n ∧ n ≤ 64) (space gap : Int) (ws ss : List Int) (e2 : Int) (h : tracks_Share.f (tr1 n) space gap = some (ws, 0)) (h2 : tracks_Starts.f ws gap = some (ss, e2)) (w : World) :
    Calls Try.prog 23 #[.int .i64 (n : Int), .int .i64 space, .int .i64 gap] w fun e' w' => ∃ A c B d, e' = .returned (.tuple #[.agg #[.slice A ws.length c, .slice B ss.length d], .int .i64 e2]) ∧ (ws.length ≤ c ∧ Kd.C (Kd.int .i64) w' A ws.length ws) ∧ (ss.length ≤ d ∧ Kd.C (Kd.int .i64) w' B ss.length ss) ∧ Below w.heap.size w w' := by
  have H := Aside0.mk h
  have HN := Aside0.mk hn
  have H2 := Aside0.mk h2
  have HB0 := Aside0.mk (((Below.refl _ w).alloc (Nat.le_refl _) (Obj.cells #[Value.slice none 0 0, Value.slice none 0 0] 50)).alloc (by simp) (Obj.cells #[Value.int IntKind.i64 0, Value.int IntKind.i64 1, Value.int IntKind.i64 0] 64))
  have HX0 : Aside0 (((w.alloc (Obj.cells #[Value.slice none 0 0, Value.slice none 0 0] 50)).alloc (Obj.cells #[Value.int IntKind.i64 0, Value.int IntKind.i64 1, Value.int IntKind.i64 0] 64)).heap[w.heap.size]? = some (Obj.cells #[Value.slice none 0 0, Value.slice none 0 0] 50)) :=
    ⟨(Below.heap_alloc _ _ _ (by simp)).trans (heap_alloc_new w _)⟩
  have HR0 : Aside0 (((w.alloc (Obj.cells #[Value.slice none 0 0, Value.slice none 0 0] 50)).alloc (Obj.cells #[Value.int IntKind.i64 0, Value.int IntKind.i64 1, Value.int IntKind.i64 0] 64)).heap[w.heap.size + 1]? = some (Obj.cells #[Value.int IntKind.i64 0, Value.int IntKind.i64 1, Value.int IntKind.i64 0] 64)) := by
    have := heap_alloc_new (w.alloc (Obj.cells #[Value.slice none 0 0, Value.slice none 0 0] 50)) (Obj.cells #[Value.int IntKind.i64 0, Value.int IntKind.i64 1, Value.int IntKind.i64 0] 64)
    rw [World.size_alloc] at this
    exact ⟨this⟩
  have HC0 : Aside0 (((w.alloc (Obj.cells #[Value.slice none 0 0, Value.slice none 0 0] 50)).alloc (Obj.cells #[Value.int IntKind.i64 0, Value.int IntKind.i64 1, Value.int IntKind.i64 0] 64)).cell? ⟨w.heap.size + 1, 0, none⟩ = some (.int .i64 0)) := ⟨(blk_cell HR0.out 0).trans rfl⟩
  have HC1 : Aside0 (((w.alloc (Obj.cells #[Value.slice none 0 0, Value.slice none 0 0] 50)).alloc (Obj.cells #[Value.int IntKind.i64 0, Value.int IntKind.i64 1, Value.int IntKind.i64 0] 64)).cell? ((⟨w.heap.size + 1, 0, none⟩ : Addr).add 1) = some (.int .i64 1)) := ⟨(blk_cell HR0.out 1).trans rfl⟩
  have HC2 : Aside0 (((w.alloc (Obj.cells #[Value.slice none 0 0, Value.slice none 0 0] 50)).alloc (Obj.cells #[Value.int IntKind.i64 0, Value.int IntKind.i64 1, Value.int IntKind.i64 0] 64)).cell? ((⟨w.heap.size + 1, 0, none⟩ : Addr).add 2) = some (.int .i64 0)) := ⟨(blk_cell HR0.out 2).trans rfl⟩
  clear h hn h2
  go_enter Try.func23, Try.ntmps23
  go_wp2_with (first | (go_at_call 32; with_reducible refine (repeat_calls _ 1 n HN.out _ HC0.out HC1.out HC2.out).mono ?_; rintro e1 w1 ⟨g, rfl, hg, hG, hB⟩; have HG := Aside0.mk hG; have HX1 := Aside0.mk ((hB.block w.heap.size (by simp; omega)).trans HX0.out); have HB1 := Aside0.mk (HB0.out.trans (hB.mono (by simp; omega))); clear hG hB hg) | (go_at_call 31; with_reducible refine (share_calls HN.out.2 H.out _ HG.out).mono ?_; rintro e1 w2 ⟨A, c, rfl, hc, hC, hF, hB⟩; have HF := Aside0.mk hF; clear hF; have HS1 := Aside0.mk (Array.getElem?_eq_some_iff.1 HX1.out).1; have HX2 := Aside0.mk ((hB.block w.heap.size (Array.getElem?_eq_some_iff.1 HX1.out).1).trans HX1.out); have HB2 := Aside0.mk (HB1.out.trans (hB.mono HB1.out.size)); obtain ⟨x0, x1, f0, f1⟩ := two_cells HX2.out; have HCW := Aside0.mk hC; have HCC := Aside0.mk hc; clear hC hB hc) | (go_at_call 33; with_reducible refine (starts_calls H2.out _ HCW.out HCC.out).mono ?_; rintro e1 w3 ⟨B, d, rfl, hc, hC, hF2, hB⟩; have HF2 := Aside0.mk hF2; clear hF2; have HS2 := Aside0.mk (Array.getElem?_eq_some_iff.1 HX2.out).1; have HX3 := Aside0.mk ((hB.block w.heap.size (Array.getElem?_eq_some_iff.1 HX2.out).1).trans HX2.out); have HB3 := Aside0.mk (HB2.out.trans (hB.mono HB2.out.size)); have HCW3 := Aside0.mk (Kd.C_below HCW.out hB); have HCS := Aside0.mk hC; have HCD := Aside0.mk hc; clear x0 x1 f0 f1; obtain ⟨x0, x1, f0, f1⟩ := two_cells HX3.out; clear hC hB hc))
  have hh := two (two0 HX3.out (.slice A ws.length c)) (.slice B ss.length d)
  have hbel := (HB3.out.setCell (p := ⟨w.heap.size, 0, none⟩) (Nat.le_refl _) (.slice A ws.length c)).setCell (p := ⟨w.heap.size, 1, none⟩) (Nat.le_refl _) (.slice B ss.length d)
  have hA : ∀ ad, A = some ad → ad.block ≠ w.heap.size := fun ad e => by have := HF.out ad e; have := HS1.out; omega
  have hB' : ∀ ad, B = some ad → ad.block ≠ w.heap.size := fun ad e => by have := HF2.out ad e; have := HS2.out; omega
  have hcA := C_setCell (C_setCell HCW3.out hA (k := 0) (v := .slice A ws.length c)) hA (k := 1) (v := .slice B ss.length d)
  have hcB := C_setCell (C_setCell HCS.out hB' (k := 0) (v := .slice A ws.length c)) hB' (k := 1) (v := .slice B ss.length d)
  generalize (w3.setCell ⟨w.heap.size, 0, none⟩ (.slice A ws.length c)).setCell ⟨w.heap.size, 1, none⟩ (.slice B ss.length d) = W3 at hh hbel hcA hcB ⊢
  obtain ⟨z0, z1, _, _⟩ := two_cells hh
  exact bodyPost_ret (v := .tuple #[.agg #[.slice A ws.length c, .slice B ss.length d], .int .i64 e2]) (by simp [results, Try.results23, go_sem, z0, z1]) rfl ⟨A, c, B, d, rfl, ⟨HCC.out, hcA⟩, ⟨HCD.out, hcB⟩, hbel⟩
end Go.Proofs.Ytciheadencbmjaa.P
