import Derived.Test.YtciheadencbmjaaHCells
import Derived.Test.YtciheadencbmjaaHCols
import Derived.Test.YtciheadencbmjaaHIn
set_option linter.unusedVariables false
set_option linter.unusedSimpArgs false
namespace Go.Proofs.Ytciheadencbmjaa.P
open Go.RowKit Go.Proofs.YtciheadencbmjaaW.PrintWords Go.Proofs.YtciheadencbmjaaW.PrintLast Go.Proofs.YtciheadencbmjaaW.PrintMore Go.Proofs.Ytciheadencbmjaa.Rng
attribute [local go_sem] Oper.semAt_some max2_int min2_int max_two min_two
theorem wpIn_act {F : Fence} {n : Nat} {P : Program} {c : Code} {Q : Exit → Act → World → Prop} {a : Act} {w : World} (h : ∀ A0, A0 = a → c.wpIn F n P Q a w) : c.wpIn F n P Q a w := h a rfl
theorem mn_bd {n cols : Int} (h : 1 ≤ n ∧ n ≤ 64) (hc : 1 ≤ cols ∧ cols ≤ 64) : 1 ≤ mn n cols ∧ mn n cols ≤ cols ∧ mn n cols ≤ 64 := by unfold mn; split <;> omega
theorem walkG_mem {cols : Int} (hc : 1 ≤ cols ∧ cols ≤ 64) : ∀ (i : Nat) (r c : Int) (l : List Int), (∀ x ∈ l, 1 ≤ x ∧ x ≤ 64) → 0 ≤ r → 0 ≤ c → ∀ x ∈ walkG cols i r c l, ∃ (k : Nat) (h : k < l.length), x.1 = ((i + k : Nat) : Int) ∧ 0 ≤ x.2.f1 ∧ x.2.f1 + mn l[k] cols ≤ cols ∧ 0 ≤ x.2.f0 ∧ x.2.f0 ≤ r + k + 1
 | i, r, c, [], _, _, _, x, hx => by simp [walkG] at hx
 | i, r, c, n :: l, hl, hr, h0, x, hx => by
  have hb := mn_bd (hl n (by simp)) hc
  unfold walkG at hx
  split at hx
  ·
   rcases List.mem_cons.1 hx with rfl | hx
   ·
    exact ⟨0, by simp, rfl, Int.le_refl _, by show 0 + mn n cols ≤ cols; omega, by show 0 ≤ r + 1; omega, by show r + 1 ≤ r + (0 : Nat) + 1; omega⟩
   ·
    obtain ⟨k, hk, e1, e2, e3, e4, e5⟩ := walkG_mem hc (i + 1) (r + 1) (mn n cols) l (fun y hy => hl y (by simp [hy])) (by omega) (by omega) x hx
    exact ⟨k + 1, by simp; omega, by rw [e1]; congr 1; omega, e2, e3, e4, by omega⟩
  ·
   rcases List.mem_cons.1 hx with rfl | hx
   ·
    exact ⟨0, by simp, rfl, h0, by show c + mn n cols ≤ cols; omega, hr, by show r ≤ r + (0 : Nat) + 1; omega⟩
   ·
    obtain ⟨k, hk, e1, e2, e3, e4, e5⟩ := walkG_mem hc (i + 1) r (c + mn n cols) l (fun y hy => hl y (by simp [hy])) hr (by omega) x hx
    exact ⟨k + 1, by simp; omega, by rw [e1]; congr 1; omega, e2, e3, e4, by omega⟩
theorem walkL_mem {cols : Int} {l : List Int} (hc : 1 ≤ cols ∧ cols ≤ 64) (hl : ∀ x ∈ l, 1 ≤ x ∧ x ≤ 64) {x : Int × S39} (hx : x ∈ walkL cols l) : ∃ (k : Nat) (h : k < l.length), x.1 = (k : Int) ∧ 0 ≤ x.2.f1 ∧ x.2.f1 + mn l[k] cols ≤ cols ∧ 0 ≤ x.2.f0 ∧ x.2.f0 ≤ k + 1 := by
 obtain ⟨k, hk, e1, e2, e3, e4, e5⟩ := walkG_mem hc 0 0 0 l hl (by decide) (by decide) x hx
 exact ⟨k, hk, by rw [e1, Nat.zero_add], e2, e3, e4, by omega⟩
/-- Only block b and new ones have turned. -/
def KeepB (b : Nat) (W0 W : World) : Prop := W0.heap.size ≤ W.heap.size ∧ ∀ k, k < W0.heap.size → k ≠ b → W.heap[k]? = W0.heap[k]?
theorem KeepB.refl (b : Nat) (W : World) : KeepB b W W := ⟨Nat.le_refl _, fun _ _ _ => rfl⟩
theorem keep_from {β : Type} {b : Nat} {W0 : World} : OwnFrom W0.heap.size (fun (_ : β) W => KeepB b W0 W) := fun _ W W' row hs hg hr =>
 ⟨Nat.le_trans hs.1 hg.size, fun k hk hne => (hg.block k (Nat.lt_of_lt_of_le hk hs.1) (fun e => by have := (hr k e.symm).1; omega)).trans (hs.2 k hk hne)⟩
theorem KeepB.ofO {b : Nat} {O : Nat → Prop} {W0 A B : World} (h : KeepB b W0 A) (hb : BelowO O A B) (hO : ∀ k, O k → W0.heap.size ≤ k) : KeepB b W0 B :=
 ⟨Nat.le_trans h.1 hb.size, fun k hk hne => (hb.block k (Nat.lt_of_lt_of_le hk h.1) (fun ho => by have := hO k ho; omega)).trans (h.2 k hk hne)⟩
theorem KeepB.below {b : Nat} {W0 A B : World} (h : KeepB b W0 A) (hb : Below A.heap.size A B) : KeepB b W0 B :=
 ⟨Nat.le_trans h.1 hb.size, fun k hk hne => (hb.block k (Nat.lt_of_lt_of_le hk h.1)).trans (h.2 k hk hne)⟩
theorem KeepB.grown {b : Nat} {W0 A B : World} (h : KeepB b W0 A) {row : Option Nat} (hg : A.grownBy B row) (hr : ∀ k, row = some k → W0.heap.size ≤ k) : KeepB b W0 B :=
 ⟨Nat.le_trans h.1 hg.size, fun k hk hne => (hg.block k (Nat.lt_of_lt_of_le hk h.1) (fun e => by have := hr k e.symm; omega)).trans (h.2 k hk hne)⟩
theorem KeepB.set {b : Nat} {W0 A : World} (h : KeepB b W0 A) (q : Nat) (v : Value) : KeepB b W0 (A.setCell ⟨b, q, none⟩ v) :=
 ⟨by rw [sz_set]; exact h.1, fun k hk hne => (Below.heap_setCell A ⟨b, q, none⟩ v k hne).trans (h.2 k hk hne)⟩
theorem KeepB.box {b c : Nat} {W0 A : World} {t : TypeId} {v : Value} (h : KeepB b W0 A) (hv : Boxed W0 c t v) (hne : c ≠ b) : Boxed A c t v := (h.2 _ hv.lt hne).trans hv
theorem C_keep {W W' : World} {A : Option Addr} {n : Nat} {xs : List Int} (h : Kd.C (Kd.int .i64) W A n xs) (hk : ∀ ad, A = some ad → 0 < n → W'.heap[ad.block]? = W.heap[ad.block]?) : Kd.C (Kd.int .i64) W' A n xs := by
 obtain ⟨h1, h2, h3⟩ := h
 refine ⟨h1, h2, fun hn => ?_⟩
 obtain ⟨ad, e, hc⟩ := h3 hn
 refine ⟨ad, e, fun j p hp => ?_⟩
 obtain ⟨cs, hs, hr, hcc⟩ := hc j p hp
 refine ⟨cs, hs, hr, fun i u hu => (World.cell?_of_block ?_).trans (hcc i u hu)⟩
 rw [addr_block]
 exact hk ad e hn
theorem KeepB.row {b : Nat} {W0 A : World} (h : KeepB b W0 A) {Ad : Option Addr} {xs : List Int} (hC : Kd.C (Kd.int .i64) W0 Ad xs.length xs) (hne : ∀ ad, Ad = some ad → 0 < xs.length → ad.block ≠ b) : Kd.C (Kd.int .i64) A Ad xs.length xs :=
 C_keep hC fun ad e hn => h.2 _ (row_block hC ad e hn) (hne ad e hn)
def spanW (ws ss : List Int) (a n : Int) : Int := (grid_columns_span.f ws ss a n).getD 0
theorem span_f {ws ss : List Int} (h1 : ws.length = ss.length) (h2 : ws.length ≤ 64) {a n : Int} (ha : 0 ≤ a) (hn : 1 ≤ n) (h : a + n ≤ ws.length) : grid_columns_span.f ws ss a n = some (spanW ws ss a n) := by
 unfold spanW grid_columns_span.f
 have e1 : wrap64 (a + n) = a + n := EvT.w64 (by omega) (by omega)
 have e2 : mn (a + n) (ws.length : Int) = a + n := by unfold mn; split <;> omega
 have e3 : wrap64 (a + n - 1) = a + n - 1 := EvT.w64 (by omega) (by omega)
 rw [e1, e2, e3, if_pos (by omega), if_pos (by omega), if_pos (by omega), if_pos (by omega), if_pos (by omega)]
 rfl
def widthsL (cols : Int) (l ws ss : List Int) : List Int := (walkL cols l).map fun x => spanW ws ss x.2.f1 (mn (rd l x.1) cols)
theorem share_len {n : Nat} {space gap : Int} {ws : List Int} (h : tracks_Share.f (tr1 n) space gap = some (ws, 0)) : ws.length = n := by
 unfold tracks_Share.f at h
 split at h
 ·
  obtain ⟨res, _, h⟩ := Option.map_eq_some_iff.1 h
  obtain ⟨rfl, _⟩ := Prod.mk.inj h
  rw [tab_length, tr1_length]
 ·
  cases h
theorem starts_len {gap : Int} {ws ss : List Int} (h : tracks_Starts.f ws gap = some (ss, 0)) : ws.length = ss.length := by
 unfold tracks_Starts.f at h
 split at h
 ·
  split at h
  ·
   obtain ⟨rfl, _⟩ := Prod.mk.inj (Option.some.inj h)
   exact (outS_length ws gap _).symm
  ·
   cases h
 ·
  cases h
def grid_Widths.f (cols : Int) (l : List Int) (space gap : Int) : Option (List Int × Int) :=
 if checkE cols l = 0 then (tracks_Share.f (tr1 cols.toNat) space gap).bind fun p => if p.2 = 0 then (tracks_Starts.f p.1 gap).bind fun q => some (if q.2 = 0 then (widthsL cols l p.1 q.1, 0) else ([], q.2)) else some ([], p.2) else some ([], checkE cols l)
set_option maxRecDepth 100000 in
set_option maxHeartbeats 8000000 in
theorem grid_Widths.calls (a0 : Int) (A1 : Option Addr) (c1 : Nat) (l1 : List Int) (a2 a3 : Int) (r1 : List Int) (r2 : Int) (w : World) (hr1 : Kd.C (Kd.int .i64) w A1 l1.length l1) (hc1 : l1.length ≤ c1) (h : grid_Widths.f a0 l1 a2 a3 = some (r1, r2)) :
  Calls Try.prog 13 #[.int .i64 a0, .slice A1 l1.length c1, .int .i64 a2, .int .i64 a3] w fun e w' => ∃ v0_ : Value, e = .returned (.tuple #[v0_, .int .i64 r2]) ∧ Kd.R (Kd.int .i64) 3 w' w.heap.size (fun _ => True) v0_ r1 ∧ Below w.heap.size w w' := by
 unfold grid_Widths.f at h
 obtain ⟨W2, hW2⟩ : ∃ W2, (w.alloc (Obj.cells #[Value.int IntKind.i64 a0] 3)).alloc (Obj.cells #[Value.slice A1 l1.length c1] 22) = W2 := ⟨_, rfl⟩
 have hs2 : W2.heap.size = w.heap.size + 2 := by rw [← hW2]; simp
 have HB2 : Aside0 (Below w.heap.size w W2) := ⟨by rw [← hW2]; exact ((Below.refl _ w).alloc (Nat.le_refl _) _).alloc (by simp) _⟩
 have BC2 : Aside0 (Boxed W2 w.heap.size 3 (.int .i64 a0)) := ⟨by rw [← hW2]; exact (Boxed.new w 3 _).alloc _⟩
 have BS2 : Aside0 (Boxed W2 (w.heap.size + 1) 22 (.slice A1 l1.length c1)) := ⟨by rw [← hW2]; have := Boxed.new (w.alloc (Obj.cells #[Value.int IntKind.i64 a0] 3)) 22 (Value.slice A1 l1.length c1); rwa [World.size_alloc] at this⟩
 have HR := Aside0.mk hr1
 have HR2 := Aside0.mk (Kd.C_below hr1 HB2.out)
 have HS2 := Aside0.mk hs2
 have HW2 := Aside0.mk hW2
 clear hr1 hc1 hs2 hW2
 refine (callsIn_wide (n := 3)).1 ?_
 refine callsIn_of_wp_marks Try.func13 rfl trivial ?_ rfl
 simp only [Try.ntmps13, List.size_toArray, List.length_cons, List.length_nil, Nat.reduceAdd, Nat.reduceSub, Array.replicate_succ, Array.replicate_zero, List.push_toArray, List.append_toArray, List.nil_append, List.cons_append]
 have hx0 := BC2.out.cell
 have hx1 := BS2.out.cell
 refine (wpIn_wide (n := 3)).2 ?_
 go_upto_region 1 with (fail)
 rw [HW2.out]
 by_cases h0 : checkE a0 l1 = 0
 ·
  rw [if_pos h0] at h
  have hch : ∀ w, Kd.C (Kd.int .i64) w A1 l1.length l1 → Calls Try.prog 21 #[.int .i64 a0, .slice A1 l1.length c1] w fun e w' => e = .returned (.int .i64 0) ∧ w = w' := fun w hr => by rw [← h0]; exact check_calls a0 A1 c1 l1 w hr
  obtain ⟨hn, hcols, hl⟩ := checkE_zero h0
  obtain ⟨cn, hcn⟩ : ∃ cn : Nat, a0 = (cn : Int) := ⟨a0.toNat, by omega⟩
  have HN : Aside0 (1 ≤ cn ∧ cn ≤ 64) := ⟨by omega⟩
  obtain ⟨⟨ws, e1⟩, hsh, h⟩ := Option.bind_eq_some_iff.1 h
  rw [hcn, Int.toNat_natCast] at hsh
  have HCN := Aside0.mk hcn
  have HCOLS := Aside0.mk hcols
  have HL := Aside0.mk hl
  have HLN := Aside0.mk hn
  clear h0 hcn hcols hl hn
  by_cases h1 : e1 = 0
  ·
   subst h1
   rw [if_pos rfl] at h
   obtain ⟨⟨ss, e2⟩, hst, h⟩ := Option.bind_eq_some_iff.1 h
   have hgood := fun w => cols_good cn HN.out a2 a3 ws ss e2 hsh hst w
   rw [← HCN.out] at hgood
   have HSH := Aside0.mk hsh
   have HST := Aside0.mk hst
   by_cases h2 : e2 = 0
   ·
    subst h2
    obtain ⟨rfl, rfl⟩ : widthsL a0 l1 ws ss = r1 ∧ 0 = r2 := by simpa using h
    clear h hsh hst
    go_upto_region 8 with (first | (go_at_call 21; refine (hch _ HR2.out).mono ?_; rintro e w' ⟨rfl, rfl⟩) | (go_at_call 23; refine (hgood _).mono ?_; rintro e W3 ⟨AW, cw, AS, cs, rfl, hAW, hAS, hB3⟩; have HAW := Aside0.mk hAW; have HAS := Aside0.mk hAS; have HB3 := Aside0.mk hB3; clear hAW hAS hB3))
    obtain ⟨W5, hW5⟩ : ∃ W5, (W3.alloc (Obj.cells #[Value.slice AW ws.length cw, Value.slice AS ss.length cs] 50)).alloc (Obj.cells #[Value.slice none 0 0] 22) = W5 := ⟨_, rfl⟩
    rw [hW5]
    have hs5 : W5.heap.size = W3.heap.size + 2 := by rw [← hW5]; simp
    have hs3 : w.heap.size + 2 ≤ W3.heap.size := by have := HB3.out.size; have := HS2.out; omega
    have bl3 : Below w.heap.size w W3 := HB2.out.trans (HB3.out.mono (by have := HS2.out; omega))
    have bl5 : Below w.heap.size w W5 := by rw [← hW5]; exact (bl3.alloc bl3.size _).alloc (by simp; omega) _
    have b35 : Below W3.heap.size W3 W5 := by rw [← hW5]; exact ((Below.refl _ W3).alloc (Nat.le_refl _) _).alloc (by simp) _
    have BC5 : Boxed W5 w.heap.size 3 (.int .i64 a0) := (BC2.out.of_below' HB3.out).of_below' b35
    have BS5 : Boxed W5 (w.heap.size + 1) 22 (.slice A1 l1.length c1) := (BS2.out.of_below' HB3.out).of_below' b35
    have BO5 : Boxed W5 (W3.heap.size + 1) 22 (.slice none 0 0) := by
     rw [← hW5]; have := Boxed.new (W3.alloc (Obj.cells #[Value.slice AW ws.length cw, Value.slice AS ss.length cs] 50)) 22 (.slice none 0 0); rwa [World.size_alloc] at this
    have X5 : W5.heap[W3.heap.size]? = some (Obj.cells #[Value.slice AW ws.length cw, Value.slice AS ss.length cs] 50) := by rw [← hW5]; exact (Below.heap_alloc _ _ _ (by simp)).trans (heap_alloc_new W3 _)
    have HAW5 : Kd.C (Kd.int .i64) W5 AW ws.length ws := Kd.C_below HAW.out.2 b35
    have HAS5 : Kd.C (Kd.int .i64) W5 AS ss.length ss := Kd.C_below HAS.out.2 b35
    have HR5 : Kd.C (Kd.int .i64) W5 A1 l1.length l1 := Kd.C_below HR.out bl5
    have hbW : ∀ ad, AW = some ad → 0 < ws.length → ad.block < W3.heap.size := row_block HAW.out.2
    have hbS : ∀ ad, AS = some ad → 0 < ss.length → ad.block < W3.heap.size := row_block HAS.out.2
    have hx0 := BC5.cell
    have hx1 := BS5.cell
    clear hW5 b35 bl3
    have HK5 := Aside0.mk (And.intro hs5 (And.intro hs3 (And.intro bl5 (And.intro BC5 (And.intro BS5 (And.intro BO5 (And.intro X5 (And.intro HAW5 (And.intro HAS5 (And.intro HR5 (And.intro hbW hbS)))))))))))
    clear hs5 hs3 bl5 BC5 BS5 BO5 X5 HAW5 HAS5 HR5 hbW hbS
    go_wp2_with (go_at_call 22; refine (walk_calls _ _ _ _ _).mono ?_; rintro e w' ⟨rfl, rfl⟩)
    obtain ⟨hs5, hs3, bl5, BC5, BS5, BO5, X5, HAW5, HAS5, HR5, hbW, hbS⟩ := HK5.out
    obtain ⟨W0, hW0⟩ : ∃ W0, (W5.alloc (Obj.cells #[Value.int IntKind.i64 a0] 3)).alloc (Obj.cells #[Value.slice A1 l1.length c1] 22) = W0 := ⟨_, rfl⟩
    have hs0 : W0.heap.size = W3.heap.size + 4 := by rw [← hW0]; simp; omega
    have b50 : Below W5.heap.size W5 W0 := by rw [← hW0]; exact ((Below.refl _ W5).alloc (Nat.le_refl _) _).alloc (by simp) _
    have bl0 : Below w.heap.size w W0 := bl5.trans (b50.mono bl5.size)
    have bn : Boxed W0 W5.heap.size 3 (.int .i64 a0) := by rw [← hW0]; exact (Boxed.new W5 3 _).alloc _
    have bc : Boxed W0 (W5.heap.size + 1) 22 (.slice A1 l1.length c1) := by
     rw [← hW0]; have := Boxed.new (W5.alloc (Obj.cells #[Value.int IntKind.i64 a0] 3)) 22 (Value.slice A1 l1.length c1); rwa [World.size_alloc] at this
    have BC0 := Aside0.mk (BC5.of_below' b50)
    have BS0 := Aside0.mk (BS5.of_below' b50)
    have BO0 := BO5.of_below' b50
    have X0 := Aside0.mk ((b50.block _ (Array.getElem?_eq_some_iff.1 X5).1).trans X5)
    have HAW0 := Aside0.mk (Kd.C_below HAW5 b50)
    have HAS0 := Aside0.mk (Kd.C_below HAS5 b50)
    have HR0 := Aside0.mk (Kd.C_below HR5 b50)
    have hbA := row_block HR.out
    rw [hW0]
    refine (wpIn_wide (n := 3)).1 ?_
    refine wpIn_act (fun A0 hA0 => ?_)
    have HA0 := Aside0.mk hA0
    have hiter := walk_iter a0 l1 A1 c1 W5.heap.size (fun k => k < w.heap.size ∨ k = W5.heap.size ∨ k = W5.heap.size + 1 ∨ k = W0.heap.size + 2) W0 HCOLS.out HL.out HLN.out (.inr (.inl rfl)) (.inr (.inr (.inl rfl))) (.inr (.inr (.inr rfl))) bn bc HR0.out
     (fun ad h1 h2 => ⟨.inl (hbA ad h1 h2), by have := hbA ad h1 h2; omega⟩)
    clear hA0 hW0 BC5 BS5 BO5 X5 HAW5 HAS5 HR5 bn bc b50
    have HSZ := Aside0.mk (And.intro hs5 (And.intro hs3 hs0))
    have HBR := Aside0.mk (And.intro hbW (And.intro hbS hbA))
    clear hbW hbS hbA
    refine rangeFuncN (O := fun k => k = W0.heap.size + 2) (lb := #[.pointer (some ⟨W5.heap.size + 1, 0, none⟩), .pointer (some ⟨W5.heap.size, 0, none⟩)]) (gf := 30) rfl (enters_of Try.func30 (by kernel_rfl) rfl) hiter (fun _ => rfl) (fun k hk => by omega) (fun k hk => by omega) (fun _ _ _ _ _ _ h _ _ => ⟨h.1, by rw [World.putObj_size]; exact h.2⟩)
     (fun pre W => (∃ v, Boxed W (W3.heap.size + 1) 22 v ∧ W.ownsRow (W0.heap.size + 3) 3 1 v (pre.map fun x => spanW ws ss x.2.f1 (mn (rd l1 x.1) a0)).length (nums .i64 (pre.map fun x => spanW ws ss x.2.f1 (mn (rd l1 x.1) a0))) ∧ True) ∧ Below w.heap.size w W ∧ KeepB (W3.heap.size + 1) W0 W)
     (fun _ _ _ => False)
     (OwnFrom.and (Own.from (holdsRow_own _ _ _ _ _ _ _ (fun _ _ => True)) _) (OwnFrom.and (ownFrom_below (Nat.le_refl _) bl0.size) keep_from))
     (fun _ _ _ _ _ hs _ _ => hs) ?hIO (fun _ _ _ _ h _ => h) ⟨⟨_, BO0, own_nil _ _ _ _, trivial⟩, bl0, KeepB.refl _ _⟩
     (fun x a' W => ∃ B9 : Nat, W.heap[B9]? = some (.cells #[.int .i64 x.2.f0, .int .i64 x.2.f1] 39 (0, 0)) ∧
      a' = (((A0.put (some 35) (.int .i64 x.1)).put (some 36) (.agg #[.int .i64 x.2.f0, .int .i64 x.2.f1])).put (some 14) (.int .i64 x.1)).put (some 15) (.pointer (some ⟨B9, 0, none⟩)))
     ?hAx ?hVb ?assign ?body ?done ?stop
    case hIO =>
     rintro pre A B ⟨⟨v, hv, hrow, _⟩, hbl, hkp⟩ hb
     have hlt := hbl.size
     refine ⟨⟨v, box_of hv hb (by omega), hrow.kept (grown_of hb (b := W0.heap.size + 2) (fun k hk => hk)) (.inr (fun e => by have := own_base hrow _ e; omega)), trivial⟩, below_of hbl hb hlt (fun k hk => by have := bl0.size; omega), hkp.ofO hb (fun k hk => by omega)⟩
    case hAx =>
     rintro x a' W l o o' ⟨B9, h9, rfl⟩ hl ho
     exact ⟨B9, (World.putObj_heap_other (by rintro rfl; rw [h9] at hl; cases hl; cases ho)).trans h9, rfl⟩
    case hVb => exact fun _ _ _ _ h hb => ⟨h.1, Nat.lt_of_lt_of_le h.2 hb.size⟩
    case assign =>
     intro l x W K' hK'
     simp only [encW]
     clear hs5 hs3 hs0 hiter
     gi_wp2
     refine hK' _ _ ((Below.refl _ W).alloc (Nat.le_refl _) _) ⟨W.heap.size, heap_alloc_new W _, ?_⟩
     rw [HA0.out]; rfl
    case body =>
     rintro l pre ⟨xi, ⟨xr, xc⟩⟩ a' Wa Wb hlt ⟨⟨v, hv, hrow, _⟩, hbl, hkp⟩ hab ⟨hpf, hsz⟩ ⟨B9, h9, rfl⟩
     dsimp only at h9
     have hpl : pre.length ≤ 4000 := by have := hpf.length_le; rw [walkL_length] at this; simp at this; have := HLN.out; omega
     have hmem : (xi, (⟨xr, xc⟩ : S39)) ∈ walkL a0 l1 := by obtain ⟨t, ht⟩ := hpf; rw [← ht]; simp
     obtain ⟨k, hk, e1, e2, e3, e4, e5⟩ := walkL_mem HCOLS.out HL.out hmem
     dsimp only at e1 e2 e3 e4 e5
     subst e1
     have hlk := HL.out _ (List.getElem_mem hk)
     have hrk : rd l1 (k : Int) = l1[k] := rd_nat l1 k hk
     obtain ⟨n, hn⟩ : ∃ n, l1[k] = n := ⟨_, rfl⟩
     rw [hn] at e3 hlk hrk
     have hmb := mn_bd hlk HCOLS.out
     obtain ⟨m, hm⟩ : ∃ m, mn n a0 = m := ⟨_, rfl⟩
     rw [hm] at e3 hmb
     have hwl := share_len HSH.out
     have hcn := HCN.out
     have hsp := span_f (starts_len HST.out) (by have := HN.out; omega) e2 hmb.1 (by omega : xc + m ≤ (ws.length : Int))
     have hkb := hkp.ofO hab (fun k hk => by omega)
     have hwS := bl0.size
     have hvb := box_of hv hab (show ¬ W3.heap.size + 1 = W0.heap.size + 2 by omega)
     have hrb := hrow.kept (grown_of hab (b := W0.heap.size + 2) (fun k hk => hk)) (.inr (fun e => by have := own_base hrow _ e; omega))
     obtain ⟨y0, y1, _, _⟩ := two_cells ((hkb.2 W3.heap.size (by omega) (by omega)).trans X0.out)
     obtain ⟨hbW, hbS, hbA⟩ := HBR.out
     have yC := (hkb.box BC0.out (by omega)).cell
     have yS := (hkb.box BS0.out (by omega)).cell
     have CW := hkb.row HAW0.out (fun ad e hn => by have := hbW ad e hn; omega)
     have CS := hkb.row HAS0.out (fun ad e hn => by have := hbS ad e hn; omega)
     have CA := hkb.row HR0.out (fun ad e hn => by have := hbA ad e hn; omega)
     obtain ⟨ad, e, hx⟩ := Kd.at_int CA (k : Int) (by omega) (by omega)
     cases e
     rw [Int.toNat_natCast, hrk] at hx
     have f1 : Wb.cell? ⟨B9, 1, none⟩ = some (.int .i64 xc) := (blk_cell h9 1).trans rfl
     have yO := hvb.cell
     have p1 : (0 ≤ (k : Int)) = True := eq_true (by omega)
     have q1 : ((k : Int) < (l1.length : Int)) = True := eq_true (by omega)
     have HSall : Aside0 (∀ w', Below Wb.heap.size Wb w' → w'.cell? ⟨W3.heap.size + 1, 0, none⟩ = some v ∧ w'.cell? ⟨W3.heap.size, 0, none⟩ = some (.slice AW ws.length cw) ∧ w'.cell? ⟨W3.heap.size, 1, none⟩ = some (.slice AS ss.length cs) ∧ w'.cell? ⟨B9, 1, none⟩ = some (.int .i64 xc) ∧ w'.cell? ⟨w.heap.size + 1, 0, none⟩ = some (.slice (some ad) l1.length c1) ∧ w'.cell? (ad.add k) = some (.int .i64 n) ∧ w'.cell? ⟨w.heap.size, 0, none⟩ = some (.int .i64 a0) ∧ Aside0 (Below Wb.heap.size Wb w')) := ⟨fun w' hb => by
      have kc : ∀ {q : Addr} {u : Value}, Wb.cell? q = some u → w'.cell? q = some u := fun {q u} hq => (World.cell?_of_block (hb.block _ (World.block_lt_of_cell? Wb _ hq))).trans hq
      exact ⟨kc yO, kc y0, kc y1, kc f1, kc yS, kc hx, kc yC, ⟨hb⟩⟩⟩
     have HM := Aside0.mk hm
     have HSP := Aside0.mk hsp
     have HRK := Aside0.mk hrk
     have HV := Aside0.mk hvb
     have HLT := Aside0.mk hv.lt
     have HRA := Aside0.mk hrow
     have HRB := Aside0.mk hrb
     have HBB := Aside0.mk (below_of hbl hab hbl.size (fun k hk => by omega))
     have HKB := Aside0.mk hkb
     have HAB := Aside0.mk hab.size
     have HWB := Aside0.mk hsz
     have HCW := Aside0.mk CW
     have HCS := Aside0.mk CS
     have HPL := Aside0.mk hpl
     have HHL := Aside0.mk hlt
     have HCC := Aside0.mk (And.intro HAW.out.1 HAS.out.1)
     have hmn : (if a0 < n then a0 else n) = m := by rw [← hm]; unfold mn; by_cases h : a0 < n <;> simp [h] <;> omega
     have HMN := Aside0.mk hmn
     clear hv hrow hrb hbl hkp hab hvb hkb h9 hiter hpf hsz hmem hk e2 e3 e4 e5 hlk hrk hn hmb hwl hcn hsp hwS y0 y1 hbW hbS hbA yC yS CW CS CA hx f1 yO hm hpl hlt hs5 hs3 hs0 hmn
     rw [HA0.out]
     simp only [Act.put, List.setIfInBounds_toArray, List.set_cons_zero, List.set_cons_succ]
     gi_wp2
     refine startIn_ (n := 14) (S := fun w' => w'.cell? ⟨W3.heap.size + 1, 0, none⟩ = some v ∧ w'.cell? ⟨W3.heap.size, 0, none⟩ = some (.slice AW ws.length cw) ∧ w'.cell? ⟨W3.heap.size, 1, none⟩ = some (.slice AS ss.length cs) ∧ w'.cell? ⟨B9, 1, none⟩ = some (.int .i64 xc) ∧ w'.cell? ⟨w.heap.size + 1, 0, none⟩ = some (.slice (some ad) l1.length c1) ∧ w'.cell? (ad.add k) = some (.int .i64 n) ∧ w'.cell? ⟨w.heap.size, 0, none⟩ = some (.int .i64 a0) ∧ Aside0 (Below Wb.heap.size Wb w')) (ds := [12, 13]) #[false, false, false, false, false, false, false, false, false, false, false, false, false, false] (by kernel_rfl) (fun h_ => by obtain ⟨_, _, h_⟩ := h_; exact h_) (by kernel_rfl) rfl rfl (HSall.out _ (below_drew1 (Below.refl _ Wb))) (fun hHeld => ?_)
     have HB25 : Aside0 (Below Wb.heap.size Wb Wb.drew) := ⟨below_drew1 (Below.refl _ Wb)⟩
     have HR25 := Aside0.mk (Kd.R_drew (Kd.R_of_own HRB.out (fun _ _ => trivial) : Kd.R (Kd.int .i64) 3 Wb (W0.heap.size + 3) (fun _ => True) v (pre.map (fun x : Int × S39 => spanW ws ss x.2.f1 (mn (rd l1 x.1) a0)))))
     have HL25 : Aside0 (Lets (fun k => k < w.heap.size ∨ k = W5.heap.size ∨ k = W5.heap.size + 1 ∨ k = W0.heap.size + 2) Wa Wb Wb.drew) := ⟨(Lets.refl _ Wa Wb).drew⟩
     have HK25 : Aside0 (KeepB (W3.heap.size + 1) W0 Wb.drew) := ⟨HKB.out⟩
     have HW25 := Aside0.mk (below_drew1 HBB.out)
     generalize World.drew _ = w25 at HB25 HR25 HL25 HK25 HW25 hHeld ⊢
     refine take_ (i := 0) (N := some 37) (v := ?_) (a' := ?_) #[true, false, false, false, false, false, false, false, false, false, false, false, false, false] rfl rfl (by kernel_rfl) (fun _ _ _ h => h) (Or.inl ⟨by rfl, ?_⟩) hHeld ?_ ?_
     rotate_left
     ·
      rintro w' ⟨s0, s1, s2, s3, s4, s5, s6, s7⟩
      go_simp
      with_reducible rfl
     rotate_left
     ·
      simp only [Act.put, List.setIfInBounds_toArray, List.set_cons_zero, List.set_cons_succ, i64_w, i32_w]
      rfl
     refine take_ (i := 1) (N := some 38) (v := ?_) (a' := ?_) #[true, true, false, false, false, false, false, false, false, false, false, false, false, false] rfl rfl (by kernel_rfl) (fun _ _ _ h => h) (Or.inl ⟨by rfl, ?_⟩) hHeld ?_ ?_
     rotate_left
     ·
      rintro w' ⟨s0, s1, s2, s3, s4, s5, s6, s7⟩
      go_simp
      with_reducible rfl
     rotate_left
     ·
      simp only [Act.put, List.setIfInBounds_toArray, List.set_cons_zero, List.set_cons_succ, i64_w, i32_w]
      rfl
     refine pure_ (i := 2) (N := some 39) (v := ?_) (a' := ?_) #[true, true, true, false, false, false, false, false, false, false, false, false, false, false] rfl rfl (by kernel_rfl) (fun _ _ _ h => h) (Or.inl ⟨by rfl, ?_⟩) ?_ ?_
     rotate_left
     ·
      intro w' 
      go_simp
      with_reducible rfl
     rotate_left
     ·
      simp only [Act.put, List.setIfInBounds_toArray, List.set_cons_zero, List.set_cons_succ, i64_w, i32_w]
      rfl
     refine take_ (i := 3) (N := some 40) (v := ?_) (a' := ?_) #[true, true, true, true, false, false, false, false, false, false, false, false, false, false] rfl rfl (by kernel_rfl) (fun _ _ _ h => h) (Or.inl ⟨by rfl, ?_⟩) hHeld ?_ ?_
     rotate_left
     ·
      rintro w' ⟨s0, s1, s2, s3, s4, s5, s6, s7⟩
      go_simp
      with_reducible rfl
     rotate_left
     ·
      simp only [Act.put, List.setIfInBounds_toArray, List.set_cons_zero, List.set_cons_succ, i64_w, i32_w]
      rfl
     refine take_ (i := 4) (N := some 41) (v := ?_) (a' := ?_) #[true, true, true, true, true, false, false, false, false, false, false, false, false, false] rfl rfl (by kernel_rfl) (fun _ _ _ h => h) (Or.inl ⟨by rfl, ?_⟩) hHeld ?_ ?_
     rotate_left
     ·
      rintro w' ⟨s0, s1, s2, s3, s4, s5, s6, s7⟩
      go_simp
      with_reducible rfl
     rotate_left
     ·
      simp only [Act.put, List.setIfInBounds_toArray, List.set_cons_zero, List.set_cons_succ, i64_w, i32_w]
      rfl
     refine pure_ (i := 5) (N := some 42) (v := ?_) (a' := ?_) #[true, true, true, true, true, true, false, false, false, false, false, false, false, false] rfl rfl (by kernel_rfl) (fun _ _ _ h => h) (Or.inl ⟨by rfl, ?_⟩) ?_ ?_
     rotate_left
     ·
      intro w' 
      go_simp
      with_reducible rfl
     rotate_left
     ·
      simp only [Act.put, List.setIfInBounds_toArray, List.set_cons_zero, List.set_cons_succ, i64_w, i32_w]
      rfl
     refine pure_ (i := 6) (N := some 43) (v := ?_) (a' := ?_) #[true, true, true, true, true, true, true, false, false, false, false, false, false, false] rfl rfl (by kernel_rfl) (fun _ _ _ h => h) (Or.inl ⟨by rfl, ?_⟩) ?_ ?_
     rotate_left
     ·
      intro w' 
      go_simp
      with_reducible rfl
     rotate_left
     ·
      simp only [Act.put, List.setIfInBounds_toArray, List.set_cons_zero, List.set_cons_succ, i64_w, i32_w]
      rfl
     refine take_ (i := 7) (N := some 44) (v := ?_) (a' := ?_) #[true, true, true, true, true, true, true, true, false, false, false, false, false, false] rfl rfl (by kernel_rfl) (fun _ _ _ h => h) (Or.inl ⟨by rfl, ?_⟩) hHeld ?_ ?_
     rotate_left
     ·
      rintro w' ⟨s0, s1, s2, s3, s4, s5, s6, s7⟩
      go_simp
      with_reducible rfl
     rotate_left
     ·
      simp only [Act.put, List.setIfInBounds_toArray, List.set_cons_zero, List.set_cons_succ, i64_w, i32_w]
      rfl
     refine take_ (i := 8) (N := some 45) (v := ?_) (a' := ?_) #[true, true, true, true, true, true, true, true, true, false, false, false, false, false] rfl rfl (by kernel_rfl) (fun _ _ _ h => h) (Or.inl ⟨by rfl, ?_⟩) hHeld ?_ ?_
     rotate_left
     ·
      rintro w' ⟨s0, s1, s2, s3, s4, s5, s6, s7⟩
      go_simp
      with_reducible rfl
     rotate_left
     ·
      simp only [Act.put, List.setIfInBounds_toArray, List.set_cons_zero, List.set_cons_succ, i64_w, i32_w]
      rfl
     refine pure_ (i := 9) (N := some 46) (v := ?_) (a' := ?_) #[true, true, true, true, true, true, true, true, true, true, false, false, false, false] rfl rfl (by kernel_rfl) (fun _ _ _ h => h) (Or.inl ⟨by rfl, ?_⟩) ?_ ?_
     rotate_left
     ·
      intro w' 
      go_simp
      with_reducible rfl
     rotate_left
     ·
      simp only [Act.put, List.setIfInBounds_toArray, List.set_cons_zero, List.set_cons_succ, i64_w, i32_w]
      rfl
     refine one_ (i := 10) (N := some 47) #[true, true, true, true, true, true, true, true, true, true, true, false, false, false] rfl rfl (by kernel_rfl) (by decide) (fun K hK => ?_)
     refine call_ 24 #[.agg #[.slice AW ws.length cw, .slice AS ss.length cs], .int .i64 xc, .int .i64 m] (by rfl) rfl (by go_simp; exact HMN.out) ?_
     refine (grid_columns_span.calls _ _ ws _ _ ss xc m _ w25 (Kd.C_below HCW.out HB25.out) HCC.out.1 (Kd.C_below HCS.out HB25.out) HCC.out.2 HSP.out).mono ?_
     rintro e w26 ⟨rfl, hb⟩
     have HR26 := Aside0.mk (Kd.R_below HR25.out hb)
     have HB26 := Aside0.mk (HB25.out.trans (hb.mono HB25.out.size))
     have HL26 := Aside0.mk (HL25.out.below hb)
     have HK26 := Aside0.mk (HK25.out.below hb)
     have HW26 := Aside0.mk (HW25.out.trans (hb.mono HW25.out.size))
     clear hb
     refine ⟨_, rfl, ?_⟩
     refine hK.out _ _ (HSall.out _ HB26.out) (fun hHeld => ?_)
     clear hK K
     refine norm_ (a' := ?_) ?_ ?_
     rotate_left
     ·
      show Act.put _ (some 47) _ = _
      simp only [Act.put, List.setIfInBounds_toArray, List.set_cons_zero, List.set_cons_succ, i64_w, i32_w]
      rfl
     refine one_ (i := 11) (N := some 48) #[true, true, true, true, true, true, true, true, true, true, true, true, false, false] rfl rfl (by kernel_rfl) (by decide) (fun K hK => ?_)
     refine value_ (w1 := ?_) (v := ?_) (by rfl) rfl ?_ ?_
     rotate_left 2
     ·
      go_simp
      constructor
      ·
       rfl
      ·
       rfl
     refine hK.out _ _ (HSall.out _ (HB26.out.alloc HB26.out.size _)) (fun hHeld => ?_)
     clear hK K
     refine norm_ (a' := ?_) ?_ ?_
     rotate_left
     ·
      show Act.put _ (some 48) _ = _
      simp only [Act.put, List.setIfInBounds_toArray, List.set_cons_zero, List.set_cons_succ, i64_w, i32_w]
      rfl
     refine last_ (i := 12) (N := some 49) #[true, true, true, true, true, true, true, true, true, true, true, true, true, false] rfl rfl (by kernel_rfl) (by decide) (fun K hK => ?_)
     refine Kd.R_append_step (Kd.int .i64) (w0 := Wb) (W0.heap.size + 3) (by rfl) (.tmp 37) (.tmp 48) 22 3 (.int .i64 0) 8 rfl Try.underlying22 info3 rfl (by decide) (by omega) v (pre.map (fun x : Int × S39 => spanW ws ss x.2.f1 (mn (rd l1 x.1) a0))) (spanW ws ss xc m) [.int .i64 (spanW ws ss xc m)] (fun _ => True) (fun _ => False) rfl rfl rfl (fun _ hk => hk.elim) (fun _ _ => trivial) HR26.out (HB26.out.mono (by have := HWB.out; omega)) (by have := HB26.out.size; have := HWB.out; omega) (by rw [List.length_map]; have := HPL.out; omega) ?_
     intro v1 w27 ho hb hg hat
     obtain ⟨A9, c9, rfl⟩ := Kd.R_slice ho
     have HO := Aside0.mk ho
     have HG := Aside0.mk hg
     have hv6 : Boxed w26 (W3.heap.size + 1) 22 v := HV.out.of_below' HB26.out
     have hnr : some (W3.heap.size + 1) ≠ v.ownBlock := fun e => by have := own_base HRA.out _ e.symm; have := HSZ.out; omega
     have hv7 : Boxed w27 (W3.heap.size + 1) 22 v := hv6.kept hg hnr
     have hc7 := hv7.cell
     have hf7 := hv7.frozen
     have HV7 := Aside0.mk hv7
     clear ho hb hg hat hv6 hnr hv7
     refine hK.out _ _ ?_
     clear hK K
     refine norm_ (a' := ?_) ?_ ?_
     rotate_left
     ·
      show Act.put _ (some 49) _ = _
      simp only [Act.put, List.setIfInBounds_toArray, List.set_cons_zero, List.set_cons_succ, i64_w, i32_w]
      rfl
     refine last_ (i := 13) (N := none) #[true, true, true, true, true, true, true, true, true, true, true, true, true, true] rfl rfl (by kernel_rfl) (by decide) (fun K hK => ?_)
     refine skip_ (w1 := ?_) (by rfl) rfl ?_ ?_
     rotate_left
     ·
      go_simp
      rfl
     refine hK.out _ _ ?_
     clear hK K
     refine done_ (by kernel_rfl) ?_
     have hz := HSZ.out
     have hlt0 := HLT.out
     have hbs := HBB.out.size
     have hrow : ∀ k, v.ownBlock = some k → W0.heap.size + 3 ≤ k ∧ k < Wa.heap.size := fun k hk => ⟨own_base HRA.out k hk, own_lt HRA.out k hk⟩
     show Lets _ Wa Wb _ ∧ _
     refine ⟨(HL26.out.grown HG.out (fun k hk => ⟨.inr ⟨(hrow k hk).2, ?_⟩, ?_⟩)).setCell (a := ⟨W3.heap.size + 1, 0, none⟩) _ (.inr ⟨hlt0, ?_⟩), ⟨_, HV7.out.set _, ?_, trivial⟩, ?_, ?_⟩
     ·
      have := hrow k hk; omega
     ·
      intro o ho
      obtain ⟨cells, hcc⟩ := own_typed (Kd.own_of_R HR26.out) k hk
      rw [hcc] at ho
      cases ho
      rfl
     ·
      show ¬ (W3.heap.size + 1 < w.heap.size ∨ W3.heap.size + 1 = W5.heap.size ∨ W3.heap.size + 1 = W5.heap.size + 1 ∨ W3.heap.size + 1 = W0.heap.size + 2)
      omega
     ·
      have h1 := Kd.own_of_R HO.out
      have h2 := h1.kept (grownBy_setCell' w27 (W3.heap.size + 1) (.slice A9 ((pre.map (fun x : Int × S39 => spanW ws ss x.2.f1 (mn (rd l1 x.1) a0))) ++ [spanW ws ss xc m]).length c9)) (.inr (HV7.out.not_row (by decide) h1).symm)
      rw [List.map_append]
      simp only [List.map_cons, List.map_nil]
      rw [HRK.out, HM.out]
      have hl : ((pre.map (fun x : Int × S39 => spanW ws ss x.2.f1 (mn (rd l1 x.1) a0))) ++ [spanW ws ss xc m]).length = pre.length + 1 := by simp
      rw [hl] at h2 ⊢
      exact h2
     ·
      exact (HW26.out.grown HG.out HW26.out.size (fun k hk => by have := hrow k hk; omega)).setCell (p := ⟨W3.heap.size + 1, 0, none⟩) (by show w.heap.size ≤ W3.heap.size + 1; omega) _
     ·
      exact (HK26.out.grown HG.out (fun k hk => by have := hrow k hk; omega)).set 0 _
    case done =>
     rintro D ys W hD rfl ⟨⟨v, hv, hrow, _⟩, hbl, hkp⟩ hK
     obtain ⟨Ar, cr, rfl⟩ := own_slice hrow
     rw [List.length_map] at hrow hv
     have HV := Aside0.mk hv
     have HR' := Aside0.mk hrow
     have hvc := hv.cell
     have HBL := Aside0.mk hbl
     have HD := Aside0.mk hD
     clear hiter hs5 hs3 hs0 hkp hv hrow hbl hD
     go_wp2
     refine ⟨by simp, .inl ⟨_, _, rfl, run_takeDeferred hK, ?_⟩⟩
     have h1 := ownsRow_putObj HR'.out (.deferred none) hK rfl
     have hz := HSZ.out
     have h2 : (W.putObj D (.deferred none)).ownsRow w.heap.size 3 1 (.slice Ar (walkL a0 l1).length cr) (widthsL a0 l1 ws ss).length (nums .i64 (widthsL a0 l1 ws ss)) := by
      unfold widthsL; rw [List.length_map]; exact own_weaken h1 (by omega)
     exact ⟨_, results_tmp2 rfl _ _ _, _, rfl, Kd.R_of_own h2 (fun _ _ => trivial), HBL.out.grown (grownBy_putObj' W D _) HBL.out.size (fun k e => by cases e; have := HD.out; omega)⟩
    case stop =>
     intro D c pre W _ _ h _
     exact h.elim
   ·
    obtain ⟨rfl, rfl⟩ : [] = r1 ∧ e2 = r2 := by simpa [h2] using h
    have h2b : (e2 != 0) = true := bne_iff_ne.2 h2
    have h2c : (e2 == 0) = false := beq_eq_false_iff_ne.2 h2
    clear h hsh hst h2
    go_wp2_with (first | (go_at_call 21; refine (hch _ HR2.out).mono ?_; rintro e w' ⟨rfl, rfl⟩) | (go_at_call 23; refine (hgood _).mono ?_; rintro e W3 ⟨AW, cw, AS, cs, rfl, hAW, hAS, hB3⟩; have HAW := Aside0.mk hAW; have HAS := Aside0.mk hAS; have HB3 := Aside0.mk hB3; clear hAW hAS hB3))
    exact ⟨_, results_tmp2 rfl _ _ _, .slice none 0 0, rfl, Kd.R_nil _ _ _ _ _, by
     have h1 := HB2.out.trans (HB3.out.mono (by have := HS2.out; omega))
     exact h1.alloc (by have := h1.size; omega) _⟩
  ·
   rw [if_neg h1] at h
   obtain ⟨rfl, rfl⟩ : [] = r1 ∧ e1 = r2 := by simpa using h
   have hbad := fun w => cols_bad cn HN.out a2 a3 ws e1 h1 hsh w
   rw [← HCN.out] at hbad
   have h1b : (e1 != 0) = true := bne_iff_ne.2 h1
   have h1c : (e1 == 0) = false := beq_eq_false_iff_ne.2 h1
   clear h h1 hsh
   go_wp2_with (first | (go_at_call 21; refine (hch _ HR2.out).mono ?_; rintro e w' ⟨rfl, rfl⟩) | (go_at_call 23; refine (hbad _).mono ?_; rintro e W3 ⟨rfl, hB3⟩; have HB3 := Aside0.mk hB3; clear hB3))
   exact ⟨_, results_tmp2 rfl _ _ _, .slice none 0 0, rfl, Kd.R_nil _ _ _ _ _, by
    have h1 := HB2.out.trans (HB3.out.mono (by have := HS2.out; omega))
    exact h1.alloc (by have := h1.size; omega) _⟩
 ·
  rw [if_neg h0] at h
  obtain ⟨rfl, rfl⟩ : [] = r1 ∧ checkE a0 l1 = r2 := by simpa using h
  have hch : ∀ w, Kd.C (Kd.int .i64) w A1 l1.length l1 → Calls Try.prog 21 #[.int .i64 a0, .slice A1 l1.length c1] w fun e w' => e = .returned (.int .i64 (checkE a0 l1)) ∧ w = w' := fun w hr => check_calls a0 A1 c1 l1 w hr
  have h0b : (checkE a0 l1 != 0) = true := bne_iff_ne.2 h0
  have h0c : (checkE a0 l1 == 0) = false := beq_eq_false_iff_ne.2 h0
  clear h0 h
  go_wp2_with (go_at_call 21; refine (hch _ HR2.out).mono ?_; rintro e w' ⟨rfl, rfl⟩)
  exact ⟨_, results_tmp2 rfl _ _ _, .slice none 0 0, rfl, Kd.R_nil _ _ _ _ _, HB2.out⟩
end Go.Proofs.Ytciheadencbmjaa.P
