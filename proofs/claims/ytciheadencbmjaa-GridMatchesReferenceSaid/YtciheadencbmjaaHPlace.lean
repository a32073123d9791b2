import Derived.Test.YtciheadencbmjaaHMap
set_option linter.unusedVariables false
set_option linter.unusedSimpArgs false
namespace Go.Proofs.Ytciheadencbmjaa.P
open Go.RowKit Go.Proofs.YtciheadencbmjaaW.PrintWords Go.Proofs.YtciheadencbmjaaW.PrintLast Go.Proofs.YtciheadencbmjaaW.PrintMore Go.Proofs.Ytciheadencbmjaa.Rng
attribute [local go_sem] Oper.semAt_some max2_int min2_int max_two min_two
attribute [local go_sem high] eqA39
/-- The rows' heights behind these items; the last row. -/
def rowsP (hs : List Int) (l : List (Int × S39)) : Int → Int := l.foldl (fun p x => updI p x.2.f0 (mx (p x.2.f0) (rd hs x.1))) (fun _ => 0)
def lastP (l : List (Int × S39)) : Int := l.foldl (fun _ x => x.2.f0) (-1)
/-- The end behind k rows; the begin of row k. -/
def endP (gap : Int) (p : Int → Int) : Nat → Int
 | 0 => 0
 | k + 1 => endP gap p k + (if 0 < k then gap else 0) + p (k : Int)
def begP (gap : Int) (p : Int → Int) (k : Nat) : Int := endP gap p k + (if 0 < k then gap else 0)
def boxAt (gap : Int) (p : Int → Int) (ss wd hs : List Int) (x : Int × S39) : S43 := ⟨0, if x.2.f0 = 0 ∧ x.2.f1 = 0 then 0 else rd ss x.2.f1, begP gap p x.2.f0.toNat, rd wd x.1, rd hs x.1, false, []⟩
def placeBody (cols : Int) (l hs : List Int) (space gap : Int) (wd : List Int) : Option (List S43 × Int × Int) :=
 if hs.length = l.length ∧ hs.any badH = false then
  if 1000000000 < endP gap (rowsP hs (walkL cols l)) (lastP (walkL cols l) + 1).toNat then some ([], 0, 3)
  else (tracks_Share.f (tr1 cols.toNat) space gap).bind fun a => (tracks_Starts.f a.1 gap).map fun b => ((walkL cols l).map (boxAt gap (rowsP hs (walkL cols l)) b.1 wd hs), endP gap (rowsP hs (walkL cols l)) (lastP (walkL cols l) + 1).toNat, 0)
 else some ([], 0, 1)
def grid_Place.f (cols : Int) (l hs : List Int) (space gap : Int) : Option (List S43 × Int × Int) :=
 (grid_Widths.f cols l space gap).bind fun p => if p.2 = 0 then placeBody cols l hs space gap p.1 else some ([], 0, p.2)

theorem rowsP_snoc (hs : List Int) (l : List (Int × S39)) (x : Int × S39) : rowsP hs (l ++ [x]) = updI (rowsP hs l) x.2.f0 (mx (rowsP hs l x.2.f0) (rd hs x.1)) := by simp [rowsP, List.foldl_append]
theorem lastP_snoc (l : List (Int × S39)) (x : Int × S39) : lastP (l ++ [x]) = x.2.f0 := by simp [lastP, List.foldl_append]
def Low (p : Int → Int) : Prop := ∀ j, 0 ≤ p j ∧ p j ≤ 1000000
theorem badH_bd {l : List Int} (h : l.any badH = false) {x : Int} (hx : x ∈ l) : 0 ≤ x ∧ x ≤ 1000000 := by
 have := List.any_eq_false.1 h x hx
 simp [badH] at this
 omega
theorem rd_bd {l : List Int} (h : l.any badH = false) (i : Int) : 0 ≤ rd l i ∧ rd l i ≤ 1000000 := by
 by_cases hi : i.toNat < l.length
 ·
  have : rd l i = l[i.toNat] := by simp [rd, List.getD_eq_getElem?_getD, List.getElem?_eq_getElem hi]
  rw [this]; exact badH_bd h (List.getElem_mem hi)
 ·
  have : rd l i = 0 := by simp [rd, List.getD_eq_getElem?_getD, List.getElem?_eq_none (by omega : l.length ≤ i.toNat)]
  rw [this]; omega
theorem mx_bd {a b : Int} (ha : 0 ≤ a ∧ a ≤ 1000000) (hb : 0 ≤ b ∧ b ≤ 1000000) : 0 ≤ mx a b ∧ mx a b ≤ 1000000 := by unfold mx; split <;> omega
theorem rowsP_low {hs : List Int} (h : hs.any badH = false) : ∀ l : List (Int × S39), Low (rowsP hs l) := by
 have key : ∀ (l : List (Int × S39)) (p : Int → Int), Low p → Low (l.foldl (fun p x => updI p x.2.f0 (mx (p x.2.f0) (rd hs x.1))) p) := by
  intro l
  induction l with
  | nil => exact fun _ h => h
  | cons x l ih =>
   intro p hp
   refine ih _ fun j => ?_
   show 0 ≤ updI p x.2.f0 (mx (p x.2.f0) (rd hs x.1)) j ∧ updI p x.2.f0 (mx (p x.2.f0) (rd hs x.1)) j ≤ 1000000
   unfold updI
   split
   ·
    exact mx_bd (hp _) (rd_bd h _)
   ·
    exact hp j
 exact fun l => key l _ fun j => ⟨Int.le_refl _, by decide⟩
theorem endP_bd {gap : Int} {p : Int → Int} (hg : 0 ≤ gap ∧ gap ≤ 100000) (hp : Low p) : ∀ k : Nat, 0 ≤ endP gap p k ∧ endP gap p k ≤ 1100000 * (k : Int)
 | 0 => ⟨Int.le_refl _, by simp [endP]⟩
 | k + 1 => by
  have h1 := endP_bd hg hp k
  have h2 := hp (k : Int)
  unfold endP
  push_cast
  split <;> omega
theorem lastP_mem : ∀ l : List (Int × S39), lastP l = -1 ∨ ∃ x ∈ l, lastP l = x.2.f0 := by
 intro l
 rcases List.eq_nil_or_concat l with rfl | ⟨l', x, rfl⟩
 ·
  exact .inl rfl
 ·
  exact .inr ⟨x, by simp, by rw [List.concat_eq_append, lastP_snoc]⟩
theorem share_gap {l : List S64} {space gap : Int} {ws : List Int} (h : tracks_Share.f l space gap = some (ws, 0)) : 0 ≤ gap ∧ gap ≤ 100000 := by
 unfold tracks_Share.f at h
 split at h
 ·
  rename_i hc
  have := hc.2.2
  unfold inside at this
  simp at this
  omega
 ·
  cases h
theorem widths_zero {cols : Int} {l : List Int} {space gap : Int} {wd : List Int} (h : grid_Widths.f cols l space gap = some (wd, 0)) :
  checkE cols l = 0 ∧ ∃ ws ss, tracks_Share.f (tr1 cols.toNat) space gap = some (ws, 0) ∧ tracks_Starts.f ws gap = some (ss, 0) ∧ wd = widthsL cols l ws ss := by
 unfold grid_Widths.f at h
 split at h
 ·
  rename_i h0
  obtain ⟨⟨ws, e1⟩, hsh, h⟩ := Option.bind_eq_some_iff.1 h
  split at h
  ·
   rename_i h1
   obtain ⟨⟨ss, e2⟩, hst, h⟩ := Option.bind_eq_some_iff.1 h
   split at h
   ·
    rename_i h2
    have h1' : e1 = 0 := h1
    have h2' : e2 = 0 := h2
    subst h1' h2'
    exact ⟨h0, ws, ss, hsh, hst, (Prod.mk.inj (Option.some.inj h)).1.symm⟩
   ·
    rename_i h2; exact absurd (Prod.mk.inj (Option.some.inj h)).2 h2
  ·
   rename_i h1; exact absurd (Prod.mk.inj (Option.some.inj h)).2 h1
 ·
  rename_i h0; exact absurd (Prod.mk.inj (Option.some.inj h)).2 h0
theorem look_step {P : Program} {ops : Array Oper} {o : Oper} {a : Act} {W W1 : World} {Kc : Act → World → Prop} {Q : Exit → Act → World → Prop} {N : Option Tmp} (hw : Region.wanted o (yielded ops a.tmps) = true) (m x : Operand) (t : TypeId) (hop : o.op = Op.lookup t m x false)
  (mv key v : Value) (hm : a.eval m = mv) (hx : a.eval x = key) (hrun : (Instr.lookup t mv key false).run P W = .ok v W1) (hd : o.dst = N) (h : Kc (a.put N v) W1) : if Region.wanted o (yielded ops a.tmps) = true then Oper.wp P o a W Kc Q else Kc (a.put N undef) W := by
 subst hd
 rw [if_pos hw]
 unfold Oper.wp
 simp [execOp, hop, hm, hx, hrun, Result.andThen]
 exact h
theorem entry_step {P : Program} {ops : Array Oper} {o : Oper} {a : Act} {W W1 : World} {Kc : Act → World → Prop} {Q : Exit → Act → World → Prop} {N : Option Tmp} (hw : Region.wanted o (yielded ops a.tmps) = true) (m x : Operand) (t : TypeId) (hop : o.op = Op.mapEntry t m x)
  (mv key v : Value) (hm : a.eval m = mv) (hx : a.eval x = key) (hrun : (Instr.mapEntry t mv key).run P W = .ok v W1) (hd : o.dst = N) (h : Kc (a.put N v) W1) : if Region.wanted o (yielded ops a.tmps) = true then Oper.wp P o a W Kc Q else Kc (a.put N undef) W := by
 subst hd
 rw [if_pos hw]
 unfold Oper.wp
 simp [execOp, hop, hm, hx, hrun, Result.andThen]
 exact h
theorem estore_step {P : Program} {ops : Array Oper} {o : Oper} {a : Act} {W W1 : World} {Kc : Act → World → Prop} {Q : Exit → Act → World → Prop} {N : Option Tmp} (hw : Region.wanted o (yielded ops a.tmps) = true) (m s x : Operand) (t : TypeId) (hop : o.op = Op.entryStore t m s x)
  (mv st v : Value) (hm : a.eval m = mv) (hs : a.eval s = st) (hx : a.eval x = v) (hrun : (Instr.entryStore t mv st v).run P W = .ok () W1) (hd : o.dst = N) (h : Kc (a.put N undef) W1) : if Region.wanted o (yielded ops a.tmps) = true then Oper.wp P o a W Kc Q else Kc (a.put N undef) W := by
 subst hd
 rw [if_pos hw]
 unfold Oper.wp
 simp [execOp, hop, hm, hs, hx, hrun, Result.andThen]
 exact h
theorem map_from {β : Type} {n b : Nat} {f : β → Nat} {p : β → Int → Int} (hb : b < n) : OwnFrom n (fun s W => MapAt W b (f s) (p s)) := fun s W W' row hs hg hr =>
 hs.heap (hg.block b hs.lt (fun e => by have := (hr b e.symm).1; omega))
theorem box_from {β : Type} {n b : Nat} {t : TypeId} {v : β → Value} (hb : b < n) : OwnFrom n (fun s W => Boxed W b t (v s)) := fun s W W' row hs hg hr =>
 (hg.block b hs.lt (fun e => by have := (hr b e.symm).1; omega)).trans hs
theorem map_next {w : World} {b n k : Nat} {f : Nat → Int} {x : Int} (h : MapAt w b n (updI (fun j => if 0 ≤ j ∧ j < (k : Int) then f j.toNat else 0) (k : Int) x)) (hx : f k = x) :
  MapAt w b n (fun j => if 0 ≤ j ∧ j < ((k + 1 : Nat) : Int) then f j.toNat else 0) := by
 have e : updI (fun j => if 0 ≤ j ∧ j < (k : Int) then f j.toNat else 0) (k : Int) x = (fun j => if 0 ≤ j ∧ j < ((k + 1 : Nat) : Int) then f j.toNat else 0) := by
  funext j
  unfold updI
  dsimp only
  by_cases e : j = (k : Int)
  ·
   subst e
   rw [if_pos rfl, if_pos (by omega), Int.toNat_natCast, hx]
  ·
   rw [if_neg e]
   by_cases e2 : 0 ≤ j ∧ j < (k : Int)
   ·
    rw [if_pos e2, if_pos (by omega)]
   ·
    rw [if_neg e2, if_neg (by omega)]
 rw [← e]
 exact h
def cells43 (x : S43) : List Value := [.int .i64 x.f0, .int .i64 x.f1, .int .i64 x.f2, .int .i64 x.f3, .int .i64 x.f4, .bool x.f5, .slice none 0 0]
theorem reps_flatm {α : Type} {R : α → List Value → Prop} {size : Nat} (f : α → List Value) : ∀ (ps qs : List α), (∀ p ∈ ps, (f p).length = size ∧ R p (f p)) → Reps R size qs (qs.flatMap f) → Reps R size (qs ++ ps) ((qs ++ ps).flatMap f)
 | [], qs, _, h => by simpa using h
 | p :: ps, qs, hf, h => by
  have h1 := Reps.snoc h (hf p (by simp)).2 (hf p (by simp)).1
  have h2 := reps_flatm f ps (qs ++ [p]) (fun q hq => hf q (by simp [hq])) (by simpa using h1)
  simpa using h2
theorem S43_of {W : World} {base : Nat} {v : Value} {xs : List S43} (h : W.ownsRow base 43 7 v xs.length (xs.flatMap cells43)) (h6 : ∀ x ∈ xs, x.f6 = []) : Kd.S k43 43 W base (fun _ => True) v xs := by
 refine Kd.S_bare ⟨fun _ _ => trivial, xs.flatMap cells43, h, ?_⟩
 have hm : ∀ p ∈ xs, (cells43 p).length = (Kd.bare k43).sz ∧ (Kd.bare k43).M W base (fun k => True ∧ some k ≠ v.ownBlock) p (cells43 p) := fun p hp => by
  refine ⟨rfl, ?_⟩
  have he := h6 p hp
  exact k43_mkM W base _ p (v6 := .slice none 0 0) (by rw [he]; exact Kd.R_nil _ _ _ _ _)
 have := reps_flatm (size := (Kd.bare k43).sz) (R := (Kd.bare k43).M W base (fun k => True ∧ some k ≠ v.ownBlock)) cells43 xs [] hm (Reps.none _ _)
 simpa using this
theorem walkG_last (cols : Int) : ∀ (i : Nat) (r c : Int) (l : List Int), (r ≤ (walkG cols i r c l).foldl (fun _ x => x.2.f0) r) ∧ ∀ x ∈ walkG cols i r c l, ∀ d, x.2.f0 ≤ (walkG cols i r c l).foldl (fun _ x => x.2.f0) d
 | _, r, _, [] => ⟨Int.le_refl _, fun x hx => by simp [walkG] at hx⟩
 | i, r, c, n :: l => by
  unfold walkG
  split
  ·
   have h := walkG_last cols (i + 1) (r + 1) (mn n cols) l
   simp only [List.foldl_cons]
   refine ⟨by have := h.1; omega, fun x hx d => ?_⟩
   rcases List.mem_cons.1 hx with rfl | hx
   ·
    exact h.1
   ·
    exact h.2 x hx _
  ·
   have h := walkG_last cols (i + 1) r (c + mn n cols) l
   simp only [List.foldl_cons]
   refine ⟨h.1, fun x hx d => ?_⟩
   rcases List.mem_cons.1 hx with rfl | hx
   ·
    exact h.1
   ·
    exact h.2 x hx _
theorem walkL_last {cols : Int} {l : List Int} {x : Int × S39} (hx : x ∈ walkL cols l) : x.2.f0 ≤ lastP (walkL cols l) := (walkG_last cols 0 0 0 l).2 x hx (-1)
theorem seven {w : World} {g : Nat} {t : TypeId} {a0 a1 a2 a3 a4 a5 a6 : Value} (h : w.heap[g]? = some (.cells #[a0, a1, a2, a3, a4, a5, a6] t (0, 0))) (b0 b1 b2 b3 b4 b5 b6 : Value) :
  (((((((w.setCell ⟨g, 0, none⟩ b0).setCell ⟨g, 1, none⟩ b1).setCell ⟨g, 2, none⟩ b2).setCell ⟨g, 3, none⟩ b3).setCell ⟨g, 4, none⟩ b4).setCell ⟨g, 5, none⟩ b5).setCell ⟨g, 6, none⟩ b6).heap[g]? = some (.cells #[b0, b1, b2, b3, b4, b5, b6] t (0, 0)) :=
 by
  have h0 := blk_put (cs' := #[b0, a1, a2, a3, a4, a5, a6]) h 0 b0 rfl
  have h1 := blk_put (cs' := #[b0, b1, a2, a3, a4, a5, a6]) h0 1 b1 rfl
  have h2 := blk_put (cs' := #[b0, b1, b2, a3, a4, a5, a6]) h1 2 b2 rfl
  have h3 := blk_put (cs' := #[b0, b1, b2, b3, a4, a5, a6]) h2 3 b3 rfl
  have h4 := blk_put (cs' := #[b0, b1, b2, b3, b4, a5, a6]) h3 4 b4 rfl
  have h5 := blk_put (cs' := #[b0, b1, b2, b3, b4, b5, a6]) h4 5 b5 rfl
  have h6 := blk_put (cs' := #[b0, b1, b2, b3, b4, b5, b6]) h5 6 b6 rfl
  exact h6
theorem kc_map {W W' : World} {b : Nat} {es : Array MapEntry} {ck : Nat} (hb : W.heap[b]? = some (.map es ck)) (hk : KeepP (fun k => k = b) W W') {q : Addr} {u : Value} (h : W.cell? q = some u) : W'.cell? q = some u := by
 refine (World.cell?_of_block (hk.2 _ (World.block_lt_of_cell? W _ h) (fun e => ?_))).trans h
 unfold World.cell? at h
 rw [e, hb] at h
 cases h
set_option maxRecDepth 100000 in
set_option maxHeartbeats 8000000 in
theorem grid_Place.calls (a0 : Int) (A1 : Option Addr) (c1 : Nat) (l1 : List Int) (A2 : Option Addr) (c2 : Nat) (l2 : List Int) (a3 a4 : Int) (r1 : List S43) (r2 r3 : Int) (w : World) (hr1 : Kd.C (Kd.int .i64) w A1 l1.length l1) (hc1 : l1.length ≤ c1) (hr2 : Kd.C (Kd.int .i64) w A2 l2.length l2) (hc2 : l2.length ≤ c2) (h : grid_Place.f a0 l1 l2 a3 a4 = some (r1, r2, r3)) :
  Calls Try.prog 16 #[.int .i64 a0, .slice A1 l1.length c1, .slice A2 l2.length c2, .int .i64 a3, .int .i64 a4] w fun e w' => ∃ v0_ : Value, e = .returned (.tuple #[v0_, .int .i64 r2, .int .i64 r3]) ∧ Kd.S k43 43 w' w.heap.size (fun _ => True) v0_ r1 ∧ Below w.heap.size w w' := by
 unfold grid_Place.f at h
 obtain ⟨⟨wd, e1⟩, hwd, h⟩ := Option.bind_eq_some_iff.1 h
 obtain ⟨W1, hW1⟩ : ∃ W1, w.alloc (Obj.cells #[Value.slice A2 l2.length c2] 22) = W1 := ⟨_, rfl⟩
 have hs1 : W1.heap.size = w.heap.size + 1 := by rw [← hW1]; simp
 have HB1 : Aside0 (Below w.heap.size w W1) := ⟨by rw [← hW1]; exact (Below.refl _ w).alloc (Nat.le_refl _) _⟩
 have BH1 : Aside0 (Boxed W1 w.heap.size 22 (.slice A2 l2.length c2)) := ⟨by rw [← hW1]; exact Boxed.new w 22 _⟩
 have HRA := Aside0.mk (Kd.C_below hr1 HB1.out)
 have HRB := Aside0.mk (Kd.C_below hr2 HB1.out)
 have HCA := Aside0.mk hc1
 have HCB := Aside0.mk hc2
 have HS1 := Aside0.mk hs1
 have HW1 := Aside0.mk hW1
 have hwc : ∀ W, Kd.C (Kd.int .i64) W A1 l1.length l1 → _ := fun W hC => grid_Widths.calls a0 A1 c1 l1 a3 a4 wd e1 W hC HCA.out hwd
 have HR1 := Aside0.mk hr1
 clear hr2 hc1 hc2 hs1 hW1 hr1
 refine (callsIn_wide (n := 3)).1 ?_
 refine callsIn_of_wp_marks Try.func16 rfl trivial ?_ rfl
 simp only [Try.ntmps16, List.size_toArray, List.length_cons, List.length_nil, Nat.reduceAdd, Nat.reduceSub, Array.replicate_succ, Array.replicate_zero, List.push_toArray, List.append_toArray, List.nil_append, List.cons_append]
 refine (wpIn_wide (n := 3)).2 ?_
 have hx1 := BH1.out.cell
 go_upto_region 1 with (fail)
 rw [HW1.out]
 by_cases h1 : e1 = 0
 ·
  subst h1
  rw [if_pos rfl] at h
  obtain ⟨hck, ws, ss, hsh, hst, hwdl⟩ := widths_zero hwd
  obtain ⟨hn, hcols, hl⟩ := checkE_zero hck
  unfold placeBody at h
  have HSH := Aside0.mk hsh
  have HST := Aside0.mk hst
  have HWD := Aside0.mk hwdl
  have HCOLS := Aside0.mk hcols
  have HL := Aside0.mk hl
  have HLN := Aside0.mk hn
  clear hwd hck hwdl hcols hl hn
  go_upto_region 5 with (go_at_call 13; refine (hwc _ HRA.out).mono ?_; rintro e W2 ⟨vw, rfl, hvw, hb2⟩; obtain ⟨AV, cv, rfl⟩ := Kd.R_slice hvw; have HVW := Aside0.mk hvw; have HB2 := Aside0.mk hb2; clear hvw hb2)
  obtain ⟨W3, hW3⟩ : ∃ W3, W2.alloc (Obj.cells #[Value.slice AV wd.length cv] 22) = W3 := ⟨_, rfl⟩
  rw [hW3]
  have hs3 : W3.heap.size = W2.heap.size + 1 := by rw [← hW3]; simp
  have hs2 : w.heap.size + 1 ≤ W2.heap.size := by have := HB2.out.size; have := HS1.out; omega
  have b12 : Below W1.heap.size W1 W3 := by rw [← hW3]; exact HB2.out.alloc HB2.out.size _
  have bl3 : Below w.heap.size w W3 := HB1.out.trans (b12.mono HB1.out.size)
  have BH3 : Boxed W3 w.heap.size 22 (.slice A2 l2.length c2) := BH1.out.of_below' b12
  have BV3 : Boxed W3 W2.heap.size 22 (.slice AV wd.length cv) := by rw [← hW3]; exact Boxed.new W2 22 _
  have HVW3 : Kd.C (Kd.int .i64) W3 AV wd.length wd := by rw [← hW3]; exact Kd.C_below (Kd.R_reads' HVW.out).2.2 ((Below.refl _ W2).alloc (Nat.le_refl _) _)
  have HRA3 : Kd.C (Kd.int .i64) W3 A1 l1.length l1 := Kd.C_below HRA.out b12
  have HRB3 : Kd.C (Kd.int .i64) W3 A2 l2.length l2 := Kd.C_below HRB.out b12
  have hbV : ∀ ad, AV = some ad → 0 < wd.length → ad.block < W2.heap.size := row_block (Kd.R_reads' HVW.out).2.2
  have hbA : ∀ ad, A1 = some ad → 0 < l1.length → ad.block < W1.heap.size := row_block HRA.out
  have hbB : ∀ ad, A2 = some ad → 0 < l2.length → ad.block < W1.heap.size := row_block HRB.out
  have hx3 := BH3.cell
  have HS3 := Aside0.mk (And.intro hs3 hs2)
  have HK3 := Aside0.mk (And.intro b12 (And.intro bl3 (And.intro BH3 (And.intro BV3 (And.intro HVW3 (And.intro HRA3 (And.intro HRB3 (And.intro hbV (And.intro hbA hbB)))))))))
  clear hs3 hs2 b12 bl3 BH3 BV3 HVW3 HRA3 HRB3 hbV hbA hbB hx1 hW3
  by_cases h2 : l2.length = l1.length ∧ l2.any badH = false
  ·
   rw [if_pos h2] at h
   obtain ⟨h2l, h2b⟩ := h2
   have hh : ∀ W, Kd.C (Kd.int .i64) W A2 l2.length l2 → Calls Try.prog 27 #[.slice A2 l2.length c2, .func (.func 26) #[] #[]] W fun e w' => e = .returned (.bool false) ∧ W = w' := fun W hC => by rw [← h2b]; exact anyH_calls A2 c2 l2 W hC (by have := HLN.out; omega)
   have H2L := Aside0.mk h2l
   have H2B := Aside0.mk h2b
   have q0 : ((l2.length : Int) != (l1.length : Int)) = false := by rw [h2l]; simp
   clear h2l h2b
   go_upto_region 7 with (go_at_call 27; refine (hh _ HK3.out.2.2.2.2.2.2.1).mono ?_; rintro e w' ⟨rfl, rfl⟩)
   clear hh hwc q0
   have hmm58 : ∀ w, (Instr.makeMap 58 none).run Try.prog w = .ok (.map (some w.heap.size)) (w.alloc (.map #[] 0)) := fun w => run_makeMap 58 w
   go_upto_region 9 with (fail)
   obtain ⟨W5, hW5⟩ : ∃ W5, ((W3.alloc (.map #[] 0)).alloc (Obj.cells #[Value.map (some W3.heap.size)] 58)).alloc (Obj.cells #[Value.int IntKind.i64 (-1)] 3) = W5 := ⟨_, rfl⟩
   rw [hW5]
   obtain ⟨hs3, hs2⟩ := HS3.out
   obtain ⟨b12, bl3, BH3, BV3, HVW3, HRA3, HRB3, hbV, hbA, hbB⟩ := HK3.out
   have hs5 : W5.heap.size = W3.heap.size + 3 := by rw [← hW5]; simp
   have b35 : Below W3.heap.size W3 W5 := by rw [← hW5]; exact (((Below.refl _ W3).alloc (Nat.le_refl _) _).alloc (by simp) _).alloc (by simp; omega) _
   have HM5 : MapAt W5 W3.heap.size 0 (fun _ => 0) := by
    refine (MapAt.made W3).heap ?_
    rw [← hW5]
    exact (Below.heap_alloc _ _ _ (by simp; omega)).trans (Below.heap_alloc _ _ _ (by simp))
   have BB5 : Boxed W5 (W3.heap.size + 1) 58 (.map (some W3.heap.size)) := by
    rw [← hW5]; have := (Boxed.new (W3.alloc (.map #[] 0)) 58 (.map (some W3.heap.size))).alloc (Obj.cells #[Value.int IntKind.i64 (-1)] 3); rwa [World.size_alloc] at this
   have BL5 : Boxed W5 (W3.heap.size + 2) 3 (.int .i64 (-1)) := by
    rw [← hW5]; have := Boxed.new ((W3.alloc (.map #[] 0)).alloc (Obj.cells #[Value.map (some W3.heap.size)] 58)) 3 (.int .i64 (-1)); rwa [World.size_alloc, World.size_alloc] at this
   have HS5 := Aside0.mk hs5
   have HF5 := Aside0.mk (And.intro b35 (And.intro HM5 (And.intro BB5 BL5)))
   clear hW5 hs3 hs2 b12 bl3 BH3 BV3 HVW3 HRA3 HRB3 hbV hbA hbB hs5 b35 HM5 BB5 BL5
   go_wp2_with (go_at_call 22; refine (walk_calls _ _ _ _ _).mono ?_; rintro e w' ⟨rfl, rfl⟩)
   obtain ⟨hs3, hs2⟩ := HS3.out
   obtain ⟨b12, bl3, BH3, BV3, HVW3, HRA3, HRB3, hbV, hbA, hbB⟩ := HK3.out
   obtain ⟨b35, HM5, BB5, BL5⟩ := HF5.out
   have hs5 := HS5.out
   obtain ⟨W0, hW0⟩ : ∃ W0, (W5.alloc (Obj.cells #[Value.int IntKind.i64 a0] 3)).alloc (Obj.cells #[Value.slice A1 l1.length c1] 22) = W0 := ⟨_, rfl⟩
   have hs0 : W0.heap.size = W3.heap.size + 5 := by rw [← hW0]; simp; omega
   have b50 : Below W5.heap.size W5 W0 := by rw [← hW0]; exact ((Below.refl _ W5).alloc (Nat.le_refl _) _).alloc (by simp) _
   have b30 : Below W3.heap.size W3 W0 := b35.trans (b50.mono b35.size)
   have bl0 : Below w.heap.size w W0 := bl3.trans (b30.mono bl3.size)
   have bn : Boxed W0 W5.heap.size 3 (.int .i64 a0) := by rw [← hW0]; exact (Boxed.new W5 3 _).alloc _
   have bc : Boxed W0 (W5.heap.size + 1) 22 (.slice A1 l1.length c1) := by
    rw [← hW0]; have := Boxed.new (W5.alloc (Obj.cells #[Value.int IntKind.i64 a0] 3)) 22 (Value.slice A1 l1.length c1); rwa [World.size_alloc] at this
   have BH0 := Aside0.mk (BH3.of_below' b30)
   have BV0 := Aside0.mk (BV3.of_below' b30)
   have HAV0 := Aside0.mk (Kd.C_below HVW3 b30)
   have HAA0 := Aside0.mk (Kd.C_below HRA3 b30)
   have HAB0 := Aside0.mk (Kd.C_below HRB3 b30)
   have HM0 := HM5.heap (b50.block _ HM5.lt)
   have BB0 := Aside0.mk (BB5.of_below' b50)
   have BL0 := BL5.of_below' b50
   rw [hW0]
   refine (wpIn_wide (n := 3)).1 ?_
   refine wpIn_act (fun A0 hA0 => ?_)
   have HA0 := Aside0.mk hA0
   have hiter := walk_iter a0 l1 A1 c1 W5.heap.size (fun k => k < w.heap.size ∨ k = W5.heap.size ∨ k = W5.heap.size + 1 ∨ k = W0.heap.size + 2) W0 HCOLS.out HL.out HLN.out (.inr (.inl rfl)) (.inr (.inr (.inl rfl))) (.inr (.inr (.inr rfl))) bn bc HAA0.out
    (fun ad h1 h2 => by have := hbA ad h1 h2; have := HS1.out; have : ad.block < w.heap.size := row_block HR1.out ad h1 h2; exact ⟨.inl this, by omega⟩)
   have HSZ := Aside0.mk (And.intro hs5 (And.intro hs3 (And.intro hs0 hs2)))
   have HBR := Aside0.mk (And.intro hbV (And.intro hbA hbB))
   have HBL0 := Aside0.mk bl0
   clear hA0 hW0 BH3 BV3 HVW3 HRA3 HRB3 HM5 BB5 BL5 bn bc b50 b30 b35 b12 bl3 hbV hbA hbB
   refine rangeFuncN (O := fun k => k = W0.heap.size + 2) (lb := #[.pointer (some ⟨W5.heap.size + 1, 0, none⟩), .pointer (some ⟨W5.heap.size, 0, none⟩)]) (gf := 30) rfl (enters_of Try.func30 (by kernel_rfl) rfl) hiter (fun _ => rfl) (fun k hk => by omega) (fun k hk => by omega) (fun _ _ _ _ _ _ h _ _ => ⟨h.1, by rw [World.putObj_size]; exact h.2⟩)
    (fun pre W => MapAt W W3.heap.size pre.length (rowsP l2 pre) ∧ Boxed W (W3.heap.size + 2) 3 (.int .i64 (lastP pre)) ∧ Below w.heap.size w W ∧ KeepP (fun k => k = W3.heap.size ∨ k = W3.heap.size + 2) W0 W)
    (fun _ _ _ => False)
    (OwnFrom.and (map_from (by omega)) (OwnFrom.and (box_from (by omega)) (OwnFrom.and (ownFrom_below (Nat.le_refl _) bl0.size) keepP_from)))
    (fun _ _ _ _ _ hs _ _ => hs) ?hIO (fun _ _ _ _ h _ => h) ⟨HM0, BL0, bl0, KeepP.refl _ _⟩
    (fun x a' W => ∃ B9 : Nat, W.heap[B9]? = some (.cells #[.int .i64 x.2.f0, .int .i64 x.2.f1] 39 (0, 0)) ∧
     a' = (((A0.put (some 55) (.int .i64 x.1)).put (some 56) (.agg #[.int .i64 x.2.f0, .int .i64 x.2.f1])).put (some 18) (.int .i64 x.1)).put (some 19) (.pointer (some ⟨B9, 0, none⟩)))
    ?hAx ?hVb ?assign ?body ?done ?stop
   case hIO =>
    rintro pre A B ⟨hm, hv, hbl, hkp⟩ hb
    refine ⟨hm.heap (hb.block _ hm.lt (by omega)), box_of hv hb (by omega), below_of hbl hb hbl.size (fun k hk => by have := bl0.size; omega), hkp.ofO hb (fun k hk => .inl (by omega))⟩
   case hAx =>
    rintro x a' W l o o' ⟨B9, h9, rfl⟩ hl ho
    exact ⟨B9, (World.putObj_heap_other (by rintro rfl; rw [h9] at hl; cases hl; cases ho)).trans h9, rfl⟩
   case hVb => exact fun _ _ _ _ h hb => ⟨h.1, Nat.lt_of_lt_of_le h.2 hb.size⟩
   case assign =>
    intro l x W K' hK'
    simp only [encW]
    clear hs5 hs3 hs2 hs0 hiter hx3 bl0 HM0 BL0
    gi_wp2
    refine hK' _ _ ((Below.refl _ W).alloc (Nat.le_refl _) _) ⟨W.heap.size, heap_alloc_new W _, ?_⟩
    rw [HA0.out]; rfl
   case body =>
     rintro l pre ⟨xi, ⟨xr, xc⟩⟩ a' Wa Wb hlt ⟨hma, hv, hbl, hkp⟩ hab ⟨hpf, hsz⟩ ⟨B9, h9, rfl⟩
     dsimp only at h9
     have hpl : pre.length ≤ 4000 := by have := hpf.length_le; rw [walkL_length] at this; simp at this; have := HLN.out; omega
     have hmem : (xi, (⟨xr, xc⟩ : S39)) ∈ walkL a0 l1 := by obtain ⟨t, ht⟩ := hpf; rw [← ht]; simp
     obtain ⟨k, hk, e1, e2, e3, e4, e5⟩ := walkL_mem HCOLS.out HL.out hmem
     dsimp only at e1 e2 e3 e4 e5
     subst e1
     have hk2 : k < l2.length := by have := H2L.out; omega
     obtain ⟨hk', hhk⟩ : ∃ z, rd l2 (k : Int) = z := ⟨_, rfl⟩
     have hkb2 := rd_bd H2B.out (k : Int)
     rw [hhk] at hkb2
     obtain ⟨p, hp⟩ : ∃ p, rowsP l2 pre = p := ⟨_, rfl⟩
     have hlow := rowsP_low H2B.out pre
     rw [hp] at hma hlow
     have hkb := hkp.ofO hab (fun k hk => .inl (by omega))
     have hmb := hma.heap (hab.block _ hma.lt (by omega))
     have hvb := box_of hv hab (show ¬ W3.heap.size + 2 = W0.heap.size + 2 by omega)
     have yB := (hkb.box BB0.out (by omega)).cell
     have yH := (hkb.box BH0.out (by have := HBL0.out.size; omega)).cell
     obtain ⟨hbV, hbA, hbB⟩ := HBR.out
     have CB := hkb.row HAB0.out (fun ad e hn => by have := hbB ad e hn; have := HS1.out; have := HK3.out.1.size; omega)
     obtain ⟨ad, e, hx⟩ := Kd.at_int CB (k : Int) (by omega) (by omega)
     cases e
     rw [Int.toNat_natCast, hhk] at hx
     have f0 : Wb.cell? ⟨B9, 0, none⟩ = some (.int .i64 xr) := (blk_cell h9 0).trans rfl
     have p1 : (0 ≤ (k : Int)) = True := eq_true (by omega)
     have q1 : ((k : Int) < (l2.length : Int)) = True := eq_true (by omega)
     have HSall : Aside0 (∀ w', KeepP (fun k => k = W3.heap.size) Wb w' → w'.cell? ⟨W3.heap.size + 1, 0, none⟩ = some (.map (some W3.heap.size)) ∧ w'.cell? ⟨B9, 0, none⟩ = some (.int .i64 xr) ∧ w'.cell? ⟨w.heap.size, 0, none⟩ = some (.slice (some ad) l2.length c2) ∧ w'.cell? (ad.add k) = some (.int .i64 hk')) := ⟨fun w' hb => by
      obtain ⟨es, ck, hes⟩ := hmb.block
      exact ⟨kc_map hes hb yB, kc_map hes hb f0, kc_map hes hb yH, kc_map hes hb hx⟩⟩
     have HPX := Aside0.mk hp
     have HHK := Aside0.mk hhk
     have HXR : Aside0 (-9223372036854775808 ≤ xr ∧ xr ≤ 9223372036854775807) := ⟨by have := HLN.out; omega⟩
     have HMX : Aside0 (0 ≤ mx (p xr) hk' ∧ mx (p xr) hk' ≤ 1000000) := ⟨mx_bd (hlow xr) hkb2⟩
     have HMBb := Aside0.mk hmb
     have HBLw := Aside0.mk hvb
     have HLT := Aside0.mk hlt
     have HBB := Aside0.mk (below_of hbl hab hbl.size (fun k hk => by have := HBL0.out.size; omega))
     have HKB := Aside0.mk hkb
     have HPL := Aside0.mk hpl
     have HWA := Aside0.mk hkp.1
     have HWB := Aside0.mk hsz
     clear hma hv hbl hkp hab hpf hsz hmem hk e2 e3 e4 e5 hk2 hkb2 hhk hlow hkb hmb hvb yB yH hbV hbA hbB CB hx f0 hpl hlt hs5 hs3 hs2 hs0 hiter h9 bl0 HM0 BL0 hx3 hp
     rw [HA0.out]
     simp only [Act.put, List.setIfInBounds_toArray, List.set_cons_zero, List.set_cons_succ]
     gi_wp2
     refine startIn_ (n := 18) (S := fun w' => w'.cell? ⟨W3.heap.size + 1, 0, none⟩ = some (.map (some W3.heap.size)) ∧ w'.cell? ⟨B9, 0, none⟩ = some (.int .i64 xr) ∧ w'.cell? ⟨w.heap.size, 0, none⟩ = some (.slice (some ad) l2.length c2) ∧ w'.cell? (ad.add k) = some (.int .i64 hk')) (ds := [17]) #[false, false, false, false, false, false, false, false, false, false, false, false, false, false, false, false, false, false] (by kernel_rfl) (fun h_ => by obtain ⟨_, _, h_⟩ := h_; exact h_) (by kernel_rfl) rfl rfl (HSall.out _ ((KeepP.refl _ Wb).drew)) (fun hHeld => ?_)
     have HMB : Aside0 (MapAt Wb.drew W3.heap.size pre.length p) := ⟨HMBb.out.heap rfl⟩
     have HL25 : Aside0 (Lets (fun k => k < w.heap.size ∨ k = W5.heap.size ∨ k = W5.heap.size + 1 ∨ k = W0.heap.size + 2) Wa Wb Wb.drew) := ⟨(Lets.refl _ Wa Wb).drew⟩
     have HK25 : Aside0 (KeepP (fun k => k = W3.heap.size) Wb Wb.drew) := ⟨(KeepP.refl _ Wb).drew⟩
     have HKW25 : Aside0 (KeepP (fun k => k = W3.heap.size ∨ k = W3.heap.size + 2) W0 Wb.drew) := ⟨HKB.out.drew⟩
     have HW25 := Aside0.mk (below_drew1 HBB.out)
     generalize World.drew _ = w25 at HMB HL25 HK25 HKW25 HW25 hHeld ⊢
     obtain ⟨v0, st, W26, hen1, hen2, hen3, hen4⟩ := HMB.out.entry (by have := HPL.out; simp [maxLen]; omega) HXR.out.1 HXR.out.2
     have HEN := Aside0.mk (And.intro hen1 (And.intro hen4 hen3))
     have HM26 := Aside0.mk hen2
     have HK26 := Aside0.mk (HK25.out.grown hen3 (fun k e => .inr (Option.some.inj e).symm))
     have HS26 := Aside0.mk (HSall.out _ HK26.out)
     clear hen1 hen2 hen3 hen4
     refine take_ (i := 0) (N := some 57) (v := ?_) (a' := ?_) #[true, false, false, false, false, false, false, false, false, false, false, false, false, false, false, false, false, false] rfl rfl (by kernel_rfl) (fun _ _ _ h => h) (Or.inl ⟨by rfl, ?_⟩) hHeld ?_ ?_
     rotate_left
     ·
      rintro w' ⟨s0, s1, s2, s3⟩
      go_simp
      with_reducible rfl
     rotate_left
     ·
      simp only [Act.put, List.setIfInBounds_toArray, List.set_cons_zero, List.set_cons_succ, i64_w, i32_w]
      rfl
     refine pure_ (i := 1) (N := some 58) (v := ?_) (a' := ?_) #[true, true, false, false, false, false, false, false, false, false, false, false, false, false, false, false, false, false] rfl rfl (by kernel_rfl) (fun _ _ _ h => h) (Or.inl ⟨by rfl, ?_⟩) ?_ ?_
     rotate_left
     ·
      intro w' 
      go_simp
      with_reducible rfl
     rotate_left
     ·
      simp only [Act.put, List.setIfInBounds_toArray, List.set_cons_zero, List.set_cons_succ, i64_w, i32_w]
      rfl
     refine take_ (i := 2) (N := some 59) (v := ?_) (a' := ?_) #[true, true, true, false, false, false, false, false, false, false, false, false, false, false, false, false, false, false] rfl rfl (by kernel_rfl) (fun _ _ _ h => h) (Or.inl ⟨by rfl, ?_⟩) hHeld ?_ ?_
     rotate_left
     ·
      rintro w' ⟨s0, s1, s2, s3⟩
      go_simp
      with_reducible rfl
     rotate_left
     ·
      simp only [Act.put, List.setIfInBounds_toArray, List.set_cons_zero, List.set_cons_succ, i64_w, i32_w]
      rfl
     refine take_ (i := 3) (N := some 60) (v := ?_) (a' := ?_) #[true, true, true, true, false, false, false, false, false, false, false, false, false, false, false, false, false, false] rfl rfl (by kernel_rfl) (fun _ _ _ h => h) (Or.inl ⟨by rfl, ?_⟩) hHeld ?_ ?_
     rotate_left
     ·
      rintro w' ⟨s0, s1, s2, s3⟩
      go_simp
      with_reducible rfl
     rotate_left
     ·
      simp only [Act.put, List.setIfInBounds_toArray, List.set_cons_zero, List.set_cons_succ, i64_w, i32_w]
      rfl
     refine pure_ (i := 4) (N := some 61) (v := ?_) (a' := ?_) #[true, true, true, true, true, false, false, false, false, false, false, false, false, false, false, false, false, false] rfl rfl (by kernel_rfl) (fun _ _ _ h => h) (Or.inl ⟨by rfl, ?_⟩) ?_ ?_
     rotate_left
     ·
      intro w' 
      go_simp
      with_reducible rfl
     rotate_left
     ·
      simp only [Act.put, List.setIfInBounds_toArray, List.set_cons_zero, List.set_cons_succ, i64_w, i32_w]
      rfl
     refine take_ (i := 5) (N := some 62) (v := ?_) (a' := ?_) #[true, true, true, true, true, true, false, false, false, false, false, false, false, false, false, false, false, false] rfl rfl (by kernel_rfl) (fun _ _ _ h => h) (Or.inl ⟨by rfl, ?_⟩) hHeld ?_ ?_
     rotate_left
     ·
      rintro w' ⟨s0, s1, s2, s3⟩
      go_simp
      with_reducible rfl
     rotate_left
     ·
      simp only [Act.put, List.setIfInBounds_toArray, List.set_cons_zero, List.set_cons_succ, i64_w, i32_w]
      rfl
     refine take_ (i := 7) (N := some 64) (v := ?_) (a' := ?_) #[true, true, true, true, true, true, false, true, false, false, false, false, false, false, false, false, false, false] rfl rfl (by kernel_rfl) (fun _ _ _ h => h) (Or.inl ⟨by rfl, ?_⟩) hHeld ?_ ?_
     rotate_left
     ·
      rintro w' ⟨s0, s1, s2, s3⟩
      go_simp
      with_reducible rfl
     rotate_left
     ·
      simp only [Act.put, List.setIfInBounds_toArray, List.set_cons_zero, List.set_cons_succ, i64_w, i32_w]
      rfl
     refine pure_ (i := 8) (N := some 65) (v := ?_) (a' := ?_) #[true, true, true, true, true, true, false, true, true, false, false, false, false, false, false, false, false, false] rfl rfl (by kernel_rfl) (fun _ _ _ h => h) (Or.inl ⟨by rfl, ?_⟩) ?_ ?_
     rotate_left
     ·
      intro w' 
      go_simp
      with_reducible rfl
     rotate_left
     ·
      simp only [Act.put, List.setIfInBounds_toArray, List.set_cons_zero, List.set_cons_succ, i64_w, i32_w]
      rfl
     refine pure_ (i := 9) (N := some 66) (v := ?_) (a' := ?_) #[true, true, true, true, true, true, false, true, true, true, false, false, false, false, false, false, false, false] rfl rfl (by kernel_rfl) (fun _ _ _ h => h) (Or.inl ⟨by rfl, ?_⟩) ?_ ?_
     rotate_left
     ·
      intro w' 
      go_simp
      with_reducible rfl
     rotate_left
     ·
      simp only [Act.put, List.setIfInBounds_toArray, List.set_cons_zero, List.set_cons_succ, i64_w, i32_w]
      rfl
     refine take_ (i := 10) (N := some 67) (v := ?_) (a' := ?_) #[true, true, true, true, true, true, false, true, true, true, true, false, false, false, false, false, false, false] rfl rfl (by kernel_rfl) (fun _ _ _ h => h) (Or.inl ⟨by rfl, ?_⟩) hHeld ?_ ?_
     rotate_left
     ·
      rintro w' ⟨s0, s1, s2, s3⟩
      go_simp
      with_reducible rfl
     rotate_left
     ·
      simp only [Act.put, List.setIfInBounds_toArray, List.set_cons_zero, List.set_cons_succ, i64_w, i32_w]
      rfl
     refine pure_ (i := 12) (N := some 69) (v := ?_) (a' := ?_) #[true, true, true, true, true, true, false, true, true, true, true, false, true, false, false, false, false, false] rfl rfl (by kernel_rfl) (fun _ _ _ h => h) (Or.inl ⟨by rfl, ?_⟩) ?_ ?_
     rotate_left
     ·
      intro w' 
      go_simp
      with_reducible rfl
     rotate_left
     ·
      simp only [Act.put, List.setIfInBounds_toArray, List.set_cons_zero, List.set_cons_succ, i64_w, i32_w]
      rfl
     refine take_ (i := 13) (N := some 70) (v := ?_) (a' := ?_) #[true, true, true, true, true, true, false, true, true, true, true, false, true, true, false, false, false, false] rfl rfl (by kernel_rfl) (fun _ _ _ h => h) (Or.inl ⟨by rfl, ?_⟩) hHeld ?_ ?_
     rotate_left
     ·
      rintro w' ⟨s0, s1, s2, s3⟩
      go_simp
      with_reducible rfl
     rotate_left
     ·
      simp only [Act.put, List.setIfInBounds_toArray, List.set_cons_zero, List.set_cons_succ, i64_w, i32_w]
      rfl
     refine join_ (σ := Unit) 2 #[true, true, true, true, true, true, true, true, true, true, true, true, true, true, true, true, false, false] (fun _ => [(63, .int .i64 (p xr)), (68, .int .i64 (mx (p xr) hk')), (71, .tuple #[v0, goInt st]), (72, goInt st)]) (fun _ w' => W26 = w') ?_ ?_
     rotate_left
     ·
      intro hCont
      refine two_ (i := 6) (j := 14) (Ni := some 63) (Nj := some 71) #[true, true, true, true, true, true, true, true, true, true, true, false, true, true, false, false, false, false] #[true, true, true, true, true, true, false, true, true, true, true, false, true, true, true, false, false, false] rfl rfl rfl rfl (by kernel_rfl) (by decide) (by decide) (fun K hK => ?_) (fun K hK => ?_)
      ·
       refine look_step (by rfl) _ _ _ rfl _ _ _ rfl rfl (HMB.out.look HXR.out.1 HXR.out.2) rfl ?_
       refine hK.out _ _ hHeld (fun hHeld => ?_)
       clear hK K
       refine norm_ (a' := ?_) ?_ ?_
       rotate_left
       ·
        show Act.put _ (some 63) _ = _
        simp only [Act.put, List.setIfInBounds_toArray, List.set_cons_zero, List.set_cons_succ, i64_w, i32_w]
        rfl
       refine pure_ (i := 11) (N := some 68) (v := .int .i64 (mx (p xr) hk')) (a' := ?_) #[true, true, true, true, true, true, true, true, true, true, true, true, true, true, false, false, false, false] rfl rfl (by kernel_rfl) (fun _ _ _ h => h) (Or.inl ⟨by rfl, ?_⟩) ?_ ?_
       ·
        intro w'
        go_simp <;> rfl
       rotate_left
       ·
        simp only [Act.put, List.setIfInBounds_toArray, List.set_cons_zero, List.set_cons_succ, i64_w, i32_w]
        rfl
       refine one_ (i := 14) (N := some 71) #[true, true, true, true, true, true, true, true, true, true, true, true, true, true, true, false, false, false] rfl rfl (by kernel_rfl) (by decide) (fun K hK => ?_)
       refine entry_step (by rfl) _ _ _ rfl _ _ _ rfl rfl HEN.out.1 rfl ?_
       refine hK.out _ _ HS26.out (fun hHeld => ?_)
       clear hK K
       refine norm_ (a' := ?_) ?_ ?_
       rotate_left
       ·
        show Act.put _ (some 71) _ = _
        simp only [Act.put, List.setIfInBounds_toArray, List.set_cons_zero, List.set_cons_succ, i64_w, i32_w]
        rfl
       refine pure_ (i := 15) (N := some 72) (v := goInt st) (a' := ?_) #[true, true, true, true, true, true, true, true, true, true, true, true, true, true, true, true, false, false] rfl rfl (by kernel_rfl) (fun _ _ _ h => h) (Or.inl ⟨by rfl, ?_⟩) ?_ ?_
       ·
        intro w'
        go_simp <;> rfl
       rotate_left
       ·
        simp only [Act.put, List.setIfInBounds_toArray, List.set_cons_zero, List.set_cons_succ, i64_w, i32_w]
        rfl
       exact hCont () _ rfl
      ·
       refine entry_step (by rfl) _ _ _ rfl _ _ _ rfl rfl HEN.out.1 rfl ?_
       refine hK.out _ _ HS26.out (fun hHeld => ?_)
       clear hK K
       refine norm_ (a' := ?_) ?_ ?_
       rotate_left
       ·
        show Act.put _ (some 71) _ = _
        simp only [Act.put, List.setIfInBounds_toArray, List.set_cons_zero, List.set_cons_succ, i64_w, i32_w]
        rfl
       refine pure_ (i := 15) (N := some 72) (v := goInt st) (a' := ?_) #[true, true, true, true, true, true, false, true, true, true, true, false, true, true, true, true, false, false] rfl rfl (by kernel_rfl) (fun _ _ _ h => h) (Or.inl ⟨by rfl, ?_⟩) ?_ ?_
       ·
        intro w'
        go_simp <;> rfl
       rotate_left
       ·
        simp only [Act.put, List.setIfInBounds_toArray, List.set_cons_zero, List.set_cons_succ, i64_w, i32_w]
        rfl
       refine one_ (i := 6) (N := some 63) #[true, true, true, true, true, true, true, true, true, true, true, false, true, true, true, true, false, false] rfl rfl (by kernel_rfl) (by decide) (fun K hK => ?_)
       refine look_step (by rfl) _ _ _ rfl _ _ _ rfl rfl (HM26.out.look HXR.out.1 HXR.out.2) rfl ?_
       refine hK.out _ _ HS26.out (fun hHeld => ?_)
       clear hK K
       refine norm_ (a' := ?_) ?_ ?_
       rotate_left
       ·
        show Act.put _ (some 63) _ = _
        simp only [Act.put, List.setIfInBounds_toArray, List.set_cons_zero, List.set_cons_succ, i64_w, i32_w]
        rfl
       refine pure_ (i := 11) (N := some 68) (v := .int .i64 (mx (p xr) hk')) (a' := ?_) #[true, true, true, true, true, true, true, true, true, true, true, true, true, true, true, true, false, false] rfl rfl (by kernel_rfl) (fun _ _ _ h => h) (Or.inl ⟨by rfl, ?_⟩) ?_ ?_
       ·
        intro w'
        go_simp <;> rfl
       rotate_left
       ·
        simp only [Act.put, List.setIfInBounds_toArray, List.set_cons_zero, List.set_cons_succ, i64_w, i32_w]
        rfl
       exact hCont () _ rfl
     rintro _ _ rfl
     refine norm_ (a' := ?_) ?_ ?_
     rotate_left
     ·
      simp only [putAll, Act.put, List.setIfInBounds_toArray, List.set_cons_zero, List.set_cons_succ, i64_w, i32_w]
      rfl
     refine one_ (i := 16) (N := none) #[true, true, true, true, true, true, true, true, true, true, true, true, true, true, true, true, true, false] rfl rfl (by kernel_rfl) (by decide) (fun K hK => ?_)
     obtain ⟨W27, hrun27, hM27, hg27⟩ := HEN.out.2.1 W26 (mx (p xr) hk') (by have := HMX.out; omega) (by have := HMX.out; omega) rfl
     refine estore_step (by rfl) _ _ _ _ rfl _ _ _ rfl rfl rfl hrun27 rfl ?_
     have HK27 := Aside0.mk (HK26.out.grown hg27 (fun k e => .inr (Option.some.inj e).symm))
     have HM27 := Aside0.mk hM27
     have HG27 := Aside0.mk hg27
     refine hK.out _ _ (HSall.out _ HK27.out) (fun hHeld => ?_)
     clear hK K hrun27 hM27 hg27
     refine norm_ (a' := ?_) ?_ ?_
     rotate_left
     ·
      show Act.put _ none _ = _
      rfl
     refine last_ (i := 17) (N := none) #[true, true, true, true, true, true, true, true, true, true, true, true, true, true, true, true, true, true] rfl rfl (by kernel_rfl) (by decide) (fun K hK => ?_)
     have hv7 : Boxed W27 (W3.heap.size + 2) 3 (.int .i64 (lastP pre)) := (HK27.out.2 _ HBLw.out.lt (by omega)).trans HBLw.out
     have hc7 := hv7.cell
     have hf7 := hv7.frozen
     have HV7 := Aside0.mk hv7
     clear hv7
     refine skip_ (w1 := ?_) (by rfl) rfl ?_ ?_
     rotate_left
     ·
      go_simp
      rfl
     refine hK.out _ _ ?_
     clear hK K hc7 hf7
     refine done_ (by kernel_rfl) ?_
     have hz := HSZ.out
     have hlt0 := HLT.out
     have hbs := HBB.out.size
     have hmap : ∀ {A B : World} {n' : Nat} {p' : Int → Int} (ha : MapAt A W3.heap.size n' p') (hg : A.grownBy B (some W3.heap.size)) (hl : Lets (fun k => k < w.heap.size ∨ k = W5.heap.size ∨ k = W5.heap.size + 1 ∨ k = W0.heap.size + 2) Wa Wb A), Lets (fun k => k < w.heap.size ∨ k = W5.heap.size ∨ k = W5.heap.size + 1 ∨ k = W0.heap.size + 2) Wa Wb B := fun {A B n' p'} ha hg hl =>
      hl.grown hg (fun k hk => ⟨.inr ⟨by cases hk; omega, by cases hk; show ¬ (W3.heap.size < w.heap.size ∨ W3.heap.size = W5.heap.size ∨ W3.heap.size = W5.heap.size + 1 ∨ W3.heap.size = W0.heap.size + 2); omega⟩, fun o ho => by cases hk; obtain ⟨es, ck, hb⟩ := ha.block; rw [hb] at ho; cases ho; rfl⟩)
     show Lets _ Wa Wb _ ∧ _
     refine ⟨(hmap HM26.out HG27.out (hmap HMB.out HEN.out.2.2 HL25.out)).setCell (a := ⟨W3.heap.size + 2, 0, none⟩) _ (.inr ⟨by show W3.heap.size + 2 < _; omega, ?_⟩), ?_, ?_, ?_, ?_⟩
     ·
      show ¬ (W3.heap.size + 2 < w.heap.size ∨ W3.heap.size + 2 = W5.heap.size ∨ W3.heap.size + 2 = W5.heap.size + 1 ∨ W3.heap.size + 2 = W0.heap.size + 2)
      omega
     ·
      rw [rowsP_snoc, List.length_append]
      refine MapAt.heap ?_ (Below.heap_setCell W27 ⟨W3.heap.size + 2, 0, none⟩ _ _ (show W3.heap.size ≠ W3.heap.size + 2 by omega))
      have := HM27.out
      rw [← HPX.out, ← HHK.out] at this
      exact this
     ·
      rw [lastP_snoc]
      exact HV7.out.set _
     ·
      exact (((HW25.out.grown HEN.out.2.2 HW25.out.size (fun k hk => by cases hk; omega)).grown HG27.out (by have := HW25.out.size; have := HEN.out.2.2.size; omega) (fun k hk => by cases hk; omega))).setCell (p := ⟨W3.heap.size + 2, 0, none⟩) (by show w.heap.size ≤ W3.heap.size + 2; omega) _
     ·
      exact (((HKW25.out.grown HEN.out.2.2 (fun k hk => .inr (.inl (Option.some.inj hk).symm))).grown HG27.out (fun k hk => .inr (.inl (Option.some.inj hk).symm)))).set _ 0 (.inr (.inr rfl)) _
   case done =>
    rintro D ys W hD rfl ⟨hm, hv, hbl, hkp⟩ hK
    obtain ⟨p, hp⟩ : ∃ p, rowsP l2 (walkL a0 l1) = p := ⟨_, rfl⟩
    obtain ⟨lst, hlst⟩ : ∃ lst, lastP (walkL a0 l1) = lst := ⟨_, rfl⟩
    have hlow := rowsP_low H2B.out (walkL a0 l1)
    have hlb : -1 ≤ lst ∧ lst ≤ 4000 := by
     rw [← hlst]
     rcases lastP_mem (walkL a0 l1) with e | ⟨x, hx, e⟩
     ·
      omega
     ·
      obtain ⟨k, hk, _, _, _, e4, e5⟩ := walkL_mem HCOLS.out HL.out hx
      have := HLN.out
      omega
    rw [hp] at h hm hlow
    rw [hlst] at h hv
    obtain ⟨R, hR⟩ : ∃ R : Nat, lst + 1 = (R : Int) := ⟨(lst + 1).toNat, by omega⟩
    rw [hR, Int.toNat_natCast] at h
    have hRb : R ≤ 4001 := by omega
    have hgap := share_gap HSH.out
    have hsR : wrap64 (lst + 1) = (R : Int) := by rw [hR]; exact EvT.w64 (by omega) (by omega)
    have hsR2 : IntKind.i64.wrap (lst + 1) = (R : Int) := by rw [hR]; exact IntWalk.i64_in _ (by omega)
    obtain ⟨Wm, hWm⟩ : ∃ Wm, (W.alloc (.map #[] 0)).alloc (Obj.cells #[Value.map (some W.heap.size)] 58) = Wm := ⟨_, rfl⟩
    have hsm : Wm.heap.size = W.heap.size + 2 := by rw [← hWm]; simp
    have bWm : Below W.heap.size W Wm := by rw [← hWm]; exact ((Below.refl _ W).alloc (Nat.le_refl _) _).alloc (by simp) _
    have blm : Below w.heap.size w Wm := hbl.trans (bWm.mono hbl.size)
    have hkm : KeepP (fun k => k = W3.heap.size ∨ k = W3.heap.size + 2) W0 Wm := hkp.below bWm
    have hmm := hm.heap (bWm.block _ hm.lt)
    have hM2 : MapAt Wm W.heap.size 0 (fun _ => 0) := by rw [← hWm]; exact (MapAt.made W).heap (Below.heap_alloc _ _ _ (by simp))
    have hB2 : Boxed Wm (W.heap.size + 1) 58 (.map (some W.heap.size)) := by
     rw [← hWm]; have := Boxed.new (W.alloc (.map #[] 0)) 58 (.map (some W.heap.size)); rwa [World.size_alloc] at this
    have hKm : Wm.heap[D]? = some (.deferred (some [])) := (bWm.block _ (Array.getElem?_eq_some_iff.1 hK).1).trans hK
    have hvm := hv.of_below' bWm
    have hyl := hvm.cell
    have hyl0 := hv.cell
    have HMM := Aside0.mk hmm
    have HM2 := Aside0.mk hM2
    have HB2m := Aside0.mk hB2
    have HKM := Aside0.mk hkm
    have HBLM := Aside0.mk blm
    have HDM := Aside0.mk hKm
    have HLOW := Aside0.mk hlow
    have HGAP := Aside0.mk hgap
    have HRB2 := Aside0.mk hRb
    have HSM := Aside0.mk (And.intro hsm (And.intro hD (Array.getElem?_eq_some_iff.1 hK).1))
    have HPP := Aside0.mk hp
    have HWS := Aside0.mk hkp.1
    have HRR := Aside0.mk hR
    have HLST := Aside0.mk hlst
    have HLB := Aside0.mk hlb
    clear hiter hs5 hs3 hs0 hs2 hm hv hbl hkp hK hD hlow hlb hR hRb hgap hsm bWm blm hkm hmm hM2 hB2 hKm hvm hlst hx3 bl0 HM0 BL0 hp
    go_upto_region 14 with (fail)
    clear hyl0 hWm
    go_wp2
    go_loopg [21, 76] R (fun kq v21 v76 w' => ∃ k : Nat, v21 = .int .i64 (endP a4 p k) ∧ v76 = .int .i64 (k : Int) ∧ Aside0 (kq + k = R) ∧ Aside0 (MapAt w' W.heap.size k (fun j => if 0 ≤ j ∧ j < (k : Int) then begP a4 p j.toNat else 0)) ∧ Aside0 (KeepP (fun k => k = W.heap.size) Wm w') ∧ Aside0 (Below w.heap.size w w'))
    case atStart => exact ⟨0, rfl, rfl, ⟨rfl⟩, ⟨by
     have e : (fun j : Int => if 0 ≤ j ∧ j < ((0 : Nat) : Int) then begP a4 p j.toNat else 0) = fun _ => 0 := by funext j; rw [if_neg (by omega)]
     rw [e]; exact HM2.out⟩, ⟨KeepP.refl _ _⟩, HBLM⟩
    case round =>
     obtain ⟨k, rfl, rfl, HKK, HMK, HKPK, HBLR⟩ := hrel
     cases gk with
     | zero =>
      have hkR : k = R := by have := HKK.out; omega
      subst hkR
      have c1b : decide ((k : Int) < (k : Int)) = false := by simp
      have c1c : decide (k < k) = false := by simp
      obtain ⟨E, hE0⟩ : ∃ E, endP a4 p k = E := ⟨_, rfl⟩
      rw [hE0] at h ⊢
      have HEE := Aside0.mk hE0
      have hDr : wr.heap[D]? = some (.deferred (some [])) := (HKPK.out.2 _ (Array.getElem?_eq_some_iff.1 HDM.out).1 (by have := HSM.out; omega)).trans HDM.out
      have HDR := Aside0.mk hDr
      clear hE0 hDr
      by_cases hbig : 1000000000 < E
      ·
       rw [if_pos hbig] at h
       obtain ⟨rfl, rfl, rfl⟩ : [] = r1 ∧ 0 = r2 ∧ 3 = r3 := by simpa using h
       have c3b : decide (1000000000 < E) = true := decide_eq_true hbig
       clear h hbig
       go_wp2
       refine ⟨by simp, .inl ⟨_, _, rfl, run_takeDeferred HDR.out, ?_⟩⟩
       exact ⟨_, results_tmp3 rfl _ _ _, .slice none 0 0, rfl, Kd.S_nil _ _ _ _ _, HBLR.out.grown (grownBy_putObj' wr D _) HBLR.out.size (fun k e => by cases e; have := HSM.out; have := HWS.out; have := HSZ.out; omega)⟩
      ·
       rw [if_neg hbig, HSH.out, Option.bind_some] at h
       dsimp only at h
       rw [HST.out] at h
       obtain ⟨rfl, rfl, rfl⟩ : (walkL a0 l1).map (boxAt a4 p ss wd l2) = r1 ∧ E = r2 ∧ 0 = r3 := by simpa using h
       have c3b : decide (1000000000 < E) = false := decide_eq_false hbig
       obtain ⟨cn, hcn⟩ : ∃ cn : Nat, a0 = (cn : Int) := ⟨a0.toNat, by have := HCOLS.out; omega⟩
       have hgood := fun w => cols_good cn (by have := HCOLS.out; omega) a3 a4 ws ss 0 (by have := HSH.out; rwa [hcn, Int.toNat_natCast] at this) HST.out w
       rw [← hcn] at hgood
       clear h hbig hcn
       go_upto_region 27 with (go_at_call 23; refine (hgood _).mono ?_; rintro e W7 ⟨AW, cw, AS, cs, rfl, hAW, hAS, hB7⟩; have HAW := Aside0.mk hAW; have HAS := Aside0.mk hAS; have HB7 := Aside0.mk hB7; clear hAW hAS hB7)
       obtain ⟨W8, hW8⟩ : ∃ W8, (W7.alloc (Obj.cells #[Value.slice AW ws.length cw, Value.slice AS ss.length cs] 50)).alloc (Obj.cells #[Value.slice none 0 0] 32) = W8 := ⟨_, rfl⟩
       rw [hW8]
       have hs8 : W8.heap.size = W7.heap.size + 2 := by rw [← hW8]; simp
       have b78 : Below W7.heap.size W7 W8 := by rw [← hW8]; exact ((Below.refl _ W7).alloc (Nat.le_refl _) _).alloc (by simp) _
       have BO8 : Boxed W8 (W7.heap.size + 1) 32 (.slice none 0 0) := by
        rw [← hW8]; have := Boxed.new (W7.alloc (Obj.cells #[Value.slice AW ws.length cw, Value.slice AS ss.length cs] 50)) 32 (.slice none 0 0); rwa [World.size_alloc] at this
       have X8 : W8.heap[W7.heap.size]? = some (Obj.cells #[Value.slice AW ws.length cw, Value.slice AS ss.length cs] 50) := by rw [← hW8]; exact (Below.heap_alloc _ _ _ (by simp)).trans (heap_alloc_new W7 _)
       have HF8 := Aside0.mk (And.intro hs8 (And.intro b78 (And.intro BO8 X8)))
       clear hgood hs8 b78 BO8 X8 hW8 c3b c1b c1c
       go_wp2_with (go_at_call 22; refine (walk_calls _ _ _ _ _).mono ?_; rintro e w' ⟨rfl, rfl⟩)
       obtain ⟨hs8, b78, BO8, X8⟩ := HF8.out
       obtain ⟨W9, hW9⟩ : ∃ W9, (W8.alloc (Obj.cells #[Value.int IntKind.i64 a0] 3)).alloc (Obj.cells #[Value.slice A1 l1.length c1] 22) = W9 := ⟨_, rfl⟩
       have hs9 : W9.heap.size = W7.heap.size + 4 := by rw [← hW9]; simp; omega
       have b89 : Below W8.heap.size W8 W9 := by rw [← hW9]; exact ((Below.refl _ W8).alloc (Nat.le_refl _) _).alloc (by simp) _
       have b79 : Below W7.heap.size W7 W9 := b78.trans (b89.mono b78.size)
       have br9 : Below wr.heap.size wr W9 := HB7.out.trans (b79.mono HB7.out.size)
       have hsr7 := HB7.out.size
       have bl9 : Below w.heap.size w W9 := HBLR.out.trans (br9.mono HBLR.out.size)
       obtain ⟨hsm, hDlo, hDhi⟩ := HSM.out
       obtain ⟨hs5, hs3, hs0, hs2⟩ := HSZ.out
       have hs0W := HWS.out
       have hkr := HKPK.out.1
       -- all that was there at W0
       have k09 : KeepP (fun k => k = W3.heap.size ∨ k = W3.heap.size + 2) W0 W9 := by
        refine ⟨by omega, fun q hq hne => ?_⟩
        have h1 := HKM.out.2 q hq hne
        have h2 := HKPK.out.2 q (by omega) (by omega)
        exact (br9.block q (by omega)).trans (h2.trans h1)
       have bn : Boxed W9 W8.heap.size 3 (.int .i64 a0) := by rw [← hW9]; exact (Boxed.new W8 3 _).alloc _
       have bc : Boxed W9 (W8.heap.size + 1) 22 (.slice A1 l1.length c1) := by
        rw [← hW9]; have := Boxed.new (W8.alloc (Obj.cells #[Value.int IntKind.i64 a0] 3)) 22 (Value.slice A1 l1.length c1); rwa [World.size_alloc] at this
       obtain ⟨hbV, hbA, hbB⟩ := HBR.out
       have hs12 := HS1.out
       have hb12 := HK3.out.1.size
       have BH9 := Aside0.mk (k09.box BH0.out (by omega))
       have BV9 := Aside0.mk (k09.box BV0.out (by omega))
       have CV9 := Aside0.mk (k09.row HAV0.out (fun ad e hn => by have := hbV ad e hn; omega))
       have CA9 := k09.row HAA0.out (fun ad e hn => by have := hbA ad e hn; omega)
       have CB9 := Aside0.mk (k09.row HAB0.out (fun ad e hn => by have := hbB ad e hn; omega))
       have B29 : Aside0 (Boxed W9 (W.heap.size + 1) 58 (.map (some W.heap.size))) := ⟨by
        have h1 : Boxed wr (W.heap.size + 1) 58 (.map (some W.heap.size)) := (HKPK.out.2 _ HB2m.out.lt (by omega)).trans HB2m.out
        exact h1.of_below' br9⟩
       have M29 := Aside0.mk (HMK.out.heap (br9.block _ HMK.out.lt))
       have X9 := Aside0.mk ((b89.block _ (Array.getElem?_eq_some_iff.1 X8).1).trans X8)
       have BO9 := BO8.of_below' b89
       have CS9 := Aside0.mk (Kd.C_below HAS.out.2 b79)
       have hbS := row_block HAS.out.2
       have D9 := Aside0.mk ((br9.block _ (Array.getElem?_eq_some_iff.1 HDR.out).1).trans HDR.out)
       rw [hW9]
       refine (wpIn_wide (n := 3)).1 ?_
       refine wpIn_act (fun A9 hA9 => ?_)
       have HA9 := Aside0.mk hA9
       have hiter := walk_iter a0 l1 A1 c1 W8.heap.size (fun k => k < w.heap.size ∨ k = W8.heap.size ∨ k = W8.heap.size + 1 ∨ k = W9.heap.size + 2) W9 HCOLS.out HL.out HLN.out (.inr (.inl rfl)) (.inr (.inr (.inl rfl))) (.inr (.inr (.inr rfl))) bn bc CA9
        (fun ad h1 h2 => by have : ad.block < w.heap.size := row_block HR1.out ad h1 h2; exact ⟨.inl this, by omega⟩)
       have HS9 := Aside0.mk (And.intro hs8 (And.intro hs9 (And.intro hsr7 (And.intro hkr (And.intro hs0W (And.intro hs12 hb12))))))
       have HBS := Aside0.mk (And.intro hbV (And.intro hbB hbS))
       have HBL9 := Aside0.mk bl9
       clear hA9 hW9 X8 BO8 bn bc b78 b89 b79 br9 k09 CA9 hbV hbA hbB hbS
       refine rangeFuncN (O := fun k => k = W9.heap.size + 2) (lb := #[.pointer (some ⟨W8.heap.size + 1, 0, none⟩), .pointer (some ⟨W8.heap.size, 0, none⟩)]) (gf := 30) rfl (enters_of Try.func30 (by kernel_rfl) rfl) hiter (fun _ => rfl) (fun k hk => by omega) (fun k hk => by omega) (fun _ _ _ _ _ _ h _ _ => ⟨h.1, by rw [World.putObj_size]; exact h.2⟩)
        (fun pre W' => (∃ v, Boxed W' (W7.heap.size + 1) 32 v ∧ W'.ownsRow (W9.heap.size + 3) 43 7 v pre.length ((pre.map (boxAt a4 p ss wd l2)).flatMap cells43) ∧ True) ∧ Below w.heap.size w W' ∧ KeepP (fun k => k = W7.heap.size + 1) W9 W')
        (fun _ _ _ => False)
        (OwnFrom.and (Own.from (holdsRow_own _ _ _ _ _ _ _ (fun _ _ => True)) _) (OwnFrom.and (ownFrom_below (Nat.le_refl _) bl9.size) keepP_from))
        (fun _ _ _ _ _ hs _ _ => hs) ?hIO2 (fun _ _ _ _ h _ => h) ⟨⟨_, BO9, own_nil _ _ _ _, trivial⟩, bl9, KeepP.refl _ _⟩
        (fun x a' W' => ∃ B9 : Nat, W'.heap[B9]? = some (.cells #[.int .i64 x.2.f0, .int .i64 x.2.f1] 39 (0, 0)) ∧
         a' = (((({ tmps := A9.tmps, defers := [] } : Act).put (some 105) (.int .i64 x.1)).put (some 106) (.agg #[.int .i64 x.2.f0, .int .i64 x.2.f1])).put (some 26) (.int .i64 x.1)).put (some 27) (.pointer (some ⟨B9, 0, none⟩)))
        ?hAx2 ?hVb2 ?assign2 ?body2 ?done2 ?stop2
       case hIO2 =>
        rintro pre A B ⟨⟨v, hv, hrow, _⟩, hbl, hkp⟩ hb
        have hlt := hbl.size
        refine ⟨⟨v, box_of hv hb (by omega), hrow.kept (grown_of hb (b := W9.heap.size + 2) (fun k hk => hk)) (.inr (fun e => by have := own_base hrow _ e; omega)), trivial⟩, below_of hbl hb hlt (fun k hk => by have := bl9.size; omega), hkp.ofO hb (fun k hk => .inl (by omega))⟩
       case hAx2 =>
        rintro x a' W' l o o' ⟨B9, h9, rfl⟩ hl ho
        exact ⟨B9, (World.putObj_heap_other (by rintro rfl; rw [h9] at hl; cases hl; cases ho)).trans h9, rfl⟩
       case hVb2 => exact fun _ _ _ _ h hb => ⟨h.1, Nat.lt_of_lt_of_le h.2 hb.size⟩
       case assign2 =>
        intro l x W' K' hK'
        simp only [encW]
        clear hs8 hs9 hsr7 hkr hs0W hs12 hb12 hiter bl9 BO9 hsm hDlo hDhi hs5 hs3 hs0 hs2
        gi_wp2
        refine hK' _ _ ((Below.refl _ W').alloc (Nat.le_refl _) _) ⟨W'.heap.size, heap_alloc_new W' _, ?_⟩
        rw [HA9.out]; rfl
       case body2 =>
        rintro l pre ⟨xi, ⟨xr, xc⟩⟩ a' Wa Wb hlt ⟨⟨v, hv, hrow, _⟩, hbl, hkp⟩ hab ⟨hpf, hsz⟩ ⟨B9, h9, rfl⟩
        dsimp only at h9
        have hpl : pre.length ≤ 4000 := by have := hpf.length_le; rw [walkL_length] at this; simp at this; have := HLN.out; omega
        have hmem : (xi, (⟨xr, xc⟩ : S39)) ∈ walkL a0 l1 := by obtain ⟨t, ht⟩ := hpf; rw [← ht]; simp
        obtain ⟨q, hq, e1, e2, e3, e4, e5⟩ := walkL_mem HCOLS.out HL.out hmem
        have hlast := walkL_last hmem
        rw [HLST.out] at hlast
        dsimp only at e1 e2 e3 e4 e5 hlast
        subst e1
        have hq2 : q < l2.length := by have := H2L.out; omega
        have hwdl : wd.length = l1.length := by rw [HWD.out]; unfold widthsL; rw [List.length_map, walkL_length]
        have hmb := mn_bd (HL.out _ (List.getElem_mem hq)) HCOLS.out
        have hxcs : xc < (ss.length : Int) := by
         have h1 := starts_len HST.out
         have h2 := share_len HSH.out
         have := HCOLS.out
         omega
        obtain ⟨hh, hhh⟩ : ∃ z, rd l2 (q : Int) = z := ⟨_, rfl⟩
        obtain ⟨wq, hwq⟩ : ∃ z, rd wd (q : Int) = z := ⟨_, rfl⟩
        obtain ⟨sx, hsx⟩ : ∃ z, rd ss xc = z := ⟨_, rfl⟩
        obtain ⟨bg, hbg⟩ : ∃ z, begP a4 p xr.toNat = z := ⟨_, rfl⟩
        have hkb := hkp.ofO hab (fun k hk => .inl (by omega))
        have hwS := bl9.size
        have hvb := box_of hv hab (show ¬ W7.heap.size + 1 = W9.heap.size + 2 by omega)
        have hrb := hrow.kept (grown_of hab (b := W9.heap.size + 2) (fun k hk => hk)) (.inr (fun e => by have := own_base hrow _ e; omega))
        have yM := (hkb.box B29.out (by omega)).cell
        have hMb := M29.out.heap (hkb.2 _ M29.out.lt (by omega))
        have hlk : ∀ w', MapAt w' W.heap.size k (fun j => if 0 ≤ j ∧ j < (k : Int) then begP a4 p j.toNat else 0) → (Instr.lookup 58 (.map (some W.heap.size)) (.int .i64 xr) false).run Try.prog w' = .ok (.int .i64 bg) w' := fun w' hM => by
         have h1 := hM.look (j := xr) (by omega) (by have := HLN.out; omega)
         have hk1 := HRR.out
         rw [if_pos (by omega), hbg] at h1
         exact h1
        have yV := (hkb.box BV9.out (by omega)).cell
        have yH := (hkb.box BH9.out (by omega)).cell
        obtain ⟨y0, y1, _, _⟩ := two_cells ((hkb.2 W7.heap.size (by omega) (by omega)).trans X9.out)
        obtain ⟨hbV, hbB, hbS⟩ := HBS.out
        have CV := hkb.row CV9.out (fun ad e hn => by have := hbV ad e hn; omega)
        have CB := hkb.row CB9.out (fun ad e hn => by have := hbB ad e hn; omega)
        have CS := hkb.row CS9.out (fun ad e hn => by have := hbS ad e hn; omega)
        obtain ⟨adv, ev, hxv⟩ := Kd.at_int CV (q : Int) (by omega) (by omega)
        cases ev
        obtain ⟨adb, eb, hxb⟩ := Kd.at_int CB (q : Int) (by omega) (by omega)
        cases eb
        obtain ⟨ads, es, hxs⟩ := Kd.at_int CS xc e2 hxcs
        cases es
        rw [Int.toNat_natCast, hwq] at hxv
        rw [Int.toNat_natCast, hhh] at hxb
        rw [hsx] at hxs
        have f0 : Wb.cell? ⟨B9, 0, none⟩ = some (.int .i64 xr) := (blk_cell h9 0).trans rfl
        have f1 : Wb.cell? ⟨B9, 1, none⟩ = some (.int .i64 xc) := (blk_cell h9 1).trans rfl
        have yO := hvb.cell
        have p1 : (0 ≤ (q : Int)) = True := eq_true (by omega)
        have q1 : ((q : Int) < (l2.length : Int)) = True := eq_true (by omega)
        have q2 : ((q : Int) < (wd.length : Int)) = True := eq_true (by omega)
        have p3 : (0 ≤ xc) = True := eq_true e2
        have q3 : (xc < (ss.length : Int)) = True := eq_true hxcs
        have HSall : Aside0 (∀ w', Below Wb.heap.size Wb w' → w'.cell? ⟨W.heap.size + 1, 0, none⟩ = some (.map (some W.heap.size)) ∧ w'.cell? ⟨B9, 0, none⟩ = some (.int .i64 xr) ∧ w'.cell? ⟨W2.heap.size, 0, none⟩ = some (.slice (some adv) wd.length cv) ∧ w'.cell? (adv.add q) = some (.int .i64 wq) ∧ w'.cell? ⟨w.heap.size, 0, none⟩ = some (.slice (some adb) l2.length c2) ∧ w'.cell? (adb.add q) = some (.int .i64 hh) ∧ Aside0 (MapAt w' W.heap.size k (fun j => if 0 ≤ j ∧ j < (k : Int) then begP a4 p j.toNat else 0))) := ⟨fun w' hb => by
         have kc : ∀ {q : Addr} {u : Value}, Wb.cell? q = some u → w'.cell? q = some u := fun {q u} hq => (World.cell?_of_block (hb.block _ (World.block_lt_of_cell? Wb _ hq))).trans hq
         exact ⟨kc yM, kc f0, kc yV, kc hxv, kc yH, kc hxb, ⟨hMb.heap (hb.block _ hMb.lt)⟩⟩⟩
        have HK1 : Aside0 (∀ w', Below Wb.heap.size Wb w' → w'.cell? ⟨W7.heap.size, 1, none⟩ = some (.slice (some ads) ss.length cs) ∧ w'.cell? ⟨B9, 1, none⟩ = some (.int .i64 xc) ∧ w'.cell? (ads.add xc.toNat) = some (.int .i64 sx) ∧ Boxed w' (W7.heap.size + 1) 32 v) := ⟨fun w' hb => by
         have kc : ∀ {q : Addr} {u : Value}, Wb.cell? q = some u → w'.cell? q = some u := fun {q u} hq => (World.cell?_of_block (hb.block _ (World.block_lt_of_cell? Wb _ hq))).trans hq
         exact ⟨kc y1, kc f1, kc hxs, hvb.of_below' hb⟩⟩
        have HBX : Aside0 (boxAt a4 p ss wd l2 ((q : Int), ⟨xr, xc⟩) = ⟨0, if xr = 0 ∧ xc = 0 then 0 else sx, bg, wq, hh, false, []⟩) := ⟨by unfold boxAt; dsimp only; rw [hsx, hbg, hwq, hhh]⟩
        have HLK := Aside0.mk hlk
        have HLT := Aside0.mk hv.lt
        have HRA := Aside0.mk hrow
        have HRB := Aside0.mk hrb
        have HBB := Aside0.mk (below_of hbl hab hbl.size (fun k hk => by omega))
        have HKB := Aside0.mk hkb
        have HAB := Aside0.mk hab.size
        have HWB := Aside0.mk hsz
        have HPL := Aside0.mk hpl
        have HHL := Aside0.mk hlt
        clear hv hrow hrb hbl hkp hab hvb hkb h9 hiter hpf hsz hmem hq e2 e3 e4 e5 hlast hq2 hwdl hmb hxcs hhh hwq hsx hbg hwS yM hMb hlk yV yH y0 y1 hbV hbB hbS CV CB CS hxv hxb hxs f1 yO hpl hlt hs8 hs9 hsr7 hkr hs0W hs12 hb12 bl9 BO9 hsm hDlo hDhi hs5 hs3 hs0 hs2
        rw [HA9.out]
        simp only [Act.put, List.setIfInBounds_toArray, List.set_cons_zero, List.set_cons_succ]
        have f1 := (HK1.out _ (Below.refl _ Wb)).2.1
        obtain ⟨sm, heq⟩ : ∃ sm, (xr == 0 && (xc == 0)) = sm := ⟨_, rfl⟩
        gi_wp2
        clear f0 f1
        refine startIn_ (n := 15) (S := fun w' => w'.cell? ⟨W.heap.size + 1, 0, none⟩ = some (.map (some W.heap.size)) ∧ w'.cell? ⟨B9, 0, none⟩ = some (.int .i64 xr) ∧ w'.cell? ⟨W2.heap.size, 0, none⟩ = some (.slice (some adv) wd.length cv) ∧ w'.cell? (adv.add q) = some (.int .i64 wq) ∧ w'.cell? ⟨w.heap.size, 0, none⟩ = some (.slice (some adb) l2.length c2) ∧ w'.cell? (adb.add q) = some (.int .i64 hh) ∧ Aside0 (MapAt w' W.heap.size k (fun j => if 0 ≤ j ∧ j < (k : Int) then begP a4 p j.toNat else 0))) (ds := [14]) #[false, false, false, false, false, false, false, false, false, false, false, false, false, false, false] (by kernel_rfl) (fun h_ => by obtain ⟨_, _, h_⟩ := h_; exact h_) (by kernel_rfl) rfl rfl (HSall.out _ (below_drew1 (Below.refl _ Wb))) (fun hHeld => ?_)
        have HB25 : Aside0 (Below Wb.heap.size Wb Wb.drew) := ⟨below_drew1 (Below.refl _ Wb)⟩
        generalize World.drew _ = w25 at HB25 hHeld ⊢
        refine take_ (i := 0) (N := some 110) (v := ?_) (a' := ?_) #[true, false, false, false, false, false, false, false, false, false, false, false, false, false, false] rfl rfl (by kernel_rfl) (fun _ _ _ h => h) (Or.inl ⟨by rfl, ?_⟩) hHeld ?_ ?_
        rotate_left
        ·
         rintro w' ⟨s0, s1, s2, s3, s4, s5, s6⟩
         go_simp
         with_reducible rfl
        rotate_left
        ·
         simp only [Act.put, List.setIfInBounds_toArray, List.set_cons_zero, List.set_cons_succ, i64_w, i32_w]
         rfl
        refine pure_ (i := 1) (N := some 111) (v := ?_) (a' := ?_) #[true, true, false, false, false, false, false, false, false, false, false, false, false, false, false] rfl rfl (by kernel_rfl) (fun _ _ _ h => h) (Or.inl ⟨by rfl, ?_⟩) ?_ ?_
        rotate_left
        ·
         intro w' 
         go_simp
         with_reducible rfl
        rotate_left
        ·
         simp only [Act.put, List.setIfInBounds_toArray, List.set_cons_zero, List.set_cons_succ, i64_w, i32_w]
         rfl
        refine take_ (i := 2) (N := some 112) (v := ?_) (a' := ?_) #[true, true, true, false, false, false, false, false, false, false, false, false, false, false, false] rfl rfl (by kernel_rfl) (fun _ _ _ h => h) (Or.inl ⟨by rfl, ?_⟩) hHeld ?_ ?_
        rotate_left
        ·
         rintro w' ⟨s0, s1, s2, s3, s4, s5, s6⟩
         go_simp
         with_reducible rfl
        rotate_left
        ·
         simp only [Act.put, List.setIfInBounds_toArray, List.set_cons_zero, List.set_cons_succ, i64_w, i32_w]
         rfl
        refine take_ (i := 3) (N := some 113) (v := ?_) (a' := ?_) #[true, true, true, true, false, false, false, false, false, false, false, false, false, false, false] rfl rfl (by kernel_rfl) (fun _ _ _ h => h) (Or.inl ⟨by rfl, ?_⟩) hHeld ?_ ?_
        rotate_left
        ·
         rintro w' ⟨s0, s1, s2, s3, s4, s5, s6⟩
         have hl := HLK.out w' s6.out
         go_simp
         with_reducible rfl
        rotate_left
        ·
         simp only [Act.put, List.setIfInBounds_toArray, List.set_cons_zero, List.set_cons_succ, i64_w, i32_w]
         rfl
        refine take_ (i := 4) (N := some 114) (v := ?_) (a' := ?_) #[true, true, true, true, true, false, false, false, false, false, false, false, false, false, false] rfl rfl (by kernel_rfl) (fun _ _ _ h => h) (Or.inl ⟨by rfl, ?_⟩) hHeld ?_ ?_
        rotate_left
        ·
         rintro w' ⟨s0, s1, s2, s3, s4, s5, s6⟩
         go_simp
         with_reducible rfl
        rotate_left
        ·
         simp only [Act.put, List.setIfInBounds_toArray, List.set_cons_zero, List.set_cons_succ, i64_w, i32_w]
         rfl
        refine pure_ (i := 5) (N := some 115) (v := ?_) (a' := ?_) #[true, true, true, true, true, true, false, false, false, false, false, false, false, false, false] rfl rfl (by kernel_rfl) (fun _ _ _ h => h) (Or.inl ⟨by rfl, ?_⟩) ?_ ?_
        rotate_left
        ·
         intro w' 
         go_simp
         with_reducible rfl
        rotate_left
        ·
         simp only [Act.put, List.setIfInBounds_toArray, List.set_cons_zero, List.set_cons_succ, i64_w, i32_w]
         rfl
        refine pure_ (i := 6) (N := some 116) (v := ?_) (a' := ?_) #[true, true, true, true, true, true, true, false, false, false, false, false, false, false, false] rfl rfl (by kernel_rfl) (fun _ _ _ h => h) (Or.inl ⟨by rfl, ?_⟩) ?_ ?_
        rotate_left
        ·
         intro w' 
         go_simp
         with_reducible rfl
        rotate_left
        ·
         simp only [Act.put, List.setIfInBounds_toArray, List.set_cons_zero, List.set_cons_succ, i64_w, i32_w]
         rfl
        refine take_ (i := 7) (N := some 117) (v := ?_) (a' := ?_) #[true, true, true, true, true, true, true, true, false, false, false, false, false, false, false] rfl rfl (by kernel_rfl) (fun _ _ _ h => h) (Or.inl ⟨by rfl, ?_⟩) hHeld ?_ ?_
        rotate_left
        ·
         rintro w' ⟨s0, s1, s2, s3, s4, s5, s6⟩
         go_simp
         with_reducible rfl
        rotate_left
        ·
         simp only [Act.put, List.setIfInBounds_toArray, List.set_cons_zero, List.set_cons_succ, i64_w, i32_w]
         rfl
        refine take_ (i := 8) (N := some 118) (v := ?_) (a' := ?_) #[true, true, true, true, true, true, true, true, true, false, false, false, false, false, false] rfl rfl (by kernel_rfl) (fun _ _ _ h => h) (Or.inl ⟨by rfl, ?_⟩) hHeld ?_ ?_
        rotate_left
        ·
         rintro w' ⟨s0, s1, s2, s3, s4, s5, s6⟩
         go_simp
         with_reducible rfl
        rotate_left
        ·
         simp only [Act.put, List.setIfInBounds_toArray, List.set_cons_zero, List.set_cons_succ, i64_w, i32_w]
         rfl
        refine pure_ (i := 9) (N := some 119) (v := ?_) (a' := ?_) #[true, true, true, true, true, true, true, true, true, true, false, false, false, false, false] rfl rfl (by kernel_rfl) (fun _ _ _ h => h) (Or.inl ⟨by rfl, ?_⟩) ?_ ?_
        rotate_left
        ·
         intro w' 
         go_simp
         with_reducible rfl
        rotate_left
        ·
         simp only [Act.put, List.setIfInBounds_toArray, List.set_cons_zero, List.set_cons_succ, i64_w, i32_w]
         rfl
        refine pure_ (i := 10) (N := some 120) (v := ?_) (a' := ?_) #[true, true, true, true, true, true, true, true, true, true, true, false, false, false, false] rfl rfl (by kernel_rfl) (fun _ _ _ h => h) (Or.inl ⟨by rfl, ?_⟩) ?_ ?_
        rotate_left
        ·
         intro w' 
         go_simp
         with_reducible rfl
        rotate_left
        ·
         simp only [Act.put, List.setIfInBounds_toArray, List.set_cons_zero, List.set_cons_succ, i64_w, i32_w]
         rfl
        refine take_ (i := 11) (N := some 121) (v := ?_) (a' := ?_) #[true, true, true, true, true, true, true, true, true, true, true, true, false, false, false] rfl rfl (by kernel_rfl) (fun _ _ _ h => h) (Or.inl ⟨by rfl, ?_⟩) hHeld ?_ ?_
        rotate_left
        ·
         rintro w' ⟨s0, s1, s2, s3, s4, s5, s6⟩
         go_simp
         with_reducible rfl
        rotate_left
        ·
         simp only [Act.put, List.setIfInBounds_toArray, List.set_cons_zero, List.set_cons_succ, i64_w, i32_w]
         rfl
        refine pure_ (i := 12) (N := some 122) (v := ?_) (a' := ?_) #[true, true, true, true, true, true, true, true, true, true, true, true, true, false, false] rfl rfl (by kernel_rfl) (fun _ _ _ h => h) (Or.inl ⟨by rfl, ?_⟩) ?_ ?_
        rotate_left
        ·
         intro w' 
         go_simp
         with_reducible rfl
        rotate_left
        ·
         simp only [Act.put, List.setIfInBounds_toArray, List.set_cons_zero, List.set_cons_succ, i64_w, i32_w]
         rfl
        refine one_ (i := 13) (N := some 29) #[true, true, true, true, true, true, true, true, true, true, true, true, true, true, false] rfl rfl (by kernel_rfl) (by decide) (fun K hK => ?_)
        refine value_ (w1 := ?_) (v := ?_) (by rfl) rfl ?_ ?_
        rotate_left 2
        ·
         go_simp
         constructor
         ·
          rfl
         ·
          rfl
        obtain ⟨s, hs⟩ : ∃ s, w25.heap.size = s := ⟨_, rfl⟩
        obtain ⟨W26, hW26⟩ : ∃ W26, w25.alloc (Obj.cells #[.int .i64 0, .int .i64 0, .int .i64 0, .int .i64 0, .int .i64 0, .bool false, .slice none 0 0] 43) = W26 := ⟨_, rfl⟩
        rw [hs, hW26]
        have B26 : W26.heap[s]? = some (.cells #[.int .i64 0, .int .i64 0, .int .i64 0, .int .i64 0, .int .i64 0, .bool false, .slice none 0 0] 43 (0, 0)) := by rw [← hW26, ← hs]; exact heap_alloc_new w25 _
        have HB26 : Aside0 (Below Wb.heap.size Wb W26) := ⟨by rw [← hW26]; exact HB25.out.alloc HB25.out.size _⟩
        have HBS6 : Aside0 (Wb.heap.size ≤ s) := ⟨by rw [← hs]; exact HB25.out.size⟩
        have HB26o := Aside0.mk B26
        clear hs hW26
        refine hK.out _ _ (HSall.out _ HB26.out) (fun hHeld => ?_)
        clear hK K
        refine norm_ (a' := ?_) ?_ ?_
        rotate_left
        ·
         show Act.put _ (some 29) _ = _
         simp only [Act.put, List.setIfInBounds_toArray, List.set_cons_zero, List.set_cons_succ, i64_w, i32_w]
         rfl
        refine last_ (i := 14) (N := none) #[true, true, true, true, true, true, true, true, true, true, true, true, true, true, true] rfl rfl (by kernel_rfl) (by decide) (fun K hK => ?_)
        have z0 : W26.cell? ⟨s, 0, none⟩ = some (.int .i64 0) := (blk_cell HB26o.out 0).trans rfl
        have z1 : W26.cell? ⟨s, 1, none⟩ = some (.int .i64 0) := (blk_cell HB26o.out 1).trans rfl
        have z2 : W26.cell? ⟨s, 2, none⟩ = some (.int .i64 0) := (blk_cell HB26o.out 2).trans rfl
        have z3 : W26.cell? ⟨s, 3, none⟩ = some (.int .i64 0) := (blk_cell HB26o.out 3).trans rfl
        have z4 : W26.cell? ⟨s, 4, none⟩ = some (.int .i64 0) := (blk_cell HB26o.out 4).trans rfl
        have z5 : W26.cell? ⟨s, 5, none⟩ = some (.bool false) := (blk_cell HB26o.out 5).trans rfl
        have z6 : W26.cell? ⟨s, 6, none⟩ = some (.slice none 0 0) := (blk_cell HB26o.out 6).trans rfl
        have y0 := blk_frozen HB26o.out 0
        have y1 := blk_frozen HB26o.out 1
        have y2 := blk_frozen HB26o.out 2
        have y3 := blk_frozen HB26o.out 3
        have y4 := blk_frozen HB26o.out 4
        have y5 := blk_frozen HB26o.out 5
        have y6 := blk_frozen HB26o.out 6
        refine skip_ (w1 := ?_) (by rfl) rfl ?_ ?_
        rotate_left
        ·
         go_simp
         rfl
        refine hK.out _ _ ?_
        clear hK K
        refine done_ (by kernel_rfl) ?_
        obtain ⟨W27, hW27⟩ : ∃ W27, (((((((W26.setCell ⟨s, 0, none⟩ (.int .i64 0)).setCell ⟨s, 1, none⟩ (.int .i64 0)).setCell ⟨s, 2, none⟩ (.int .i64 bg)).setCell ⟨s, 3, none⟩ (.int .i64 wq)).setCell ⟨s, 4, none⟩ (.int .i64 hh)).setCell ⟨s, 5, none⟩ (.bool false)).setCell ⟨s, 6, none⟩ (.slice none 0 0)) = W27 := ⟨_, rfl⟩
        rw [hW27]
        have B27 : W27.heap[s]? = some (.cells #[.int .i64 0, .int .i64 0, .int .i64 bg, .int .i64 wq, .int .i64 hh, .bool false, .slice none 0 0] 43 (0, 0)) := by rw [← hW27]; exact seven HB26o.out _ _ _ _ _ _ _
        have HB27 : Aside0 (Below Wb.heap.size Wb W27) := ⟨by rw [← hW27]; have h0 := HBS6.out; exact ((((((HB26.out.setCell h0 _).setCell h0 _).setCell h0 _).setCell h0 _).setCell h0 _).setCell h0 _).setCell h0 _⟩
        clear hW27 z0 z1 z2 z3 z4 z5 z6 y0 y1 y2 y3 y4 y5 y6 hHeld
        have HBX7 := Aside0.mk B27
        obtain ⟨i0, hi0, hz0, hz1, hz2⟩ := info_parts info43
        cases sm with
        | true =>
         have hxx : xr = 0 ∧ xc = 0 := by simpa using heq
         rw [if_pos hxx] at HBX
         have HB28 := HB27
         have HR28 : Aside0 (W27.ownsRow (W9.heap.size + 3) 43 7 v pre.length ((pre.map (boxAt a4 p ss wd l2)).flatMap cells43)) := ⟨HRB.out.kept (row := none) ⟨HB28.out.os, HB28.out.tape, HB28.out.output, HB28.out.size, fun i hi _ => HB28.out.block i hi⟩ (by by_cases e : v.ownBlock = none; exact .inl e; exact .inr e)⟩
         obtain ⟨k1, k2, k3, k4⟩ := HK1.out _ HB28.out
         have k5 := k4.cell
         have u0 : W27.cell? ⟨s, 0, none⟩ = some (.int .i64 0) := (blk_cell HBX7.out 0).trans rfl
         have u1 : W27.cell? ⟨s, 1, none⟩ = some (.int .i64 0) := (blk_cell HBX7.out 1).trans rfl
         have u2 : W27.cell? ⟨s, 2, none⟩ = some (.int .i64 bg) := (blk_cell HBX7.out 2).trans rfl
         have u3 : W27.cell? ⟨s, 3, none⟩ = some (.int .i64 wq) := (blk_cell HBX7.out 3).trans rfl
         have u4 : W27.cell? ⟨s, 4, none⟩ = some (.int .i64 hh) := (blk_cell HBX7.out 4).trans rfl
         have u5 : W27.cell? ⟨s, 5, none⟩ = some (.bool false) := (blk_cell HBX7.out 5).trans rfl
         have u6 : W27.cell? ⟨s, 6, none⟩ = some (.slice none 0 0) := (blk_cell HBX7.out 6).trans rfl
         clear B27 hxx heq k4
         gi_wp2_with (gi_at_builtin; refine wpListIn_append_own _ rfl _ _ 32 rfl (W9.heap.size + 3) 43 i0 _ 7 72 Try.underlying32 hi0 hz0 hz1 hz2 rfl (by decide) _ _ _ rfl (HR28.out.alloc _) ⟨W27.heap.size, 0, none⟩ 1 1 (cells43 ⟨0, 0, bg, wq, hh, false, []⟩) rfl rfl ?c1 ?c2 ?c3 ?c4 ?c5 ?_)
         case c1 => simpa [cells43] using World.news_of_block (heap_alloc_new W27 (.cells (cells43 ⟨0, 0, bg, wq, hh, false, []⟩).toArray 43))
         case c2 => simp [cells43, Value.oneCell']
         case c3 => have hpl9 := HPL.out; simp [maxLen]; omega
         case c4 => have hpl9 := HPL.out; omega
         case c5 => have := HWB.out; have := HB28.out.size; simp; omega
         intro v' w1 hown hgrow _
         obtain ⟨g', cap', rfl⟩ := ownsRow_succ hown
         have hv0 := (HK1.out _ HB28.out).2.2.2
         have hnr := hv0.not_row (by decide) HR28.out
         have hv1 : Boxed w1 (W7.heap.size + 1) 32 v := (hv0.alloc _).kept hgrow hnr
         have hc1 := hv1.cell
         have hf1 := hv1.frozen
         have HV1 := Aside0.mk hv1
         have HG := Aside0.mk hgrow
         have HO := Aside0.mk hown
         clear hv1 hgrow hown hnr hv0
         gi_wp2
         have hsz1 := HAB.out
         have hlt0 := HLT.out
         have hB8 := HB28.out.size
         obtain ⟨hs8, hs9, hsr7, hkr, hs0W, hs12, hb12⟩ := HS9.out
         obtain ⟨hsm, hDlo, hDhi⟩ := HSM.out
         obtain ⟨hs5, hs3, hs0, hs2⟩ := HSZ.out
         have hbw := HBL9.out.size
         have hrow : ∀ k, v.ownBlock = some k → W9.heap.size + 3 ≤ k ∧ k < Wa.heap.size := fun k hk => ⟨own_base HRA.out k hk, own_lt HRA.out k hk⟩
         have HLw : Lets (fun k => k < w.heap.size ∨ k = W8.heap.size ∨ k = W8.heap.size + 1 ∨ k = W9.heap.size + 2) Wa Wb W27 := (Lets.refl _ Wa Wb).grown (row := none) ⟨HB28.out.os, HB28.out.tape, HB28.out.output, HB28.out.size, fun i hi _ => HB28.out.block i hi⟩ (fun _ e => by cases e)
         have HBw : Below w.heap.size w W27 := HBB.out.trans (HB28.out.mono HBB.out.size)
         have HKw : KeepP (fun k => k = W7.heap.size + 1) W9 W27 := HKB.out.below HB28.out
         refine ⟨(((HLw.alloc _).grown HG.out (fun k hk => ⟨.inr ⟨(hrow k hk).2, ?_⟩, ?_⟩)).setCell _ (.inr ⟨hlt0, ?_⟩)), ⟨_, HV1.out.set _, ?_, trivial⟩, ?_, ?_⟩
         ·
          have := hrow k hk; omega
         ·
          intro o ho
          obtain ⟨cells, hcc⟩ := own_typed (HR28.out.alloc _) k hk
          rw [hcc] at ho
          cases ho
          rfl
         ·
          show ¬ (W7.heap.size + 1 < w.heap.size ∨ W7.heap.size + 1 = W8.heap.size ∨ W7.heap.size + 1 = W8.heap.size + 1 ∨ W7.heap.size + 1 = W9.heap.size + 2)
          omega
         ·
          have hh2 := HO.out
          have h2 := hh2.kept (grownBy_setCell' w1 (W7.heap.size + 1) (.slice (some ⟨g', 0, none⟩) (pre.length + 1) cap')) (.inr (HV1.out.not_row (by decide) hh2).symm)
          rw [List.map_append, List.flatMap_append]
          simp only [List.map_cons, List.map_nil]
          rw [HBX.out]
          simpa using h2
         ·
          exact ((HBw.alloc HBw.size _).grown HG.out (by simp; have := HBw.size; omega) (fun k hk => by have := hrow k hk; omega)).setCell (p := ⟨W7.heap.size + 1, 0, none⟩) (by show w.heap.size ≤ W7.heap.size + 1; omega) _
         ·
          exact ((HKw.alloc _).grown HG.out (fun k hk => .inl (by have := hrow k hk; omega))).set (W7.heap.size + 1) 0 (.inr rfl) _
        | false =>
         have hxx : ¬ (xr = 0 ∧ xc = 0) := by intro ⟨a1, a2⟩; subst a1 a2; simp at heq
         rw [if_neg hxx] at HBX
         obtain ⟨W28, hW28⟩ : ∃ W28, W27.setCell ⟨s, 1, none⟩ (.int .i64 sx) = W28 := ⟨_, rfl⟩
         have B28 : W28.heap[s]? = some (.cells #[.int .i64 0, .int .i64 sx, .int .i64 bg, .int .i64 wq, .int .i64 hh, .bool false, .slice none 0 0] 43 (0, 0)) := by rw [← hW28]; exact blk_put B27 1 _ rfl
         have HB28 : Aside0 (Below Wb.heap.size Wb W28) := ⟨by rw [← hW28]; exact HB27.out.setCell HBS6.out _⟩
         have HR28 : Aside0 (W28.ownsRow (W9.heap.size + 3) 43 7 v pre.length ((pre.map (boxAt a4 p ss wd l2)).flatMap cells43)) := ⟨HRB.out.kept (row := none) ⟨HB28.out.os, HB28.out.tape, HB28.out.output, HB28.out.size, fun i hi _ => HB28.out.block i hi⟩ (by by_cases e : v.ownBlock = none; exact .inl e; exact .inr e)⟩
         obtain ⟨k1, k2, k3, k4⟩ := HK1.out _ HB27.out
         have k5 := (HK1.out _ HB28.out).2.2.2.cell
         have n1 : W27.cell? ⟨s, 1, none⟩ = some (.int .i64 0) := (blk_cell HBX7.out 1).trans rfl
         have n2 := blk_frozen HBX7.out 1
         have u0 : W28.cell? ⟨s, 0, none⟩ = some (.int .i64 0) := (blk_cell B28 0).trans rfl
         have u1 : W28.cell? ⟨s, 1, none⟩ = some (.int .i64 sx) := (blk_cell B28 1).trans rfl
         have u2 : W28.cell? ⟨s, 2, none⟩ = some (.int .i64 bg) := (blk_cell B28 2).trans rfl
         have u3 : W28.cell? ⟨s, 3, none⟩ = some (.int .i64 wq) := (blk_cell B28 3).trans rfl
         have u4 : W28.cell? ⟨s, 4, none⟩ = some (.int .i64 hh) := (blk_cell B28 4).trans rfl
         have u5 : W28.cell? ⟨s, 5, none⟩ = some (.bool false) := (blk_cell B28 5).trans rfl
         have u6 : W28.cell? ⟨s, 6, none⟩ = some (.slice none 0 0) := (blk_cell B28 6).trans rfl
         clear B27 hxx heq k4 B28
         gi_wp2_with (gi_at_builtin; refine wpListIn_append_own _ rfl _ _ 32 rfl (W9.heap.size + 3) 43 i0 _ 7 72 Try.underlying32 hi0 hz0 hz1 hz2 rfl (by decide) _ _ _ rfl (HR28.out.alloc _) ⟨W28.heap.size, 0, none⟩ 1 1 (cells43 ⟨0, sx, bg, wq, hh, false, []⟩) rfl rfl ?c1 ?c2 ?c3 ?c4 ?c5 ?_)
         case c1 => simpa [cells43] using World.news_of_block (heap_alloc_new W28 (.cells (cells43 ⟨0, sx, bg, wq, hh, false, []⟩).toArray 43))
         case c2 => simp [cells43, Value.oneCell']
         case c3 => have hpl9 := HPL.out; simp [maxLen]; omega
         case c4 => have hpl9 := HPL.out; omega
         case c5 => have := HWB.out; have := HB28.out.size; simp; omega
         intro v' w1 hown hgrow _
         obtain ⟨g', cap', rfl⟩ := ownsRow_succ hown
         have hv0 := (HK1.out _ HB28.out).2.2.2
         have hnr := hv0.not_row (by decide) HR28.out
         have hv1 : Boxed w1 (W7.heap.size + 1) 32 v := (hv0.alloc _).kept hgrow hnr
         have hc1 := hv1.cell
         have hf1 := hv1.frozen
         have HV1 := Aside0.mk hv1
         have HG := Aside0.mk hgrow
         have HO := Aside0.mk hown
         clear hv1 hgrow hown hnr hv0
         gi_wp2
         have hsz1 := HAB.out
         have hlt0 := HLT.out
         have hB8 := HB28.out.size
         obtain ⟨hs8, hs9, hsr7, hkr, hs0W, hs12, hb12⟩ := HS9.out
         obtain ⟨hsm, hDlo, hDhi⟩ := HSM.out
         obtain ⟨hs5, hs3, hs0, hs2⟩ := HSZ.out
         have hbw := HBL9.out.size
         have hrow : ∀ k, v.ownBlock = some k → W9.heap.size + 3 ≤ k ∧ k < Wa.heap.size := fun k hk => ⟨own_base HRA.out k hk, own_lt HRA.out k hk⟩
         have HLw : Lets (fun k => k < w.heap.size ∨ k = W8.heap.size ∨ k = W8.heap.size + 1 ∨ k = W9.heap.size + 2) Wa Wb W28 := (Lets.refl _ Wa Wb).grown (row := none) ⟨HB28.out.os, HB28.out.tape, HB28.out.output, HB28.out.size, fun i hi _ => HB28.out.block i hi⟩ (fun _ e => by cases e)
         have HBw : Below w.heap.size w W28 := HBB.out.trans (HB28.out.mono HBB.out.size)
         have HKw : KeepP (fun k => k = W7.heap.size + 1) W9 W28 := HKB.out.below HB28.out
         refine ⟨(((HLw.alloc _).grown HG.out (fun k hk => ⟨.inr ⟨(hrow k hk).2, ?_⟩, ?_⟩)).setCell _ (.inr ⟨hlt0, ?_⟩)), ⟨_, HV1.out.set _, ?_, trivial⟩, ?_, ?_⟩
         ·
          have := hrow k hk; omega
         ·
          intro o ho
          obtain ⟨cells, hcc⟩ := own_typed (HR28.out.alloc _) k hk
          rw [hcc] at ho
          cases ho
          rfl
         ·
          show ¬ (W7.heap.size + 1 < w.heap.size ∨ W7.heap.size + 1 = W8.heap.size ∨ W7.heap.size + 1 = W8.heap.size + 1 ∨ W7.heap.size + 1 = W9.heap.size + 2)
          omega
         ·
          have hh2 := HO.out
          have h2 := hh2.kept (grownBy_setCell' w1 (W7.heap.size + 1) (.slice (some ⟨g', 0, none⟩) (pre.length + 1) cap')) (.inr (HV1.out.not_row (by decide) hh2).symm)
          rw [List.map_append, List.flatMap_append]
          simp only [List.map_cons, List.map_nil]
          rw [HBX.out]
          simpa using h2
         ·
          exact ((HBw.alloc HBw.size _).grown HG.out (by simp; have := HBw.size; omega) (fun k hk => by have := hrow k hk; omega)).setCell (p := ⟨W7.heap.size + 1, 0, none⟩) (by show w.heap.size ≤ W7.heap.size + 1; omega) _
         ·
          exact ((HKw.alloc _).grown HG.out (fun k hk => .inl (by have := hrow k hk; omega))).set (W7.heap.size + 1) 0 (.inr rfl) _
       case done2 =>
        rintro D2 ys W' hD2 rfl ⟨⟨v, hv, hrow, _⟩, hbl, hkp⟩ hK2
        obtain ⟨Ar, cr, rfl⟩ := own_slice hrow
        have hvc := hv.cell
        have hDr2 : W'.heap[D]? = some (.deferred (some [])) := (hkp.2 D (by omega) (by omega)).trans D9.out
        have HV := Aside0.mk hv
        have HR' := Aside0.mk hrow
        have HBL := Aside0.mk hbl
        have HK2 := Aside0.mk hK2
        have HD2 := Aside0.mk hD2
        have HDR2 := Aside0.mk hDr2
        have HSZ2 := Aside0.mk (And.intro hDlo (And.intro hDhi (And.intro hs0W (And.intro hs0 (And.intro hs3 hs2)))))
        clear hiter hs8 hs9 hsr7 hkr hs0W hs12 hb12 bl9 BO9 hsm hDlo hDhi hs5 hs3 hs0 hs2 hv hrow hbl hkp hK2 hD2 hDr2
        go_wp2
        refine ⟨by simp, .inl ⟨_, _, rfl, run_takeDeferred HK2.out, ?_⟩⟩
        have hne : D ≠ D2 := by have := HSZ2.out; have := HSM.out; have := HD2.out; have := HS9.out; omega
        have hDr3 : (W'.putObj D2 (.deferred none)).heap[D]? = some (.deferred (some [])) := (World.putObj_heap_other hne).trans HDR2.out
        refine ⟨by simp, .inl ⟨_, _, rfl, run_takeDeferred hDr3, ?_⟩⟩
        have h1 := ownsRow_putObj (ownsRow_putObj HR'.out (.deferred none) HK2.out rfl) (.deferred none) hDr3 rfl
        have hb1 := HBL.out.grown (grownBy_putObj' W' D2 (.deferred none)) HBL.out.size (fun k e => by cases e; have := HSZ2.out; have := HSM.out; have := HD2.out; have := HS9.out; omega)
        have hb2 := hb1.grown (grownBy_putObj' (W'.putObj D2 (.deferred none)) D (.deferred none)) hb1.size (fun k e => by cases e; have := HSZ2.out; have := HSM.out; omega)
        have hl : (walkL a0 l1).length = ((walkL a0 l1).map (boxAt a4 p ss wd l2)).length := by rw [List.length_map]
        rw [hl] at h1
        refine ⟨_, results_tmp3 rfl _ _ _, _, rfl, ?_, hb2⟩
        rw [hl]
        exact Kd.S_lower (S43_of h1 (fun x hx => by obtain ⟨y, _, rfl⟩ := List.mem_map.1 hx; rfl)) (by have := HSZ2.out; have := HSM.out; have := HS9.out; omega)
       case stop2 =>
        intro D c pre W _ _ h _
        exact h.elim
     | succ k1 =>
      have hkR : k < R := by have := HKK.out; omega
      have hR4 := HRB2.out
      have c1b : decide ((k : Int) < (R : Int)) = true := decide_eq_true (by omega)
      have c1c : decide (k < R) = true := decide_eq_true hkR
      have hsum : IntKind.i64.wrap ((k : Int) + 1) = ((k + 1 : Nat) : Int) := IntWalk.i64_in _ (by omega)
      have hsum2 : wrap64 ((k : Int) + 1) = ((k + 1 : Nat) : Int) := by unfold wrap64; omega
      have hE := endP_bd HGAP.out HLOW.out k
      have hP := HLOW.out (k : Int)
      have hG := HGAP.out
      obtain ⟨pk, hpk⟩ : ∃ pk, p (k : Int) = pk := ⟨_, rfl⟩
      obtain ⟨e0, he0⟩ : ∃ e0, endP a4 p k = e0 := ⟨_, rfl⟩
      obtain ⟨x1, hx1⟩ : ∃ x1, begP a4 p k = x1 := ⟨_, rfl⟩
      obtain ⟨e2, he2⟩ : ∃ e2, endP a4 p (k + 1) = e2 := ⟨_, rfl⟩
      have hx1e : x1 = e0 + (if 0 < k then a4 else 0) := by rw [← hx1, ← he0]; rfl
      have he2e : e2 = x1 + pk := by rw [← he2, ← hpk, hx1e, ← he0]; rfl
      rw [he0] at hE ⊢
      rw [hpk] at hP
      have hx1b : 0 ≤ x1 ∧ x1 ≤ 1100000 * (k : Int) + 100000 := by rw [hx1e]; split <;> omega
      have hadd : IntKind.i64.wrap (x1 + pk) = e2 := by rw [he2e]; exact IntWalk.i64_in _ (by omega)
      have hadd2 : wrap64 (x1 + pk) = e2 := by rw [he2e]; exact EvT.w64 (by omega) (by omega)
      obtain ⟨w13, hrun1, hM13, hg13⟩ := HMK.out.put (by simp [maxLen]; omega) (j := (k : Int)) (v := x1) (by omega) (by omega) (by omega) (by omega)
      have hmr := HMM.out.heap (HKPK.out.2 _ HMM.out.lt (by have := HSZ.out; have := HWS.out; omega))
      have hmr13 := hmr.heap (hg13.block _ hmr.lt (by intro e; have := HSZ.out; have := HWS.out; injection e with e; omega))
      have hlk := hmr13.look (j := (k : Int)) (by omega) (by omega)
      rw [hpk] at hlk
      have hb20 : Boxed wr (W.heap.size + 1) 58 (.map (some W.heap.size)) := (HKPK.out.2 _ HB2m.out.lt (by omega)).trans HB2m.out
      have hb16 : Boxed wr (W3.heap.size + 1) 58 (.map (some W3.heap.size)) := by
       have h1 := HKM.out.box BB0.out (by omega)
       exact (HKPK.out.2 _ h1.lt (by have := HSZ.out; have := HWS.out; omega)).trans h1
      have hb20' := hb20.kept hg13 (by intro e; injection e with e; omega)
      have hb16' := hb16.kept hg13 (by intro e; have := HSZ.out; have := HWS.out; injection e with e; omega)
      have y20 := hb20.cell
      have y16 := hb16'.cell
      have HM13 := Aside0.mk hM13
      have HKP13 := Aside0.mk (HKPK.out.grown hg13 (fun k e => .inr (Option.some.inj e).symm))
      have HBL13 := Aside0.mk (HBLR.out.grown hg13 HBLR.out.size (fun k e => by cases e; have := HSM.out; have := HWS.out; have := HSZ.out; omega))
      have HKR := Aside0.mk hkR
      have HE2 := Aside0.mk he2
      have HX1 := Aside0.mk hx1
      clear hM13 hg13 hmr hmr13 hb20 hb16 hb20' hb16' hE hP hG hx1b he2e hR4 hkR he2 hpk he0
      by_cases hk0 : 0 < k
      ·
       have c2b : decide (0 < (k : Int)) = true := decide_eq_true (by omega)
       have c2c : decide (0 < k) = true := decide_eq_true hk0
       rw [if_pos hk0] at hx1e
       have hb : 0 ≤ e0 + a4 ∧ e0 + a4 ≤ 10000000000 := by
        have hE := endP_bd HGAP.out HLOW.out k
        have hX := HX1.out
        unfold begP at hX
        rw [if_pos hk0] at hX
        have hG := HGAP.out
        have hR4 := HRB2.out
        have hkR := HKR.out
        omega
       have hA : IntKind.i64.wrap (e0 + a4) = x1 := by rw [hx1e]; exact IntWalk.i64_in _ (by omega)
       have hA2 : wrap64 (e0 + a4) = x1 := by rw [hx1e]; exact EvT.w64 (by omega) (by omega)
       clear hx1e hk0 hb
       go_wp2
       go_roundg k1
       case measure => omega
       case rel => exact ⟨k + 1, by simp [hadd, hadd2, hA, hA2, HE2.out], by simp [hsum, hsum2], ⟨by have := HKK.out; omega⟩, ⟨map_next HM13.out HX1.out⟩, HKP13, HBL13⟩
      ·
       have hk00 : k = 0 := by omega
       subst hk00
       have hx10 : x1 = e0 := by rw [hx1e]; simp
       subst hx10
       clear hx1e hk0
       rw [Int.natCast_zero] at hrun1 hlk
       go_wp2
       go_roundg k1
       case measure => omega
       case rel => exact ⟨0 + 1, by simp [hadd, hadd2, HE2.out], by simp [hsum, hsum2], ⟨by have := HKK.out; omega⟩, ⟨map_next HM13.out HX1.out⟩, HKP13, HBL13⟩
   case stop =>
    intro D c pre W _ _ h _
    exact h.elim
  ·
   rw [if_neg h2] at h
   obtain ⟨rfl, rfl, rfl⟩ : [] = r1 ∧ 0 = r2 ∧ 1 = r3 := by simpa using h
   by_cases h3 : l2.length = l1.length
   ·
    have hb : l2.any badH = true := by
     cases hb : l2.any badH
     ·
      exact absurd ⟨h3, hb⟩ h2
     ·
      rfl
    have hh : ∀ W, Kd.C (Kd.int .i64) W A2 l2.length l2 → Calls Try.prog 27 #[.slice A2 l2.length c2, .func (.func 26) #[] #[]] W fun e w' => e = .returned (.bool true) ∧ W = w' := fun W hC => by rw [← hb]; exact anyH_calls A2 c2 l2 W hC (by have := HLN.out; omega)
    have q0 : ((l2.length : Int) != (l1.length : Int)) = false := by rw [h3]; simp
    clear h3 hb h2 h
    go_wp2_with (go_at_call 27; refine (hh _ HK3.out.2.2.2.2.2.2.1).mono ?_; rintro e w' ⟨rfl, rfl⟩)
    exact ⟨_, results_tmp3 rfl _ _ _, .slice none 0 0, rfl, Kd.S_nil _ _ _ _ _, HK3.out.2.1⟩
   ·
    have q0 : ((l2.length : Int) != (l1.length : Int)) = true := bne_iff_ne.2 (by omega)
    clear h3 h2 h
    go_wp2
    exact ⟨_, results_tmp3 rfl _ _ _, .slice none 0 0, rfl, Kd.S_nil _ _ _ _ _, HK3.out.2.1⟩
 ·
  rw [if_neg h1] at h
  obtain ⟨rfl, rfl, rfl⟩ : [] = r1 ∧ 0 = r2 ∧ e1 = r3 := by simpa using h
  have h1b : (e1 != 0) = true := bne_iff_ne.2 h1
  have h1c : (e1 == 0) = false := beq_eq_false_iff_ne.2 h1
  clear h h1 hwd
  go_wp2_with (go_at_call 13; refine (hwc _ HRA.out).mono ?_; rintro e W2 ⟨vw, rfl, hvw, hb2⟩; obtain ⟨AV, cv, rfl⟩ := Kd.R_slice hvw; have HVW := Aside0.mk hvw; have HB2 := Aside0.mk hb2; clear hvw hb2)
  exact ⟨_, results_tmp3 rfl _ _ _, .slice none 0 0, rfl, Kd.S_nil _ _ _ _ _, by
   have h1 := HB1.out.trans (HB2.out.mono (HB1.out.size))
   exact h1.alloc h1.size _⟩
end Go.Proofs.Ytciheadencbmjaa.P
