import Derived.RangeFuncNested
import Derived.RangeFuncBound
import Derived.RangeFuncCalls
import Derived.RangeFuncLeaves
import Derived.Shelf.Abstract
import Derived.Shelf.RegionOpen
import Derived.WalkKit
import Derived.OwnWalkIn
import Derived.TacticsInMore
import Derived.LoopNIn
import Derived.LoopIn
set_option linter.unusedVariables false
set_option linter.unusedSimpArgs false
namespace Go.Proofs.Ytciheadencbmjaa.Rng
open Go.RowKit

/-! A range over a function whose iterator hands out what it has just made in memory.
Between two rounds the caller's own word is 'I'; the iterator makes new blocks alone; it tells of what it hands over 'V' of the world at the call; a round leaves alone the blocks of 'M' and all that the iterator has made since the last round. -/

/-- What a round leaves where it is: the marks of loops and of what is put off (no cells, no map). -/
def stays (o : Obj) : Bool := match o with | .map _ _ => false | o => !o.isCells
theorem stays_cells {o : Obj} (h : stays o = true) : o.isCells = false := by cases o <;> first | rfl | (simp [stays, Obj.isCells] at h)
/-- What a round promises: W0 as the last round left it, W1 at the call of yield, W' behind the round. -/
structure Lets (M : Nat → Prop) (W0 W1 W' : World) : Prop where
  size : W1.heap.size ≤ W'.heap.size
  same : ∀ k, k < W1.heap.size → (M k ∨ W0.heap.size ≤ k) → W'.heap[k]? = W1.heap[k]?
  other : ∀ (k : Nat) (o : Obj), W1.heap[k]? = some o → stays o = true → W'.heap[k]? = some o

theorem Lets.refl (M : Nat → Prop) (W0 W1 : World) : Lets M W0 W1 W1 := ⟨Nat.le_refl _, fun _ _ _ => rfl, fun _ _ h _ => h⟩
theorem Lets.drew {M : Nat → Prop} {W0 W1 W : World} (h : Lets M W0 W1 W) : Lets M W0 W1 W.drew := ⟨h.size, h.same, h.other⟩
theorem Lets.drewN {M : Nat → Prop} {W0 W1 W : World} (h : Lets M W0 W1 W) (n : Nat) : Lets M W0 W1 (W.drewN n) := ⟨h.size, h.same, h.other⟩
/-- A step that turns at most one block of cells: one of the caller's, or a new one. -/
theorem Lets.grown {M : Nat → Prop} {W0 W1 W W' : World} (h : Lets M W0 W1 W) {row : Option Nat} (hg : W.grownBy W' row)
    (hr : ∀ k, row = some k → (W1.heap.size ≤ k ∨ (k < W0.heap.size ∧ ¬ M k)) ∧ ∀ o : Obj, W.heap[k]? = some o → stays o = false) : Lets M W0 W1 W' where
  size := Nat.le_trans h.size hg.size
  same := fun k hk hm => by
    refine (hg.block k (Nat.lt_of_lt_of_le hk h.size) (fun e => ?_)).trans (h.same k hk hm)
    rcases (hr k e.symm).1 with h1 | ⟨h1, h2⟩
    · omega
    · rcases hm with hm | hm
      · exact h2 hm
      · omega
  other := fun k o hk ho => by
    have hW := h.other k o hk ho
    refine (hg.block k (Array.getElem?_eq_some_iff.1 hW).1 (fun e => ?_)).trans hW
    rw [(hr k e.symm).2 o hW] at ho; cases ho
theorem Lets.alloc {M : Nat → Prop} {W0 W1 W : World} (h : Lets M W0 W1 W) (o : Obj) : Lets M W0 W1 (W.alloc o) := h.grown (World.grownBy_alloc W o none) (fun _ e => by cases e)
theorem Lets.below {M : Nat → Prop} {W0 W1 W W' : World} (h : Lets M W0 W1 W) (hb : Below W.heap.size W W') : Lets M W0 W1 W' :=
  h.grown (row := none) ⟨hb.os, hb.tape, hb.output, hb.size, fun i hi _ => hb.block i hi⟩ (fun _ e => by cases e)
theorem Lets.setCell {M : Nat → Prop} {W0 W1 W : World} (h : Lets M W0 W1 W) {a : Addr} (v : Value) (ha : W1.heap.size ≤ a.block ∨ (a.block < W0.heap.size ∧ ¬ M a.block)) : Lets M W0 W1 (W.setCell a v) where
  size := by
    have hs : (W.setCell a v).heap.size = W.heap.size := by show (W.heap.modify _ _).size = _; rw [Array.size_modify]
    rw [hs]; exact h.size
  same := fun k hk hm => by
    refine (Below.heap_setCell W a v k (fun e => ?_)).trans (h.same k hk hm)
    subst e
    rcases ha with h1 | ⟨h1, h2⟩
    · omega
    · rcases hm with hm | hm
      · exact h2 hm
      · omega
  other := fun k o hk ho => (KeepsOthers.setCell W a v).same k o (h.other k o hk ho) (stays_cells ho)

/-- The iterator's contract. -/
def Iter {α : Type} (P : Program) (g : Nat) (lb : Array Value) (encs : α → Array Value) (V : List α → α → World → Prop) (M : Nat → Prop) (S Sp : List α → Prop) (w : World) : Prop :=
  ∀ (l : Nat) (J Jx : List α → World → Prop) (W : World), Below w.heap.size w W →
    (∀ s A B, J s A → Below A.heap.size A B → J s B) → (∀ s A B, Jx s A → Below A.heap.size A B → Jx s B) →
    (∀ pre x W0 W1, J pre W0 → Below W0.heap.size W0 W1 → V pre x W1 → YieldAt Fence.wide 0 P l (encs x) W1 fun e W' =>
      (e = .returned (.bool true) ∧ J (pre ++ [x]) W' ∧ Lets M W0 W1 W') ∨ (e = .returned (.bool false) ∧ Jx (pre ++ [x]) W')) →
    J [] W →
    Calls P g (#[.func (.yield l) #[] #[]] ++ lb) W fun e W' => (∃ v, e = .returned v) ∧ ((∃ xs, S xs ∧ J xs W') ∨ (∃ pre, Sp pre ∧ Jx pre W'))

/-- How the body of a round may be left. -/
def left {α : Type} (M : Nat → Prop) (I : List α → World → Prop) (Ix : Code → List α → World → Prop) (xs : List α) (W0 W1 : World) : Exit → Act → World → Prop
  | .normal, _, W' => Lets M W0 W1 W' ∧ I xs W'
  | .ret, _, W' => (∀ (k : Nat) (o : Obj), W1.heap[k]? = some o → stays o = true → W'.heap[k]? = some o) ∧ Ix .ret xs W'
  | .exit id, _, W' => (∀ (k : Nat) (o : Obj), W1.heap[k]? = some o → stays o = true → W'.heap[k]? = some o) ∧ Ix (.exit id) xs W'
  | .goto t, _, W' => (∀ (k : Nat) (o : Obj), W1.heap[k]? = some o → stays o = true → W'.heap[k]? = some o) ∧ Ix (.goto t) xs W'
  | .panic _, _, _ => False
  | .outgrown, _, _ => False

theorem below_putObj {W0 W1 : World} (h : Below W0.heap.size W0 W1) {l : Nat} (hl : l < W0.heap.size) (o : Obj) : Below (W0.putObj l o).heap.size (W0.putObj l o) (W1.putObj l o) where
  os := h.os
  tape := h.tape
  output := h.output
  size := by simp; exact h.size
  block := fun k hk => by
    rw [World.putObj_size] at hk
    by_cases e : k = l
    · subst e
      rw [World.putObj_heap_same hl, World.putObj_heap_same (Nat.lt_of_lt_of_le hl h.size)]
    · rw [World.putObj_heap_other e, World.putObj_heap_other e]
      exact h.block k hk


/-- **'for x := range g { body }', at an outermost loop.** -/
theorem rangeFunc {α : Type} {n : Nat} {P : Program} {g : Operand} {ps : Array Tmp} {assign body : Code} {Q : Exit → Act → World → Prop} {a : Act} {w : World}
    {gf : Nat} {lb : Array Value} (hg : a.eval g = .func (.func gf) #[] lb) (eg : ∀ args w, (callFunc gf args).run P w = .ok (.enter gf args) w)
    {encs : α → Array Value} {V : List α → α → World → Prop} {M : Nat → Prop} {S Sp : List α → Prop} (hseq : Iter P gf lb encs V M S Sp w) (hps : ∀ x, (encs x).size = ps.size)
    (hM : ∀ k, M k → k < w.heap.size) (hV : ∀ pre x (W : World) (l : Nat) (o o' : Obj), V pre x W → W.heap[l]? = some o → o.isCells = false → V pre x (W.putObj l o'))
    (I : List α → World → Prop) (Ix : Code → List α → World → Prop) (hI : OwnFrom w.heap.size I) (hIx : ∀ c, OwnFrom w.heap.size (Ix c)) (h0 : I [] w) (a₁ : α → Act)
    (hassign : ∀ (l : Nat) (x : α) (W : World) (K : Act → World → Prop), K (a₁ x) W →
      assign.wpIn (Fence.wide.inRound l) 0 P (Exit.then K (fun _ _ _ => False)) { tmps := (ps.zip (encs x)).foldl (fun t (p, v) => t.setIfInBounds p v) a.tmps, defers := [] } W)
    (hbody : ∀ (l : Nat) (pre : List α) (x : α) (W0 W1 : World), w.heap.size < W0.heap.size → I pre W0 → Below W0.heap.size W0 W1 → V pre x W1 → body.wpIn (Fence.wide.inRound l) 0 P (left M I Ix (pre ++ [x]) W0 W1) (a₁ x) W1)
    (hdone : ∀ (D : Nat) (xs : List α) (W : World), w.heap.size ≤ D → S xs → I xs W → W.heap[D]? = some (.deferred (some [])) → Q .normal { a with defers := { target := .collected D, args := #[] } :: a.defers } W)
    (hstop : ∀ (D : Nat) (c : Code) (pre : List α) (W : World), w.heap.size ≤ D → Sp pre → Ix c pre W → W.heap[D]? = some (.deferred (some [])) → c.wpIn Fence.wide n P Q { a with defers := { target := .collected D, args := #[] } :: a.defers } W) :
    (Code.rangeFunc g ps assign body).wpIn Fence.wide n P Q a w := by
  refine wpIn_rangeFunc ?_
  intro fn hfn
  obtain ⟨rec, hrec⟩ : ∃ rec : LoopState → Option Code → Loop, rec = fun st pe => { state := st, pending := pe, fn, tmps := a.tmps, params := ps, assign, body, defers := w.heap.size } := ⟨_, rfl⟩
  obtain ⟨W1, hW1⟩ : ∃ W1, (w.alloc (.deferred (some []))).alloc (.loop (rec .ready none)) = W1 := ⟨_, rfl⟩
  have hL1 : W1.heap[w.heap.size + 1]? = some (.loop (rec .ready none)) := by
    rw [← hW1]; have := World.alloc_heap_new (w.alloc (.deferred (some []))) (.loop (rec .ready none)); rwa [World.size_alloc] at this
  have hK1 : W1.heap[w.heap.size]? = some (.deferred (some [])) := by
    rw [← hW1]; exact (Below.heap_alloc _ _ _ (by simp)).trans (World.alloc_heap_new w _)
  have hI1 : I [] W1 := by rw [← hW1]; exact hI.alloc _ (hI.alloc _ h0)
  have hb1 : Below w.heap.size w W1 := by rw [← hW1]; exact (((Below.refl _ w).alloc (Nat.le_refl _) _).alloc (by simp) _)
  have grow : ∀ {A B : World}, Below A.heap.size A B → A.grownBy B none := fun h => ⟨h.os, h.tape, h.output, h.size, fun i hi _ => h.block i hi⟩
  refine ⟨w.heap.size + 1, [{ target := .collected w.heap.size, args := #[] }], W1, { target := .fn (.func gf) lb, args := #[.func (.yield (w.heap.size + 1)) #[] #[]] }, W1, gf,
    #[.func (.yield (w.heap.size + 1)) #[] #[]] ++ lb, W1, ?_, ?_, ?_, ?_, (fun h => (by cases h)), ?_⟩
  · rw [← hW1, hrec]; exact run_enterLoop_outer _ _ _ _ _
  · simp only [resolve, hg]
    simp [go_sem]
  · intro f' hf'; trivial
  · simp [invoke, go_sem, eg]
  · refine (callsIn_wide.2 (hseq (w.heap.size + 1)
      (fun pre W => I pre W ∧ W.heap[w.heap.size + 1]? = some (.loop (rec .ready none)) ∧ W.heap[w.heap.size]? = some (.deferred (some [])))
      (fun pre W => ∃ c, Ix c pre W ∧ W.heap[w.heap.size + 1]? = some (.loop (rec .done (some c))) ∧ W.heap[w.heap.size]? = some (.deferred (some [])))
      W1 hb1 ?_ ?_ ?_ ⟨hI1, hL1, hK1⟩)).mono ?_
    · rintro s A B ⟨hi, hl, hk⟩ hb
      exact ⟨hI s A B none hi (grow hb) (fun _ e => by cases e), (hb.block _ (Array.getElem?_eq_some_iff.1 hl).1).trans hl, (hb.block _ (Array.getElem?_eq_some_iff.1 hk).1).trans hk⟩
    · rintro s A B ⟨c, hi, hl, hk⟩ hb
      exact ⟨c, hIx c s A B none hi (grow hb) (fun _ e => by cases e), (hb.block _ (Array.getElem?_eq_some_iff.1 hl).1).trans hl, (hb.block _ (Array.getElem?_eq_some_iff.1 hk).1).trans hk⟩
    · rintro pre x Wa Wb ⟨hi, hla, hka⟩ hab hv
      have hlt : w.heap.size + 1 < Wa.heap.size := (Array.getElem?_eq_some_iff.1 hla).1
      have hl := (hab.block _ hlt).trans hla
      have hk := (hab.block _ (Nat.lt_of_succ_lt hlt)).trans hka
      have hy := run_yield (P := P) (args := encs x) hl (by rw [hrec]; exact hps x)
      rw [hrec] at hy
      refine ⟨fn, _, assign, body, hy, roundIn_of_wpIn trivial (hassign _ x Wb _ ?_)⟩
      clear hy
      refine ⟨_, run_beginRound hl (by rw [hrec]), ?_⟩
      generalize hbz : Obj.loop { rec .ready none with state := .busy } = bz
      have hbzc : bz.isCells = false := by rw [← hbz]; rfl
      have hbzs : stays bz = true := by rw [← hbz]; rfl
      have hltb : w.heap.size + 1 < Wb.heap.size := Nat.lt_of_lt_of_le hlt hab.size
      have hl2 : (Wb.putObj (w.heap.size + 1) bz).heap[w.heap.size + 1]? = some bz := World.putObj_heap_same hltb
      have hk2 : (Wb.putObj (w.heap.size + 1) bz).heap[w.heap.size]? = some (.deferred (some [])) := (World.putObj_heap_other (by omega)).trans hk
      refine wpIn_mono (hbody _ pre x (Wa.putObj (w.heap.size + 1) bz) _ (by simp; omega) (hI.putObj _ hi (by omega) hla rfl) (below_putObj hab hlt _) (hV pre x Wb _ _ _ hv hl rfl)) ?_
      have fin : ∀ (jump : Option Code) (W3 : World), (∀ (k : Nat) (o : Obj), (Wb.putObj (w.heap.size + 1) bz).heap[k]? = some o → stays o = true → W3.heap[k]? = some o) →
          (Instr.endRound (w.heap.size + 1) jump).run P W3 = .ok (.bool jump.isNone) (W3.putObj (w.heap.size + 1) (.loop (rec (if jump.isNone then .ready else .done) jump))) ∧
          W3.heap[w.heap.size + 1]? = some bz ∧
          (W3.putObj (w.heap.size + 1) (.loop (rec (if jump.isNone then .ready else .done) jump))).heap[w.heap.size + 1]? = some (.loop (rec (if jump.isNone then .ready else .done) jump)) ∧
          (W3.putObj (w.heap.size + 1) (.loop (rec (if jump.isNone then .ready else .done) jump))).heap[w.heap.size]? = some (.deferred (some [])) := fun jump W3 hk3 => by
        have hl3 := hk3 _ _ hl2 hbzs
        have hl4 := hl3
        rw [← hbz] at hl4
        have := run_endRound (P := P) jump hl4
        rw [hrec] at this ⊢
        exact ⟨this, hl3, World.putObj_heap_same (Array.getElem?_eq_some_iff.1 hl3).1, (World.putObj_heap_other (by omega)).trans (hk3 _ _ hk2 rfl)⟩
      rintro e a3 W3 hp
      cases e with
      | normal =>
        obtain ⟨hs3, hi3⟩ := hp
        obtain ⟨hr, hl3, hl4, hk4⟩ := fin none W3 hs3.other
        refine ⟨_, _, hr, .inl ⟨rfl, ⟨hI.putObj _ hi3 (by omega) hl3 hbzc, hl4, hk4⟩, ?_⟩⟩
        have hsz := hs3.size
        rw [World.putObj_size] at hsz
        refine ⟨by rw [World.putObj_size]; exact hsz, fun k hk hm => ?_, fun k o hk ho => ?_⟩
        · have hne : k ≠ w.heap.size + 1 := by
            rintro rfl
            rcases hm with hm | hm
            · have := hM _ hm; omega
            · omega
          rw [World.putObj_heap_other hne, hs3.same k (by rw [World.putObj_size]; exact hk) (hm.imp_right (fun h => by rw [World.putObj_size]; exact h)), World.putObj_heap_other hne]
        · by_cases e : k = w.heap.size + 1
          · subst e
            rw [hl] at hk
            rw [← hk]
            exact hl4
          · rw [World.putObj_heap_other e]
            exact hs3.other k o ((World.putObj_heap_other e).trans hk) ho
      | ret =>
        obtain ⟨hk3, hi3⟩ := hp
        obtain ⟨hr, hl3, hl4, hk4⟩ := fin (some .ret) W3 hk3
        exact ⟨_, _, hr, .inr ⟨rfl, .ret, (hIx _).putObj _ hi3 (by omega) hl3 hbzc, hl4, hk4⟩⟩
      | exit id =>
        obtain ⟨hk3, hi3⟩ := hp
        obtain ⟨hr, hl3, hl4, hk4⟩ := fin (some (.exit id)) W3 hk3
        exact ⟨_, _, hr, .inr ⟨rfl, .exit id, (hIx _).putObj _ hi3 (by omega) hl3 hbzc, hl4, hk4⟩⟩
      | goto t =>
        obtain ⟨hk3, hi3⟩ := hp
        obtain ⟨hr, hl3, hl4, hk4⟩ := fin (some (.goto t)) W3 hk3
        exact ⟨_, _, hr, .inr ⟨rfl, .goto t, (hIx _).putObj _ hi3 (by omega) hl3 hbzc, hl4, hk4⟩⟩
      | panic ch => exact hp.elim
      | outgrown => exact hp.elim
    · rintro e W2 ⟨⟨v, rfl⟩, (⟨xs, hS, hi, hl, hk⟩ | ⟨pre, hSp, c, hi, hl, hk⟩)⟩
      · exact ⟨none, _, by have := run_endLoop (P := P) hl (by rw [hrec]; simp); rw [hrec] at this; exact this, hdone _ xs _ (Nat.le_refl _) hS (hI.putObj _ hi (by omega) hl rfl) ((World.putObj_heap_other (by omega)).trans hk)⟩
      · exact ⟨some c, _, by have := run_endLoop (P := P) hl (by rw [hrec]; simp); rw [hrec] at this; exact this, hstop _ c pre _ (Nat.le_refl _) hSp ((hIx c).putObj _ hi (by omega) hl rfl) ((World.putObj_heap_other (by omega)).trans hk)⟩

end Go.Proofs.Ytciheadencbmjaa.Rng
