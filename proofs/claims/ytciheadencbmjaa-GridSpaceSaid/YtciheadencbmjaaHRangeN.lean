import Derived.Test.YtciheadencbmjaaHRangeO
set_option linter.unusedVariables false
set_option linter.unusedSimpArgs false
namespace Go.Proofs.Ytciheadencbmjaa.Rng
open Go.RowKit

/-! The same where the iterator makes its own variable when it is called: the world is then two blocks greater (the loop's two marks). -/
def IterN {α : Type} (O : Nat → Prop) (P : Program) (g : Nat) (lb : Array Value) (encs : α → Array Value) (V : List α → α → World → Prop) (M : Nat → Prop) (S Sp : List α → Prop) (w : World) : Prop :=
  ∀ (l : Nat) (J Jx : List α → World → Prop) (W : World), Below w.heap.size w W → W.heap.size = w.heap.size + 2 →
    (∀ s A B, J s A → BelowO O A B → J s B) → (∀ s A B, Jx s A → BelowO O A B → Jx s B) →
    (∀ pre x W0 W1, J pre W0 → BelowO O W0 W1 → V pre x W1 → YieldAt Fence.wide 0 P l (encs x) W1 fun e W' =>
      (e = .returned (.bool true) ∧ J (pre ++ [x]) W' ∧ Lets M W0 W1 W') ∨ (e = .returned (.bool false) ∧ Jx (pre ++ [x]) W')) →
    J [] W →
    Calls P g (#[.func (.yield l) #[] #[]] ++ lb) W fun e W' => (∃ v, e = .returned v) ∧ ((∃ xs, S xs ∧ J xs W') ∨ (∃ pre, Sp pre ∧ Jx pre W'))
theorem rangeFuncN {α : Type} {O : Nat → Prop} {n : Nat} {P : Program} {g : Operand} {ps : Array Tmp} {assign body : Code} {Q : Exit → Act → World → Prop} {a : Act} {w : World}
    {gf : Nat} {lb : Array Value} (hg : a.eval g = .func (.func gf) #[] lb) (eg : ∀ args w, (callFunc gf args).run P w = .ok (.enter gf args) w)
    {encs : α → Array Value} {V : List α → α → World → Prop} {M : Nat → Prop} {S Sp : List α → Prop} (hseq : IterN O P gf lb encs V M S Sp w) (hps : ∀ x, (encs x).size = ps.size)
    (hO : ∀ k, O k → k ≠ w.heap.size ∧ k ≠ w.heap.size + 1) (hM : ∀ k, M k → k ≠ w.heap.size + 1) (hV : ∀ pre x (W : World) (l : Nat) (o o' : Obj), V pre x W → W.heap[l]? = some o → o.isCells = false → V pre x (W.putObj l o'))
    (I : List α → World → Prop) (Ix : Code → List α → World → Prop) (hI : OwnFrom w.heap.size I) (hIx : ∀ c, OwnFrom w.heap.size (Ix c)) (hIO : ∀ s A B, I s A → BelowO O A B → I s B) (hIxO : ∀ c s A B, Ix c s A → BelowO O A B → Ix c s B) (h0 : I [] w) (Ax : α → Act → World → Prop)
    (hAx : ∀ x a' (W : World) (l : Nat) (o o' : Obj), Ax x a' W → W.heap[l]? = some o → o.isCells = false → Ax x a' (W.putObj l o'))
    (hVb : ∀ pre x (W W' : World), V pre x W → Below W.heap.size W W' → V pre x W')
    (hassign : ∀ (l : Nat) (x : α) (W : World) (K : Act → World → Prop), (∀ a' W', Below W.heap.size W W' → Ax x a' W' → K a' W') →
      assign.wpIn (Fence.wide.inRound l) 0 P (Exit.then K (fun _ _ _ => False)) { tmps := (ps.zip (encs x)).foldl (fun t (p, v) => t.setIfInBounds p v) a.tmps, defers := [] } W)
    (hbody : ∀ (l : Nat) (pre : List α) (x : α) (a' : Act) (W0 W1 : World), w.heap.size < W0.heap.size → I pre W0 → BelowO O W0 W1 → V pre x W1 → Ax x a' W1 → body.wpIn (Fence.wide.inRound l) 0 P (left M I Ix (pre ++ [x]) W0 W1) a' W1)
    (hdone : ∀ (D : Nat) (xs : List α) (W : World), w.heap.size ≤ D → S xs → I xs W → W.heap[D]? = some (.deferred (some [])) → Q .normal { a with defers := { target := .collected D, args := #[] } :: a.defers } W)
    (hstop : ∀ (D : Nat) (c : Code) (pre : List α) (W : World), w.heap.size ≤ D → Sp pre → Ix c pre W → W.heap[D]? = some (.deferred (some [])) → c.wpIn Fence.wide n P Q { a with defers := { target := .collected D, args := #[] } :: a.defers } W) :
    (Code.rangeFunc g ps assign body).wpIn Fence.wide n P Q a w := by
  refine wpIn_rangeFunc ?_
  intro fn hfn
  obtain ⟨rec, hrec⟩ : ∃ rec : LoopState → Option Code → Loop, rec = fun st pe => { state := st, pending := pe, fn, tmps := a.tmps, params := ps, assign, body, defers := w.heap.size } := ⟨_, rfl⟩
  obtain ⟨W1, hW1⟩ : ∃ W1, (w.alloc (.deferred (some []))).alloc (.loop (rec .ready none)) = W1 := ⟨_, rfl⟩
  have hL1 : W1.heap[w.heap.size + 1]? = some (.loop (rec .ready none)) := by
    rw [← hW1]; have := World.alloc_heap_new (w.alloc (.deferred (some []))) (.loop (rec .ready none)); rwa [World.size_alloc] at this
  have hK1 : W1.heap[w.heap.size]? = some (.deferred (some [])) := by
    rw [← hW1]; exact (Below.heap_alloc _ _ _ (by simp)).trans (World.alloc_heap_new w _)
  have hI1 : I [] W1 := by rw [← hW1]; exact hI.alloc _ (hI.alloc _ h0)
  have hb1 : Below w.heap.size w W1 := by rw [← hW1]; exact (((Below.refl _ w).alloc (Nat.le_refl _) _).alloc (by simp) _)
  have grow : ∀ {A B : World}, Below A.heap.size A B → A.grownBy B none := fun h => ⟨h.os, h.tape, h.output, h.size, fun i hi _ => h.block i hi⟩
  refine ⟨w.heap.size + 1, [{ target := .collected w.heap.size, args := #[] }], W1, { target := .fn (.func gf) lb, args := #[.func (.yield (w.heap.size + 1)) #[] #[]] }, W1, gf,
    #[.func (.yield (w.heap.size + 1)) #[] #[]] ++ lb, W1, ?_, ?_, ?_, ?_, (fun h => (by cases h)), ?_⟩
  · rw [← hW1, hrec]; exact run_enterLoop_outer _ _ _ _ _
  · simp only [resolve, hg]
    simp [go_sem]
  · intro f' hf'; trivial
  · simp [invoke, go_sem, eg]
  · refine (callsIn_wide.2 (hseq (w.heap.size + 1)
      (fun pre W => I pre W ∧ W.heap[w.heap.size + 1]? = some (.loop (rec .ready none)) ∧ W.heap[w.heap.size]? = some (.deferred (some [])))
      (fun pre W => ∃ c, Ix c pre W ∧ W.heap[w.heap.size + 1]? = some (.loop (rec .done (some c))) ∧ W.heap[w.heap.size]? = some (.deferred (some [])))
      W1 hb1 (by rw [← hW1]; simp) ?_ ?_ ?_ ⟨hI1, hL1, hK1⟩)).mono ?_
    · rintro s A B ⟨hi, hl, hk⟩ hb
      exact ⟨hIO s A B hi hb, (hb.block _ (Array.getElem?_eq_some_iff.1 hl).1 (fun h => by have := hO _ h; omega)).trans hl, (hb.block _ (Array.getElem?_eq_some_iff.1 hk).1 (fun h => by have := hO _ h; omega)).trans hk⟩
    · rintro s A B ⟨c, hi, hl, hk⟩ hb
      exact ⟨c, hIxO c s A B hi hb, (hb.block _ (Array.getElem?_eq_some_iff.1 hl).1 (fun h => by have := hO _ h; omega)).trans hl, (hb.block _ (Array.getElem?_eq_some_iff.1 hk).1 (fun h => by have := hO _ h; omega)).trans hk⟩
    · rintro pre x Wa Wb ⟨hi, hla, hka⟩ hab hv
      have hlt : w.heap.size + 1 < Wa.heap.size := (Array.getElem?_eq_some_iff.1 hla).1
      have hl := (hab.block _ hlt (fun h => by have := hO _ h; omega)).trans hla
      have hk := (hab.block _ (Nat.lt_of_succ_lt hlt) (fun h => by have := hO _ h; omega)).trans hka
      have hy := run_yield (P := P) (args := encs x) hl (by rw [hrec]; exact hps x)
      rw [hrec] at hy
      refine ⟨fn, _, assign, body, hy, roundIn_of_wpIn trivial (hassign _ x Wb _ ?_)⟩
      clear hy
      intro a' Wc hbc hax
      have hl' := hl
      replace hl := (hbc.block _ (Array.getElem?_eq_some_iff.1 hl').1).trans hl'
      have hk' := hk
      replace hk := (hbc.block _ (Array.getElem?_eq_some_iff.1 hk').1).trans hk'
      have hac : BelowO O Wa Wc := hab.trans (BelowO.of hbc)
      refine ⟨_, run_beginRound hl (by rw [hrec]), ?_⟩
      generalize hbz : Obj.loop { rec .ready none with state := .busy } = bz
      have hbzc : bz.isCells = false := by rw [← hbz]; rfl
      have hbzs : stays bz = true := by rw [← hbz]; rfl
      have hltb : w.heap.size + 1 < Wc.heap.size := Nat.lt_of_lt_of_le hlt hac.size
      have hl2 : (Wc.putObj (w.heap.size + 1) bz).heap[w.heap.size + 1]? = some bz := World.putObj_heap_same hltb
      have hk2 : (Wc.putObj (w.heap.size + 1) bz).heap[w.heap.size]? = some (.deferred (some [])) := (World.putObj_heap_other (by omega)).trans hk
      refine wpIn_mono (hbody _ pre x a' (Wa.putObj (w.heap.size + 1) bz) _ (by simp; omega) (hI.putObj _ hi (by omega) hla rfl) (belowO_putObj hac hlt _) (hV pre x Wc _ _ _ (hVb _ _ _ _ hv hbc) hl rfl) (hAx _ _ _ _ _ _ hax hl rfl)) ?_
      have fin : ∀ (jump : Option Code) (W3 : World), (∀ (k : Nat) (o : Obj), (Wc.putObj (w.heap.size + 1) bz).heap[k]? = some o → stays o = true → W3.heap[k]? = some o) →
          (Instr.endRound (w.heap.size + 1) jump).run P W3 = .ok (.bool jump.isNone) (W3.putObj (w.heap.size + 1) (.loop (rec (if jump.isNone then .ready else .done) jump))) ∧
          W3.heap[w.heap.size + 1]? = some bz ∧
          (W3.putObj (w.heap.size + 1) (.loop (rec (if jump.isNone then .ready else .done) jump))).heap[w.heap.size + 1]? = some (.loop (rec (if jump.isNone then .ready else .done) jump)) ∧
          (W3.putObj (w.heap.size + 1) (.loop (rec (if jump.isNone then .ready else .done) jump))).heap[w.heap.size]? = some (.deferred (some [])) := fun jump W3 hk3 => by
        have hl3 := hk3 _ _ hl2 hbzs
        have hl4 := hl3
        rw [← hbz] at hl4
        have := run_endRound (P := P) jump hl4
        rw [hrec] at this ⊢
        exact ⟨this, hl3, World.putObj_heap_same (Array.getElem?_eq_some_iff.1 hl3).1, (World.putObj_heap_other (by omega)).trans (hk3 _ _ hk2 rfl)⟩
      rintro e a3 W3 hp
      cases e with
      | normal =>
        obtain ⟨hs3, hi3⟩ := hp
        obtain ⟨hr, hl3, hl4, hk4⟩ := fin none W3 hs3.other
        refine ⟨_, _, hr, .inl ⟨rfl, ⟨hI.putObj _ hi3 (by omega) hl3 hbzc, hl4, hk4⟩, ?_⟩⟩
        have hsz := hs3.size
        rw [World.putObj_size] at hsz
        have hbcs := hbc.size
        refine ⟨by rw [World.putObj_size]; omega, fun k hk hm => ?_, fun k o hk ho => ?_⟩
        · have hne : k ≠ w.heap.size + 1 := by
            rintro rfl
            rcases hm with hm | hm
            · have := hM _ hm; omega
            · omega
          rw [World.putObj_heap_other hne, hs3.same k (by rw [World.putObj_size]; omega) (hm.imp_right (fun h => by rw [World.putObj_size]; exact h)), World.putObj_heap_other hne]
          exact hbc.block k hk
        · by_cases e : k = w.heap.size + 1
          · subst e
            rw [hl'] at hk
            rw [← hk]
            exact hl4
          · rw [World.putObj_heap_other e]
            exact hs3.other k o ((World.putObj_heap_other e).trans ((hbc.block k (Array.getElem?_eq_some_iff.1 hk).1).trans hk)) ho
      | ret =>
        obtain ⟨hk3, hi3⟩ := hp
        obtain ⟨hr, hl3, hl4, hk4⟩ := fin (some .ret) W3 hk3
        exact ⟨_, _, hr, .inr ⟨rfl, .ret, (hIx _).putObj _ hi3 (by omega) hl3 hbzc, hl4, hk4⟩⟩
      | exit id =>
        obtain ⟨hk3, hi3⟩ := hp
        obtain ⟨hr, hl3, hl4, hk4⟩ := fin (some (.exit id)) W3 hk3
        exact ⟨_, _, hr, .inr ⟨rfl, .exit id, (hIx _).putObj _ hi3 (by omega) hl3 hbzc, hl4, hk4⟩⟩
      | goto t =>
        obtain ⟨hk3, hi3⟩ := hp
        obtain ⟨hr, hl3, hl4, hk4⟩ := fin (some (.goto t)) W3 hk3
        exact ⟨_, _, hr, .inr ⟨rfl, .goto t, (hIx _).putObj _ hi3 (by omega) hl3 hbzc, hl4, hk4⟩⟩
      | panic ch => exact hp.elim
      | outgrown => exact hp.elim
    · rintro e W2 ⟨⟨v, rfl⟩, (⟨xs, hS, hi, hl, hk⟩ | ⟨pre, hSp, c, hi, hl, hk⟩)⟩
      · exact ⟨none, _, by have := run_endLoop (P := P) hl (by rw [hrec]; simp); rw [hrec] at this; exact this, hdone _ xs _ (Nat.le_refl _) hS (hI.putObj _ hi (by omega) hl rfl) ((World.putObj_heap_other (by omega)).trans hk)⟩
      · exact ⟨some c, _, by have := run_endLoop (P := P) hl (by rw [hrec]; simp); rw [hrec] at this; exact this, hstop _ c pre _ (Nat.le_refl _) hSp ((hIx c).putObj _ hi (by omega) hl rfl) ((World.putObj_heap_other (by omega)).trans hk)⟩
end Go.Proofs.Ytciheadencbmjaa.Rng
