import Derived.Test.YtciheadencbmjaaHRange
set_option linter.unusedVariables false
set_option linter.unusedSimpArgs false
namespace Go.Proofs.Ytciheadencbmjaa.Rng
open Go.RowKit

/-! The same where the iterator has variables of its own that it writes between two rounds: the blocks of 'O'. -/
structure BelowO (O : Nat → Prop) (w w' : World) : Prop where
  os : w'.os = w.os
  tape : w'.tape = w.tape
  output : w'.output = w.output
  size : w.heap.size ≤ w'.heap.size
  block : ∀ i, i < w.heap.size → ¬ O i → w'.heap[i]? = w.heap[i]?
theorem BelowO.of {O : Nat → Prop} {w w' : World} (h : Below w.heap.size w w') : BelowO O w w' := ⟨h.os, h.tape, h.output, h.size, fun i hi _ => h.block i hi⟩
theorem BelowO.refl (O : Nat → Prop) (w : World) : BelowO O w w := ⟨rfl, rfl, rfl, Nat.le_refl _, fun _ _ _ => rfl⟩
theorem BelowO.trans {O : Nat → Prop} {a b c : World} (h : BelowO O a b) (k : BelowO O b c) : BelowO O a c :=
  ⟨k.os.trans h.os, k.tape.trans h.tape, k.output.trans h.output, Nat.le_trans h.size k.size, fun i hi ho => (k.block i (Nat.lt_of_lt_of_le hi h.size) ho).trans (h.block i hi ho)⟩
theorem BelowO.drew {O : Nat → Prop} {a b : World} (h : BelowO O a b) : BelowO O a b.drew := ⟨h.os, h.tape, h.output, h.size, h.block⟩
theorem BelowO.setCell {O : Nat → Prop} {a b : World} (h : BelowO O a b) {p : Addr} (hp : O p.block) (v : Value) : BelowO O a (b.setCell p v) where
  os := h.os
  tape := h.tape
  output := h.output
  size := by
    have hs : (b.setCell p v).heap.size = b.heap.size := by show (b.heap.modify _ _).size = _; rw [Array.size_modify]
    rw [hs]; exact h.size
  block := fun i hi ho => (Below.heap_setCell b p v i (fun e => ho (e ▸ hp))).trans (h.block i hi ho)
theorem belowO_putObj {O : Nat → Prop} {W0 W1 : World} (h : BelowO O W0 W1) {l : Nat} (hl : l < W0.heap.size) (o : Obj) : BelowO O (W0.putObj l o) (W1.putObj l o) where
  os := h.os
  tape := h.tape
  output := h.output
  size := by simp; exact h.size
  block := fun k hk ho => by
    rw [World.putObj_size] at hk
    by_cases e : k = l
    · subst e
      rw [World.putObj_heap_same hl, World.putObj_heap_same (Nat.lt_of_lt_of_le hl h.size)]
    · rw [World.putObj_heap_other e, World.putObj_heap_other e]
      exact h.block k hk ho
end Go.Proofs.Ytciheadencbmjaa.Rng
