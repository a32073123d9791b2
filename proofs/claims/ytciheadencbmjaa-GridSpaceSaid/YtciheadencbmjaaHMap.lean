import Derived.Test.YtciheadencbmjaaHWidths
import Derived.WideKeyEntry
set_option linter.unusedVariables false
set_option linter.unusedSimpArgs false
namespace Go.Proofs.Ytciheadencbmjaa.P
open Go.RowKit Go.Proofs.YtciheadencbmjaaW.PrintWords Go.Proofs.YtciheadencbmjaaW.PrintLast Go.Proofs.YtciheadencbmjaaW.PrintMore Go.Proofs.Ytciheadencbmjaa.Rng
open Go.Maps (Keyed int_keyed keyOf_int_mk)
open Go.ChangeMaps Go.MapKept

/-- Block b is a map of whole numbers: p says what it holds (0 where nothing stands). -/
def MapAt (w : World) (b n : Nat) (p : Int → Int) : Prop := ∃ D, w.ownsMap Try.prog 3 (plainElem (H := Unit) Try.prog 3) b n D ∧ ∀ j : Int, D.atKey (.int .i64 j) (.lit (.int .i64 0)) = .lit (.int .i64 (p j))
def updI (p : Int → Int) (j v : Int) : Int → Int := fun i => if i = j then v else p i
theorem kwf (a : Int) (h0 : -9223372036854775808 ≤ a) (h1 : a ≤ 9223372036854775807) : keyOf Try.prog 3 (.int .i64 a) = some (.int .i64 a) := keyOf_int_mk Try.underlying3 (wf_i64 _ h0 h1)
theorem MapAt.heap {w w' : World} {b n : Nat} {p : Int → Int} (h : MapAt w b n p) (e : w'.heap[b]? = w.heap[b]?) : MapAt w' b n p := by
  obtain ⟨D, h, hD⟩ := h
  exact ⟨D, ownsMap_heap h e, hD⟩
theorem MapAt.lt {w : World} {b n : Nat} {p : Int → Int} (h : MapAt w b n p) : b < w.heap.size := by
  obtain ⟨D, h, _⟩ := h
  exact h.lt
theorem MapAt.block {w : World} {b n : Nat} {p : Int → Int} (h : MapAt w b n p) : ∃ es clock, w.heap[b]? = some (.map es clock) := by
  obtain ⟨D, ⟨es, clock, hb, _⟩, _⟩ := h
  exact ⟨es, clock, hb⟩
theorem MapAt.made (w : World) : MapAt (w.alloc (.map #[] 0)) w.heap.size 0 (fun _ => 0) := ⟨.map [], World.ownsMap_made w _ _ _, fun _ => rfl⟩
theorem MapAt.look {w : World} {b n : Nat} {p : Int → Int} (h : MapAt w b n p) {j : Int} (h0 : -9223372036854775808 ≤ j) (h1 : j ≤ 9223372036854775807) :
    (Instr.lookup 58 (.map (some b)) (.int .i64 j) false).run Try.prog w = .ok (.int .i64 (p j)) w := by
  obtain ⟨D, h, hD⟩ := h
  obtain ⟨c, hrun, hat, _⟩ := h.lookup_int keyed3 um48 Try.underlying3 (z3 w) (kwf j h0 h1)
  rw [hD j] at hat
  injection hat with hat
  injection hat with _ hat
  rw [hrun, ← hat]
theorem put_at {D : DataW Unit} {p : Int → Int} (hm : Go.Maps.IsMap D) (hD : ∀ j : Int, D.atKey (.int .i64 j) (.lit (.int .i64 0)) = .lit (.int .i64 (p j))) (j v : Int) (i : Int) :
    (D.put (.int .i64 j) (.lit (.int .i64 v))).atKey (.int .i64 i) (.lit (.int .i64 0)) = .lit (.int .i64 (updI p j v i)) := by
  unfold updI
  by_cases e : i = j
  · subst e
    rw [if_pos rfl]
    exact Go.Maps.atKey_put_same hm (show WideAt.IsKeyLit (.int .i64 i) from trivial) _ _
  · rw [if_neg e, Go.Maps.atKey_put_other (by intro h; injection h with _ h; exact e h)]
    exact hD i
theorem MapAt.put {w : World} {b n : Nat} {p : Int → Int} (h : MapAt w b n p) (hn : n < maxLen) {j v : Int} (h0 : -9223372036854775808 ≤ j) (h1 : j ≤ 9223372036854775807) (v0 : -9223372036854775808 ≤ v) (v1 : v ≤ 9223372036854775807) :
    ∃ w', (Instr.mapUpdate 58 (.map (some b)) (.int .i64 j) (.int .i64 v)).run Try.prog w = .ok () w' ∧ MapAt w' b (n + 1) (updI p j v) ∧ w.grownBy w' (some b) := by
  obtain ⟨D, h, hD⟩ := h
  have hm : Go.Maps.IsMap D := by obtain ⟨_, _, _, _, _, rfl⟩ := h; exact ⟨_, rfl⟩
  obtain ⟨w', hrun, hown, hg⟩ := h.update keyed3 um48 hn (kwf j h0 h1) (plainElem_int Try.underlying3 (wf_i64 v v0 v1))
  exact ⟨w', hrun, ⟨_, hown, put_at hm hD j v⟩, hg⟩
/-- 'm[k] op= v': the entry first, then the value. -/
theorem MapAt.entry {w : World} {b n : Nat} {p : Int → Int} (h : MapAt w b n p) (hn : n < maxLen) {j : Int} (h0 : -9223372036854775808 ≤ j) (h1 : j ≤ 9223372036854775807) :
    ∃ (v0 : Value) (st : Nat) (w1 : World), (Instr.mapEntry 58 (.map (some b)) (.int .i64 j)).run Try.prog w = .ok (.tuple #[v0, goInt st]) w1 ∧ MapAt w1 b (n + 1) p ∧ w.grownBy w1 (some b) ∧
      ∀ (w2 : World) (v : Int), -9223372036854775808 ≤ v → v ≤ 9223372036854775807 → w2.heap[b]? = w1.heap[b]? →
        ∃ w3, (Instr.entryStore 58 (.map (some b)) (goInt st) (.int .i64 v)).run Try.prog w2 = .ok () w3 ∧ MapAt w3 b (n + 1) (updI p j v) ∧ w2.grownBy w3 (some b) := by
  obtain ⟨D, h, hD⟩ := h
  have hm : Go.Maps.IsMap D := by obtain ⟨_, _, _, _, _, rfl⟩ := h; exact ⟨_, rfl⟩
  have hup := fun v v0 v1 => h.update keyed3 um48 hn (kwf j h0 h1) (plainElem_int Try.underlying3 (wf_i64 v v0 v1))
  obtain ⟨es, clock, hb, F, hs, hDD⟩ := id h
  have hkey := kwf j h0 h1
  obtain ⟨s1, s2, _⟩ := F.stamped
  have gr : ∀ {W : World} {es1 : Array MapEntry} {c1 : Nat} (o : Obj), W.heap[b]? = some (.map es1 c1) → W.grownBy (setBlock W b o) (some b) := fun {W es1 c1} o hW =>
    ⟨rfl, rfl, rfl, by simp [setBlock], fun i _ hi => heap_setBlock_other hW _ (fun e => hi (by rw [e]))⟩
  rcases keyed3.find w hkey es.toList F.keys with ⟨f1, f2⟩ | ⟨k, e0, f1, f2, f3⟩
  · have hdir : ∀ val : Value, (Instr.mapUpdate 58 (.map (some b)) (.int .i64 j) val).run Try.prog w = .ok () (setBlock w b (.map (es.push ⟨.int .i64 j, val, clock⟩) (clock + 1))) := fun val => by
      simp [Instr.mapUpdate, run_underlying um48, MapKept.run_getObj_map hb, keyed3.check w false hkey, f1, MapKept.run_setObj_map _ hb, Result.andThen, setBlock]
    refine ⟨.int .i64 0, clock, setBlock w b (.map (es.push ⟨.int .i64 j, .int .i64 0, clock⟩) (clock + 1)), ?_, ?_, gr _ hb, fun w2 v v0 v1 hw2 => ?_⟩
    · simp [Instr.mapEntry, run_underlying um48, MapKept.run_getObj_map hb, keyed3.check w false hkey, f1, z3, MapKept.run_setObj_map _ hb, Result.andThen, setBlock]
    · obtain ⟨w', hrun, hown, _⟩ := hup 0 (by decide) (by decide)
      rw [hdir] at hrun
      injection hrun with _ hrun
      refine ⟨_, hrun ▸ hown, fun i => ?_⟩
      have hz : D.atKey (.int .i64 j) (.lit (.int .i64 0)) = .lit (.int .i64 0) := by
        rw [hDD]
        rcases Go.Maps.fit_look false keyed3 um48 (z3 w) hb F hkey with ⟨_, _, hat⟩ | ⟨e0, y, h1, h2, _⟩
        · exact hat _
        · exact absurd h2 (f2 e0 h1)
      rw [put_at hm hD j 0 i]
      unfold updI
      by_cases e : i = j
      · subst e
        rw [if_pos rfl, ← hz, hD i]
      · rw [if_neg e]
    · obtain ⟨w', hrun, hown, _⟩ := hup v v0 v1
      rw [hdir] at hrun
      injection hrun with _ hrun
      subst hrun
      have hw2' : w2.heap[b]? = some (.map (es.push ⟨.int .i64 j, .int .i64 0, clock⟩) (clock + 1)) := hw2.trans (heap_setBlock_same hb _)
      refine ⟨setBlock w2 b (.map (es.push ⟨.int .i64 j, .int .i64 v, clock⟩) (clock + 1)), ?_, ⟨_, ownsMap_heap hown ((heap_setBlock_same hw2' _).trans (heap_setBlock_same hb _).symm), put_at hm hD j v⟩, gr _ hw2'⟩
      have hidx : (es.push ⟨.int .i64 j, .int .i64 0, clock⟩).findIdx? (fun e => ((e.born : Nat) : Int) == ((clock : Nat) : Int)) = some es.size := by
        rw [Go.WideElems.findIdx_arr]
        exact Go.WideElems.findIdx_born (l := (es.push ⟨.int .i64 j, .int .i64 0, clock⟩).toList) (j := es.size) (e0 := ⟨.int .i64 j, .int .i64 0, clock⟩) (by
          simp only [Array.toList_push, List.map_append, List.map_cons, List.map_nil]
          refine List.nodup_append.2 ⟨s2, by simp, fun a ha c hc e1 => ?_⟩
          simp only [List.mem_singleton] at hc
          obtain ⟨x, hx, rfl⟩ := List.mem_map.1 ha
          have := s1 x hx
          omega) (by simp)
      have hmod : (es.push ⟨.int .i64 j, .int .i64 0, clock⟩).modify es.size (fun e => { e with val := .int .i64 v }) = es.push ⟨.int .i64 j, .int .i64 v, clock⟩ := by
        apply Array.ext'
        rw [Array.toList_modify, Array.toList_push, Array.toList_push, ← Array.length_toList, Go.WideElems.modify_last]
      simp [Instr.entryStore, MapKept.run_getObj_map hw2', asInt, asIntOf, goInt, hidx, hmod, MapKept.run_setObj_map _ hw2', Result.andThen, setBlock]
  · have hj : es[k]? = some e0 := by simpa using f2
    have hsame : es.modify k (fun e => { e with key := .int .i64 j }) = es := by
      apply Array.ext'
      rw [Array.toList_modify, modify_eq_set _ _ _ _ f2]
      have : ({ e0 with key := .int .i64 j } : MapEntry) = e0 := by rw [← f3]
      rw [this]
      exact Go.WideElems.set_self _ _ _ f2
    have hb1 : (setBlock w b (.map es clock)).heap[b]? = some (.map es clock) := heap_setBlock_same hb _
    refine ⟨e0.val, e0.born, setBlock w b (.map es clock), ?_, ⟨D, (ownsMap_heap h (hb1.trans hb.symm)).mono (Nat.le_succ n), hD⟩, gr _ hb, fun w2 v v0 v1 hw2 => ?_⟩
    · simp [Instr.mapEntry, run_underlying um48, MapKept.run_getObj_map hb, keyed3.check w false hkey, f1, hj, f3, keyed3.stays w hkey, hsame, MapKept.run_setObj_map _ hb, Result.andThen, setBlock]
    · have hw2' := hw2.trans hb1
      obtain ⟨w', hrun, hown, _⟩ := hup v v0 v1
      have hdir : (Instr.mapUpdate 58 (.map (some b)) (.int .i64 j) (.int .i64 v)).run Try.prog w = .ok () (setBlock w b (.map (es.modify k (fun e' => { e' with key := .int .i64 j, val := .int .i64 v })) clock)) := by
        simp [Instr.mapUpdate, run_underlying um48, MapKept.run_getObj_map hb, keyed3.check w false hkey, f1, hj, f3, keyed3.stays w hkey, MapKept.run_setObj_map _ hb, Result.andThen, setBlock]
      rw [hdir] at hrun
      injection hrun with _ hrun
      subst hrun
      refine ⟨setBlock w2 b (.map (es.modify k (fun e' => { e' with key := .int .i64 j, val := .int .i64 v })) clock), ?_, ⟨_, ownsMap_heap hown ((heap_setBlock_same hw2' _).trans (heap_setBlock_same hb _).symm), put_at hm hD j v⟩, gr _ hw2'⟩
      have hidx : es.findIdx? (fun e => ((e.born : Nat) : Int) == ((e0.born : Nat) : Int)) = some k := by
        rw [Go.WideElems.findIdx_arr]
        exact Go.WideElems.findIdx_born s2 f2
      have hmod : es.modify k (fun e => { e with val := .int .i64 v }) = es.modify k (fun e' => { e' with key := .int .i64 j, val := .int .i64 v }) := by
        apply Array.ext'
        rw [Array.toList_modify, Array.toList_modify, modify_eq_set _ _ _ _ f2, modify_eq_set _ _ _ _ f2, ← f3]
      simp [Instr.entryStore, MapKept.run_getObj_map hw2', asInt, asIntOf, goInt, hidx, hmod, MapKept.run_setObj_map _ hw2', Result.andThen, setBlock]

/-- Only the blocks T and new ones have turned. -/
def KeepP (T : Nat → Prop) (W0 W : World) : Prop := W0.heap.size ≤ W.heap.size ∧ ∀ k, k < W0.heap.size → ¬ T k → W.heap[k]? = W0.heap[k]?
theorem KeepP.refl (T : Nat → Prop) (W : World) : KeepP T W W := ⟨Nat.le_refl _, fun _ _ _ => rfl⟩
theorem keepP_from {β : Type} {T : Nat → Prop} {W0 : World} : OwnFrom W0.heap.size (fun (_ : β) W => KeepP T W0 W) := fun _ W W' row hs hg hr =>
  ⟨Nat.le_trans hs.1 hg.size, fun k hk hne => (hg.block k (Nat.lt_of_lt_of_le hk hs.1) (fun e => by have := (hr k e.symm).1; omega)).trans (hs.2 k hk hne)⟩
theorem KeepP.ofO {T : Nat → Prop} {O : Nat → Prop} {W0 A B : World} (h : KeepP T W0 A) (hb : BelowO O A B) (hO : ∀ k, O k → W0.heap.size ≤ k ∨ T k) : KeepP T W0 B :=
  ⟨Nat.le_trans h.1 hb.size, fun k hk hne => (hb.block k (Nat.lt_of_lt_of_le hk h.1) (fun ho => by rcases hO k ho with h | h; omega; exact hne h)).trans (h.2 k hk hne)⟩
theorem KeepP.below {T : Nat → Prop} {W0 A B : World} (h : KeepP T W0 A) (hb : Below A.heap.size A B) : KeepP T W0 B :=
  ⟨Nat.le_trans h.1 hb.size, fun k hk hne => (hb.block k (Nat.lt_of_lt_of_le hk h.1)).trans (h.2 k hk hne)⟩
theorem KeepP.grown {T : Nat → Prop} {W0 A B : World} (h : KeepP T W0 A) {row : Option Nat} (hg : A.grownBy B row) (hr : ∀ k, row = some k → W0.heap.size ≤ k ∨ T k) : KeepP T W0 B :=
  ⟨Nat.le_trans h.1 hg.size, fun k hk hne => (hg.block k (Nat.lt_of_lt_of_le hk h.1) (fun e => by rcases hr k e.symm with h | h; omega; exact hne h)).trans (h.2 k hk hne)⟩
theorem KeepP.set {T : Nat → Prop} {W0 A : World} (h : KeepP T W0 A) (b q : Nat) (hb : W0.heap.size ≤ b ∨ T b) (v : Value) : KeepP T W0 (A.setCell ⟨b, q, none⟩ v) :=
  ⟨by rw [sz_set]; exact h.1, fun k hk hne => (Below.heap_setCell A ⟨b, q, none⟩ v k (fun e => by rcases hb with h | h; (subst e; omega); exact hne (e ▸ h))).trans (h.2 k hk hne)⟩
theorem KeepP.drew {T : Nat → Prop} {W0 A : World} (h : KeepP T W0 A) : KeepP T W0 A.drew := h
theorem KeepP.alloc {T : Nat → Prop} {W0 A : World} (h : KeepP T W0 A) (o : Obj) : KeepP T W0 (A.alloc o) := h.below ((Below.refl _ A).alloc (Nat.le_refl _) o)
theorem KeepP.put {T : Nat → Prop} {W0 A : World} (h : KeepP T W0 A) (b : Nat) (hb : W0.heap.size ≤ b) (o : Obj) : KeepP T W0 (A.putObj b o) :=
  ⟨by rw [World.putObj_size]; exact h.1, fun k hk hne => (World.putObj_heap_other (by omega)).trans (h.2 k hk hne)⟩
theorem KeepP.trans {T : Nat → Prop} {W0 A B : World} (h : KeepP T W0 A) (h2 : KeepP T A B) : KeepP T W0 B := ⟨Nat.le_trans h.1 h2.1, fun k hk hne => (h2.2 k (Nat.lt_of_lt_of_le hk h.1) hne).trans (h.2 k hk hne)⟩
theorem KeepP.box {T : Nat → Prop} {c : Nat} {W0 A : World} {t : TypeId} {v : Value} (h : KeepP T W0 A) (hv : Boxed W0 c t v) (hne : ¬ T c) : Boxed A c t v := (h.2 _ hv.lt hne).trans hv
theorem KeepP.row {T : Nat → Prop} {W0 A : World} (h : KeepP T W0 A) {Ad : Option Addr} {xs : List Int} (hC : Kd.C (Kd.int .i64) W0 Ad xs.length xs) (hne : ∀ ad, Ad = some ad → 0 < xs.length → ¬ T ad.block) : Kd.C (Kd.int .i64) A Ad xs.length xs :=
  C_keep hC fun ad e hn => h.2 _ (row_block hC ad e hn) (hne ad e hn)
end Go.Proofs.Ytciheadencbmjaa.P
