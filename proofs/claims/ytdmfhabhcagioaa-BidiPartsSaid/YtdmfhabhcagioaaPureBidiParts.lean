/- For every two lines, of which the first one ends and the second one begins with a letter of a direction: together they are seen, in this direction, as both beside each other (up to 150 bytes each). Conditions: those of the statement alone. -/
import Derived.Test.YtdmfhabhcagioaaPx13
import Derived.Test.YtdmfhabhcagioaaHPures2
set_option linter.unusedVariables false
set_option linter.unusedSimpArgs false
namespace Go.Proofs.Ytdmfhabhcagioaa.Pure
open Go.RowKit Go.Proofs.Ytdmfhabhcagioaa.P Go.Proofs.YtdmfhabhcagioaaW.PrintWords Go.Proofs.YtdmfhabhcagioaaW.PrintLast Go.Bidi
theorem bytes_app (a b : ByteArray) : bytesOf (a ++ b) = bytesOf a ++ bytesOf b := by
  unfold bytesOf
  rw [ByteArray.data_append, Array.toList_append, List.map_append]
theorem str_app (u v : List Int) : strOfNums u ++ strOfNums v = strOfNums (u ++ v) := by
  refine ByteArray.ext ?_
  rw [ByteArray.data_append]
  unfold strOfNums
  simp
theorem valid_classes (s : ByteArray) : validB s = ((classes s).all (fun c => c != 0) && decide (s.size ≤ 2000)) := by
  unfold validB classes bytesOf
  congr 1
  rw [List.map_map, List.all_map]
  rfl
theorem line_app {a b : ByteArray} {dir : Int} (ha : lineB a dir = true) (hb : lineB b dir = true) (h1 : a.size ≤ 150) (h2 : b.size ≤ 150) : lineB (a ++ b) dir = true := by
  have hl := line_of ha
  unfold lineB at ha hb ⊢
  rw [valid_classes] at ha hb ⊢
  have hc : classes (a ++ b) = classes a ++ classes b := by unfold classes; rw [bytes_app, List.map_append]
  have hs : (a ++ b).size = a.size + b.size := ByteArray.size_append
  rw [hc, hs, List.all_append]
  simp only [Bool.and_eq_true, Bool.or_eq_true, decide_eq_true_eq, beq_iff_eq] at ha hb ⊢
  exact ⟨⟨⟨ha.1.1, hb.1.1⟩, by omega⟩, hl.2⟩
theorem vis_parts {a b : ByteArray} {dir : Int} (hd : dir = 0 ∨ dir = 1) (h : ((bytesOf a).map cls).getLast? = some (1 + dir)) :
    visOf (a ++ b) dir = if dir = 1 then visOf b dir ++ visOf a dir else visOf a dir ++ visOf b dir := by
  rw [vis_seen, vis_seen, vis_seen, bytes_app]
  exact seen_parts 0 cls hd _ _ h
theorem cat_ev (a b : ByteArray) (dir : Int) (h1 : a.size ≤ 150) (h2 : b.size ≤ 150) (ha : lineB a dir = true) (hb : lineB b dir = true) (hz : 0 < a.size) (hc : cls (bt a ((a.size : Int) - 1)) = 1 + dir) :
    ∀ q, q = false → Ev (fun k => formelaw09_BidiParts.j1 k a b dir true q) true := fun q hq => by
  have hl := line_of ha
  have hlast : ((bytesOf a).map cls).getLast? = some (1 + dir) := by
    have hlen : ((bytesOf a).map cls).length = a.size := by rw [List.length_map, bytesOf_length]
    rw [List.getLast?_eq_getElem?, hlen]
    have := cls_at a (a.size - 1) (by omega)
    unfold classes at this
    rw [this, show ((a.size - 1 : Nat) : Int) = (a.size : Int) - 1 by omega, hc]
  have hv := vis_parts (b := b) hl.2 hlast
  refine Ev.step (fun k => rfl) (EvT.ifn (by rw [hq]; decide) (Ev.bind (vis_ev ha) (Ev.bind (vis_ev hb) (EvT.ifp (by omega) (Ev.bind (vis_ev (line_app ha hb h1 h2)) ?_)))))
  refine EvT.ifp (by rw [vis_size, vis_size]; omega) (EvT.ite (fun hd => ?_) (fun hd => ?_))
  · refine EvT.ifp (by rw [vis_size, vis_size]; omega) (EvT.ifp rfl (EvT.ifp rfl (EvT.ifp rfl (EvT.ifp rfl ?_))))
    rw [hv, if_pos hd, str_app, beq_self_eq_true]
    exact Ev.now _
  · refine EvT.ifp rfl (EvT.ifp rfl (EvT.ifp rfl (EvT.ifp rfl ?_)))
    rw [hv, if_neg hd, str_app, beq_self_eq_true]
    exact Ev.now _
theorem ends_ev (a b : ByteArray) (dir : Int) (h1 : a.size ≤ 150) (h2 : b.size ≤ 150) (ha : lineB a dir = true) (hb : lineB b dir = true) (hz : 0 < a.size) (hz2 : 0 < b.size) :
    ∀ q, q = false → Ev (fun k => formelaw09_BidiParts.j0 k a b dir true q) true := fun q hq => by
  have hl := line_of ha
  have e1 : wrap64 ((a.size : Int) - 1) = (a.size : Int) - 1 := EvT.w64 (by omega) (by omega)
  have e2 : wrap64 (1 + dir) = 1 + dir := EvT.w64 (by omega) (by omega)
  refine Ev.step (fun k => rfl) (EvT.ifn (by rw [hq]; decide) (EvT.ifp (by rw [e1]; omega) (EvT.ifp (by rw [e1]; omega) ?_)))
  rw [e1, e2]
  refine Ev.bind (class_ev _) (EvT.ite (fun h => EvT.ifp (by omega) (Ev.bind (class_ev _) ?_)) (fun h => Ev.step (fun k => rfl) (Ev.now _)))
  have hJ : ∀ q, (cls (bt b 0) != 1 + dir) = q → Ev (fun k => formelaw09_BidiParts.j1 k a b dir true q) true := fun q hq => by
    cases q
    · exact cat_ev a b dir h1 h2 ha hb hz h _ rfl
    · exact Ev.step (fun k => rfl) (Ev.now _)
  exact hJ _ rfl
theorem BidiParts : formelaw09_BidiParts.Pure := fun a b dir hs hs2 _ => Ev.rounds (by
  have triv : Ev (fun k => formelaw09_BidiParts.j0 k a b dir true true) true := Ev.step (fun k => rfl) (Ev.now _)
  refine Ev.bind head_ev (EvT.ifp rfl (EvT.ite (fun h => triv) (fun h => EvT.ite (fun h2 => triv) (fun h2 => Ev.bind (line_ev a dir hs) ?_))))
  cases ha : lineB a dir
  · exact EvT.ifn (by decide) triv
  · refine EvT.ifp rfl (Ev.bind (line_ev b dir hs2) ?_)
    cases hb : lineB b dir
    · exact EvT.ifn (by decide) triv
    · refine EvT.ifp rfl (EvT.ite (fun h0 => triv) (fun h0 => ?_))
      have hJ : ∀ q, ((b.size : Int) == 0) = q → Ev (fun k => formelaw09_BidiParts.j0 k a b dir true q) true := fun q hq => by
        cases q
        · exact ends_ev a b dir (by omega) (by omega) ha hb (by omega) (by have := beq_eq_false_iff_ne.1 hq; omega) _ rfl
        · exact triv
      exact hJ _ rfl)
end Go.Proofs.Ytdmfhabhcagioaa.Pure
