/- For every line and direction: of two neighbouring letters of class 1, or digits, the second one is seen directly to the right of the first one; of two letters of class 2 directly to the left (up to 300 bytes). Conditions: those of the statement alone. -/
import Derived.Test.YtdmfhabhcagioaaPx11
import Derived.Test.YtdmfhabhcagioaaHPures2
set_option linter.unusedVariables false
set_option linter.unusedSimpArgs false
namespace Go.Proofs.Ytdmfhabhcagioaa.Pure
open Go.RowKit Go.Proofs.Ytdmfhabhcagioaa.P Go.Proofs.YtdmfhabhcagioaaW.PrintWords Go.Proofs.YtdmfhabhcagioaaW.PrintLast Go.Bidi
theorem place_split {s : ByteArray} {dir : Int} {y : List Int} (hy : Places (ordOf s dir) y s.size) {a b : Nat} (ha : a < s.size) (hb : b < s.size) {X Y : List Int} (e : ordOf s dir = X ++ (a : Int) :: (b : Int) :: Y) : rd y (b : Int) = rd y (a : Int) + 1 := by
  have hl := ord_len s dir
  rw [e] at hl
  simp at hl
  have h1 := hy.at_ X.length (by omega) a (by rw [e]; simp)
  have h2 := hy.at_ (X.length + 1) (by omega) b (by rw [e]; simp)
  rw [h1, h2]; omega
theorem upd_upd (now c : Int) : upd (upd now c) c = upd now c := by
  unfold upd
  split
  · rfl
  · split <;> rfl
theorem dirs_pair (dir c : Int) (hc : ¬ c > 3) : ∀ (cs : List Int) (now : Int) (i : Nat), cs[i]? = some c → cs[i + 1]? = some c → (dirs dir now cs)[i + 1]? = (dirs dir now cs)[i]?
  | [], _, i, h0, _ => by simp at h0
  | x :: r, now, 0, h0, h1 => by
    obtain rfl : x = c := by simpa using h0
    cases r with
    | nil => simp at h1
    | cons z r =>
      obtain rfl : z = x := by simpa using h1
      simp [dirs, hc, upd_upd]
  | x :: r, now, i + 1, h0, h1 => by
    simp only [dirs, List.getElem?_cons_succ]
    exact dirs_pair dir c hc r _ i (by simpa using h0) (by simpa using h1)
theorem lev_same {s : ByteArray} {dir : Int} (hd : dir = 0 ∨ dir = 1) {i : Nat} (hi : i + 1 < s.size) {c : Int} (h0 : cls (bt s (i : Int)) = c) (h1 : cls (bt s ((i + 1 : Nat) : Int)) = c) (hc : c = 1 ∨ c = 3) :
    ∃ n : Int, (n = 0 ∨ n = 2) ∧ (levels dir (classes s))[i]? = some n ∧ (levels dir (classes s))[i + 1]? = some n := by
  have c0 := cls_at s i (by omega)
  have c1 := cls_at s (i + 1) hi
  rw [h0] at c0
  rw [h1] at c1
  obtain ⟨n, _, l0⟩ := lev_at (s := s) (dir := dir) i (by omega)
  have hd1 := dirs_pair dir c (by omega) (classes s) dir i c0 c1
  have hl : (levels dir (classes s))[i + 1]? = (levels dir (classes s))[i]? := by
    unfold levels
    rw [List.getElem?_zipWith, List.getElem?_zipWith, hd1, c0, c1]
  have ha := levels_all hd (classes s) i (by rw [classes_length]; omega) n c l0 c0
  refine ⟨n, ?_, l0, hl.trans l0⟩
  have := ha.2.2.2 hc
  omega
theorem lev_two {s : ByteArray} {dir : Int} (hd : dir = 0 ∨ dir = 1) {i : Nat} (hi : i < s.size) (h0 : cls (bt s (i : Int)) = 2) : (levels dir (classes s))[i]? = some 1 := by
  have c0 := cls_at s i hi
  rw [h0] at c0
  obtain ⟨n, _, l0⟩ := lev_at (s := s) (dir := dir) i hi
  have ha := levels_all hd (classes s) i (by rw [classes_length]; exact hi) n 2 l0 c0
  rw [l0, ha.2.2.1 rfl]
theorem neigh_loop (s : ByteArray) (dir : Int) (hd : dir = 0 ∨ dir = 1) (y : List Int) (hy : Places (ordOf s dir) y s.size) (hs : s.size ≤ 2000) : ∀ (d i : Nat), i + d = s.size → 1 ≤ i →
    Ev (fun k => formelaw09_BidiNeighbours.l0 k s true y (i : Int)) true
  | 0, i, e, hi1 => by
    obtain rfl : i = s.size := by omega
    exact Ev.step (fun k => rfl) (EvT.ifn (by omega) (Ev.now _))
  | d + 1, i, e, hi1 => by
    obtain ⟨m, rfl⟩ : ∃ m, i = m + 1 := ⟨i - 1, by omega⟩
    have hi : m + 1 < s.size := by omega
    have hyl := hy.len
    have IH := neigh_loop s dir hd y hy hs d (m + 1 + 1) (by omega) (by omega)
    have e1 : wrap64 (((m + 1 : Nat) : Int) - 1) = (m : Int) := by rw [EvT.w64 (by omega) (by omega)]; omega
    have e2 : wrap64 (((m + 1 : Nat) : Int) + 1) = ((m + 1 + 1 : Nat) : Int) := EvT.w64 (by omega) (by omega)
    refine Ev.step (fun k => rfl) (EvT.ifp (by omega) (EvT.ifp (by omega) (Ev.bind (class_ev _) (EvT.ifp (by rw [e1]; omega) (EvT.ifp (by rw [e1]; omega) ?_)))))
    rw [e1, e2]
    refine Ev.bind (class_ev _) (EvT.ite (fun hcc => ?_) (fun _ => IH))
    obtain ⟨c, hc⟩ : ∃ c, cls (bt s (m : Int)) = c := ⟨_, rfl⟩
    have hb : ∀ q : Nat, q < s.size → 0 ≤ rd y (q : Int) ∧ rd y (q : Int) ≤ 2000 := fun q hq => by
      obtain ⟨k, hk, ek⟩ := ord_surj (s := s) (dir := dir) q hq
      rw [hy.at_ k hk q ek]; omega
    have b0 := hb m (by omega)
    have b1 := hb (m + 1) hi
    have w1 : wrap64 (rd y (m : Int) + 1) = rd y (m : Int) + 1 := EvT.w64 (by omega) (by omega)
    have w2 : wrap64 (rd y (m : Int) - 1) = rd y (m : Int) - 1 := EvT.w64 (by omega) (by omega)
    have hup : c = 1 ∨ c = 3 → rd y ((m + 1 : Nat) : Int) = rd y (m : Int) + 1 := fun h => by
      obtain ⟨n, hn, l0, l1⟩ := lev_same hd hi hc (hcc.trans hc) h
      obtain ⟨X, Y, e⟩ := order_next l0 l1 hn
      exact place_split hy (by omega) hi e
    have hdn : c = 2 → rd y ((m + 1 : Nat) : Int) = rd y (m : Int) - 1 := fun h => by
      subst h
      obtain ⟨X, Y, e⟩ := order_prev (lev_two hd (i := m) (by omega) hc) (lev_two hd hi (hcc.trans hc))
      have := place_split hy hi (by omega) e
      omega
    rw [hcc, hc, w1, w2]
    refine EvT.ifp rfl (EvT.ite (fun h1 => EvT.ifp (by omega) (EvT.ifp (by omega) (EvT.ifp (hup (.inl h1)) (EvT.ifn (by omega) IH)))) (fun h1 => EvT.ite (fun h3 => EvT.ifp (by omega) (EvT.ifp (by omega) (EvT.ifp (hup (.inr h3)) (EvT.ifn (by omega) IH)))) (fun h3 => EvT.ite (fun h2 => EvT.ifp (by omega) (EvT.ifp (by omega) ?_)) (fun h2 => IH))))
    rw [hdn h2, beq_self_eq_true]
    exact IH
theorem BidiNeighbours : formelaw09_BidiNeighbours.Pure := fun s dir hs _ => Ev.rounds (by
  refine Ev.bind head_ev (EvT.ifp rfl (EvT.ite (fun h => Ev.step (fun k => rfl) (Ev.now _)) (fun h => Ev.bind (line_ev s dir hs) ?_)))
  have hJ : ∀ b, lineB s dir = b → Ev (fun k => formelaw09_BidiNeighbours.j0 k s dir true (!b)) true := fun b hb => by
    cases b
    · exact Ev.step (fun k => rfl) (Ev.now _)
    · have hl := line_of hb
      obtain ⟨y, hy, hE⟩ := places_ev hb
      have hM : ∀ b, b = false → Ev (fun k => formelaw09_BidiNeighbours.j0 k s dir true b) true := fun b hb2 => by
        refine Ev.step (fun k => rfl) (EvT.ifn (by rw [hb2]; decide) (Ev.bind hE (EvT.ifp rfl ?_)))
        by_cases h0 : s.size = 0
        · exact Ev.step (fun k => rfl) (EvT.ifn (by omega) (Ev.now _))
        · exact neigh_loop s dir hl.2 y hy hl.1 (s.size - 1) 1 (by omega) (by omega)
      exact hM _ rfl
  exact hJ _ rfl)
end Go.Proofs.Ytdmfhabhcagioaa.Pure
