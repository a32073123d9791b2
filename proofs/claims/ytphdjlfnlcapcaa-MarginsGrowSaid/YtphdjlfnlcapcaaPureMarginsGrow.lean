/- For any margins: if one of them is greater, they are joined to no less, and to more by at most as much (up to 1000). Conditions: those of the statement alone. -/
import Derived.Test.YtphdjlfnlcapcaaPx7
import Derived.Test.YtphdjlfnlcapcaaHPures
namespace Go.Proofs.Ytphdjlfnlcapcaa.Pure
open Go.RowKit Go.Proofs.Ytphdjlfnlcapcaa.P Go.Proofs.YtphdjlfnlcapcaaW.PrintWords Go.Proofs.YtphdjlfnlcapcaaW.PrintLast Go.Proofs.YtphdjlfnlcapcaaW.PrintMore

/-- One of them greater by 'by': the fold from a is no less, and greater by at most as much. -/
theorem mx_mono {a b x : Int} (h : a ≤ b) : mx a x ≤ mx b x := by unfold mx; split <;> split <;> omega
theorem mx_lip {a b x c : Int} (h : b ≤ a + c) (hc : 0 ≤ c) : mx b x ≤ mx a x + c := by unfold mx; split <;> split <;> omega
theorem mn_mono {a b x : Int} (h : a ≤ b) : mn a x ≤ mn b x := by unfold mn; split <;> split <;> omega
theorem mn_lip {a b x c : Int} (h : b ≤ a + c) (hc : 0 ≤ c) : mn b x ≤ mn a x + c := by unfold mn; split <;> split <;> omega
/-- What the greatest one gains and what the least one gains, together: no more than 'by'; written by what the start has gained. -/
theorem grow_same (c : Int) (hc : 0 ≤ c) : ∀ (l : List Int) (a b p q : Int), a ≤ b → p ≤ q → (b - a) + (q - p) ≤ c →
    l.foldl mx a ≤ l.foldl mx b ∧ l.foldl mn p ≤ l.foldl mn q ∧ (l.foldl mx b - l.foldl mx a) + (l.foldl mn q - l.foldl mn p) ≤ c
  | [], a, b, p, q, h1, h2, h3 => ⟨h1, h2, h3⟩
  | x :: l, a, b, p, q, h1, h2, h3 => by
    refine grow_same c hc l (mx a x) (mx b x) (mn p x) (mn q x) (mx_mono h1) (mn_mono h2) ?_
    unfold mx mn
    (repeat' split) <;> omega
theorem grow_at (c : Int) (hc : 0 ≤ c) : ∀ (l : List Int) (i : Nat) (hi : i < l.length) (a p : Int), 0 ≤ a → p ≤ 0 →
    l.foldl mx a ≤ (l.set i (l[i] + c)).foldl mx a ∧ l.foldl mn p ≤ (l.set i (l[i] + c)).foldl mn p ∧ ((l.set i (l[i] + c)).foldl mx a - l.foldl mx a) + ((l.set i (l[i] + c)).foldl mn p - l.foldl mn p) ≤ c
  | x :: l, 0, _, a, p, ha, hp => by
    simp only [List.set_cons_zero, List.getElem_cons_zero, List.foldl_cons]
    refine grow_same c hc l (mx a x) (mx a (x + c)) (mn p x) (mn p (x + c)) ?_ ?_ ?_
    · unfold mx; (repeat' split) <;> omega
    · unfold mn; (repeat' split) <;> omega
    · unfold mx mn; (repeat' split) <;> omega
  | x :: l, i + 1, hi, a, p, ha, hp => by
    simp only [List.set_cons_succ, List.getElem_cons_succ, List.foldl_cons]
    exact grow_at c hc l i (by simpa using hi) (mx a x) (mn p x) (by unfold mx; split <;> omega) (by unfold mn; split <;> omega)

theorem MarginsGrow : formelaw18_MarginsGrow.Pure := by
  intro l w by_ hml hl8 hwf hw hb
  have hw' : 0 ≤ w ∧ w ≤ 255 := by
    have h1 : IntKind.u8.min = 0 := rfl
    have h2 : IntKind.u8.max = 255 := rfl
    simp only [Lit.wf, Bool.and_eq_true, decide_eq_true_eq] at hw
    omega
  have hb' : 0 ≤ by_ ∧ by_ ≤ 65535 := by
    have h1 : IntKind.u16.min = 0 := rfl
    have h2 : IntKind.u16.max = 65535 := rfl
    simp only [Lit.wf, Bool.and_eq_true, decide_eq_true_eq] at hb
    omega
  refine Ev.rounds (g := fun k => formelaw18_MarginsGrow.f k l w by_) ?_
  refine Ev.bind head_ev (EvT.ifp rfl (Ev.bind (right_ev l (by omega)) (EvT.ite (fun hc => ?_) (fun _ => ⟨1, fun k hk => by obtain ⟨m, rfl⟩ : ∃ m, k = m + 1 := ⟨k - 1, by omega⟩; rfl⟩))))
  simp only [Bool.and_eq_true, decide_eq_true_eq] at hc
  obtain ⟨hm, hlen⟩ := hc
  have hall : ∀ x ∈ l, inM x = true := List.all_eq_true.1 hm
  refine EvT.succ (fun k => rfl) (EvT.ite (fun hz => EvT.now rfl) (fun hz => ?_))
  have hz' : ¬ (l.length : Int) = 0 := by simpa using hz
  rw [EvT.w64 (show -9223372036854775808 ≤ w by omega) (by omega), EvT.w64 (show -9223372036854775808 ≤ by_ by omega) (by omega), Int.tmod_eq_emod_of_nonneg hw'.1]
  have h0 := Int.emod_nonneg w hz'
  have h1 := Int.emod_lt_of_pos w (show (0 : Int) < l.length by omega)
  obtain ⟨q, hq⟩ : ∃ q : Nat, w % (l.length : Int) = (q : Int) := ⟨(w % (l.length : Int)).toNat, by omega⟩
  rw [hq]
  rw [hq] at h0 h1
  have hql : q < l.length := by omega
  have hx := hall _ (List.getElem_mem hql)
  rw [inM_iff] at hx
  refine EvT.ifn hz' (EvT.bindc rfl (EvT.ifp (by simp; omega) (EvT.bindc rfl (EvT.ifp h0 (EvT.ifp (by simpa using hql) (EvT.bindc rfl (EvT.bindc (margin_eq _) (EvT.ite (fun hin => ?_) (fun _ => EvT.now rfl)))))))))
  rw [List.nil_append, Int.toNat_natCast, rd_nat l q hql, EvT.w64 (by omega) (by omega)] at hin ⊢
  have hqs : q < (l.set q (l[q] + by_)).length := by simpa using hql
  rw [rd_nat _ q hqs] at hin
  have hm2 : (l.set q (l[q] + by_)).all inM = true := by
    rw [List.all_eq_true]
    intro y hy
    rcases List.mem_or_eq_of_mem_set hy with hy | rfl
    · exact hall y hy
    · simpa using hin
  obtain ⟨g1, g2, g3⟩ := grow_at by_ hb'.1 l q hql 0 0 (by omega) (by omega)
  have r1 := hi_range l hm
  have r2 := lo_range l hm
  have r3 := hi_range _ hm2
  have r4 := lo_range _ hm2
  refine EvT.bindc (join_some l hm (by omega)) (EvT.bindc (join_some _ hm2 (by simp; omega)) (EvT.ifp rfl (EvT.ifp rfl (EvT.ifp rfl (EvT.ifp ?_ (EvT.now ?_))))))
  · unfold hi lo; show _ ≥ _; omega
  · unfold hi lo at *
    rw [EvT.w64 (by omega) (by omega)]
    congr 1
    rw [decide_eq_true_eq]
    omega
end Go.Proofs.Ytphdjlfnlcapcaa.Pure
