-- Laid by a program of this session (wip/fam.sh) over the kit's words: Lean checks it.
import Derived.Test.YtdmfhabhcagioaaPx0
import Derived.Test.YtdmfhabhcagioaaPx1
import Derived.Test.YtdmfhabhcagioaaHLevels
import Derived.Test.YtdmfhabhcagioaaHOrder
import Derived.Test.YtdmfhabhcagioaaHValid
namespace Go.Proofs.Ytdmfhabhcagioaa.P
open Go.RowKit Go.Proofs.YtdmfhabhcagioaaW.PrintWords Go.Proofs.YtdmfhabhcagioaaW.PrintLast Go.Proofs.YtdmfhabhcagioaaW.PrintMore
attribute [local go_sem] max2_int min2_int max_two min_two max_three min_three max_four min_four   -- for this text's walks alone
set_option linter.unusedVariables false
set_option linter.unusedSimpArgs false

/-! ### bidi_isLine: function 24 -/
def bidi_isLine.f (a0 : ByteArray) (a1 : Int) : Option (Bool) := (text_Valid.f a0).bind fun t101 => (if t101 = true then (if a1 = 0 then (some true) else (some (a1 == 1))) else (some false))
set_option maxHeartbeats 8000000 in
set_option maxRecDepth 100000 in
theorem bidi_isLine.calls (a0 : ByteArray) (a1 : Int) (r : Bool) (w : World) (h : bidi_isLine.f a0 a1 = some r) :
  Calls Try.prog 24 #[.string a0, .int .i64 a1] w fun e w' => e = .returned (.bool r) ∧ Below w.heap.size w w' := by
 have HB := Aside0.mk (Below.refl w.heap.size w)
 have H : ((text_Valid.f a0).bind fun t101 => (if t101 = true then (if a1 = 0 then (some true) else (some (a1 == 1))) else (some false))) = some r := h
 clear h
 replace H := Option.bind_eq_some_iff.mp H
 obtain ⟨t101, A30, H⟩ := H
 replace H : (if t101 = true then (if a1 = 0 then (some true) else (some (a1 == 1))) else (some false)) = some r := H
 have A3 := Aside0.mk A30
 clear A30
 by_cases c4 : t101 = true
 ·
  subst c4
  have H1 : (if a1 = 0 then (some true) else (some (a1 == 1))) = some r := by rw [if_pos rfl] at H; exact H
  clear H
  have H := H1
  clear H1
  by_cases c5 : a1 = 0
  ·
   rw [if_pos c5] at H
   have c5b0 : (a1 == 0) = true := beq_iff_eq.mpr c5
   have c5b1 : (a1 != 0) = false := bne_eq_false_iff_eq.mpr c5
   clear c5
   obtain rfl := Option.some.inj H
   go_enter Try.func24, Try.ntmps24
   go_wp2_with (first | ((with_reducible refine gate_callee (f := 30) rfl ?_); refine goesL_ (some 6) rfl rfl Try.func30 (by kernel_rfl) rfl #[.string a0] rfl (by (try simp only [List.map_toArray, List.map_cons, List.map_nil]); first | done | rfl | (simp only [List.length_drop, List.length_take]; rfl)) ?_; (with_reducible refine (text_Valid.calls a0 true _ A3.out).mono ?_); rintro e w6 ⟨rfl, hb⟩; refine ⟨_, rfl, ?_⟩; have n0_ := Aside0.mk (below_step (by repeat (first | (with_reducible first | exact HB.out | apply below_alloc | apply pw_below_drewN | apply below_drew1) | exact HB.out)) hb); clear HB; have HB := n0_; clear n0_; (try clear hb); (try clear hb2); (try clear hk); (try clear hi)))
   go_ret
   exact ⟨by first | rfl | (simp [errW_none, errW_some] <;> rfl) | (simp [*, errW_none, errW_some] <;> rfl), by repeat (first | (with_reducible first | exact HB.out | apply below_alloc | apply pw_below_drewN | apply below_drew1) | exact HB.out)⟩
  ·
   rw [if_neg c5] at H
   have c5b0 : (a1 == 0) = false := beq_eq_false_iff_ne.mpr c5
   have c5b1 : (a1 != 0) = true := bne_iff_ne.mpr c5
   obtain rfl := Option.some.inj H
   go_enter Try.func24, Try.ntmps24
   go_wp2_with (first | ((with_reducible refine gate_callee (f := 30) rfl ?_); refine goesL_ (some 6) rfl rfl Try.func30 (by kernel_rfl) rfl #[.string a0] rfl (by (try simp only [List.map_toArray, List.map_cons, List.map_nil]); first | done | rfl | (simp only [List.length_drop, List.length_take]; rfl)) ?_; (with_reducible refine (text_Valid.calls a0 true _ A3.out).mono ?_); rintro e w7 ⟨rfl, hb⟩; refine ⟨_, rfl, ?_⟩; have n0_ := Aside0.mk (below_step (by repeat (first | (with_reducible first | exact HB.out | apply below_alloc | apply pw_below_drewN | apply below_drew1) | exact HB.out)) hb); clear HB; have HB := n0_; clear n0_; (try clear hb); (try clear hb2); (try clear hk); (try clear hi)))
   go_ret
   exact ⟨by first | rfl | (simp [errW_none, errW_some] <;> rfl) | (simp [*, errW_none, errW_some] <;> rfl), by repeat (first | (with_reducible first | exact HB.out | apply below_alloc | apply pw_below_drewN | apply below_drew1) | exact HB.out)⟩
 ·
  replace c4 := Bool.eq_false_iff.mpr c4
  subst c4
  have H1 : (some false) = some r := by rw [if_neg (show ¬ (false = true) by decide)] at H; exact H
  clear H
  have H := H1
  clear H1
  obtain rfl := Option.some.inj H
  go_enter Try.func24, Try.ntmps24
  go_wp2_with (first | ((with_reducible refine gate_callee (f := 30) rfl ?_); refine goesL_ (some 6) rfl rfl Try.func30 (by kernel_rfl) rfl #[.string a0] rfl (by (try simp only [List.map_toArray, List.map_cons, List.map_nil]); first | done | rfl | (simp only [List.length_drop, List.length_take]; rfl)) ?_; (with_reducible refine (text_Valid.calls a0 false _ A3.out).mono ?_); rintro e w8 ⟨rfl, hb⟩; refine ⟨_, rfl, ?_⟩; have n0_ := Aside0.mk (below_step (by repeat (first | (with_reducible first | exact HB.out | apply below_alloc | apply pw_below_drewN | apply below_drew1) | exact HB.out)) hb); clear HB; have HB := n0_; clear n0_; (try clear hb); (try clear hb2); (try clear hk); (try clear hi)))
  go_ret
  exact ⟨by first | rfl | (simp [errW_none, errW_some] <;> rfl) | (simp [*, errW_none, errW_some] <;> rfl), by repeat (first | (with_reducible first | exact HB.out | apply below_alloc | apply pw_below_drewN | apply below_drew1) | exact HB.out)⟩

/-! ### bidi_Visual: function 16 -/
def bidi_Visual.l0 : Nat → ByteArray → Int → List Int → List Int → Int → Int → Option (ByteArray × Int)
 | 0, _, _, _, _, _, _ => none
 | k + 1, x0, x7, x8, x20, x21, x22 => if x22 < x21 then (if 0 ≤ x22 then (if x22 < (x20.length : Int) then (if 0 ≤ (rd x20 x22) then (if (rd x20 x22) < (x0.size : Int) then (if x22 < (x8.length : Int) then (bidi_Visual.l0 k x0 x7 (x8.set (x22 : Int).toNat (bt x0 (rd x20 x22))) x20 x21 (wrap64 (x22 + 1))) else (none)) else (none)) else (none)) else (none)) else (none)) else (some (strOfNums x8, x7))
def bidi_Visual.f (k : Nat) (a0 : ByteArray) (a1 : Int) : Option (ByteArray × Int) := (bidi_Order.f a0 a1).bind fun bt104 => (if 0 ≤ (bt104.1.length : Int) then (if ((bt104.1.length : Int) : Int).toNat ≤ 281474976710656 then (bidi_Visual.l0 k a0 bt104.2 (List.replicate ((bt104.1.length : Int) : Int).toNat 0) bt104.1 (bt104.1.length : Int) 0) else (none)) else (none))
theorem bidi_Visual.mono_l : ∀ k, (∀ y0 y1 y2 y3 y4 y5, LeO (bidi_Visual.l0 k y0 y1 y2 y3 y4 y5) (bidi_Visual.l0 (k + 1) y0 y1 y2 y3 y4 y5))
 | 0 => fun _ _ _ _ _ _ r h => by simp [bidi_Visual.l0] at h
 | k + 1 => by
  have ih0 := bidi_Visual.mono_l k
  ·
   intro y0 y1 y2 y3 y4 y5
   unfold bidi_Visual.l0
   repeat' first
   | (with_reducible exact ih0 _ _ _ _ _ _)
   | (with_reducible exact LeO.refl _)
   | (with_reducible exact LeO.none _)
   | (with_reducible refine LeO.ite ?_ ?_)
   | (with_reducible refine LeO.bind ?_ (fun _ => ?_))
   | exact ih0 _ _ _ _ _ _
   | exact LeO.none _
   | refine LeO.ite ?_ ?_
   | refine LeO.bind ?_ (fun _ => ?_)
theorem bidi_Visual.mono : ∀ a0 a1 k, LeO (bidi_Visual.f k a0 a1) (bidi_Visual.f (k + 1) a0 a1) := by
 intro a0 a1 k
 have ih0 := bidi_Visual.mono_l k
 unfold bidi_Visual.f
 repeat' first
   | (with_reducible exact ih0 _ _ _ _ _ _)
   | (with_reducible exact LeO.refl _)
   | (with_reducible exact LeO.none _)
   | (with_reducible refine LeO.ite ?_ ?_)
   | (with_reducible refine LeO.bind ?_ (fun _ => ?_))
   | exact ih0 _ _ _ _ _ _
   | exact LeO.none _
   | refine LeO.ite ?_ ?_
   | refine LeO.bind ?_ (fun _ => ?_)
set_option maxHeartbeats 8000000 in
set_option maxRecDepth 100000 in
theorem bidi_Visual.calls (k : Nat) (a0 : ByteArray) (a1 : Int) (r1 : ByteArray) (r2 : Int) (w : World) (h : bidi_Visual.f k a0 a1 = some (r1, r2)) :
  Calls Try.prog 16 #[.string a0, .int .i64 a1] w fun e w' => e = .returned (.tuple #[.string r1, .int .i64 r2]) ∧ Below w.heap.size w w' := by
 have HB := Aside0.mk (Below.refl w.heap.size w)
 have H : ((bidi_Order.f a0 a1).bind fun bt104 => (if 0 ≤ (bt104.1.length : Int) then (if ((bt104.1.length : Int) : Int).toNat ≤ 281474976710656 then (bidi_Visual.l0 k a0 bt104.2 (List.replicate ((bt104.1.length : Int) : Int).toNat 0) bt104.1 (bt104.1.length : Int) 0) else (none)) else (none))) = some (r1, r2) := h
 clear h
 replace H := Option.bind_eq_some_iff.mp H
 obtain ⟨⟨t104, t105⟩, A30, H⟩ := H
 replace H : (if 0 ≤ (t104.length : Int) then (if ((t104.length : Int) : Int).toNat ≤ 281474976710656 then (bidi_Visual.l0 k a0 t105 (List.replicate ((t104.length : Int) : Int).toNat 0) t104 (t104.length : Int) 0) else (none)) else (none)) = some (r1, r2) := H
 have A3 := Aside0.mk A30
 clear A30
 by_cases c4 : 0 ≤ (t104.length : Int)
 ·
  rw [if_pos c4] at H
  have c4b0 := eq_true c4
  have c4b1 : decide (0 ≤ (t104.length : Int)) = true := decide_eq_true c4
  clear c4
  by_cases c5 : ((t104.length : Int) : Int).toNat ≤ 281474976710656
  ·
   rw [if_pos c5] at H
   have c5b0 := eq_true c5
   have c5b1 : decide (((t104.length : Int) : Int).toNat ≤ 281474976710656) = true := decide_eq_true c5
   clear c5
   obtain ⟨y108, hy108⟩ : ∃ y_ : List Int, y_ = (List.replicate ((t104.length : Int) : Int).toNat 0) := ⟨_, rfl⟩
   replace H : (bidi_Visual.l0 k a0 t105 y108 t104 (t104.length : Int) 0) = some (r1, r2) := by first | (rw [hy108]; with_reducible exact H) | (have H2_ := (Option.bind_some _ _).symm.trans H; rw [hy108]; with_reducible exact H2_) | (have H2_ := (Option.bind_some _ _).symm.trans H; with_reducible exact H2_) | with_reducible exact H | (rw [hy108]; exact H) | exact H
   have Ny108 := Aside0.mk hy108
   clear hy108
   have H' := Aside0.mk H
   clear H
   go_enter Try.func16, Try.ntmps16
   go_wp2_with (first | ((with_reducible refine gate_callee (f := 14) rfl ?_); refine goesL_ (some 14) rfl rfl Try.func14 (by kernel_rfl) rfl #[.string a0, .int .i64 a1] rfl (by (try simp only [List.map_toArray, List.map_cons, List.map_nil]); first | done | rfl | (simp only [List.length_drop, List.length_take]; rfl)) ?_; (with_reducible refine (bidi_Order.calls a0 a1 t104 t105 _ A3.out).mono ?_); rintro e w6 ⟨v106, rfl, ho0, hb⟩; refine ⟨_, rfl, ?_⟩; have n0_ := Aside0.mk (Kd.R_lower ho0 (below_size (by repeat (first | (with_reducible first | exact HB.out | apply below_alloc | apply pw_below_drewN | apply below_drew1) | exact HB.out)))); have n1_ := Aside0.mk (below_step (by repeat (first | (with_reducible first | exact HB.out | apply below_alloc | apply pw_below_drewN | apply below_drew1) | exact HB.out)) hb); clear HB; have HO107 := n0_; have HB := n1_; clear n0_ n1_; (try clear hb); (try clear hb2); (try clear hk); (try clear hi); (try clear ho0); obtain ⟨Ao7, co7, eo7⟩ := Kd.R_slice HO107.out; subst eo7) | ((with_reducible refine gate_dst (N := 19) rfl ?_); refine Kd.R_make (Kd.int .u8) _ 5 rfl (N := 19) rfl 43 _ _ rfl (t104.length : Int) rfl rfl Try.underlying43 (.int .u8 0) 1 info5 rfl (by decide) (by omega) 0 (ok := fun _ => True) (okp := fun _ => True) rfl (fun _ hk => hk) trivial (of_decide_eq_true (by first | (with_reducible assumption) | assumption)) (Nat.le_trans (Nat.mul_le_mul_right _ (of_decide_eq_true (by first | (with_reducible assumption) | assumption) : (t104.length : Int).toNat ≤ 281474976710656)) (by omega)) (Below.refl _ _) (Nat.le_refl _) ?_; intro v109 w8 ho9 hb hg_ hnew_; clear hg_ hnew_; (first | rw [← Ny108.out] at ho9 | (simp only [Int.reduceToNat] at ho9; rw [← Ny108.out] at ho9)); have n0_ := Aside0.mk (Kd.R_below (by (with_reducible repeat (first | apply Kd.R_alloc | apply Kd.R_drewN | apply Kd.R_drew)); exact HO107.out) hb); have n1_ := Aside0.mk (Kd.R_lower ho9 (below_size (by repeat (first | (with_reducible first | exact HB.out | apply below_alloc | apply pw_below_drewN | apply below_drew1) | exact HB.out)))); have n2_ := Aside0.mk (below_step (by repeat (first | (with_reducible first | exact HB.out | apply below_alloc | apply pw_below_drewN | apply below_drew1) | exact HB.out)) hb); clear HO107; clear HB; have HO107 := n0_; have HO110 := n1_; have HB := n2_; clear n0_ n1_ n2_; clear hb ho9))
   go_loopg [22] k (fun kq v22 w' => ∃ (x8_1 : List Int) (x22_1 : Int), v22 = .int .i64 x22_1 ∧ Aside0 (bidi_Visual.l0 kq a0 t105 x8_1 t104 (t104.length : Int) x22_1 = some (r1, r2)) ∧ Aside0 (kq ≤ k) ∧ Aside0 (Kd.R (Kd.int .u8) 5 w' w.heap.size (fun _ => True) v109 x8_1) ∧ Aside0 (Kd.R (Kd.int .i64) 3 w' w.heap.size (fun _ => True) (.slice Ao7 t104.length co7) t104) ∧ Aside0 (Below w.heap.size w w'))
   case atStart => exact ⟨(y108), (0), (by first | rfl | (simp; done) | (simp [*]; done)), H', ⟨Nat.le_refl _⟩, ⟨by (with_reducible repeat (first | apply Kd.R_alloc | apply Kd.R_drewN | apply Kd.R_drew)); exact HO110.out⟩, ⟨by (with_reducible repeat (first | apply Kd.R_alloc | apply Kd.R_drewN | apply Kd.R_drew)); exact HO107.out⟩, ⟨by repeat (first | (with_reducible first | exact HB.out | apply below_alloc | apply pw_below_drewN | apply below_drew1) | exact HB.out)⟩⟩
   case round =>
    clear H'
    try clear c1
    try clear p2
    try clear c4
    try clear c4b0
    try clear c4b1
    try clear c5
    try clear c5b0
    try clear c5b1
    obtain ⟨x8_1, x22_1, rfl, HA, HK1, HO_8, HO_20, HB⟩ := hrel
    cases gk with
    | zero => exact absurd HA.out (by simp [bidi_Visual.l0])
    | succ k1 =>
     have H := HA.out
     clear HA
     simp only [bidi_Visual.l0] at H
     by_cases c10 : x22_1 < (t104.length : Int)
     ·
      rw [if_pos c10] at H
      have c10b0 : decide (x22_1 < (t104.length : Int)) = true := decide_eq_true c10
      clear c10
      by_cases c11 : 0 ≤ x22_1
      ·
       rw [if_pos c11] at H
       have c11b0 : decide (0 ≤ x22_1) = true := decide_eq_true c11
       clear c11
       by_cases c12 : x22_1 < (t104.length : Int)
       ·
        rw [if_pos c12] at H
        have c12b0 : decide (x22_1 < (t104.length : Int)) = true := decide_eq_true c12
        clear c12
        by_cases c13 : 0 ≤ (rd t104 x22_1)
        ·
         rw [if_pos c13] at H
         have c13b0 : decide (0 ≤ (rd t104 x22_1)) = true := decide_eq_true c13
         clear c13
         by_cases c14 : (rd t104 x22_1) < (a0.size : Int)
         ·
          rw [if_pos c14] at H
          have c14b0 : decide ((rd t104 x22_1) < (a0.size : Int)) = true := decide_eq_true c14
          clear c14
          by_cases c16 : x22_1 < (x8_1.length : Int)
          ·
           rw [if_pos c16] at H
           have c16b0 : decide (x22_1 < (x8_1.length : Int)) = true := decide_eq_true c16
           clear c16
           obtain ⟨y112, hy112⟩ : ∃ y_ : List Int, y_ = (x8_1.set (x22_1 : Int).toNat (bt a0 (rd t104 x22_1))) := ⟨_, rfl⟩
           replace H : (bidi_Visual.l0 k1 a0 t105 y112 t104 (t104.length : Int) (wrap64 (x22_1 + 1))) = some (r1, r2) := by first | (rw [hy112]; with_reducible exact H) | (have H2_ := (Option.bind_some _ _).symm.trans H; rw [hy112]; with_reducible exact H2_) | (have H2_ := (Option.bind_some _ _).symm.trans H; with_reducible exact H2_) | with_reducible exact H | (rw [hy112]; exact H) | exact H
           have Ny112 := Aside0.mk hy112
           clear hy112
           have H' := Aside0.mk H
           clear H
           have p111 : 0 ≤ (x22_1 : Int) := of_decide_eq_true (by first | (with_reducible assumption) | assumption)
           have q111 : x22_1 < (t104.length : Int) := of_decide_eq_true (by first | (with_reducible assumption) | assumption)
           obtain ⟨ad111, e111, hx111_0⟩ := Kd.at_int (Kd.R_reads' HO_20.out).2.2 x22_1 p111 q111
           cases e111
           replace p111 := eq_true p111
           replace q111 := eq_true q111
           have p15 : 0 ≤ ((rd t104 x22_1) : Int) := of_decide_eq_true (by first | (with_reducible assumption) | assumption)
           have q15 : (rd t104 x22_1) < (a0.size : Int) := of_decide_eq_true (by first | (with_reducible assumption) | assumption)
           have hx15 := bt_at a0 (rd t104 x22_1)
           replace p15 := eq_true p15
           replace q15 := eq_true q15
           have p17 : 0 ≤ (x22_1 : Int) := of_decide_eq_true (by first | (with_reducible assumption) | assumption)
           have q17 : (x22_1 : Int) < ((x8_1.length : Int) : Int) := of_decide_eq_true (by first | (with_reducible assumption) | assumption)
           obtain ⟨go17, co17, eo17, gb17, gl17, cl17, HG17⟩ := Kd.R_form HO_8.out (by omega)
           (first | cases eo17 | (injection eo17 with ea_ en_ ec_; (first | subst ea_ | (injection ea_ with ea_; subst ea_)); subst ec_; clear en_))
           have GB17 := Aside0.mk gb17
           have GG17 := Aside0.mk HG17
           clear gb17 gl17 HG17
           obtain ⟨hx17_0, hf17_0⟩ := Kd.R_celln 0 HO_8.out (x22_1 : Int) p17 q17
           replace p17 := eq_true p17
           replace q17 := eq_true q17
           have HP18 := Kd.R_putg HO_8.out (x22_1 : Int) (bt a0 (rd t104 x22_1))
           go_wp2_with (first | ((with_reducible refine gate_store (t := 5) (p := 32) rfl ?_); refine store_event (t := 5) (p := 32) (v := ?vo_w19) (w1 := (wr.setCell ⟨go17, (x22_1 : Int).toNat, none⟩ (.int .u8 (bt a0 (rd t104 x22_1))))) ?hg ?ho ?hn ?hr ?_; (case ho => rfl); (case hg => rfl); (case hn => rfl); (case hr => first | (go_simp; done) | (go_simp; rfl)); intro w19 hw; have hg : wr.grownBy w19 (some go17) := (by rw [hw]; exact HP18.2); have hp_ : Kd.R (Kd.int .u8) 5 w19 w.heap.size (fun _ => True) (.slice (some ⟨go17, 0, none⟩) x8_1.length co17) y112 := (by rw [hw, Ny112.out]; exact HP18.1); clear HP18; have n0_ := Aside0.mk (hp_); have n1_ := Aside0.mk (Kd.R_over' (v := (.slice (some ⟨go17, 0, none⟩) x8_1.length co17)) (by (with_reducible repeat (first | apply Kd.R_alloc | apply Kd.R_drewN | apply Kd.R_drew)); exact HO_20.out) (Kd.R_typed HO_8.out) (by decide) hg); have n2_ := Aside0.mk ((by rw [hw]; exact below_set (HB.out) GB17.out : Below w.heap.size w w19)); clear HO_8; clear HO_20; clear HB; have HO_8 := n0_; have HO_20 := n1_; have HB := n2_; clear n0_ n1_ n2_; clear hg hw hp_))
           go_roundg k1
           case measure => have := HK1.out; omega
           case rel => exact ⟨(y112), (wrap64 (x22_1 + 1)), (by first | rfl | (simp; done) | (simp [*]; done)), H', ⟨by have := HK1.out; omega⟩, ⟨by (with_reducible repeat (first | apply Kd.R_alloc | apply Kd.R_drewN | apply Kd.R_drew)); exact HO_8.out⟩, ⟨by (with_reducible repeat (first | apply Kd.R_alloc | apply Kd.R_drewN | apply Kd.R_drew)); exact HO_20.out⟩, ⟨by repeat (first | (with_reducible first | exact HB.out | apply below_alloc | apply pw_below_drewN | apply below_drew1) | exact HB.out)⟩⟩
          ·
           rw [if_neg c16] at H
           exact absurd H (by simp)
         ·
          rw [if_neg c14] at H
          exact absurd H (by simp)
        ·
         rw [if_neg c13] at H
         exact absurd H (by simp)
       ·
        rw [if_neg c12] at H
        exact absurd H (by simp)
      ·
       rw [if_neg c11] at H
       exact absurd H (by simp)
     ·
      rw [if_neg c10] at H
      have c10b0 : decide (x22_1 < (t104.length : Int)) = false := decide_eq_false c10
      clear c10
      simp only [Option.some.injEq, Prod.mk.injEq] at H
      obtain ⟨rfl, rfl⟩ := H
      have hcv20 := own_string (P := Try.prog) Try.underlying43 Try.underlying5 Try.underlying9 (Kd.own_of_R HO_8.out)
      go_wp2
      go_ret2
      exact ⟨by first | rfl | (simp [errW_none, errW_some] <;> rfl) | (simp [*, errW_none, errW_some] <;> rfl), by repeat (first | (with_reducible first | exact HB.out | apply below_alloc | apply pw_below_drewN | apply below_drew1) | exact HB.out)⟩
  ·
   rw [if_neg c5] at H
   exact absurd H (by simp)
 ·
  rw [if_neg c4] at H
  exact absurd H (by simp)

/-! ### formelaw09_head: function 10 -/
def formelaw09_head.f (k : Nat)  : Option (Bool) := (bidi_Levels.f (⟨#[97, 98, 32, 67, 68, 32, 101, 102]⟩ : ByteArray) 0).bind fun bt113 => ((bidi_Visual.f k (⟨#[97, 98, 32, 67, 68, 32, 101, 102]⟩ : ByteArray) 0).bind fun bt117 => ((bidi_Levels.f (⟨#[97, 98, 32, 67, 68, 32, 101, 102]⟩ : ByteArray) 1).bind fun bt119 => ((bidi_Visual.f k (⟨#[97, 98, 32, 67, 68, 32, 101, 102]⟩ : ByteArray) 1).bind fun bt123 => ((bidi_Levels.f (⟨#[65, 49, 50, 32, 51, 98]⟩ : ByteArray) 0).bind fun bt125 => ((bidi_Visual.f k (⟨#[65, 49, 50, 32, 51, 98]⟩ : ByteArray) 0).bind fun bt129 => ((bidi_Order.f (⟨#[97, 98]⟩ : ByteArray) 2).bind fun bt131 => (if bt113.2 = 0 then (if bt117.2 = 0 then (if bt119.2 = 0 then (if bt123.2 = 0 then (if bt125.2 = 0 then (if bt129.2 = 0 then (if bt131.2 = 1 then ((formeref09_SameInts.f k bt113.1 (([0, 0, 0, 1, 1, 0, 0, 0] : List Int))).bind fun t138 => (if t138 = true then (if bt117.1.toList = ([97, 98, 32, 68, 67, 32, 101, 102] : List UInt8) then ((formeref09_SameInts.f k bt119.1 (([2, 2, 1, 1, 1, 1, 2, 2] : List Int))).bind fun t142 => (if t142 = true then (if bt123.1.toList = ([101, 102, 32, 68, 67, 32, 97, 98] : List UInt8) then ((formeref09_SameInts.f k bt125.1 (([1, 2, 2, 1, 2, 0] : List Int))).bind fun t146 => (if t146 = true then (some (bt129.1.toList == ([51, 32, 49, 50, 65, 98] : List UInt8))) else (none))) else (none)) else (none))) else (none)) else (none))) else (none)) else (none)) else (none)) else (none)) else (none)) else (none)) else (none))))))))
theorem formelaw09_head.mono : ∀ k, LeO (formelaw09_head.f k ) (formelaw09_head.f (k + 1) ) := by
 intro  k
 unfold formelaw09_head.f
 repeat' first
   | (with_reducible exact bidi_Visual.mono _ _ _)
   | (with_reducible exact formeref09_SameInts.mono _ _ _)
   | (with_reducible exact LeO.refl _)
   | (with_reducible exact LeO.none _)
   | (with_reducible refine LeO.ite ?_ ?_)
   | (with_reducible refine LeO.bind ?_ (fun _ => ?_))
   | exact bidi_Visual.mono _ _ _
   | exact formeref09_SameInts.mono _ _ _
   | exact LeO.none _
   | refine LeO.ite ?_ ?_
   | refine LeO.bind ?_ (fun _ => ?_)
set_option maxHeartbeats 8000000 in
set_option maxRecDepth 100000 in
theorem formelaw09_head.calls (k : Nat)  (r : Bool) (w : World) (h : formelaw09_head.f k  = some r) :
  Calls Try.prog 10 #[] w fun e w' => e = .returned (.bool r) ∧ Below w.heap.size w w' := by
 have HB := Aside0.mk (Below.refl w.heap.size w)
 have H : ((bidi_Levels.f (⟨#[97, 98, 32, 67, 68, 32, 101, 102]⟩ : ByteArray) 0).bind fun bt113 => ((bidi_Visual.f k (⟨#[97, 98, 32, 67, 68, 32, 101, 102]⟩ : ByteArray) 0).bind fun bt117 => ((bidi_Levels.f (⟨#[97, 98, 32, 67, 68, 32, 101, 102]⟩ : ByteArray) 1).bind fun bt119 => ((bidi_Visual.f k (⟨#[97, 98, 32, 67, 68, 32, 101, 102]⟩ : ByteArray) 1).bind fun bt123 => ((bidi_Levels.f (⟨#[65, 49, 50, 32, 51, 98]⟩ : ByteArray) 0).bind fun bt125 => ((bidi_Visual.f k (⟨#[65, 49, 50, 32, 51, 98]⟩ : ByteArray) 0).bind fun bt129 => ((bidi_Order.f (⟨#[97, 98]⟩ : ByteArray) 2).bind fun bt131 => (if bt113.2 = 0 then (if bt117.2 = 0 then (if bt119.2 = 0 then (if bt123.2 = 0 then (if bt125.2 = 0 then (if bt129.2 = 0 then (if bt131.2 = 1 then ((formeref09_SameInts.f k bt113.1 (([0, 0, 0, 1, 1, 0, 0, 0] : List Int))).bind fun t138 => (if t138 = true then (if bt117.1.toList = ([97, 98, 32, 68, 67, 32, 101, 102] : List UInt8) then ((formeref09_SameInts.f k bt119.1 (([2, 2, 1, 1, 1, 1, 2, 2] : List Int))).bind fun t142 => (if t142 = true then (if bt123.1.toList = ([101, 102, 32, 68, 67, 32, 97, 98] : List UInt8) then ((formeref09_SameInts.f k bt125.1 (([1, 2, 2, 1, 2, 0] : List Int))).bind fun t146 => (if t146 = true then (some (bt129.1.toList == ([51, 32, 49, 50, 65, 98] : List UInt8))) else (none))) else (none)) else (none))) else (none)) else (none))) else (none)) else (none)) else (none)) else (none)) else (none)) else (none)) else (none))))))))) = some r := h
 clear h
 replace H := Option.bind_eq_some_iff.mp H
 obtain ⟨⟨t113, t114⟩, A10, H⟩ := H
 replace H : ((bidi_Visual.f k (⟨#[97, 98, 32, 67, 68, 32, 101, 102]⟩ : ByteArray) 0).bind fun bt117 => ((bidi_Levels.f (⟨#[97, 98, 32, 67, 68, 32, 101, 102]⟩ : ByteArray) 1).bind fun bt119 => ((bidi_Visual.f k (⟨#[97, 98, 32, 67, 68, 32, 101, 102]⟩ : ByteArray) 1).bind fun bt123 => ((bidi_Levels.f (⟨#[65, 49, 50, 32, 51, 98]⟩ : ByteArray) 0).bind fun bt125 => ((bidi_Visual.f k (⟨#[65, 49, 50, 32, 51, 98]⟩ : ByteArray) 0).bind fun bt129 => ((bidi_Order.f (⟨#[97, 98]⟩ : ByteArray) 2).bind fun bt131 => (if t114 = 0 then (if bt117.2 = 0 then (if bt119.2 = 0 then (if bt123.2 = 0 then (if bt125.2 = 0 then (if bt129.2 = 0 then (if bt131.2 = 1 then ((formeref09_SameInts.f k t113 (([0, 0, 0, 1, 1, 0, 0, 0] : List Int))).bind fun t138 => (if t138 = true then (if bt117.1.toList = ([97, 98, 32, 68, 67, 32, 101, 102] : List UInt8) then ((formeref09_SameInts.f k bt119.1 (([2, 2, 1, 1, 1, 1, 2, 2] : List Int))).bind fun t142 => (if t142 = true then (if bt123.1.toList = ([101, 102, 32, 68, 67, 32, 97, 98] : List UInt8) then ((formeref09_SameInts.f k bt125.1 (([1, 2, 2, 1, 2, 0] : List Int))).bind fun t146 => (if t146 = true then (some (bt129.1.toList == ([51, 32, 49, 50, 65, 98] : List UInt8))) else (none))) else (none)) else (none))) else (none)) else (none))) else (none)) else (none)) else (none)) else (none)) else (none)) else (none)) else (none)))))))) = some r := H
 have A1 := Aside0.mk A10
 clear A10
 replace H := Option.bind_eq_some_iff.mp H
 obtain ⟨⟨t117, t118⟩, A20, H⟩ := H
 replace H : ((bidi_Levels.f (⟨#[97, 98, 32, 67, 68, 32, 101, 102]⟩ : ByteArray) 1).bind fun bt119 => ((bidi_Visual.f k (⟨#[97, 98, 32, 67, 68, 32, 101, 102]⟩ : ByteArray) 1).bind fun bt123 => ((bidi_Levels.f (⟨#[65, 49, 50, 32, 51, 98]⟩ : ByteArray) 0).bind fun bt125 => ((bidi_Visual.f k (⟨#[65, 49, 50, 32, 51, 98]⟩ : ByteArray) 0).bind fun bt129 => ((bidi_Order.f (⟨#[97, 98]⟩ : ByteArray) 2).bind fun bt131 => (if t114 = 0 then (if t118 = 0 then (if bt119.2 = 0 then (if bt123.2 = 0 then (if bt125.2 = 0 then (if bt129.2 = 0 then (if bt131.2 = 1 then ((formeref09_SameInts.f k t113 (([0, 0, 0, 1, 1, 0, 0, 0] : List Int))).bind fun t138 => (if t138 = true then (if t117.toList = ([97, 98, 32, 68, 67, 32, 101, 102] : List UInt8) then ((formeref09_SameInts.f k bt119.1 (([2, 2, 1, 1, 1, 1, 2, 2] : List Int))).bind fun t142 => (if t142 = true then (if bt123.1.toList = ([101, 102, 32, 68, 67, 32, 97, 98] : List UInt8) then ((formeref09_SameInts.f k bt125.1 (([1, 2, 2, 1, 2, 0] : List Int))).bind fun t146 => (if t146 = true then (some (bt129.1.toList == ([51, 32, 49, 50, 65, 98] : List UInt8))) else (none))) else (none)) else (none))) else (none)) else (none))) else (none)) else (none)) else (none)) else (none)) else (none)) else (none)) else (none))))))) = some r := H
 have A2 := Aside0.mk A20
 clear A20
 replace H := Option.bind_eq_some_iff.mp H
 obtain ⟨⟨t119, t120⟩, A30, H⟩ := H
 replace H : ((bidi_Visual.f k (⟨#[97, 98, 32, 67, 68, 32, 101, 102]⟩ : ByteArray) 1).bind fun bt123 => ((bidi_Levels.f (⟨#[65, 49, 50, 32, 51, 98]⟩ : ByteArray) 0).bind fun bt125 => ((bidi_Visual.f k (⟨#[65, 49, 50, 32, 51, 98]⟩ : ByteArray) 0).bind fun bt129 => ((bidi_Order.f (⟨#[97, 98]⟩ : ByteArray) 2).bind fun bt131 => (if t114 = 0 then (if t118 = 0 then (if t120 = 0 then (if bt123.2 = 0 then (if bt125.2 = 0 then (if bt129.2 = 0 then (if bt131.2 = 1 then ((formeref09_SameInts.f k t113 (([0, 0, 0, 1, 1, 0, 0, 0] : List Int))).bind fun t138 => (if t138 = true then (if t117.toList = ([97, 98, 32, 68, 67, 32, 101, 102] : List UInt8) then ((formeref09_SameInts.f k t119 (([2, 2, 1, 1, 1, 1, 2, 2] : List Int))).bind fun t142 => (if t142 = true then (if bt123.1.toList = ([101, 102, 32, 68, 67, 32, 97, 98] : List UInt8) then ((formeref09_SameInts.f k bt125.1 (([1, 2, 2, 1, 2, 0] : List Int))).bind fun t146 => (if t146 = true then (some (bt129.1.toList == ([51, 32, 49, 50, 65, 98] : List UInt8))) else (none))) else (none)) else (none))) else (none)) else (none))) else (none)) else (none)) else (none)) else (none)) else (none)) else (none)) else (none)))))) = some r := H
 have A3 := Aside0.mk A30
 clear A30
 replace H := Option.bind_eq_some_iff.mp H
 obtain ⟨⟨t123, t124⟩, A40, H⟩ := H
 replace H : ((bidi_Levels.f (⟨#[65, 49, 50, 32, 51, 98]⟩ : ByteArray) 0).bind fun bt125 => ((bidi_Visual.f k (⟨#[65, 49, 50, 32, 51, 98]⟩ : ByteArray) 0).bind fun bt129 => ((bidi_Order.f (⟨#[97, 98]⟩ : ByteArray) 2).bind fun bt131 => (if t114 = 0 then (if t118 = 0 then (if t120 = 0 then (if t124 = 0 then (if bt125.2 = 0 then (if bt129.2 = 0 then (if bt131.2 = 1 then ((formeref09_SameInts.f k t113 (([0, 0, 0, 1, 1, 0, 0, 0] : List Int))).bind fun t138 => (if t138 = true then (if t117.toList = ([97, 98, 32, 68, 67, 32, 101, 102] : List UInt8) then ((formeref09_SameInts.f k t119 (([2, 2, 1, 1, 1, 1, 2, 2] : List Int))).bind fun t142 => (if t142 = true then (if t123.toList = ([101, 102, 32, 68, 67, 32, 97, 98] : List UInt8) then ((formeref09_SameInts.f k bt125.1 (([1, 2, 2, 1, 2, 0] : List Int))).bind fun t146 => (if t146 = true then (some (bt129.1.toList == ([51, 32, 49, 50, 65, 98] : List UInt8))) else (none))) else (none)) else (none))) else (none)) else (none))) else (none)) else (none)) else (none)) else (none)) else (none)) else (none)) else (none))))) = some r := H
 have A4 := Aside0.mk A40
 clear A40
 replace H := Option.bind_eq_some_iff.mp H
 obtain ⟨⟨t125, t126⟩, A50, H⟩ := H
 replace H : ((bidi_Visual.f k (⟨#[65, 49, 50, 32, 51, 98]⟩ : ByteArray) 0).bind fun bt129 => ((bidi_Order.f (⟨#[97, 98]⟩ : ByteArray) 2).bind fun bt131 => (if t114 = 0 then (if t118 = 0 then (if t120 = 0 then (if t124 = 0 then (if t126 = 0 then (if bt129.2 = 0 then (if bt131.2 = 1 then ((formeref09_SameInts.f k t113 (([0, 0, 0, 1, 1, 0, 0, 0] : List Int))).bind fun t138 => (if t138 = true then (if t117.toList = ([97, 98, 32, 68, 67, 32, 101, 102] : List UInt8) then ((formeref09_SameInts.f k t119 (([2, 2, 1, 1, 1, 1, 2, 2] : List Int))).bind fun t142 => (if t142 = true then (if t123.toList = ([101, 102, 32, 68, 67, 32, 97, 98] : List UInt8) then ((formeref09_SameInts.f k t125 (([1, 2, 2, 1, 2, 0] : List Int))).bind fun t146 => (if t146 = true then (some (bt129.1.toList == ([51, 32, 49, 50, 65, 98] : List UInt8))) else (none))) else (none)) else (none))) else (none)) else (none))) else (none)) else (none)) else (none)) else (none)) else (none)) else (none)) else (none)))) = some r := H
 have A5 := Aside0.mk A50
 clear A50
 replace H := Option.bind_eq_some_iff.mp H
 obtain ⟨⟨t129, t130⟩, A60, H⟩ := H
 replace H : ((bidi_Order.f (⟨#[97, 98]⟩ : ByteArray) 2).bind fun bt131 => (if t114 = 0 then (if t118 = 0 then (if t120 = 0 then (if t124 = 0 then (if t126 = 0 then (if t130 = 0 then (if bt131.2 = 1 then ((formeref09_SameInts.f k t113 (([0, 0, 0, 1, 1, 0, 0, 0] : List Int))).bind fun t138 => (if t138 = true then (if t117.toList = ([97, 98, 32, 68, 67, 32, 101, 102] : List UInt8) then ((formeref09_SameInts.f k t119 (([2, 2, 1, 1, 1, 1, 2, 2] : List Int))).bind fun t142 => (if t142 = true then (if t123.toList = ([101, 102, 32, 68, 67, 32, 97, 98] : List UInt8) then ((formeref09_SameInts.f k t125 (([1, 2, 2, 1, 2, 0] : List Int))).bind fun t146 => (if t146 = true then (some (t129.toList == ([51, 32, 49, 50, 65, 98] : List UInt8))) else (none))) else (none)) else (none))) else (none)) else (none))) else (none)) else (none)) else (none)) else (none)) else (none)) else (none)) else (none))) = some r := H
 have A6 := Aside0.mk A60
 clear A60
 replace H := Option.bind_eq_some_iff.mp H
 obtain ⟨⟨t131, t132⟩, A70, H⟩ := H
 replace H : (if t114 = 0 then (if t118 = 0 then (if t120 = 0 then (if t124 = 0 then (if t126 = 0 then (if t130 = 0 then (if t132 = 1 then ((formeref09_SameInts.f k t113 (([0, 0, 0, 1, 1, 0, 0, 0] : List Int))).bind fun t138 => (if t138 = true then (if t117.toList = ([97, 98, 32, 68, 67, 32, 101, 102] : List UInt8) then ((formeref09_SameInts.f k t119 (([2, 2, 1, 1, 1, 1, 2, 2] : List Int))).bind fun t142 => (if t142 = true then (if t123.toList = ([101, 102, 32, 68, 67, 32, 97, 98] : List UInt8) then ((formeref09_SameInts.f k t125 (([1, 2, 2, 1, 2, 0] : List Int))).bind fun t146 => (if t146 = true then (some (t129.toList == ([51, 32, 49, 50, 65, 98] : List UInt8))) else (none))) else (none)) else (none))) else (none)) else (none))) else (none)) else (none)) else (none)) else (none)) else (none)) else (none)) else (none)) = some r := H
 have A7 := Aside0.mk A70
 clear A70
 by_cases c8 : t114 = 0
 ·
  rw [if_pos c8] at H
  have c8b0 : (t114 == 0) = true := beq_iff_eq.mpr c8
  have c8b1 : (t114 != 0) = false := bne_eq_false_iff_eq.mpr c8
  clear c8
  by_cases c9 : t118 = 0
  ·
   rw [if_pos c9] at H
   have c9b0 : (t118 == 0) = true := beq_iff_eq.mpr c9
   have c9b1 : (t118 != 0) = false := bne_eq_false_iff_eq.mpr c9
   clear c9
   by_cases c10 : t120 = 0
   ·
    rw [if_pos c10] at H
    have c10b0 : (t120 == 0) = true := beq_iff_eq.mpr c10
    have c10b1 : (t120 != 0) = false := bne_eq_false_iff_eq.mpr c10
    clear c10
    by_cases c11 : t124 = 0
    ·
     rw [if_pos c11] at H
     have c11b0 : (t124 == 0) = true := beq_iff_eq.mpr c11
     have c11b1 : (t124 != 0) = false := bne_eq_false_iff_eq.mpr c11
     clear c11
     by_cases c12 : t126 = 0
     ·
      rw [if_pos c12] at H
      have c12b0 : (t126 == 0) = true := beq_iff_eq.mpr c12
      have c12b1 : (t126 != 0) = false := bne_eq_false_iff_eq.mpr c12
      clear c12
      by_cases c13 : t130 = 0
      ·
       rw [if_pos c13] at H
       have c13b0 : (t130 == 0) = true := beq_iff_eq.mpr c13
       have c13b1 : (t130 != 0) = false := bne_eq_false_iff_eq.mpr c13
       clear c13
       by_cases c14 : t132 = 1
       ·
        rw [if_pos c14] at H
        have c14b0 : (t132 == 1) = true := beq_iff_eq.mpr c14
        have c14b1 : (t132 != 1) = false := bne_eq_false_iff_eq.mpr c14
        clear c14
        obtain ⟨y135, hy135⟩ : ∃ y_ : List Int, y_ = (([0, 0, 0, 1, 1, 0, 0, 0] : List Int)) := ⟨_, rfl⟩
        replace H : ((formeref09_SameInts.f k t113 y135).bind fun t138 => (if t138 = true then (if t117.toList = ([97, 98, 32, 68, 67, 32, 101, 102] : List UInt8) then ((formeref09_SameInts.f k t119 (([2, 2, 1, 1, 1, 1, 2, 2] : List Int))).bind fun t142 => (if t142 = true then (if t123.toList = ([101, 102, 32, 68, 67, 32, 97, 98] : List UInt8) then ((formeref09_SameInts.f k t125 (([1, 2, 2, 1, 2, 0] : List Int))).bind fun t146 => (if t146 = true then (some (t129.toList == ([51, 32, 49, 50, 65, 98] : List UInt8))) else (none))) else (none)) else (none))) else (none)) else (none))) = some r := by first | (rw [hy135]; with_reducible exact H) | (have H2_ := (Option.bind_some _ _).symm.trans H; rw [hy135]; with_reducible exact H2_) | (have H2_ := (Option.bind_some _ _).symm.trans H; with_reducible exact H2_) | with_reducible exact H | (rw [hy135]; exact H) | exact H
        have Ny135 := Aside0.mk hy135
        clear hy135
        replace H := Option.bind_eq_some_iff.mp H
        obtain ⟨t138, A150, H⟩ := H
        replace H : (if t138 = true then (if t117.toList = ([97, 98, 32, 68, 67, 32, 101, 102] : List UInt8) then ((formeref09_SameInts.f k t119 (([2, 2, 1, 1, 1, 1, 2, 2] : List Int))).bind fun t142 => (if t142 = true then (if t123.toList = ([101, 102, 32, 68, 67, 32, 97, 98] : List UInt8) then ((formeref09_SameInts.f k t125 (([1, 2, 2, 1, 2, 0] : List Int))).bind fun t146 => (if t146 = true then (some (t129.toList == ([51, 32, 49, 50, 65, 98] : List UInt8))) else (none))) else (none)) else (none))) else (none)) else (none)) = some r := H
        have A15 := Aside0.mk A150
        clear A150
        by_cases c16 : t138 = true
        ·
         subst c16
         have H1 : (if t117.toList = ([97, 98, 32, 68, 67, 32, 101, 102] : List UInt8) then ((formeref09_SameInts.f k t119 (([2, 2, 1, 1, 1, 1, 2, 2] : List Int))).bind fun t142 => (if t142 = true then (if t123.toList = ([101, 102, 32, 68, 67, 32, 97, 98] : List UInt8) then ((formeref09_SameInts.f k t125 (([1, 2, 2, 1, 2, 0] : List Int))).bind fun t146 => (if t146 = true then (some (t129.toList == ([51, 32, 49, 50, 65, 98] : List UInt8))) else (none))) else (none)) else (none))) else (none)) = some r := by rw [if_pos rfl] at H; exact H
         clear H
         have H := H1
         clear H1
         by_cases c17 : t117.toList = ([97, 98, 32, 68, 67, 32, 101, 102] : List UInt8)
         ·
          rw [if_pos c17] at H
          have c17b0 : (t117.toList == ([97, 98, 32, 68, 67, 32, 101, 102] : List UInt8)) = true := beq_iff_eq.mpr c17
          have c17b1 : (t117.toList != ([97, 98, 32, 68, 67, 32, 101, 102] : List UInt8)) = false := bne_eq_false_iff_eq.mpr c17
          clear c17
          obtain ⟨y139, hy139⟩ : ∃ y_ : List Int, y_ = (([2, 2, 1, 1, 1, 1, 2, 2] : List Int)) := ⟨_, rfl⟩
          replace H : ((formeref09_SameInts.f k t119 y139).bind fun t142 => (if t142 = true then (if t123.toList = ([101, 102, 32, 68, 67, 32, 97, 98] : List UInt8) then ((formeref09_SameInts.f k t125 (([1, 2, 2, 1, 2, 0] : List Int))).bind fun t146 => (if t146 = true then (some (t129.toList == ([51, 32, 49, 50, 65, 98] : List UInt8))) else (none))) else (none)) else (none))) = some r := by first | (rw [hy139]; with_reducible exact H) | (have H2_ := (Option.bind_some _ _).symm.trans H; rw [hy139]; with_reducible exact H2_) | (have H2_ := (Option.bind_some _ _).symm.trans H; with_reducible exact H2_) | with_reducible exact H | (rw [hy139]; exact H) | exact H
          have Ny139 := Aside0.mk hy139
          clear hy139
          replace H := Option.bind_eq_some_iff.mp H
          obtain ⟨t142, A180, H⟩ := H
          replace H : (if t142 = true then (if t123.toList = ([101, 102, 32, 68, 67, 32, 97, 98] : List UInt8) then ((formeref09_SameInts.f k t125 (([1, 2, 2, 1, 2, 0] : List Int))).bind fun t146 => (if t146 = true then (some (t129.toList == ([51, 32, 49, 50, 65, 98] : List UInt8))) else (none))) else (none)) else (none)) = some r := H
          have A18 := Aside0.mk A180
          clear A180
          by_cases c19 : t142 = true
          ·
           subst c19
           have H1 : (if t123.toList = ([101, 102, 32, 68, 67, 32, 97, 98] : List UInt8) then ((formeref09_SameInts.f k t125 (([1, 2, 2, 1, 2, 0] : List Int))).bind fun t146 => (if t146 = true then (some (t129.toList == ([51, 32, 49, 50, 65, 98] : List UInt8))) else (none))) else (none)) = some r := by rw [if_pos rfl] at H; exact H
           clear H
           have H := H1
           clear H1
           by_cases c20 : t123.toList = ([101, 102, 32, 68, 67, 32, 97, 98] : List UInt8)
           ·
            rw [if_pos c20] at H
            have c20b0 : (t123.toList == ([101, 102, 32, 68, 67, 32, 97, 98] : List UInt8)) = true := beq_iff_eq.mpr c20
            have c20b1 : (t123.toList != ([101, 102, 32, 68, 67, 32, 97, 98] : List UInt8)) = false := bne_eq_false_iff_eq.mpr c20
            clear c20
            obtain ⟨y143, hy143⟩ : ∃ y_ : List Int, y_ = (([1, 2, 2, 1, 2, 0] : List Int)) := ⟨_, rfl⟩
            replace H : ((formeref09_SameInts.f k t125 y143).bind fun t146 => (if t146 = true then (some (t129.toList == ([51, 32, 49, 50, 65, 98] : List UInt8))) else (none))) = some r := by first | (rw [hy143]; with_reducible exact H) | (have H2_ := (Option.bind_some _ _).symm.trans H; rw [hy143]; with_reducible exact H2_) | (have H2_ := (Option.bind_some _ _).symm.trans H; with_reducible exact H2_) | with_reducible exact H | (rw [hy143]; exact H) | exact H
            have Ny143 := Aside0.mk hy143
            clear hy143
            replace H := Option.bind_eq_some_iff.mp H
            obtain ⟨t146, A210, H⟩ := H
            replace H : (if t146 = true then (some (t129.toList == ([51, 32, 49, 50, 65, 98] : List UInt8))) else (none)) = some r := H
            have A21 := Aside0.mk A210
            clear A210
            by_cases c22 : t146 = true
            ·
             subst c22
             have H1 : (some (t129.toList == ([51, 32, 49, 50, 65, 98] : List UInt8))) = some r := by rw [if_pos rfl] at H; exact H
             clear H
             have H := H1
             clear H1
             obtain rfl := Option.some.inj H
             go_enter Try.func10, Try.ntmps10
             go_wp2_with (first | ((with_reducible refine gate_callee (f := 11) rfl ?_); refine goesL_ (some 17) rfl rfl Try.func11 (by kernel_rfl) rfl #[.string (⟨#[97, 98, 32, 67, 68, 32, 101, 102]⟩ : ByteArray), .int .i64 0] rfl (by (try simp only [List.map_toArray, List.map_cons, List.map_nil]); first | done | rfl | (simp only [List.length_drop, List.length_take]; rfl)) ?_; (with_reducible refine (bidi_Levels.calls (⟨#[97, 98, 32, 67, 68, 32, 101, 102]⟩ : ByteArray) 0 t113 t114 _ A1.out).mono ?_); rintro e w23 ⟨v115, rfl, ho0, hb⟩; refine ⟨_, rfl, ?_⟩; have n0_ := Aside0.mk (Kd.R_lower ho0 (below_size (by repeat (first | (with_reducible first | exact HB.out | apply below_alloc | apply pw_below_drewN | apply below_drew1) | exact HB.out)))); have n1_ := Aside0.mk (below_step (by repeat (first | (with_reducible first | exact HB.out | apply below_alloc | apply pw_below_drewN | apply below_drew1) | exact HB.out)) hb); clear HB; have HO116 := n0_; have HB := n1_; clear n0_ n1_; (try clear hb); (try clear hb2); (try clear hk); (try clear hi); (try clear ho0)) | ((with_reducible refine gate_callee (f := 16) rfl ?_); refine goesL_ (some 21) rfl rfl Try.func16 (by kernel_rfl) rfl #[.string (⟨#[97, 98, 32, 67, 68, 32, 101, 102]⟩ : ByteArray), .int .i64 0] rfl (by (try simp only [List.map_toArray, List.map_cons, List.map_nil]); first | done | rfl | (simp only [List.length_drop, List.length_take]; rfl)) ?_; (with_reducible refine (bidi_Visual.calls k (⟨#[97, 98, 32, 67, 68, 32, 101, 102]⟩ : ByteArray) 0 t117 t118 _ A2.out).mono ?_); rintro e w24 ⟨rfl, hb⟩; refine ⟨_, rfl, ?_⟩; have n0_ := Aside0.mk (Kd.R_below (by (with_reducible repeat (first | apply Kd.R_alloc | apply Kd.R_drewN | apply Kd.R_drew)); exact HO116.out) hb); have n1_ := Aside0.mk (below_step (by repeat (first | (with_reducible first | exact HB.out | apply below_alloc | apply pw_below_drewN | apply below_drew1) | exact HB.out)) hb); clear HO116; clear HB; have HO116 := n0_; have HB := n1_; clear n0_ n1_; (try clear hb); (try clear hb2); (try clear hk); (try clear hi)) | ((with_reducible refine gate_callee (f := 11) rfl ?_); refine goesL_ (some 25) rfl rfl Try.func11 (by kernel_rfl) rfl #[.string (⟨#[97, 98, 32, 67, 68, 32, 101, 102]⟩ : ByteArray), .int .i64 1] rfl (by (try simp only [List.map_toArray, List.map_cons, List.map_nil]); first | done | rfl | (simp only [List.length_drop, List.length_take]; rfl)) ?_; (with_reducible refine (bidi_Levels.calls (⟨#[97, 98, 32, 67, 68, 32, 101, 102]⟩ : ByteArray) 1 t119 t120 _ A3.out).mono ?_); rintro e w25 ⟨v121, rfl, ho0, hb⟩; refine ⟨_, rfl, ?_⟩; have n0_ := Aside0.mk (Kd.R_elder' (by (with_reducible repeat (first | apply Kd.R_alloc | apply Kd.R_drewN | apply Kd.R_drew)); exact HO116.out) (Kd.R_base ho0) hb); have n1_ := Aside0.mk (Kd.R_lower (Kd.R_new' ho0 (Kd.R_lt (by (with_reducible repeat (first | apply Kd.R_alloc | apply Kd.R_drewN | apply Kd.R_drew)); exact HO116.out))) (below_size (by repeat (first | (with_reducible first | exact HB.out | apply below_alloc | apply pw_below_drewN | apply below_drew1) | exact HB.out)))); have n2_ := Aside0.mk (below_step (by repeat (first | (with_reducible first | exact HB.out | apply below_alloc | apply pw_below_drewN | apply below_drew1) | exact HB.out)) hb); clear HO116; clear HB; have HO116 := n0_; have HO122 := n1_; have HB := n2_; clear n0_ n1_ n2_; (try clear hb); (try clear hb2); (try clear hk); (try clear hi); (try clear ho0)) | ((with_reducible refine gate_callee (f := 16) rfl ?_); refine goesL_ (some 29) rfl rfl Try.func16 (by kernel_rfl) rfl #[.string (⟨#[97, 98, 32, 67, 68, 32, 101, 102]⟩ : ByteArray), .int .i64 1] rfl (by (try simp only [List.map_toArray, List.map_cons, List.map_nil]); first | done | rfl | (simp only [List.length_drop, List.length_take]; rfl)) ?_; (with_reducible refine (bidi_Visual.calls k (⟨#[97, 98, 32, 67, 68, 32, 101, 102]⟩ : ByteArray) 1 t123 t124 _ A4.out).mono ?_); rintro e w26 ⟨rfl, hb⟩; refine ⟨_, rfl, ?_⟩; have n0_ := Aside0.mk (Kd.R_below (by (with_reducible repeat (first | apply Kd.R_alloc | apply Kd.R_drewN | apply Kd.R_drew)); exact HO116.out) hb); have n1_ := Aside0.mk (Kd.R_below (by (with_reducible repeat (first | apply Kd.R_alloc | apply Kd.R_drewN | apply Kd.R_drew)); exact HO122.out) hb); have n2_ := Aside0.mk (below_step (by repeat (first | (with_reducible first | exact HB.out | apply below_alloc | apply pw_below_drewN | apply below_drew1) | exact HB.out)) hb); clear HO116; clear HO122; clear HB; have HO116 := n0_; have HO122 := n1_; have HB := n2_; clear n0_ n1_ n2_; (try clear hb); (try clear hb2); (try clear hk); (try clear hi)) | ((with_reducible refine gate_callee (f := 11) rfl ?_); refine goesL_ (some 33) rfl rfl Try.func11 (by kernel_rfl) rfl #[.string (⟨#[65, 49, 50, 32, 51, 98]⟩ : ByteArray), .int .i64 0] rfl (by (try simp only [List.map_toArray, List.map_cons, List.map_nil]); first | done | rfl | (simp only [List.length_drop, List.length_take]; rfl)) ?_; (with_reducible refine (bidi_Levels.calls (⟨#[65, 49, 50, 32, 51, 98]⟩ : ByteArray) 0 t125 t126 _ A5.out).mono ?_); rintro e w27 ⟨v127, rfl, ho0, hb⟩; refine ⟨_, rfl, ?_⟩; have n0_ := Aside0.mk (Kd.R_elder' (by (with_reducible repeat (first | apply Kd.R_alloc | apply Kd.R_drewN | apply Kd.R_drew)); exact HO116.out) (Kd.R_base ho0) hb); have n1_ := Aside0.mk (Kd.R_elder' (by (with_reducible repeat (first | apply Kd.R_alloc | apply Kd.R_drewN | apply Kd.R_drew)); exact HO122.out) (Kd.R_base ho0) hb); have n2_ := Aside0.mk (Kd.R_lower (Kd.R_new' (Kd.R_new' ho0 (Kd.R_lt (by (with_reducible repeat (first | apply Kd.R_alloc | apply Kd.R_drewN | apply Kd.R_drew)); exact HO116.out))) (Kd.R_lt (by (with_reducible repeat (first | apply Kd.R_alloc | apply Kd.R_drewN | apply Kd.R_drew)); exact HO122.out))) (below_size (by repeat (first | (with_reducible first | exact HB.out | apply below_alloc | apply pw_below_drewN | apply below_drew1) | exact HB.out)))); have n3_ := Aside0.mk (below_step (by repeat (first | (with_reducible first | exact HB.out | apply below_alloc | apply pw_below_drewN | apply below_drew1) | exact HB.out)) hb); clear HO116; clear HO122; clear HB; have HO116 := n0_; have HO122 := n1_; have HO128 := n2_; have HB := n3_; clear n0_ n1_ n2_ n3_; (try clear hb); (try clear hb2); (try clear hk); (try clear hi); (try clear ho0)) | ((with_reducible refine gate_callee (f := 16) rfl ?_); refine goesL_ (some 37) rfl rfl Try.func16 (by kernel_rfl) rfl #[.string (⟨#[65, 49, 50, 32, 51, 98]⟩ : ByteArray), .int .i64 0] rfl (by (try simp only [List.map_toArray, List.map_cons, List.map_nil]); first | done | rfl | (simp only [List.length_drop, List.length_take]; rfl)) ?_; (with_reducible refine (bidi_Visual.calls k (⟨#[65, 49, 50, 32, 51, 98]⟩ : ByteArray) 0 t129 t130 _ A6.out).mono ?_); rintro e w28 ⟨rfl, hb⟩; refine ⟨_, rfl, ?_⟩; have n0_ := Aside0.mk (Kd.R_below (by (with_reducible repeat (first | apply Kd.R_alloc | apply Kd.R_drewN | apply Kd.R_drew)); exact HO116.out) hb); have n1_ := Aside0.mk (Kd.R_below (by (with_reducible repeat (first | apply Kd.R_alloc | apply Kd.R_drewN | apply Kd.R_drew)); exact HO122.out) hb); have n2_ := Aside0.mk (Kd.R_below (by (with_reducible repeat (first | apply Kd.R_alloc | apply Kd.R_drewN | apply Kd.R_drew)); exact HO128.out) hb); have n3_ := Aside0.mk (below_step (by repeat (first | (with_reducible first | exact HB.out | apply below_alloc | apply pw_below_drewN | apply below_drew1) | exact HB.out)) hb); clear HO116; clear HO122; clear HO128; clear HB; have HO116 := n0_; have HO122 := n1_; have HO128 := n2_; have HB := n3_; clear n0_ n1_ n2_ n3_; (try clear hb); (try clear hb2); (try clear hk); (try clear hi)) | ((with_reducible refine gate_callee (f := 14) rfl ?_); refine goesL_ (some 41) rfl rfl Try.func14 (by kernel_rfl) rfl #[.string (⟨#[97, 98]⟩ : ByteArray), .int .i64 2] rfl (by (try simp only [List.map_toArray, List.map_cons, List.map_nil]); first | done | rfl | (simp only [List.length_drop, List.length_take]; rfl)) ?_; (with_reducible refine (bidi_Order.calls (⟨#[97, 98]⟩ : ByteArray) 2 t131 t132 _ A7.out).mono ?_); rintro e w29 ⟨v133, rfl, ho0, hb⟩; refine ⟨_, rfl, ?_⟩; have n0_ := Aside0.mk (Kd.R_elder' (by (with_reducible repeat (first | apply Kd.R_alloc | apply Kd.R_drewN | apply Kd.R_drew)); exact HO116.out) (Kd.R_base ho0) hb); have n1_ := Aside0.mk (Kd.R_elder' (by (with_reducible repeat (first | apply Kd.R_alloc | apply Kd.R_drewN | apply Kd.R_drew)); exact HO122.out) (Kd.R_base ho0) hb); have n2_ := Aside0.mk (Kd.R_elder' (by (with_reducible repeat (first | apply Kd.R_alloc | apply Kd.R_drewN | apply Kd.R_drew)); exact HO128.out) (Kd.R_base ho0) hb); have n3_ := Aside0.mk (Kd.R_lower (Kd.R_new' (Kd.R_new' (Kd.R_new' ho0 (Kd.R_lt (by (with_reducible repeat (first | apply Kd.R_alloc | apply Kd.R_drewN | apply Kd.R_drew)); exact HO116.out))) (Kd.R_lt (by (with_reducible repeat (first | apply Kd.R_alloc | apply Kd.R_drewN | apply Kd.R_drew)); exact HO122.out))) (Kd.R_lt (by (with_reducible repeat (first | apply Kd.R_alloc | apply Kd.R_drewN | apply Kd.R_drew)); exact HO128.out))) (below_size (by repeat (first | (with_reducible first | exact HB.out | apply below_alloc | apply pw_below_drewN | apply below_drew1) | exact HB.out)))); have n4_ := Aside0.mk (below_step (by repeat (first | (with_reducible first | exact HB.out | apply below_alloc | apply pw_below_drewN | apply below_drew1) | exact HB.out)) hb); clear HO116; clear HO122; clear HO128; clear HB; have HO116 := n0_; have HO122 := n1_; have HO128 := n2_; have HO134 := n3_; have HB := n4_; clear n0_ n1_ n2_ n3_ n4_; (try clear hb); (try clear hb2); (try clear hk); (try clear hi); (try clear ho0)) | ((with_reducible refine gate_dst (N := 73) rfl ?_); (try (refine gate_guard (by rfl) ?_; dsimp only)); refine Kd.R_lit (Kd.int .i64) _ 3 ?hg (N := 73) ?hd (xs := ([0, 0, 0, 1, 1, 0, 0, 0] : List Int)) (inner := [.int .i64 0, .int .i64 0, .int .i64 0, .int .i64 1, .int .i64 1, .int .i64 0, .int .i64 0, .int .i64 0]) (ok := fun _ => True) (okp := fun _ => True) ?hr ?hp (fun _ hk => hk) trivial (Below.refl _ _) (Nat.le_refl _) (by simp) ?_; (case hd => rfl); (case hg => rfl); (case hr => first | (go_simp; done) | (go_simp; rfl)); (case hp => exact (Reps.one (show Kd.M (Kd.int .i64) _ _ _ 0 [.int .i64 0] from rfl) (Reps.one (show Kd.M (Kd.int .i64) _ _ _ 0 [.int .i64 0] from rfl) (Reps.one (show Kd.M (Kd.int .i64) _ _ _ 0 [.int .i64 0] from rfl) (Reps.one (show Kd.M (Kd.int .i64) _ _ _ 1 [.int .i64 1] from rfl) (Reps.one (show Kd.M (Kd.int .i64) _ _ _ 1 [.int .i64 1] from rfl) (Reps.one (show Kd.M (Kd.int .i64) _ _ _ 0 [.int .i64 0] from rfl) (Reps.one (show Kd.M (Kd.int .i64) _ _ _ 0 [.int .i64 0] from rfl) (Reps.one (show Kd.M (Kd.int .i64) _ _ _ 0 [.int .i64 0] from rfl) (Reps.none _ _)))))))))); intro v136 w30 ho31 hb hg_ hnew_; clear hg_ hnew_; (first | rw [← Ny135.out] at ho31 | (simp only [Int.reduceToNat] at ho31; rw [← Ny135.out] at ho31)); have n0_ := Aside0.mk (Kd.R_elder' (by (with_reducible repeat (first | apply Kd.R_alloc | apply Kd.R_drewN | apply Kd.R_drew)); exact HO116.out) (Kd.R_base ho31) hb); have n1_ := Aside0.mk (Kd.R_elder' (by (with_reducible repeat (first | apply Kd.R_alloc | apply Kd.R_drewN | apply Kd.R_drew)); exact HO122.out) (Kd.R_base ho31) hb); have n2_ := Aside0.mk (Kd.R_elder' (by (with_reducible repeat (first | apply Kd.R_alloc | apply Kd.R_drewN | apply Kd.R_drew)); exact HO128.out) (Kd.R_base ho31) hb); have n3_ := Aside0.mk (Kd.R_elder' (by (with_reducible repeat (first | apply Kd.R_alloc | apply Kd.R_drewN | apply Kd.R_drew)); exact HO134.out) (Kd.R_base ho31) hb); have n4_ := Aside0.mk (Kd.R_lower (Kd.R_new' (Kd.R_new' (Kd.R_new' (Kd.R_new' ho31 (Kd.R_lt (by (with_reducible repeat (first | apply Kd.R_alloc | apply Kd.R_drewN | apply Kd.R_drew)); exact HO116.out))) (Kd.R_lt (by (with_reducible repeat (first | apply Kd.R_alloc | apply Kd.R_drewN | apply Kd.R_drew)); exact HO122.out))) (Kd.R_lt (by (with_reducible repeat (first | apply Kd.R_alloc | apply Kd.R_drewN | apply Kd.R_drew)); exact HO128.out))) (Kd.R_lt (by (with_reducible repeat (first | apply Kd.R_alloc | apply Kd.R_drewN | apply Kd.R_drew)); exact HO134.out))) (below_size (by repeat (first | (with_reducible first | exact HB.out | apply below_alloc | apply pw_below_drewN | apply below_drew1) | exact HB.out)))); have n5_ := Aside0.mk (below_step (by repeat (first | (with_reducible first | exact HB.out | apply below_alloc | apply pw_below_drewN | apply below_drew1) | exact HB.out)) hb); clear HO116; clear HO122; clear HO128; clear HO134; clear HB; have HO116 := n0_; have HO122 := n1_; have HO128 := n2_; have HO134 := n3_; have HO137 := n4_; have HB := n5_; clear n0_ n1_ n2_ n3_ n4_ n5_; clear hb ho31; obtain ⟨Ao32, co32, eo32⟩ := Kd.R_slice HO116.out; subst eo32; obtain ⟨Ao33, co33, eo33⟩ := Kd.R_slice HO137.out; subst eo33) | (go_at_call 13; (with_reducible refine (formeref09_SameInts.calls k _ _ t113 _ _ y135 true _ ?side1 ?side2 ?side3 ?side4 A15.out).mono ?_); (case side1 => repeat (first | exact (Kd.R_reads' HO116.out).2.2 | (with_reducible refine Kd.C_alloc ?_ _) | (with_reducible refine Kd.C_drewN ?_ _) | (with_reducible refine Kd.C_drew ?_))); (case side2 => exact (Kd.R_reads' HO116.out).2.1); (case side3 => repeat (first | exact (Kd.R_reads' HO137.out).2.2 | (with_reducible refine Kd.C_alloc ?_ _) | (with_reducible refine Kd.C_drewN ?_ _) | (with_reducible refine Kd.C_drew ?_))); (case side4 => exact (Kd.R_reads' HO137.out).2.1); rintro e w' ⟨rfl, ⟨nd, rfl⟩⟩) | ((with_reducible refine gate_dst (N := 82) rfl ?_); (try (refine gate_guard (by rfl) ?_; dsimp only)); refine Kd.R_lit (Kd.int .i64) _ 3 ?hg (N := 82) ?hd (xs := ([2, 2, 1, 1, 1, 1, 2, 2] : List Int)) (inner := [.int .i64 2, .int .i64 2, .int .i64 1, .int .i64 1, .int .i64 1, .int .i64 1, .int .i64 2, .int .i64 2]) (ok := fun _ => True) (okp := fun _ => True) ?hr ?hp (fun _ hk => hk) trivial (Below.refl _ _) (Nat.le_refl _) (by simp) ?_; (case hd => rfl); (case hg => rfl); (case hr => first | (go_simp; done) | (go_simp; rfl)); (case hp => exact (Reps.one (show Kd.M (Kd.int .i64) _ _ _ 2 [.int .i64 2] from rfl) (Reps.one (show Kd.M (Kd.int .i64) _ _ _ 2 [.int .i64 2] from rfl) (Reps.one (show Kd.M (Kd.int .i64) _ _ _ 1 [.int .i64 1] from rfl) (Reps.one (show Kd.M (Kd.int .i64) _ _ _ 1 [.int .i64 1] from rfl) (Reps.one (show Kd.M (Kd.int .i64) _ _ _ 1 [.int .i64 1] from rfl) (Reps.one (show Kd.M (Kd.int .i64) _ _ _ 1 [.int .i64 1] from rfl) (Reps.one (show Kd.M (Kd.int .i64) _ _ _ 2 [.int .i64 2] from rfl) (Reps.one (show Kd.M (Kd.int .i64) _ _ _ 2 [.int .i64 2] from rfl) (Reps.none _ _)))))))))); intro v140 w34 ho35 hb hg_ hnew_; clear hg_ hnew_; (first | rw [← Ny139.out] at ho35 | (simp only [Int.reduceToNat] at ho35; rw [← Ny139.out] at ho35)); have n0_ := Aside0.mk (Kd.R_elder' (by (with_reducible repeat (first | apply Kd.R_alloc | apply Kd.R_drewN | apply Kd.R_drew)); exact HO116.out) (Kd.R_base ho35) hb); have n1_ := Aside0.mk (Kd.R_elder' (by (with_reducible repeat (first | apply Kd.R_alloc | apply Kd.R_drewN | apply Kd.R_drew)); exact HO122.out) (Kd.R_base ho35) hb); have n2_ := Aside0.mk (Kd.R_elder' (by (with_reducible repeat (first | apply Kd.R_alloc | apply Kd.R_drewN | apply Kd.R_drew)); exact HO128.out) (Kd.R_base ho35) hb); have n3_ := Aside0.mk (Kd.R_elder' (by (with_reducible repeat (first | apply Kd.R_alloc | apply Kd.R_drewN | apply Kd.R_drew)); exact HO134.out) (Kd.R_base ho35) hb); have n4_ := Aside0.mk (Kd.R_elder' (by (with_reducible repeat (first | apply Kd.R_alloc | apply Kd.R_drewN | apply Kd.R_drew)); exact HO137.out) (Kd.R_base ho35) hb); have n5_ := Aside0.mk (Kd.R_lower (Kd.R_new' (Kd.R_new' (Kd.R_new' (Kd.R_new' (Kd.R_new' ho35 (Kd.R_lt (by (with_reducible repeat (first | apply Kd.R_alloc | apply Kd.R_drewN | apply Kd.R_drew)); exact HO116.out))) (Kd.R_lt (by (with_reducible repeat (first | apply Kd.R_alloc | apply Kd.R_drewN | apply Kd.R_drew)); exact HO122.out))) (Kd.R_lt (by (with_reducible repeat (first | apply Kd.R_alloc | apply Kd.R_drewN | apply Kd.R_drew)); exact HO128.out))) (Kd.R_lt (by (with_reducible repeat (first | apply Kd.R_alloc | apply Kd.R_drewN | apply Kd.R_drew)); exact HO134.out))) (Kd.R_lt (by (with_reducible repeat (first | apply Kd.R_alloc | apply Kd.R_drewN | apply Kd.R_drew)); exact HO137.out))) (below_size (by repeat (first | (with_reducible first | exact HB.out | apply below_alloc | apply pw_below_drewN | apply below_drew1) | exact HB.out)))); have n6_ := Aside0.mk (below_step (by repeat (first | (with_reducible first | exact HB.out | apply below_alloc | apply pw_below_drewN | apply below_drew1) | exact HB.out)) hb); clear HO116; clear HO122; clear HO128; clear HO134; clear HO137; clear HB; have HO116 := n0_; have HO122 := n1_; have HO128 := n2_; have HO134 := n3_; have HO137 := n4_; have HO141 := n5_; have HB := n6_; clear n0_ n1_ n2_ n3_ n4_ n5_ n6_; clear hb ho35; obtain ⟨Ao36, co36, eo36⟩ := Kd.R_slice HO122.out; subst eo36; obtain ⟨Ao37, co37, eo37⟩ := Kd.R_slice HO141.out; subst eo37) | (go_at_call 13; (with_reducible refine (formeref09_SameInts.calls k _ _ t119 _ _ y139 true _ ?side1 ?side2 ?side3 ?side4 A18.out).mono ?_); (case side1 => repeat (first | exact (Kd.R_reads' HO122.out).2.2 | (with_reducible refine Kd.C_alloc ?_ _) | (with_reducible refine Kd.C_drewN ?_ _) | (with_reducible refine Kd.C_drew ?_))); (case side2 => exact (Kd.R_reads' HO122.out).2.1); (case side3 => repeat (first | exact (Kd.R_reads' HO141.out).2.2 | (with_reducible refine Kd.C_alloc ?_ _) | (with_reducible refine Kd.C_drewN ?_ _) | (with_reducible refine Kd.C_drew ?_))); (case side4 => exact (Kd.R_reads' HO141.out).2.1); rintro e w' ⟨rfl, ⟨nd, rfl⟩⟩) | ((with_reducible refine gate_dst (N := 92) rfl ?_); (try (refine gate_guard (by rfl) ?_; dsimp only)); refine Kd.R_lit (Kd.int .i64) _ 3 ?hg (N := 92) ?hd (xs := ([1, 2, 2, 1, 2, 0] : List Int)) (inner := [.int .i64 1, .int .i64 2, .int .i64 2, .int .i64 1, .int .i64 2, .int .i64 0]) (ok := fun _ => True) (okp := fun _ => True) ?hr ?hp (fun _ hk => hk) trivial (Below.refl _ _) (Nat.le_refl _) (by simp) ?_; (case hd => rfl); (case hg => rfl); (case hr => first | (go_simp; done) | (go_simp; rfl)); (case hp => exact (Reps.one (show Kd.M (Kd.int .i64) _ _ _ 1 [.int .i64 1] from rfl) (Reps.one (show Kd.M (Kd.int .i64) _ _ _ 2 [.int .i64 2] from rfl) (Reps.one (show Kd.M (Kd.int .i64) _ _ _ 2 [.int .i64 2] from rfl) (Reps.one (show Kd.M (Kd.int .i64) _ _ _ 1 [.int .i64 1] from rfl) (Reps.one (show Kd.M (Kd.int .i64) _ _ _ 2 [.int .i64 2] from rfl) (Reps.one (show Kd.M (Kd.int .i64) _ _ _ 0 [.int .i64 0] from rfl) (Reps.none _ _)))))))); intro v144 w38 ho39 hb hg_ hnew_; clear hg_ hnew_; (first | rw [← Ny143.out] at ho39 | (simp only [Int.reduceToNat] at ho39; rw [← Ny143.out] at ho39)); have n0_ := Aside0.mk (Kd.R_elder' (by (with_reducible repeat (first | apply Kd.R_alloc | apply Kd.R_drewN | apply Kd.R_drew)); exact HO116.out) (Kd.R_base ho39) hb); have n1_ := Aside0.mk (Kd.R_elder' (by (with_reducible repeat (first | apply Kd.R_alloc | apply Kd.R_drewN | apply Kd.R_drew)); exact HO122.out) (Kd.R_base ho39) hb); have n2_ := Aside0.mk (Kd.R_elder' (by (with_reducible repeat (first | apply Kd.R_alloc | apply Kd.R_drewN | apply Kd.R_drew)); exact HO128.out) (Kd.R_base ho39) hb); have n3_ := Aside0.mk (Kd.R_elder' (by (with_reducible repeat (first | apply Kd.R_alloc | apply Kd.R_drewN | apply Kd.R_drew)); exact HO134.out) (Kd.R_base ho39) hb); have n4_ := Aside0.mk (Kd.R_elder' (by (with_reducible repeat (first | apply Kd.R_alloc | apply Kd.R_drewN | apply Kd.R_drew)); exact HO137.out) (Kd.R_base ho39) hb); have n5_ := Aside0.mk (Kd.R_elder' (by (with_reducible repeat (first | apply Kd.R_alloc | apply Kd.R_drewN | apply Kd.R_drew)); exact HO141.out) (Kd.R_base ho39) hb); have n6_ := Aside0.mk (Kd.R_lower (Kd.R_new' (Kd.R_new' (Kd.R_new' (Kd.R_new' (Kd.R_new' (Kd.R_new' ho39 (Kd.R_lt (by (with_reducible repeat (first | apply Kd.R_alloc | apply Kd.R_drewN | apply Kd.R_drew)); exact HO116.out))) (Kd.R_lt (by (with_reducible repeat (first | apply Kd.R_alloc | apply Kd.R_drewN | apply Kd.R_drew)); exact HO122.out))) (Kd.R_lt (by (with_reducible repeat (first | apply Kd.R_alloc | apply Kd.R_drewN | apply Kd.R_drew)); exact HO128.out))) (Kd.R_lt (by (with_reducible repeat (first | apply Kd.R_alloc | apply Kd.R_drewN | apply Kd.R_drew)); exact HO134.out))) (Kd.R_lt (by (with_reducible repeat (first | apply Kd.R_alloc | apply Kd.R_drewN | apply Kd.R_drew)); exact HO137.out))) (Kd.R_lt (by (with_reducible repeat (first | apply Kd.R_alloc | apply Kd.R_drewN | apply Kd.R_drew)); exact HO141.out))) (below_size (by repeat (first | (with_reducible first | exact HB.out | apply below_alloc | apply pw_below_drewN | apply below_drew1) | exact HB.out)))); have n7_ := Aside0.mk (below_step (by repeat (first | (with_reducible first | exact HB.out | apply below_alloc | apply pw_below_drewN | apply below_drew1) | exact HB.out)) hb); clear HO116; clear HO122; clear HO128; clear HO134; clear HO137; clear HO141; clear HB; have HO116 := n0_; have HO122 := n1_; have HO128 := n2_; have HO134 := n3_; have HO137 := n4_; have HO141 := n5_; have HO145 := n6_; have HB := n7_; clear n0_ n1_ n2_ n3_ n4_ n5_ n6_ n7_; clear hb ho39; obtain ⟨Ao40, co40, eo40⟩ := Kd.R_slice HO128.out; subst eo40; obtain ⟨Ao41, co41, eo41⟩ := Kd.R_slice HO145.out; subst eo41) | (go_at_call 13; (with_reducible refine (formeref09_SameInts.calls k _ _ t125 _ _ y143 true _ ?side1 ?side2 ?side3 ?side4 A21.out).mono ?_); (case side1 => repeat (first | exact (Kd.R_reads' HO128.out).2.2 | (with_reducible refine Kd.C_alloc ?_ _) | (with_reducible refine Kd.C_drewN ?_ _) | (with_reducible refine Kd.C_drew ?_))); (case side2 => exact (Kd.R_reads' HO128.out).2.1); (case side3 => repeat (first | exact (Kd.R_reads' HO145.out).2.2 | (with_reducible refine Kd.C_alloc ?_ _) | (with_reducible refine Kd.C_drewN ?_ _) | (with_reducible refine Kd.C_drew ?_))); (case side4 => exact (Kd.R_reads' HO145.out).2.1); rintro e w' ⟨rfl, ⟨nd, rfl⟩⟩))
             go_ret
             exact ⟨by first | rfl | (simp [errW_none, errW_some] <;> rfl) | (simp [*, errW_none, errW_some] <;> rfl), by repeat (first | (with_reducible first | exact HB.out | apply below_alloc | apply pw_below_drewN | apply below_drew1) | exact HB.out)⟩
            ·
             replace c22 := Bool.eq_false_iff.mpr c22
             subst c22
             have H1 : (none) = some r := by rw [if_neg (show ¬ (false = true) by decide)] at H; exact H
             clear H
             have H := H1
             clear H1
             exact absurd H (by simp)
           ·
            rw [if_neg c20] at H
            exact absurd H (by simp)
          ·
           replace c19 := Bool.eq_false_iff.mpr c19
           subst c19
           have H1 : (none) = some r := by rw [if_neg (show ¬ (false = true) by decide)] at H; exact H
           clear H
           have H := H1
           clear H1
           exact absurd H (by simp)
         ·
          rw [if_neg c17] at H
          exact absurd H (by simp)
        ·
         replace c16 := Bool.eq_false_iff.mpr c16
         subst c16
         have H1 : (none) = some r := by rw [if_neg (show ¬ (false = true) by decide)] at H; exact H
         clear H
         have H := H1
         clear H1
         exact absurd H (by simp)
       ·
        rw [if_neg c14] at H
        exact absurd H (by simp)
      ·
       rw [if_neg c13] at H
       exact absurd H (by simp)
     ·
      rw [if_neg c12] at H
      exact absurd H (by simp)
    ·
     rw [if_neg c11] at H
     exact absurd H (by simp)
   ·
    rw [if_neg c10] at H
    exact absurd H (by simp)
  ·
   rw [if_neg c9] at H
   exact absurd H (by simp)
 ·
  rw [if_neg c8] at H
  exact absurd H (by simp)

/-! ### formelaw09_places: function 19 -/
mutual
def formelaw09_places.j0 : Nat → ByteArray → List Int → Bool → Option (List Int × Bool)
 | 0, _, _, _ => none
 | k + 1, x0, x6, x26 => if x26 = true then (some (([] : List Int), false)) else (if 0 ≤ (x0.size : Int) then (if ((x0.size : Int) : Int).toNat ≤ 35184372088832 then (if ((x0.size : Int) : Int).toNat ≤ 281474976710656 then (formelaw09_places.l0 k x0 (List.replicate ((x0.size : Int) : Int).toNat 0) (List.replicate ((x0.size : Int) : Int).toNat false) x6 (x6.length : Int) 0) else (none)) else (none)) else (none))
def formelaw09_places.l0 : Nat → ByteArray → List Int → List Bool → List Int → Int → Int → Option (List Int × Bool)
 | 0, _, _, _, _, _, _ => none
 | k + 1, x0, x8, x9, x33, x34, x35 => if x35 < x34 then (if 0 ≤ x35 then (if x35 < (x33.length : Int) then (if (rd x33 x35) < 0 then (some (([] : List Int), false)) else (if (rd x33 x35) ≥ (x0.size : Int) then (some (([] : List Int), false)) else (if 0 ≤ (rd x33 x35) then (if (rd x33 x35) < (x9.length : Int) then (if rdOf false x9 (rd x33 x35) = true then (some (([] : List Int), false)) else (if (rd x33 x35) < (x8.length : Int) then (formelaw09_places.l0 k x0 (x8.set ((rd x33 x35) : Int).toNat x35) (x9.set ((rd x33 x35) : Int).toNat true) x33 x34 (wrap64 (x35 + 1))) else (none))) else (none)) else (none)))) else (none)) else (none)) else (some (x8, true))
end
def formelaw09_places.f (k : Nat) (a0 : ByteArray) (a1 : Int) : Option (List Int × Bool) := (bidi_Order.f a0 a1).bind fun bt208 => (if bt208.2 = 0 then (formelaw09_places.j0 k a0 bt208.1 ((bt208.1.length : Int) != (a0.size : Int))) else (formelaw09_places.j0 k a0 bt208.1 true))
theorem formelaw09_places.mono_l : ∀ k, (∀ y0 y1 y2, LeO (formelaw09_places.j0 k y0 y1 y2) (formelaw09_places.j0 (k + 1) y0 y1 y2)) ∧ (∀ y0 y1 y2 y3 y4 y5, LeO (formelaw09_places.l0 k y0 y1 y2 y3 y4 y5) (formelaw09_places.l0 (k + 1) y0 y1 y2 y3 y4 y5))
 | 0 => ⟨fun _ _ _ r h => by simp [formelaw09_places.j0] at h, fun _ _ _ _ _ _ r h => by simp [formelaw09_places.l0] at h⟩
 | k + 1 => by
  obtain ⟨ih0, ih1⟩ := formelaw09_places.mono_l k
  refine ⟨?_, ?_⟩
  ·
   intro y0 y1 y2
   unfold formelaw09_places.j0
   repeat' first
   | (with_reducible exact ih0 _ _ _)
   | (with_reducible exact ih1 _ _ _ _ _ _)
   | (with_reducible exact LeO.refl _)
   | (with_reducible exact LeO.none _)
   | (with_reducible refine LeO.ite ?_ ?_)
   | (with_reducible refine LeO.bind ?_ (fun _ => ?_))
   | exact ih0 _ _ _
   | exact ih1 _ _ _ _ _ _
   | exact LeO.none _
   | refine LeO.ite ?_ ?_
   | refine LeO.bind ?_ (fun _ => ?_)
  ·
   intro y0 y1 y2 y3 y4 y5
   unfold formelaw09_places.l0
   repeat' first
   | (with_reducible exact ih0 _ _ _)
   | (with_reducible exact ih1 _ _ _ _ _ _)
   | (with_reducible exact LeO.refl _)
   | (with_reducible exact LeO.none _)
   | (with_reducible refine LeO.ite ?_ ?_)
   | (with_reducible refine LeO.bind ?_ (fun _ => ?_))
   | exact ih0 _ _ _
   | exact ih1 _ _ _ _ _ _
   | exact LeO.none _
   | refine LeO.ite ?_ ?_
   | refine LeO.bind ?_ (fun _ => ?_)
theorem formelaw09_places.mono : ∀ a0 a1 k, LeO (formelaw09_places.f k a0 a1) (formelaw09_places.f (k + 1) a0 a1) := by
 intro a0 a1 k
 obtain ⟨ih0, ih1⟩ := formelaw09_places.mono_l k
 unfold formelaw09_places.f
 repeat' first
   | (with_reducible exact ih0 _ _ _)
   | (with_reducible exact ih1 _ _ _ _ _ _)
   | (with_reducible exact LeO.refl _)
   | (with_reducible exact LeO.none _)
   | (with_reducible refine LeO.ite ?_ ?_)
   | (with_reducible refine LeO.bind ?_ (fun _ => ?_))
   | exact ih0 _ _ _
   | exact ih1 _ _ _ _ _ _
   | exact LeO.none _
   | refine LeO.ite ?_ ?_
   | refine LeO.bind ?_ (fun _ => ?_)
set_option maxHeartbeats 8000000 in
set_option maxRecDepth 100000 in
theorem formelaw09_places.calls (k : Nat) (a0 : ByteArray) (a1 : Int) (r1 : List Int) (r2 : Bool) (w : World) (h : formelaw09_places.f k a0 a1 = some (r1, r2)) :
  Calls Try.prog 19 #[.string a0, .int .i64 a1] w fun e w' => ∃ v0_ : Value, e = .returned (.tuple #[v0_, .bool r2]) ∧ Kd.R (Kd.int .i64) 3 w' w.heap.size (fun _ => True) v0_ r1 ∧ Below w.heap.size w w' := by
 have HB := Aside0.mk (Below.refl w.heap.size w)
 have H : ((bidi_Order.f a0 a1).bind fun bt208 => (if bt208.2 = 0 then (formelaw09_places.j0 k a0 bt208.1 ((bt208.1.length : Int) != (a0.size : Int))) else (formelaw09_places.j0 k a0 bt208.1 true))) = some (r1, r2) := h
 clear h
 replace H := Option.bind_eq_some_iff.mp H
 obtain ⟨⟨t208, t209⟩, A30, H⟩ := H
 replace H : (if t209 = 0 then (formelaw09_places.j0 k a0 t208 ((t208.length : Int) != (a0.size : Int))) else (formelaw09_places.j0 k a0 t208 true)) = some (r1, r2) := H
 have A3 := Aside0.mk A30
 clear A30
 have HC4 := Aside0.mk H
 clear H
 go_enter Try.func19, Try.ntmps19
 go_upto_region 2 with (first | ((with_reducible refine gate_callee (f := 14) rfl ?_); refine goesL_ (some 15) rfl rfl Try.func14 (by kernel_rfl) rfl #[.string a0, .int .i64 a1] rfl (by (try simp only [List.map_toArray, List.map_cons, List.map_nil]); first | done | rfl | (simp only [List.length_drop, List.length_take]; rfl)) ?_; (with_reducible refine (bidi_Order.calls a0 a1 t208 t209 _ A3.out).mono ?_); rintro e w5 ⟨v210, rfl, ho0, hb⟩; refine ⟨_, rfl, ?_⟩; have n0_ := Aside0.mk (Kd.R_lower ho0 (below_size (by repeat (first | (with_reducible first | exact HB.out | apply below_alloc | apply pw_below_drewN | apply below_drew1) | exact HB.out)))); have n1_ := Aside0.mk (below_step (by repeat (first | (with_reducible first | exact HB.out | apply below_alloc | apply pw_below_drewN | apply below_drew1) | exact HB.out)) hb); clear HB; have HO211 := n0_; have HB := n1_; clear n0_ n1_; (try clear hb); (try clear hb2); (try clear hk); (try clear hi); (try clear ho0)))
 (try simp only [Act.put, List.setIfInBounds_toArray, List.set_cons_zero, List.set_cons_succ])
 go_cut [26] (fun v26 wc => ∃ (kq : Nat) (x26_3 : Bool), v26 = .bool x26_3 ∧ Aside0 (formelaw09_places.j0 kq a0 t208 x26_3 = some (r1, r2)) ∧ Aside0 (kq ≤ k) ∧ Aside0 (Kd.R (Kd.int .i64) 3 wc w.heap.size (fun _ => True) v210 t208) ∧ Aside0 (Below w.heap.size w wc))
 case first =>
  have H := HC4.out
  clear HC4
  by_cases c6 : t209 = 0
  ·
   rw [if_pos c6] at H
   have c6b0 : (t209 == 0) = true := beq_iff_eq.mpr c6
   have c6b1 : (t209 != 0) = false := bne_eq_false_iff_eq.mpr c6
   clear c6
   (first | rw [c6b0] | (simp only [i64_w, i32_w]; rw [c6b0]) | skip)
   have H' := Aside0.mk H
   clear H
   obtain ⟨Ao7, co7, eo7⟩ := Kd.R_slice HO211.out
   subst eo7
   go_wp2
   go_meet
   case rel => exact ⟨_, (((t208.length : Int) != (a0.size : Int))), (by first | rfl | (simp; done) | (simp [*]; done)), H', ⟨by first | omega | exact Nat.le_refl _⟩, ⟨by (with_reducible repeat (first | apply Kd.R_alloc | apply Kd.R_drewN | apply Kd.R_drew)); exact HO211.out⟩, ⟨by repeat (first | (with_reducible first | exact HB.out | apply below_alloc | apply pw_below_drewN | apply below_drew1) | exact HB.out)⟩⟩
  ·
   rw [if_neg c6] at H
   have c6b0 : (t209 == 0) = false := beq_eq_false_iff_ne.mpr c6
   have c6b1 : (t209 != 0) = true := bne_iff_ne.mpr c6
   (first | rw [c6b0] | (simp only [i64_w, i32_w]; rw [c6b0]) | skip)
   have H' := Aside0.mk H
   clear H
   go_wp2
   go_meet
   case rel => exact ⟨_, (true), (by first | rfl | (simp; done) | (simp [*]; done)), H', ⟨by first | omega | exact Nat.le_refl _⟩, ⟨by (with_reducible repeat (first | apply Kd.R_alloc | apply Kd.R_drewN | apply Kd.R_drew)); exact HO211.out⟩, ⟨by repeat (first | (with_reducible first | exact HB.out | apply below_alloc | apply pw_below_drewN | apply below_drew1) | exact HB.out)⟩⟩
 case rest =>
  clear HC4
  try clear c1
  try clear p2
  try clear c6
  try clear c6b0
  try clear c6b1
  obtain ⟨kq, x26_3, rfl, HA, HJ3, HO_6, HB⟩ := hcut
  cases kq with
  | zero => exact absurd HA.out (by simp [formelaw09_places.j0])
  | succ kj3 =>
   have H := HA.out
   clear HA
   simp only [formelaw09_places.j0] at H
   by_cases c8 : x26_3 = true
   ·
    subst c8
    have H1 : (some (([] : List Int), false)) = some (r1, r2) := by rw [if_pos rfl] at H; exact H
    clear H
    have H := H1
    clear H1
    simp only [Option.some.injEq, Prod.mk.injEq] at H
    obtain ⟨rfl, rfl⟩ := H
    go_wp2
    go_ret2
    exact ⟨_, by first | rfl | (simp [errW_none, errW_some] <;> rfl) | (simp [*, errW_none, errW_some] <;> rfl), by first | exact Kd.R_nil _ _ _ _ _ | exact Kd.N_nil _ _ _ _ _ | exact Kd.V_nil _ _ _ _ _ | exact Kd.Q_nil _ _ _ _ _ | exact Kd.S_nil _ _ _ _ _, by repeat (first | (with_reducible first | exact HB.out | apply below_alloc | apply pw_below_drewN | apply below_drew1) | exact HB.out)⟩
   ·
    replace c8 := Bool.eq_false_iff.mpr c8
    subst c8
    have H1 : (if 0 ≤ (a0.size : Int) then (if ((a0.size : Int) : Int).toNat ≤ 35184372088832 then (if ((a0.size : Int) : Int).toNat ≤ 281474976710656 then (formelaw09_places.l0 kj3 a0 (List.replicate ((a0.size : Int) : Int).toNat 0) (List.replicate ((a0.size : Int) : Int).toNat false) t208 (t208.length : Int) 0) else (none)) else (none)) else (none)) = some (r1, r2) := by rw [if_neg (show ¬ (false = true) by decide)] at H; exact H
    clear H
    have H := H1
    clear H1
    by_cases c9 : 0 ≤ (a0.size : Int)
    ·
     rw [if_pos c9] at H
     have c9b0 := eq_true c9
     have c9b1 : decide (0 ≤ (a0.size : Int)) = true := decide_eq_true c9
     clear c9
     by_cases c10 : ((a0.size : Int) : Int).toNat ≤ 35184372088832
     ·
      rw [if_pos c10] at H
      have c10b0 := eq_true c10
      have c10b1 : decide (((a0.size : Int) : Int).toNat ≤ 35184372088832) = true := decide_eq_true c10
      clear c10
      obtain ⟨y212, hy212⟩ : ∃ y_ : List Int, y_ = (List.replicate ((a0.size : Int) : Int).toNat 0) := ⟨_, rfl⟩
      replace H : (if ((a0.size : Int) : Int).toNat ≤ 281474976710656 then (formelaw09_places.l0 kj3 a0 y212 (List.replicate ((a0.size : Int) : Int).toNat false) t208 (t208.length : Int) 0) else (none)) = some (r1, r2) := by first | (rw [hy212]; with_reducible exact H) | (have H2_ := (Option.bind_some _ _).symm.trans H; rw [hy212]; with_reducible exact H2_) | (have H2_ := (Option.bind_some _ _).symm.trans H; with_reducible exact H2_) | with_reducible exact H | (rw [hy212]; exact H) | exact H
      have Ny212 := Aside0.mk hy212
      clear hy212
      by_cases c11 : ((a0.size : Int) : Int).toNat ≤ 281474976710656
      ·
       rw [if_pos c11] at H
       have c11b0 := eq_true c11
       have c11b1 : decide (((a0.size : Int) : Int).toNat ≤ 281474976710656) = true := decide_eq_true c11
       clear c11
       obtain ⟨y215, hy215⟩ : ∃ y_ : List Bool, y_ = (List.replicate ((a0.size : Int) : Int).toNat false) := ⟨_, rfl⟩
       replace H : (formelaw09_places.l0 kj3 a0 y212 y215 t208 (t208.length : Int) 0) = some (r1, r2) := by first | (rw [hy215]; with_reducible exact H) | (have H2_ := (Option.bind_some _ _).symm.trans H; rw [hy215]; with_reducible exact H2_) | (have H2_ := (Option.bind_some _ _).symm.trans H; with_reducible exact H2_) | with_reducible exact H | (rw [hy215]; exact H) | exact H
       have Ny215 := Aside0.mk hy215
       clear hy215
       have H' := Aside0.mk H
       clear H
       go_wp2_with (first | ((with_reducible refine gate_dst (N := 29) rfl ?_); (try (refine gate_guard (by rfl) ?_; dsimp only)); refine Kd.R_make (Kd.int .i64) _ 3 rfl (N := 29) rfl 23 _ _ rfl (a0.size : Int) rfl rfl Try.underlying23 (.int .i64 0) 8 info3 rfl (by decide) (by omega) 0 (ok := fun _ => True) (okp := fun _ => True) rfl (fun _ hk => hk) trivial (of_decide_eq_true (by first | (with_reducible assumption) | assumption)) (Nat.le_trans (Nat.mul_le_mul_right _ (of_decide_eq_true (by first | (with_reducible assumption) | assumption) : (a0.size : Int).toNat ≤ 35184372088832)) (by omega)) (Below.refl _ _) (Nat.le_refl _) ?_; intro v213 w12 ho13 hb hg_ hnew_; clear hg_ hnew_; (first | rw [← Ny212.out] at ho13 | (simp only [Int.reduceToNat] at ho13; rw [← Ny212.out] at ho13)); have n0_ := Aside0.mk (Kd.R_elder' (by (with_reducible repeat (first | apply Kd.R_alloc | apply Kd.R_drewN | apply Kd.R_drew)); exact HO_6.out) (Kd.R_base ho13) hb); have n1_ := Aside0.mk (Kd.R_lower (Kd.R_new' ho13 (Kd.R_lt (by (with_reducible repeat (first | apply Kd.R_alloc | apply Kd.R_drewN | apply Kd.R_drew)); exact HO_6.out))) (below_size (by repeat (first | (with_reducible first | exact HB.out | apply below_alloc | apply pw_below_drewN | apply below_drew1) | exact HB.out)))); have n2_ := Aside0.mk (below_step (by repeat (first | (with_reducible first | exact HB.out | apply below_alloc | apply pw_below_drewN | apply below_drew1) | exact HB.out)) hb); clear HO_6; clear HB; have HO_6 := n0_; have HO214 := n1_; have HB := n2_; clear n0_ n1_ n2_; clear hb ho13) | ((with_reducible refine gate_dst (N := 32) rfl ?_); (try (refine gate_guard (by rfl) ?_; dsimp only)); refine Kd.R_make Kd.bool _ 4 rfl (N := 32) rfl 44 _ _ rfl (a0.size : Int) rfl rfl Try.underlying44 (.bool false) 1 info4 rfl (by decide) (by omega) false (ok := fun _ => True) (okp := fun _ => True) rfl (fun _ hk => hk) trivial (of_decide_eq_true (by first | (with_reducible assumption) | assumption)) (Nat.le_trans (Nat.mul_le_mul_right _ (of_decide_eq_true (by first | (with_reducible assumption) | assumption) : (a0.size : Int).toNat ≤ 281474976710656)) (by omega)) (Below.refl _ _) (Nat.le_refl _) ?_; intro v216 w14 ho15 hb hg_ hnew_; clear hg_ hnew_; (first | rw [← Ny215.out] at ho15 | (simp only [Int.reduceToNat] at ho15; rw [← Ny215.out] at ho15)); have n0_ := Aside0.mk (Kd.R_below (by (with_reducible repeat (first | apply Kd.R_alloc | apply Kd.R_drewN | apply Kd.R_drew)); exact HO_6.out) hb); have n1_ := Aside0.mk (Kd.R_below (by (with_reducible repeat (first | apply Kd.R_alloc | apply Kd.R_drewN | apply Kd.R_drew)); exact HO214.out) hb); have n2_ := Aside0.mk (Kd.R_lower ho15 (below_size (by repeat (first | (with_reducible first | exact HB.out | apply below_alloc | apply pw_below_drewN | apply below_drew1) | exact HB.out)))); have n3_ := Aside0.mk (below_step (by repeat (first | (with_reducible first | exact HB.out | apply below_alloc | apply pw_below_drewN | apply below_drew1) | exact HB.out)) hb); clear HO_6; clear HO214; clear HB; have HO_6 := n0_; have HO214 := n1_; have HO217 := n2_; have HB := n3_; clear n0_ n1_ n2_ n3_; clear hb ho15; obtain ⟨Ao16, co16, eo16⟩ := Kd.R_slice HO_6.out; subst eo16))
       go_loopg [35] kj3 (fun kq v35 w' => ∃ (x8_2 : List Int) (x9_2 : List Bool) (x35_2 : Int), v35 = .int .i64 x35_2 ∧ Aside0 (formelaw09_places.l0 kq a0 x8_2 x9_2 t208 (t208.length : Int) x35_2 = some (r1, r2)) ∧ Aside0 (kq ≤ kj3) ∧ Aside0 (Kd.R (Kd.int .i64) 3 w' w.heap.size (fun k_ => some k_ ≠ ((.slice Ao16 t208.length co16) : Value).ownBlock) v213 x8_2) ∧ Aside0 (Kd.R Kd.bool 4 w' w.heap.size (fun _ => True) v216 x9_2) ∧ Aside0 (Kd.R (Kd.int .i64) 3 w' w.heap.size (fun k_ => some k_ ≠ (v213 : Value).ownBlock) (.slice Ao16 t208.length co16) t208) ∧ Aside0 (Below w.heap.size w w'))
       case atStart => exact ⟨(y212), (y215), (0), (by first | rfl | (simp; done) | (simp [*]; done)), H', ⟨Nat.le_refl _⟩, ⟨by (with_reducible repeat (first | apply Kd.R_alloc | apply Kd.R_drewN | apply Kd.R_drew)); exact Kd.R_mono HO214.out (fun _ hk => hk.2)⟩, ⟨by (with_reducible repeat (first | apply Kd.R_alloc | apply Kd.R_drewN | apply Kd.R_drew)); exact HO217.out⟩, ⟨by (with_reducible repeat (first | apply Kd.R_alloc | apply Kd.R_drewN | apply Kd.R_drew)); exact Kd.R_mono HO_6.out (fun _ hk => hk.2)⟩, ⟨by repeat (first | (with_reducible first | exact HB.out | apply below_alloc | apply pw_below_drewN | apply below_drew1) | exact HB.out)⟩⟩
       case round =>
        clear H'
        try clear c1
        try clear p2
        try clear c6
        try clear c6b0
        try clear c6b1
        try clear c8
        try clear c9
        try clear c9b0
        try clear c9b1
        try clear c10
        try clear c10b0
        try clear c10b1
        try clear c11
        try clear c11b0
        try clear c11b1
        try clear c14
        try clear p2
        obtain ⟨x8_2, x9_2, x35_2, rfl, HA, HK2, HO_8, HO_9, HO_33, HB⟩ := hrel
        cases gk with
        | zero => exact absurd HA.out (by simp [formelaw09_places.l0])
        | succ k2 =>
         have H := HA.out
         clear HA
         simp only [formelaw09_places.l0] at H
         by_cases c17 : x35_2 < (t208.length : Int)
         ·
          rw [if_pos c17] at H
          have c17b0 : decide (x35_2 < (t208.length : Int)) = true := decide_eq_true c17
          clear c17
          by_cases c18 : 0 ≤ x35_2
          ·
           rw [if_pos c18] at H
           have c18b0 : decide (0 ≤ x35_2) = true := decide_eq_true c18
           clear c18
           by_cases c19 : x35_2 < (t208.length : Int)
           ·
            rw [if_pos c19] at H
            have c19b0 : decide (x35_2 < (t208.length : Int)) = true := decide_eq_true c19
            clear c19
            by_cases c20 : (rd t208 x35_2) < 0
            ·
             rw [if_pos c20] at H
             have c20b0 : decide ((rd t208 x35_2) < 0) = true := decide_eq_true c20
             clear c20
             simp only [Option.some.injEq, Prod.mk.injEq] at H
             obtain ⟨rfl, rfl⟩ := H
             have p218 : 0 ≤ (x35_2 : Int) := of_decide_eq_true (by first | (with_reducible assumption) | assumption)
             have q218 : x35_2 < (t208.length : Int) := of_decide_eq_true (by first | (with_reducible assumption) | assumption)
             obtain ⟨ad218, e218, hx218_0⟩ := Kd.at_int (Kd.R_reads' HO_33.out).2.2 x35_2 p218 q218
             cases e218
             replace p218 := eq_true p218
             replace q218 := eq_true q218
             go_wp2
             go_ret2
             exact ⟨_, by first | rfl | (simp [errW_none, errW_some] <;> rfl) | (simp [*, errW_none, errW_some] <;> rfl), by first | exact Kd.R_nil _ _ _ _ _ | exact Kd.N_nil _ _ _ _ _ | exact Kd.V_nil _ _ _ _ _ | exact Kd.Q_nil _ _ _ _ _ | exact Kd.S_nil _ _ _ _ _, by repeat (first | (with_reducible first | exact HB.out | apply below_alloc | apply pw_below_drewN | apply below_drew1) | exact HB.out)⟩
            ·
             rw [if_neg c20] at H
             have c20b0 : decide ((rd t208 x35_2) < 0) = false := decide_eq_false c20
             clear c20
             by_cases c21 : (rd t208 x35_2) ≥ (a0.size : Int)
             ·
              rw [if_pos c21] at H
              have c21b0 : decide ((a0.size : Int) ≤ (rd t208 x35_2)) = true := decide_eq_true c21
              clear c21
              simp only [Option.some.injEq, Prod.mk.injEq] at H
              obtain ⟨rfl, rfl⟩ := H
              have p218 : 0 ≤ (x35_2 : Int) := of_decide_eq_true (by first | (with_reducible assumption) | assumption)
              have q218 : x35_2 < (t208.length : Int) := of_decide_eq_true (by first | (with_reducible assumption) | assumption)
              obtain ⟨ad218, e218, hx218_0⟩ := Kd.at_int (Kd.R_reads' HO_33.out).2.2 x35_2 p218 q218
              cases e218
              replace p218 := eq_true p218
              replace q218 := eq_true q218
              go_wp2
              go_ret2
              exact ⟨_, by first | rfl | (simp [errW_none, errW_some] <;> rfl) | (simp [*, errW_none, errW_some] <;> rfl), by first | exact Kd.R_nil _ _ _ _ _ | exact Kd.N_nil _ _ _ _ _ | exact Kd.V_nil _ _ _ _ _ | exact Kd.Q_nil _ _ _ _ _ | exact Kd.S_nil _ _ _ _ _, by repeat (first | (with_reducible first | exact HB.out | apply below_alloc | apply pw_below_drewN | apply below_drew1) | exact HB.out)⟩
             ·
              rw [if_neg c21] at H
              have c21b0 : decide ((a0.size : Int) ≤ (rd t208 x35_2)) = false := decide_eq_false c21
              clear c21
              by_cases c22 : 0 ≤ (rd t208 x35_2)
              ·
               rw [if_pos c22] at H
               have c22b0 : decide (0 ≤ (rd t208 x35_2)) = true := decide_eq_true c22
               clear c22
               by_cases c23 : (rd t208 x35_2) < (x9_2.length : Int)
               ·
                rw [if_pos c23] at H
                have c23b0 : decide ((rd t208 x35_2) < (x9_2.length : Int)) = true := decide_eq_true c23
                clear c23
                obtain ⟨bq24, hbq24⟩ : ∃ b_ : Bool, b_ = (rdOf false x9_2 (rd t208 x35_2)) := ⟨_, rfl⟩
                replace H : (if bq24 = true then (some (([] : List Int), false)) else (if (rd t208 x35_2) < (x8_2.length : Int) then (formelaw09_places.l0 k2 a0 (x8_2.set ((rd t208 x35_2) : Int).toNat x35_2) (x9_2.set ((rd t208 x35_2) : Int).toNat true) t208 (t208.length : Int) (wrap64 (x35_2 + 1))) else (none))) = some (r1, r2) := by rw [← hbq24] at H; exact H
                have Nbq24 := Aside0.mk hbq24
                clear hbq24
                by_cases c25 : bq24 = true
                ·
                 subst c25
                 have H1 : (some (([] : List Int), false)) = some (r1, r2) := by rw [if_pos rfl] at H; exact H
                 clear H
                 have H := H1
                 clear H1
                 simp only [Option.some.injEq, Prod.mk.injEq] at H
                 obtain ⟨rfl, rfl⟩ := H
                 have p218 : 0 ≤ (x35_2 : Int) := of_decide_eq_true (by first | (with_reducible assumption) | assumption)
                 have q218 : x35_2 < (t208.length : Int) := of_decide_eq_true (by first | (with_reducible assumption) | assumption)
                 obtain ⟨ad218, e218, hx218_0⟩ := Kd.at_int (Kd.R_reads' HO_33.out).2.2 x35_2 p218 q218
                 cases e218
                 replace p218 := eq_true p218
                 replace q218 := eq_true q218
                 obtain ⟨Ao26, co26, eo26⟩ := Kd.R_slice HO_9.out
                 subst eo26
                 have p219 : 0 ≤ ((rd t208 x35_2) : Int) := of_decide_eq_true (by first | (with_reducible assumption) | assumption)
                 have q219 : (rd t208 x35_2) < (x9_2.length : Int) := of_decide_eq_true (by first | (with_reducible assumption) | assumption)
                 obtain ⟨ad219, e219, hx219_0⟩ := Kd.at_bool (Kd.R_reads' HO_9.out).2.2 (rd t208 x35_2) p219 q219
                 (try rw [← Nbq24.out] at hx219_0)
                 cases e219
                 replace p219 := eq_true p219
                 replace q219 := eq_true q219
                 go_wp2
                 go_ret2
                 exact ⟨_, by first | rfl | (simp [errW_none, errW_some] <;> rfl) | (simp [*, errW_none, errW_some] <;> rfl), by first | exact Kd.R_nil _ _ _ _ _ | exact Kd.N_nil _ _ _ _ _ | exact Kd.V_nil _ _ _ _ _ | exact Kd.Q_nil _ _ _ _ _ | exact Kd.S_nil _ _ _ _ _, by repeat (first | (with_reducible first | exact HB.out | apply below_alloc | apply pw_below_drewN | apply below_drew1) | exact HB.out)⟩
                ·
                 replace c25 := Bool.eq_false_iff.mpr c25
                 subst c25
                 have H1 : (if (rd t208 x35_2) < (x8_2.length : Int) then (formelaw09_places.l0 k2 a0 (x8_2.set ((rd t208 x35_2) : Int).toNat x35_2) (x9_2.set ((rd t208 x35_2) : Int).toNat true) t208 (t208.length : Int) (wrap64 (x35_2 + 1))) else (none)) = some (r1, r2) := by rw [if_neg (show ¬ (false = true) by decide)] at H; exact H
                 clear H
                 have H := H1
                 clear H1
                 by_cases c27 : (rd t208 x35_2) < (x8_2.length : Int)
                 ·
                  rw [if_pos c27] at H
                  have c27b0 : decide ((rd t208 x35_2) < (x8_2.length : Int)) = true := decide_eq_true c27
                  clear c27
                  obtain ⟨y220, hy220⟩ : ∃ y_ : List Int, y_ = (x8_2.set ((rd t208 x35_2) : Int).toNat x35_2) := ⟨_, rfl⟩
                  replace H : (formelaw09_places.l0 k2 a0 y220 (x9_2.set ((rd t208 x35_2) : Int).toNat true) t208 (t208.length : Int) (wrap64 (x35_2 + 1))) = some (r1, r2) := by first | (rw [hy220]; with_reducible exact H) | (have H2_ := (Option.bind_some _ _).symm.trans H; rw [hy220]; with_reducible exact H2_) | (have H2_ := (Option.bind_some _ _).symm.trans H; with_reducible exact H2_) | with_reducible exact H | (rw [hy220]; exact H) | exact H
                  have Ny220 := Aside0.mk hy220
                  clear hy220
                  obtain ⟨y221, hy221⟩ : ∃ y_ : List Bool, y_ = (x9_2.set ((rd t208 x35_2) : Int).toNat true) := ⟨_, rfl⟩
                  replace H : (formelaw09_places.l0 k2 a0 y220 y221 t208 (t208.length : Int) (wrap64 (x35_2 + 1))) = some (r1, r2) := by first | (rw [hy221]; with_reducible exact H) | (have H2_ := (Option.bind_some _ _).symm.trans H; rw [hy221]; with_reducible exact H2_) | (have H2_ := (Option.bind_some _ _).symm.trans H; with_reducible exact H2_) | with_reducible exact H | (rw [hy221]; exact H) | exact H
                  have Ny221 := Aside0.mk hy221
                  clear hy221
                  have H' := Aside0.mk H
                  clear H
                  have p218 : 0 ≤ (x35_2 : Int) := of_decide_eq_true (by first | (with_reducible assumption) | assumption)
                  have q218 : x35_2 < (t208.length : Int) := of_decide_eq_true (by first | (with_reducible assumption) | assumption)
                  obtain ⟨ad218, e218, hx218_0⟩ := Kd.at_int (Kd.R_reads' HO_33.out).2.2 x35_2 p218 q218
                  cases e218
                  replace p218 := eq_true p218
                  replace q218 := eq_true q218
                  obtain ⟨Ao30, co30, eo30⟩ := Kd.R_slice HO_9.out
                  subst eo30
                  have p219 : 0 ≤ ((rd t208 x35_2) : Int) := of_decide_eq_true (by first | (with_reducible assumption) | assumption)
                  have q219 : (rd t208 x35_2) < (x9_2.length : Int) := of_decide_eq_true (by first | (with_reducible assumption) | assumption)
                  obtain ⟨ad219, e219, hx219_0⟩ := Kd.at_bool (Kd.R_reads' HO_9.out).2.2 (rd t208 x35_2) p219 q219
                  (try rw [← Nbq24.out] at hx219_0)
                  cases e219
                  replace p219 := eq_true p219
                  replace q219 := eq_true q219
                  have p28 : 0 ≤ ((rd t208 x35_2) : Int) := of_decide_eq_true (by first | (with_reducible assumption) | assumption)
                  have q28 : ((rd t208 x35_2) : Int) < ((x8_2.length : Int) : Int) := of_decide_eq_true (by first | (with_reducible assumption) | assumption)
                  obtain ⟨go28, co28, eo28, gb28, gl28, cl28, HG28⟩ := Kd.R_form HO_8.out (by omega)
                  (first | cases eo28 | (injection eo28 with ea_ en_ ec_; (first | subst ea_ | (injection ea_ with ea_; subst ea_)); subst ec_; clear en_))
                  have GB28 := Aside0.mk gb28
                  have GG28 := Aside0.mk HG28
                  clear gb28 gl28 HG28
                  obtain ⟨hx28_0, hf28_0⟩ := Kd.R_celln 0 HO_8.out ((rd t208 x35_2) : Int) p28 q28
                  replace p28 := eq_true p28
                  replace q28 := eq_true q28
                  have HP31 := Kd.R_putg HO_8.out ((rd t208 x35_2) : Int) x35_2
                  go_wp2_with (first | ((with_reducible refine gate_store (t := 3) (p := 59) rfl ?_); refine store_event (t := 3) (p := 59) (v := ?vo_w32) (w1 := (wr.setCell ⟨go28, ((rd t208 x35_2) : Int).toNat, none⟩ (.int .i64 x35_2))) ?hg ?ho ?hn ?hr ?_; (case ho => rfl); (case hg => rfl); (case hn => rfl); (case hr => first | (go_simp; done) | (go_simp; rfl)); intro w32 hw; have hg : wr.grownBy w32 (some go28) := (by rw [hw]; exact HP31.2); have hp_ : Kd.R (Kd.int .i64) 3 w32 w.heap.size (fun k_ => some k_ ≠ (.slice (some ad218) t208.length co16 : Value).ownBlock) (.slice (some ⟨go28, 0, none⟩) x8_2.length co28) y220 := (by rw [hw, Ny220.out]; exact HP31.1); clear HP31; have n0_ := Aside0.mk (hp_); have n1_ := Aside0.mk (Kd.R_over' (v := (.slice (some ⟨go28, 0, none⟩) x8_2.length co28)) (by (with_reducible repeat (first | apply Kd.R_alloc | apply Kd.R_drewN | apply Kd.R_drew)); exact HO_9.out) (Kd.R_typed HO_8.out) (by decide) hg); have n2_ := Aside0.mk (Kd.R_after (v := (.slice (some ⟨go28, 0, none⟩) x8_2.length co28)) (v1 := (.slice (some ⟨go28, 0, none⟩) x8_2.length co28)) (ok := (fun _ => True)) (by (with_reducible repeat (first | apply Kd.R_alloc | apply Kd.R_drewN | apply Kd.R_drew)); exact Kd.R_mono HO_33.out (fun _ hk => ⟨trivial, hk⟩)) hg (.inl rfl)); have n3_ := Aside0.mk ((by rw [hw]; exact below_set (HB.out) GB28.out : Below w.heap.size w w32)); clear HO_8; clear HO_9; clear HO_33; clear HB; have HO_8 := n0_; have HO_9 := n1_; have HO_33 := n2_; have HB := n3_; clear n0_ n1_ n2_ n3_; clear hg hw hp_; have p29 : 0 ≤ ((rd t208 x35_2) : Int) := of_decide_eq_true (by first | (with_reducible assumption) | assumption); have q29 : ((rd t208 x35_2) : Int) < ((x9_2.length : Int) : Int) := of_decide_eq_true (by first | (with_reducible assumption) | assumption); obtain ⟨go29, co29, eo29, gb29, gl29, cl29, HG29⟩ := Kd.R_form HO_9.out (by omega); (first | cases eo29 | (injection eo29 with ea_ en_ ec_; (first | subst ea_ | (injection ea_ with ea_; subst ea_)); subst ec_; clear en_)); have GB29 := Aside0.mk gb29; have GG29 := Aside0.mk HG29; clear gb29 gl29 HG29; (first | simp only [add_plain] at hx219_0 | skip); obtain ⟨hx29_0, hf29_0⟩ := Kd.R_celln false HO_9.out ((rd t208 x35_2) : Int) p29 q29; replace p29 := eq_true p29; replace q29 := eq_true q29; obtain ⟨hy33_, hz33_⟩ := Kd.R_celln false HO_9.out ((rd t208 x35_2) : Int) (of_decide_eq_true (by first | (with_reducible assumption) | assumption)) (of_decide_eq_true (by first | (with_reducible assumption) | assumption)); have HP33 := Kd.R_putg HO_9.out ((rd t208 x35_2) : Int) true) | ((with_reducible refine gate_store (t := 4) (p := 60) rfl ?_); refine store_event (t := 4) (p := 60) (v := ?vo_w34) (w1 := (w32.setCell ⟨go29, ((rd t208 x35_2) : Int).toNat, none⟩ (.bool true))) ?hg ?ho ?hn ?hr ?_; (case ho => rfl); (case hg => rfl); (case hn => rfl); (case hr => first | (go_simp; done) | (go_simp; rfl)); intro w34 hw; have hg : w32.grownBy w34 (some go29) := (by rw [hw]; exact HP33.2); have hp_ : Kd.R Kd.bool 4 w34 w.heap.size (fun _ => True) (.slice (some ⟨go29, 0, none⟩) x9_2.length co30) y221 := (by rw [hw, Ny221.out]; exact HP33.1); clear HP33; have n0_ := Aside0.mk (Kd.R_over' (v := (.slice (some ⟨go29, 0, none⟩) x9_2.length co30)) (by (with_reducible repeat (first | apply Kd.R_alloc | apply Kd.R_drewN | apply Kd.R_drew)); exact HO_8.out) (Kd.R_typed HO_9.out) (by decide) hg); have n1_ := Aside0.mk (hp_); have n2_ := Aside0.mk (Kd.R_over' (v := (.slice (some ⟨go29, 0, none⟩) x9_2.length co30)) (by (with_reducible repeat (first | apply Kd.R_alloc | apply Kd.R_drewN | apply Kd.R_drew)); exact HO_33.out) (Kd.R_typed HO_9.out) (by decide) hg); have n3_ := Aside0.mk ((by rw [hw]; exact below_set (HB.out) GB29.out : Below w.heap.size w w34)); clear HO_8; clear HO_9; clear HO_33; clear HB; have HO_8 := n0_; have HO_9 := n1_; have HO_33 := n2_; have HB := n3_; clear n0_ n1_ n2_ n3_; clear hg hw hp_))
                  go_roundg k2
                  case measure => have := HJ3.out; have := HK2.out; omega
                  case rel => exact ⟨(y220), (y221), (wrap64 (x35_2 + 1)), (by first | rfl | (simp; done) | (simp [*]; done)), H', ⟨by have := HJ3.out; have := HK2.out; omega⟩, ⟨by (with_reducible repeat (first | apply Kd.R_alloc | apply Kd.R_drewN | apply Kd.R_drew)); exact HO_8.out⟩, ⟨by (with_reducible repeat (first | apply Kd.R_alloc | apply Kd.R_drewN | apply Kd.R_drew)); exact HO_9.out⟩, ⟨by (with_reducible repeat (first | apply Kd.R_alloc | apply Kd.R_drewN | apply Kd.R_drew)); exact Kd.R_mono HO_33.out (fun _ hk => hk.2)⟩, ⟨by repeat (first | (with_reducible first | exact HB.out | apply below_alloc | apply pw_below_drewN | apply below_drew1) | exact HB.out)⟩⟩
                 ·
                  rw [if_neg c27] at H
                  exact absurd H (by simp)
               ·
                rw [if_neg c23] at H
                exact absurd H (by simp)
              ·
               rw [if_neg c22] at H
               exact absurd H (by simp)
           ·
            rw [if_neg c19] at H
            exact absurd H (by simp)
          ·
           rw [if_neg c18] at H
           exact absurd H (by simp)
         ·
          rw [if_neg c17] at H
          have c17b0 : decide (x35_2 < (t208.length : Int)) = false := decide_eq_false c17
          clear c17
          simp only [Option.some.injEq, Prod.mk.injEq] at H
          obtain ⟨rfl, rfl⟩ := H
          go_wp2
          go_ret2
          exact ⟨_, by first | rfl | (simp [errW_none, errW_some] <;> rfl) | (simp [*, errW_none, errW_some] <;> rfl), by (with_reducible repeat (first | apply Kd.R_alloc | apply Kd.R_drewN | apply Kd.R_drew)); exact Kd.R_mono HO_8.out (fun _ hk => trivial), by repeat (first | (with_reducible first | exact HB.out | apply below_alloc | apply pw_below_drewN | apply below_drew1) | exact HB.out)⟩
      ·
       rw [if_neg c11] at H
       exact absurd H (by simp)
     ·
      rw [if_neg c10] at H
      exact absurd H (by simp)
    ·
     rw [if_neg c9] at H
     exact absurd H (by simp)

end Go.Proofs.Ytdmfhabhcagioaa.P
