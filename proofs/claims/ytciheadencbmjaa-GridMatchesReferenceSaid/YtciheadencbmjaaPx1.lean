-- Laid by a program of this session (wip/fam.sh) over the kit's words: Lean checks it.
import Derived.Test.YtciheadencbmjaaPx0
import Derived.WalkLawsBesides
namespace Go.Proofs.Ytciheadencbmjaa.P
open Go.RowKit Go.Proofs.YtciheadencbmjaaW.PrintWords Go.Proofs.YtciheadencbmjaaW.PrintLast Go.Proofs.YtciheadencbmjaaW.PrintMore
attribute [local go_sem] max2_int min2_int max_two min_two max_three min_three max_four min_four   -- for this text's walks alone
set_option linter.unusedVariables false
set_option linter.unusedSimpArgs false

theorem eqA39 (d : Nat) (w : World) (x0 y0 : Int) (x1 y1 : Int) :
  (Op.equalIn (d + 2) 39 (.agg #[.int .i64 x0, .int .i64 x1]) (.agg #[.int .i64 y0, .int .i64 y1])).run Try.prog w = .ok (x0 == y0 && (x1 == y1)) w := by
 have e3 : ∀ (a b : Int) (w : World), (Op.equalIn (d + 1) 3 (.int .i64 a) (.int .i64 b)).run Try.prog w = .ok (a == b) w := fun a b w => run_equalIn_int w d 3 .i64 .i64 a b Try.underlying3
 obtain ⟨i0, hi, _, hsz, _⟩ := info_parts info3
 generalize hd : d + 1 = d1 at e3
 rw [show d + 2 = d1 + 1 by omega]
 clear hd
 simp only [Op.equalIn, Sem.run_bind, run_underlying Try.underlying39, Result.andThen_ok]
 simp [Std.Legacy.Range.forIn_eq_forIn_range', Std.Legacy.Range.size, List.range', sizeOf, typeInfo, hi, hsz, part, go_sem, e3]
 by_cases h0 : x0 = y0 <;> by_cases h1 : x1 = y1 <;> simp_all
end Go.Proofs.Ytciheadencbmjaa.P
