-- WRITTEN BY wip/xprint.py of this repo, over the kit's print; functions the print does not take are by hand
import Derived.Test.YtmgflcepgbgcmaaPOutlineSpansx0
namespace Go.Proofs.Ytmgflcepgbgcmaa.POutlineSpans
open Go.RowKit Go.Proofs.YtmgflcepgbgcmaaW.PrintWords Go.Proofs.YtmgflcepgbgcmaaW.PrintLast Go.Proofs.YtmgflcepgbgcmaaW.PrintMore
attribute [local go_sem] max2_int min2_int max_two min_two max_three min_three max_four min_four   -- for this text's walks alone
set_option linter.unusedVariables false
set_option linter.unusedSimpArgs false

theorem eqA38 (d : Nat) (w : World) (x0 y0 : Int) (x1 y1 : Int) :
    (Op.equalIn (d + 2) 38 (.agg #[.int .i64 x0, .int .i64 x1]) (.agg #[.int .i64 y0, .int .i64 y1])).run Try.prog w = .ok (x0 == y0 && (x1 == y1)) w := by
  have h1 : ∀ a b : Int, (Op.equalIn (d + 1) 3 (.int .i64 a) (.int .i64 b)).run Try.prog w = .ok (a == b) w := fun a b => by go_simp
  have p0 : ∀ a0 a1 : Value, (part 3 #[a0, a1] 0).run Try.prog w = .ok a0 w := fun a0 a1 => by go_simp
  have p1 : ∀ a0 a1 : Value, (part 3 #[a0, a1] 1).run Try.prog w = .ok a1 w := fun a0 a1 => by go_simp
  have hs : (sizeOf 3).run Try.prog w = .ok 1 w := by go_simp
  rw [Op.equalIn]
  simp only [Sem.run_bind, run_underlying Try.underlying38, Result.andThen_ok, hs]
  rw [Std.Legacy.Range.forIn_eq_forIn_range']
  simp only [Std.Legacy.Range.size, Nat.sub_zero, List.range', List.forIn_cons, List.forIn_nil, Sem.run_bind, Nat.mul_one, Nat.zero_mul, Nat.reduceAdd, Nat.reduceMul, Nat.reduceSub, Nat.reduceDiv, p0, p1, h1, Result.andThen_ok]
  cases hx0 : (x0 == y0) <;> cases hx1 : (x1 == y1) <;> simp [Sem.run_bind, p0, p1, h1, hx0, hx1]
end Go.Proofs.Ytmgflcepgbgcmaa.POutlineSpans
