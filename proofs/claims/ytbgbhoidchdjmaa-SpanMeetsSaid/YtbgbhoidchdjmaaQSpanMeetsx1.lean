-- Written for this claim by a program of this session.
import Derived.Test.YtbgbhoidchdjmaaQSpanMeetsx0
namespace Go.Proofs.Ytbgbhoidchdjmaa.QSpanMeets
open Go.RowKit Go.Proofs.YtbgbhoidchdjmaaW.PrintWords Go.Proofs.YtbgbhoidchdjmaaW.PrintLast Go.Proofs.YtbgbhoidchdjmaaW.PrintMore
attribute [local go_sem] max2_int min2_int max_two min_two max_three min_three max_four min_four   -- for this text's walks alone
set_option linter.unusedVariables false
set_option linter.unusedSimpArgs false

theorem eqA38 (d : Nat) (w : World) (x0 y0 : Int) (x1 y1 : Int) :
    (Op.equalIn (d + 2) 38 (.agg #[.int .i64 x0, .int .i64 x1]) (.agg #[.int .i64 y0, .int .i64 y1])).run Try.prog w = .ok (x0 == y0 && (x1 == y1)) w :=
  Arr.eqA_arr2 x0 x1 y0 y1 Try.underlying38 Try.underlying3 (i := (Try.prog.info? 3).get (by kernel_rfl)) (by kernel_rfl) (by kernel_rfl) (by go_simp) (by go_simp) (by go_simp) (by go_simp)
end Go.Proofs.Ytbgbhoidchdjmaa.QSpanMeets
