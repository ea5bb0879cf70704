/- Printed by wip/gen/mp.py: Go functions as plain Lean functions, and that the calls do what these say. -/
import Derived.Test.YtcpbfckmngbgdaaDoorMHox0
namespace Go.Proofs.YtcpbfckmngbgdaaDoor.MHo
open Go.RowKit Go.Proofs.YtcpbfckmngbgdaaDoorW.PrintWords Go.Proofs.YtcpbfckmngbgdaaDoorW.PrintLast Go.Proofs.YtcpbfckmngbgdaaDoorW.PrintMore
attribute [local go_sem] conv_fl eq_fl eq_fl2 max2_int min2_int max_two min_two max_three min_three max_four min_four   -- for this text's walks alone
set_option linter.unusedVariables false
set_option linter.unusedSimpArgs false

theorem eqA217 (d : Nat) (w : World) (x0 y0 : Int) (x1 y1 : Int) :
    (Op.equalIn (d + 2) 217 (.agg #[.int .i64 x0, .int .u64 x1]) (.agg #[.int .i64 y0, .int .u64 y1])).run Tryd.prog w = .ok (x0 == y0 && (x1 == y1)) w := by
  refine eqA_of Tryd.underlying217 (by kernel_rfl) ?_
  refine eqf_cons (by rfl) (by go_simp; rfl) (by go_simp; rfl) (by go_simp) ?_
  exact eqf_last (by rfl) (by go_simp; rfl) (by go_simp; rfl) (by go_simp)
end Go.Proofs.YtcpbfckmngbgdaaDoor.MHo
