/- Qx1: a text of this claim's proof, as printed or written, without what the claim does not use. -/
import Derived.Test.YtcklgalgljmljaaDoorQx0
namespace Go.Proofs.YtcklgalgljmljaaDoor.Q
open Go.RowKit Go.Proofs.YtcklgalgljmljaaDoorW.PrintWords Go.Proofs.YtcklgalgljmljaaDoorW.PrintLast Go.Proofs.YtcklgalgljmljaaDoorW.PrintMore
attribute [local go_sem] max2_int min2_int max_two min_two max_three min_three max_four min_four
set_option linter.unusedVariables false
set_option linter.unusedSimpArgs false
theorem eqA62 (d : Nat) (w : World) (x0 y0 : Int) (x1 y1 : Bool) :
    (Op.equalIn (d + 2) 62 (.agg #[.int .i32 x0, .bool x1]) (.agg #[.int .i32 y0, .bool y1])).run Tryd.prog w = .ok (x0 == y0 && (x1 == y1)) w := by
  refine eqA_of Tryd.underlying62 (by kernel_rfl) ?_
  refine eqf_cons (by rfl) (by go_simp; rfl) (by go_simp; rfl) (by go_simp) ?_
  exact eqf_last (by rfl) (by go_simp; rfl) (by go_simp; rfl) (by go_simp)
end Go.Proofs.YtcklgalgljmljaaDoor.Q
