/- LogNone's plain part: its arguments are as the walk wants them. Conditions: none. -/
import Derived.Test.YtokmildjniploaaDoorLogN
import Derived.OpenShut
namespace Go.Proofs.YtokmildjniploaaDoor.Pure
open Go.RowKit Go.Proofs.YtokmildjniploaaDoor.PLog
set_option linter.unusedVariables false
theorem LogNone (a0 a1 : Int) (h0 : (Lit.int .i64 a0).wf = true) (h1 : (Lit.int .u8 a1).wf = true) : rabbetlaw21_LogNone.f a0 a1 = some true := by
  have b1 := bounds_u8 h1
  unfold rabbetlaw21_LogNone.f
  rw [if_pos (by omega)]
end Go.Proofs.YtokmildjniploaaDoor.Pure
