/- DevStops' plain part. Conditions: none. -/
import Derived.Test.YtaoegbebeogkbaaDevS
import Derived.OpenShut
namespace Go.Proofs.Ytaoegbebeogkbaa.Pure
open Go.RowKit Go.Proofs.Ytaoegbebeogkbaa.PDev
set_option linter.unusedVariables false
theorem DevStops (a0 a1 : Int) (h0 : (Lit.int .u8 a0).wf = true) (h1 : (Lit.int .u8 a1).wf = true) : rabbetlaw18_DevStops.f a0 a1 = some true := by
  have b0 := bounds_u8 h0
  have b1 := bounds_u8 h1
  unfold rabbetlaw18_DevStops.f
  rw [if_pos (by omega)]
end Go.Proofs.Ytaoegbebeogkbaa.Pure
