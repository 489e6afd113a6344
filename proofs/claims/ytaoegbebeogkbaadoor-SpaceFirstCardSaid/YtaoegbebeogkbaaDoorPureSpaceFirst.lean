/- SpaceFirst's plain part: its arguments are as the walk wants them. Conditions: none. -/
import Derived.Test.YtaoegbebeogkbaaDoorSpaceF
import Derived.OpenShut
namespace Go.Proofs.YtaoegbebeogkbaaDoor.Pure
open Go.RowKit Go.Proofs.YtaoegbebeogkbaaDoor.PSpace
set_option linter.unusedVariables false
theorem SpaceFirst (l0 : List Bool) (a1 : Int) (h0 : l0.length ≤ maxLen) (hl : l0.length * 1 ≤ 140737488351232) (hb : ∀ y, y ∈ l0 → True) (h1 : (Lit.int .u8 a1).wf = true) : rabbetlaw19_SpaceFirst.f l0 a1 = some true := by
  have := bounds_u8 h1
  unfold rabbetlaw19_SpaceFirst.f
  rw [if_pos (by omega)]
end Go.Proofs.YtaoegbebeogkbaaDoor.Pure
