/- SpaceApart's plain part: its arguments are as the walk wants them. Conditions: none. -/
import Derived.Test.YtaoegbebeogkbaaDoorSpaceAP
import Derived.OpenShut
namespace Go.Proofs.YtaoegbebeogkbaaDoor.Pure
open Go.RowKit Go.Proofs.YtaoegbebeogkbaaDoor.PSpace
set_option linter.unusedVariables false
theorem SpaceApart (l0 : List Int) (l1 : List Bool) (h0 : l0.length ≤ maxLen) (hl : l0.length * 1 ≤ 140737488351232) (hb : ∀ y, y ∈ l0 → (Lit.int .u8 y).wf = true) (h1 : l1.length ≤ maxLen) (hl1 : l1.length * 1 ≤ 140737488351232) (hb1 : ∀ y, y ∈ l1 → True) : rabbetlaw19_SpaceApart.f l0 l1 = some true := by
  unfold rabbetlaw19_SpaceApart.f
  rw [if_pos]
  refine List.all_eq_true.2 (fun x hx => ?_)
  have := bounds_u8 (hb x hx)
  rw [decide_eq_true_iff]
  omega
end Go.Proofs.YtaoegbebeogkbaaDoor.Pure
