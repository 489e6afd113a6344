/- LogFull's plain part: its arguments are as the walk wants them. Conditions: none. -/
import Derived.Test.YtokmildjniploaaDoorLogVW
import Derived.OpenShut
namespace Go.Proofs.YtokmildjniploaaDoor.Pure
open Go.RowKit Go.Proofs.YtokmildjniploaaDoor.PLog
set_option linter.unusedVariables false
theorem LogFull (a0 : Int) (l1 : List Int) (h0 : (Lit.int .u8 a0).wf = true) (h1 : l1.length ≤ maxLen) (hl1 : l1.length * 2 ≤ 140737488351232) (hb1 : ∀ y, y ∈ l1 → (Lit.int .u16 y).wf = true) : rabbetlaw21_LogFull.f a0 l1 = some true := by
  have b0 := bounds_u8 h0
  unfold rabbetlaw21_LogFull.f
  rw [if_pos]
  refine ⟨by omega, List.all_eq_true.2 (fun x hx => ?_)⟩
  have := bounds_u16 (hb1 x hx)
  rw [decide_eq_true_iff]
  omega
end Go.Proofs.YtokmildjniploaaDoor.Pure
