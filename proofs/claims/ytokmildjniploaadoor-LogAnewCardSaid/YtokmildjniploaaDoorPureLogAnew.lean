/- LogAnew's plain part: its arguments are as the walk wants them. Conditions: none. -/
import Derived.Test.YtokmildjniploaaDoorLogYW
import Derived.OpenShut
namespace Go.Proofs.YtokmildjniploaaDoor.Pure
open Go.RowKit Go.Proofs.YtokmildjniploaaDoor.PLog
set_option linter.unusedVariables false
theorem LogAnew (l0 : List (List Int)) (a1 a2 : Int) (h0 : l0.length ≤ maxLen) (hl0 : l0.length * 24 ≤ 140737488351232) (hb0 : ∀ y, y ∈ l0 → y.length ≤ maxLen ∧ ∀ z, z ∈ y → (Lit.int .u8 z).wf = true) (h1 : (Lit.int .u8 a1).wf = true) (h2 : (Lit.int .u8 a2).wf = true) : rabbetlaw21_LogAnew.f l0 a1 a2 = some true := by
  have b1 := bounds_u8 h1
  have b2 := bounds_u8 h2
  unfold rabbetlaw21_LogAnew.f
  rw [if_pos]
  refine ⟨by omega, List.all_eq_true.2 (fun r hr => List.all_eq_true.2 (fun x hx => ?_))⟩
  have := bounds_u8 ((hb0 r hr).2 x hx)
  rw [decide_eq_true_iff]
  omega
end Go.Proofs.YtokmildjniploaaDoor.Pure
