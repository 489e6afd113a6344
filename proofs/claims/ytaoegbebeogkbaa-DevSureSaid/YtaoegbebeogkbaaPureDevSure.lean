/- DevSure's plain part: its arguments are as the walk wants them. Conditions: none. -/
import Derived.Test.YtaoegbebeogkbaaDevVW
import Derived.OpenShut
namespace Go.Proofs.Ytaoegbebeogkbaa.Pure
open Go.RowKit Go.Proofs.Ytaoegbebeogkbaa.PDev
set_option linter.unusedVariables false
theorem DevSure (l0 l1 : List S34) (l2 : List Int) (a3 a4 : Int) {Q0 Q1 : S34 → Prop} (h0 : l0.length ≤ maxLen) (hl0 : l0.length * 88 ≤ 140737488351232) (hb0 : ∀ y, y ∈ l0 → Q0 y) (h1 : l1.length ≤ maxLen) (hl1 : l1.length * 88 ≤ 140737488351232) (hb1 : ∀ y, y ∈ l1 → Q1 y) (h2 : l2.length ≤ maxLen) (hl2 : l2.length * 1 ≤ 140737488351232) (hb2 : ∀ y, y ∈ l2 → (Lit.int .u8 y).wf = true) (h3 : (Lit.int .i64 a3).wf = true) (h4 : (Lit.int .i64 a4).wf = true) : rabbetlaw18_DevSure.f l0 l1 l2 a3 a4 = some true := by
  unfold rabbetlaw18_DevSure.f
  rw [if_pos]
  refine List.all_eq_true.2 (fun x hx => ?_)
  have := bounds_u8 (hb2 x hx)
  rw [decide_eq_true_iff]
  omega
end Go.Proofs.Ytaoegbebeogkbaa.Pure
