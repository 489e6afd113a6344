/- DevTorn's plain part. Conditions: none. -/
import Derived.Test.YtaoegbebeogkbaaDevT
import Derived.OpenShut
namespace Go.Proofs.Ytaoegbebeogkbaa.Pure
open Go.RowKit Go.Proofs.Ytaoegbebeogkbaa.PDev
set_option linter.unusedVariables false
theorem DevTorn (l0 : List Int) (l1 : List Int) (a2 : Int) (h0 : l0.length ≤ maxLen) (hl : l0.length * 1 ≤ 140737488351232) (hb : ∀ y, y ∈ l0 → (Lit.int .u8 y).wf = true) (h1 : l1.length ≤ maxLen) (hl1 : l1.length * 1 ≤ 140737488351232) (hb1 : ∀ y, y ∈ l1 → (Lit.int .u8 y).wf = true) (h2 : (Lit.int .i64 a2).wf = true) : rabbetlaw18_DevTorn.f l0 l1 a2 = some true := rfl
end Go.Proofs.Ytaoegbebeogkbaa.Pure
