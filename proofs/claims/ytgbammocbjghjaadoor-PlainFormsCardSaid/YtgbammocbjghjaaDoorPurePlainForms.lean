/- PlainForms' plain law: some values as bytes, by reckoning. Conditions: none. -/
import Derived.Test.YtgbammocbjghjaaDoorPPlainFormsx4
namespace Go.Proofs.YtgbammocbjghjaaDoor.Pure
open Go.RowKit Go.Proofs.YtgbammocbjghjaaDoor.PPlainForms Go.Proofs.YtgbammocbjghjaaDoorW.PrintWords Go.Proofs.YtgbammocbjghjaaDoorW.PrintLast
set_option maxRecDepth 1000000 in
theorem PlainForms : rabbetlaw5_PlainForms.Pure := ⟨100, by decide +kernel⟩
end Go.Proofs.YtgbammocbjghjaaDoor.Pure
