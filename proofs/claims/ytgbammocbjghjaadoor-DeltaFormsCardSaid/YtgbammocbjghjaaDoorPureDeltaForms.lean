/- DeltaForms' plain law: some values as bytes, by reckoning. Conditions: none. -/
import Derived.Test.YtgbammocbjghjaaDoorPDeltaFormsx4
namespace Go.Proofs.YtgbammocbjghjaaDoor.Pure
open Go.RowKit Go.Proofs.YtgbammocbjghjaaDoor.PDeltaForms Go.Proofs.YtgbammocbjghjaaDoorW.PrintWords Go.Proofs.YtgbammocbjghjaaDoorW.PrintLast
set_option maxRecDepth 1000000 in
theorem DeltaForms : rabbetlaw9_DeltaForms.Pure := ⟨60, by decide +kernel⟩
end Go.Proofs.YtgbammocbjghjaaDoor.Pure
