/- PackForms' plain law: some values as bytes, by reckoning. Conditions: none. -/
import Derived.Test.YtigldipjkejalaaDoorPPackFormsx6
namespace Go.Proofs.YtigldipjkejalaaDoor.Pure
open Go.RowKit Go.Proofs.YtigldipjkejalaaDoor.PPackForms Go.Proofs.YtigldipjkejalaaDoorW.PrintWords Go.Proofs.YtigldipjkejalaaDoorW.PrintLast
set_option maxRecDepth 1000000 in
theorem PackForms : rabbetlaw8_PackForms.Pure := ⟨400, by decide +kernel⟩
end Go.Proofs.YtigldipjkejalaaDoor.Pure
