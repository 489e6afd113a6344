/- RleForms' plain law: some values as bytes, by reckoning. Conditions: none. -/
import Derived.Test.YtigldipjkejalaaDoorPRleFormsx7
namespace Go.Proofs.YtigldipjkejalaaDoor.Pure
open Go.RowKit Go.Proofs.YtigldipjkejalaaDoor.PRleForms Go.Proofs.YtigldipjkejalaaDoorW.PrintWords Go.Proofs.YtigldipjkejalaaDoorW.PrintLast
set_option maxRecDepth 1000000 in
theorem RleForms : rabbetlaw6_RleForms.Pure := ⟨400, by decide +kernel⟩
end Go.Proofs.YtigldipjkejalaaDoor.Pure
