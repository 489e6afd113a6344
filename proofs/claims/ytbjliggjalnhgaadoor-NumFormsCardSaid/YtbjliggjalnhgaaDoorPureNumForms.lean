/- NumForms' plain law: some numbers as bytes, by reckoning. Conditions: none. -/
import Derived.Test.YtbjliggjalnhgaaDoorPNumFormsx2
namespace Go.Proofs.YtbjliggjalnhgaaDoor.Pure
open Go.RowKit Go.Proofs.YtbjliggjalnhgaaDoor.PNumForms Go.Proofs.YtbjliggjalnhgaaDoorW.PrintWords Go.Proofs.YtbjliggjalnhgaaDoorW.PrintLast
set_option maxRecDepth 1000000 in
theorem NumForms : rabbetlaw2_NumForms.Pure := ⟨100, by decide +kernel⟩
end Go.Proofs.YtbjliggjalnhgaaDoor.Pure
