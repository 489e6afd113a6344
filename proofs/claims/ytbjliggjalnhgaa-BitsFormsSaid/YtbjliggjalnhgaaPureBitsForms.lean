/- BitsForms' plain law: some numbers as bits, by reckoning. Conditions: none. -/
import Derived.Test.YtbjliggjalnhgaaPBitsFormsx3
namespace Go.Proofs.Ytbjliggjalnhgaa.Pure
open Go.RowKit Go.Proofs.Ytbjliggjalnhgaa.PBitsForms Go.Proofs.YtbjliggjalnhgaaW.PrintWords Go.Proofs.YtbjliggjalnhgaaW.PrintLast
set_option maxRecDepth 1000000 in
theorem BitsForms : rabbetlaw3_BitsForms.Pure := ⟨2100, by decide +kernel⟩
end Go.Proofs.Ytbjliggjalnhgaa.Pure
