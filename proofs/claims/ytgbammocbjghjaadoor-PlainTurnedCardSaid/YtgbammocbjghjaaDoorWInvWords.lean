-- Cut by wcut.py (a program of this project) out of the words that print.sh laid for this seat: what this claim does not use is left out.
import Derived.Test.YtgbammocbjghjaaDoorWInv
import Derived.Test.YtgbammocbjghjaaDoorWFootNe
namespace Go.Proofs.YtgbammocbjghjaaDoorW.PrintWords
open Go.RowKit
end Go.Proofs.YtgbammocbjghjaaDoorW.PrintWords
namespace Go.Proofs.YtgbammocbjghjaaDoorW.PrintLast
section
variable {ops : Array Oper} {a : Act} {o og : Oper} {g : Nat} {t : Tmp} {u : Bool}
end
end Go.Proofs.YtgbammocbjghjaaDoorW.PrintLast
