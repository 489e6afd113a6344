-- Cut by wcut.py (a program of this project) out of the words that print.sh laid for this seat: what this claim does not use is left out.
import Derived.Test.YtigldipjkejalaaDoorWInv
import Derived.Test.YtigldipjkejalaaDoorWFootNe
namespace Go.Proofs.YtigldipjkejalaaDoorW.PrintWords
open Go.RowKit
end Go.Proofs.YtigldipjkejalaaDoorW.PrintWords
namespace Go.Proofs.YtigldipjkejalaaDoorW.PrintLast
section
variable {ops : Array Oper} {a : Act} {o og : Oper} {g : Nat} {t : Tmp} {u : Bool}
end
end Go.Proofs.YtigldipjkejalaaDoorW.PrintLast
