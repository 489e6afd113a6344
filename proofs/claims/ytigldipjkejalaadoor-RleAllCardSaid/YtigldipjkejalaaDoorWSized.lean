-- Cut by wcut.py (a program of this project) out of the words that print.sh laid for this seat: what this claim does not use is left out.
import Derived.SizedLaws
import Derived.ChangeSlices
namespace Go.Proofs.YtigldipjkejalaaDoorW.PrintWords
open Go.ChangeShapes Go.WideShapes
end Go.Proofs.YtigldipjkejalaaDoorW.PrintWords
