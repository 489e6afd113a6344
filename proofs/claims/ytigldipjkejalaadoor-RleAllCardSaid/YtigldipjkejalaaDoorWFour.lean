-- Cut by wcut.py (a program of this project) out of the words that print.sh laid for this seat: what this claim does not use is left out.
import Derived.Test.YtigldipjkejalaaDoorWTab
namespace Go.Proofs.YtigldipjkejalaaDoorW.PrintLast
section
variable {P : Program} {ops : Array Oper} {Q : Exit → Act → World → Prop} {md : Region.Mode} {S : World → Prop} {ds : List Nat} {T : Bool × List (List Nat × List Nat)}
end
end Go.Proofs.YtigldipjkejalaaDoorW.PrintLast
