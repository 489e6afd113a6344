-- Cut by wcut.py (a program of this project) out of the words that print.sh laid for this seat: what this claim does not use is left out.
import Derived.Test.YtigldipjkejalaaDoorWApart
import Derived.Test.YtigldipjkejalaaDoorWArr
namespace Go.Proofs.YtigldipjkejalaaDoorW.PrintWords
open Go.RowKit
section
variable {P : Program}
end
namespace Kd
section
variable {P : Program} {ops : Array Oper} {rest : List Oper} {o : Oper} {a : Act} {Q : Exit → Act → World → Prop} {Kc : Act → World → Prop} {α : Type}
end
section
variable {α : Type} {d : Kd α} {e : Nat} {w : World} {base : Nat} {ok : Nat → Prop} {v : Value} {xs : List α}
end
section
variable {P : Program} {ops : Array Oper} {rest : List Oper} {o : Oper} {a : Act} {Q : Exit → Act → World → Prop} {Kc : Act → World → Prop} {α : Type}
end
end Kd
end Go.Proofs.YtigldipjkejalaaDoorW.PrintWords
