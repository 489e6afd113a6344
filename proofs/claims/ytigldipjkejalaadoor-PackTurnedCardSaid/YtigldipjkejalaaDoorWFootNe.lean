-- Cut by wcut.py (a program of this project) out of the words that print.sh laid for this seat: what this claim does not use is left out.
import Derived.Test.YtigldipjkejalaaDoorWN
namespace Go.Proofs.YtigldipjkejalaaDoorW.PrintWords
open Go.RowKit
namespace Kd
section
variable {α : Type} {d : Kd α} {W : World} {g n : Nat} {S ok : Nat → Prop} {A : Option Addr} {ad : Addr} {xs : List α}
end
end Kd
end Go.Proofs.YtigldipjkejalaaDoorW.PrintWords
