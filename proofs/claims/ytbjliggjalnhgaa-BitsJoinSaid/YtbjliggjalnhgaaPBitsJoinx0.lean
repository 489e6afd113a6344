-- Written by xprint.py (a program of this project) out of the translation. Not trusted: Lean checks it.
import Derived.Test.YtbjliggjalnhgaaProg
import Derived.Below
import Derived.Deep.Draws
import Derived.Deep.AppendLies
import Derived.Maps.AppendAt
import Derived.OwnWalk
import Derived.Laws.BytesArg
import Derived.Laws.MakeOwn
import Derived.Laws.OwnMore
import Derived.Deep.OwnRows
import Derived.Tactics
import Derived.Lib.ConvBytes
import Derived.Laws.Slices
import Derived.WalkKit
import Derived.KernelRfl
import Derived.RowKit3
import Derived.Deep.LoopGhost
import Derived.Deep.QuietTactic
import Derived.BigQuiet
import Derived.WideLaws
import Derived.Deep.DeepCutAuto
import Derived.Deep.CutBlock
import Derived.Deep.RegionHeld3
import Derived.Laws.Rows
import Derived.Lib.AppendStr
import Derived.ArgAppend
import Derived.Laws.IdiomCopy
import Derived.OrdersHeld
import Derived.Laws.BitsLemmas
import Derived.RowKit
import Derived.Test.YtbjliggjalnhgaaWWords
import Derived.Test.YtbjliggjalnhgaaWLast
import Derived.Test.YtbjliggjalnhgaaWTab
import Derived.Test.YtbjliggjalnhgaaWFour
import Derived.Test.YtbjliggjalnhgaaWQPut
import Derived.Test.YtbjliggjalnhgaaWApart
import Derived.Test.YtbjliggjalnhgaaWArr
import Derived.Test.YtbjliggjalnhgaaWZeros
import Derived.Test.YtbjliggjalnhgaaWFoot
import Derived.Test.YtbjliggjalnhgaaWKept
import Derived.Test.YtbjliggjalnhgaaWShare
import Derived.Test.YtbjliggjalnhgaaWN
import Derived.Test.YtbjliggjalnhgaaWFootNe
import Derived.Test.YtbjliggjalnhgaaWAt
import Derived.Test.YtbjliggjalnhgaaWEqStruct
import Derived.Test.YtbjliggjalnhgaaWRepsOne
import Derived.Test.YtbjliggjalnhgaaWInv
import Derived.Test.YtbjliggjalnhgaaWInvWords
import Derived.Test.YtbjliggjalnhgaaWGuard
import Derived.Test.YtbjliggjalnhgaaWNEv
import Derived.Test.YtbjliggjalnhgaaWMore
import Derived.Test.YtbjliggjalnhgaaXB
import Derived.Test.YtbjliggjalnhgaaLen64
namespace Go.Proofs.Ytbjliggjalnhgaa.PBitsJoin
open Go.RowKit Go.Proofs.YtbjliggjalnhgaaW.PrintWords Go.Proofs.YtbjliggjalnhgaaW.PrintLast Go.Proofs.YtbjliggjalnhgaaW.PrintMore
attribute [local go_sem] max2_int min2_int max_two min_two max_three min_three max_four min_four   -- for this text's walks alone
set_option linter.unusedVariables false
set_option linter.unusedSimpArgs false



def errW (GA : Nat → Addr) : Option Int → Value
  | none => .nilIface
  | some c => .iface 0 (.int .i64 c)
theorem errW_none (GA : Nat → Addr) : errW GA none = .nilIface := rfl
theorem errW_some (GA : Nat → Addr) (c : Int) : errW GA (some c) = .iface 0 (.int .i64 c) := rfl

theorem info5 : (Try.prog.info? 5).map (fun i => (i.zero, i.size, i.bytes)) = some (some (.int .u8 0), 1, 1) := by kernel_rfl
theorem info32 : (Try.prog.info? 32).map (fun i => (i.zero, i.size, i.bytes)) = some (some (.int .u64 0), 1, 8) := by kernel_rfl
-- the values' own types

end Go.Proofs.Ytbjliggjalnhgaa.PBitsJoin
