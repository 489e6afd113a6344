/-
  NARROWER THAN 'FOR EVERY INPUT', by the rows' own cells (each row's printed sentence says how): DeltaAll: laid · DeltaBack: laid · DeltaTurned: laid · DeltaForms: laid · DeltaEven: laid · PlainAll: laid · PlainBack: laid · PlainTurned: laid · PlainForms: laid.
  DERIVED. THE GIVEN ROWS OF THIS SEAT. 9 by the template 'for every input the law returns true; each argument reads behind the call as it read before'; 0 by the template 'total and deterministic' (their statements: YtgbammocbjghjaaDoorTotals.lean).
  GIVEN WITH THE SEED: the statements are not yours to turn. If you find one false, say at which input.
  Laid BY PROGRAM, IN A SANDBOX (cutbox-rows.mjs): the forced cells as the released guide's own fill.sh prints them over the translation 3701865822631750… (all of the seat's roots in one cut). By AI agents, Wed Nov 11 2026. No macro, syntax, notation, axiom, sorry.
-/
import Derived.Test.YtgbammocbjghjaaDoorChecked
import GoSem.Claim
import GoSem.ClaimJoined
import GoSem.ClaimMapViews
import Derived.JoinedTies
import Derived.KernelRfl
namespace Go.Proofs.YtgbammocbjghjaaDoor
/- THE CELL 'sum', in the pinned program and in every row, IS THE sha256 OF THE DUMP (.gsa) THAT YtgbammocbjghjaaDoorProg.lean LOADS. Nothing in Lean hashes anything: it is a label: what it is worth is what the hold of that sum in a sandbox is worth. -/
noncomputable def Tryd.pinned : Pinned := { name := "ytgbammocbjghjaadoor", sum := "37018658226317504a03669ca3ff24f962211c1e7bfbc832dd2776543fde1908", checked := Tryd.checked }
namespace Rows
def none {H : Type} : Left H := { results := [], args := [] }

/- WHAT THE LISTED PACKAGE-LEVEL VARIABLES READ AS WHEN THE CALL BEGINS. Each datum BY PROGRAM (the guide's laid-datum.mjs) off the statement by which the dump's own 'gosem.cut.vars' lays the variable. In a bare row this is a premise. The card (YtgbammocbjghjaaDoorCards.lean) ties it to the program's text. -/
def laid_rabbet_num_errShort {H : Type} : DataW H := .iface "*errors.errorString" (.ptr (.agg [.lit (.string [101, 110, 100, 115, 32, 116, 111, 111, 32, 115, 111, 111, 110])]))
def laid_rabbet_num_errLong {H : Type} : DataW H := .iface "*errors.errorString" (.ptr (.agg [.lit (.string [105, 115, 32, 110, 111, 116, 32, 97, 115, 32, 115, 104, 111, 114, 116, 32, 97, 115, 32, 109, 97, 121, 32, 98, 101])]))
def laid_rabbet_delta_errForm {H : Type} : DataW H := .iface "*errors.errorString" (.ptr (.agg [.lit (.string [115, 97, 121, 115, 32, 110, 111, 32, 99, 111, 108, 117, 109, 110])]))
def laid_rabbet_plain_errForm {H : Type} : DataW H := .iface "*errors.errorString" (.ptr (.agg [.lit (.string [115, 97, 121, 115, 32, 110, 111, 32, 99, 111, 108, 117, 109, 110])]))

/-- 'rabbetlaw9.DeltaAll': WHATEVER THE INPUT: true; the input reads as it did. -/
def deltaAllSpec : ChangeSpec := { name := "deltaAll", fn := fun _ => fun
  | [d1, d2, d3, d4, d5] => { results := [.lit (.bool true)], args := [d1, d2, d3, d4, d5] }
  | _ => none }
def deltaAllRow : OpenClaim := { program := "ytgbammocbjghjaadoor", sum := "37018658226317504a03669ca3ff24f962211c1e7bfbc832dd2776543fde1908", func := "rabbet/rabbetlaw9.DeltaAll", spec := "deltaAll", inPlace := ["internal/reflectlite.TypeOf"], unfollowed := true, recurses := true, named := ["rabbet/delta.errForm", "rabbet/num.errShort", "rabbet/num.errLong"], apart := false, laid := [("rabbet/num.errShort", laid_rabbet_num_errShort), ("rabbet/num.errLong", laid_rabbet_num_errLong), ("rabbet/delta.errForm", laid_rabbet_delta_errForm)] }
def DeltaAllSaid : Prop := deltaAllRow.holds Tryd.pinned (OpenSpec.ofChange deltaAllSpec)

/-- ITS FALSE NEIGHBOUR: 'it returns false'. Refute it at one input. -/
def deltaAllWrong : ChangeSpec := { name := "deltaAll", fn := fun _ => fun
  | [d1, d2, d3, d4, d5] => { results := [.lit (.bool false)], args := [d1, d2, d3, d4, d5] }
  | _ => none }
def DeltaAllWrongFalsely : Prop := deltaAllRow.holds Tryd.pinned (OpenSpec.ofChange deltaAllWrong)

/-- 'rabbetlaw9.DeltaBack': WHATEVER THE INPUT: true; the input reads as it did. -/
def deltaBackSpec : ChangeSpec := { name := "deltaBack", fn := fun _ => fun
  | [d1, d2, d3, d4] => { results := [.lit (.bool true)], args := [d1, d2, d3, d4] }
  | _ => none }
def deltaBackRow : OpenClaim := { program := "ytgbammocbjghjaadoor", sum := "37018658226317504a03669ca3ff24f962211c1e7bfbc832dd2776543fde1908", func := "rabbet/rabbetlaw9.DeltaBack", spec := "deltaBack", inPlace := ["internal/reflectlite.TypeOf"], unfollowed := true, recurses := true, named := ["rabbet/delta.errForm", "rabbet/num.errShort", "rabbet/num.errLong"], apart := false, laid := [("rabbet/num.errShort", laid_rabbet_num_errShort), ("rabbet/num.errLong", laid_rabbet_num_errLong), ("rabbet/delta.errForm", laid_rabbet_delta_errForm)] }
def DeltaBackSaid : Prop := deltaBackRow.holds Tryd.pinned (OpenSpec.ofChange deltaBackSpec)

/-- ITS FALSE NEIGHBOUR: 'it returns false'. Refute it at one input. -/
def deltaBackWrong : ChangeSpec := { name := "deltaBack", fn := fun _ => fun
  | [d1, d2, d3, d4] => { results := [.lit (.bool false)], args := [d1, d2, d3, d4] }
  | _ => none }
def DeltaBackWrongFalsely : Prop := deltaBackRow.holds Tryd.pinned (OpenSpec.ofChange deltaBackWrong)

/-- 'rabbetlaw9.DeltaTurned': WHATEVER THE INPUT: true; the input reads as it did. -/
def deltaTurnedSpec : ChangeSpec := { name := "deltaTurned", fn := fun _ => fun
  | [d1, d2, d3, d4] => { results := [.lit (.bool true)], args := [d1, d2, d3, d4] }
  | _ => none }
def deltaTurnedRow : OpenClaim := { program := "ytgbammocbjghjaadoor", sum := "37018658226317504a03669ca3ff24f962211c1e7bfbc832dd2776543fde1908", func := "rabbet/rabbetlaw9.DeltaTurned", spec := "deltaTurned", inPlace := ["internal/reflectlite.TypeOf"], unfollowed := true, recurses := true, named := ["rabbet/delta.errForm", "rabbet/num.errShort", "rabbet/num.errLong"], apart := false, laid := [("rabbet/num.errShort", laid_rabbet_num_errShort), ("rabbet/num.errLong", laid_rabbet_num_errLong), ("rabbet/delta.errForm", laid_rabbet_delta_errForm)] }
def DeltaTurnedSaid : Prop := deltaTurnedRow.holds Tryd.pinned (OpenSpec.ofChange deltaTurnedSpec)

/-- ITS FALSE NEIGHBOUR: 'it returns false'. Refute it at one input. -/
def deltaTurnedWrong : ChangeSpec := { name := "deltaTurned", fn := fun _ => fun
  | [d1, d2, d3, d4] => { results := [.lit (.bool false)], args := [d1, d2, d3, d4] }
  | _ => none }
def DeltaTurnedWrongFalsely : Prop := deltaTurnedRow.holds Tryd.pinned (OpenSpec.ofChange deltaTurnedWrong)

/-- 'rabbetlaw9.DeltaForms': WHATEVER THE INPUT: true; the input reads as it did. -/
def deltaFormsSpec : ChangeSpec := { name := "deltaForms", fn := fun _ => fun
  | [] => { results := [.lit (.bool true)], args := [] }
  | _ => none }
def deltaFormsRow : OpenClaim := { program := "ytgbammocbjghjaadoor", sum := "37018658226317504a03669ca3ff24f962211c1e7bfbc832dd2776543fde1908", func := "rabbet/rabbetlaw9.DeltaForms", spec := "deltaForms", inPlace := ["internal/reflectlite.TypeOf"], unfollowed := true, recurses := true, named := ["rabbet/delta.errForm", "rabbet/num.errShort", "rabbet/num.errLong"], apart := false, laid := [("rabbet/num.errShort", laid_rabbet_num_errShort), ("rabbet/num.errLong", laid_rabbet_num_errLong), ("rabbet/delta.errForm", laid_rabbet_delta_errForm)] }
def DeltaFormsSaid : Prop := deltaFormsRow.holds Tryd.pinned (OpenSpec.ofChange deltaFormsSpec)

/-- ITS FALSE NEIGHBOUR: 'it returns false'. Refute it at one input. -/
def deltaFormsWrong : ChangeSpec := { name := "deltaForms", fn := fun _ => fun
  | [] => { results := [.lit (.bool false)], args := [] }
  | _ => none }
def DeltaFormsWrongFalsely : Prop := deltaFormsRow.holds Tryd.pinned (OpenSpec.ofChange deltaFormsWrong)

/-- 'rabbetlaw9.DeltaEven': WHATEVER THE INPUT: true; the input reads as it did. -/
def deltaEvenSpec : ChangeSpec := { name := "deltaEven", fn := fun _ => fun
  | [d1, d2, d3] => { results := [.lit (.bool true)], args := [d1, d2, d3] }
  | _ => none }
def deltaEvenRow : OpenClaim := { program := "ytgbammocbjghjaadoor", sum := "37018658226317504a03669ca3ff24f962211c1e7bfbc832dd2776543fde1908", func := "rabbet/rabbetlaw9.DeltaEven", spec := "deltaEven", inPlace := ["internal/reflectlite.TypeOf"], unfollowed := true, recurses := true, named := ["rabbet/delta.errForm", "rabbet/num.errShort", "rabbet/num.errLong"], apart := false, laid := [("rabbet/num.errShort", laid_rabbet_num_errShort), ("rabbet/num.errLong", laid_rabbet_num_errLong), ("rabbet/delta.errForm", laid_rabbet_delta_errForm)] }
def DeltaEvenSaid : Prop := deltaEvenRow.holds Tryd.pinned (OpenSpec.ofChange deltaEvenSpec)

/-- ITS FALSE NEIGHBOUR: 'it returns false'. Refute it at one input. -/
def deltaEvenWrong : ChangeSpec := { name := "deltaEven", fn := fun _ => fun
  | [d1, d2, d3] => { results := [.lit (.bool false)], args := [d1, d2, d3] }
  | _ => none }
def DeltaEvenWrongFalsely : Prop := deltaEvenRow.holds Tryd.pinned (OpenSpec.ofChange deltaEvenWrong)

/-- 'rabbetlaw5.PlainAll': WHATEVER THE INPUT: true; the input reads as it did. -/
def plainAllSpec : ChangeSpec := { name := "plainAll", fn := fun _ => fun
  | [d1, d2, d3, d4, d5] => { results := [.lit (.bool true)], args := [d1, d2, d3, d4, d5] }
  | _ => none }
def plainAllRow : OpenClaim := { program := "ytgbammocbjghjaadoor", sum := "37018658226317504a03669ca3ff24f962211c1e7bfbc832dd2776543fde1908", func := "rabbet/rabbetlaw5.PlainAll", spec := "plainAll", inPlace := ["internal/reflectlite.TypeOf"], unfollowed := true, recurses := true, named := ["rabbet/plain.errForm", "rabbet/num.errShort", "rabbet/num.errLong"], apart := false, laid := [("rabbet/num.errShort", laid_rabbet_num_errShort), ("rabbet/num.errLong", laid_rabbet_num_errLong), ("rabbet/plain.errForm", laid_rabbet_plain_errForm)] }
def PlainAllSaid : Prop := plainAllRow.holds Tryd.pinned (OpenSpec.ofChange plainAllSpec)

/-- ITS FALSE NEIGHBOUR: 'it returns false'. Refute it at one input. -/
def plainAllWrong : ChangeSpec := { name := "plainAll", fn := fun _ => fun
  | [d1, d2, d3, d4, d5] => { results := [.lit (.bool false)], args := [d1, d2, d3, d4, d5] }
  | _ => none }
def PlainAllWrongFalsely : Prop := plainAllRow.holds Tryd.pinned (OpenSpec.ofChange plainAllWrong)

/-- 'rabbetlaw5.PlainBack': WHATEVER THE INPUT: true; the input reads as it did. -/
def plainBackSpec : ChangeSpec := { name := "plainBack", fn := fun _ => fun
  | [d1, d2, d3, d4] => { results := [.lit (.bool true)], args := [d1, d2, d3, d4] }
  | _ => none }
def plainBackRow : OpenClaim := { program := "ytgbammocbjghjaadoor", sum := "37018658226317504a03669ca3ff24f962211c1e7bfbc832dd2776543fde1908", func := "rabbet/rabbetlaw5.PlainBack", spec := "plainBack", inPlace := ["internal/reflectlite.TypeOf"], unfollowed := true, recurses := true, named := ["rabbet/plain.errForm", "rabbet/num.errShort", "rabbet/num.errLong"], apart := false, laid := [("rabbet/num.errShort", laid_rabbet_num_errShort), ("rabbet/num.errLong", laid_rabbet_num_errLong), ("rabbet/plain.errForm", laid_rabbet_plain_errForm)] }
def PlainBackSaid : Prop := plainBackRow.holds Tryd.pinned (OpenSpec.ofChange plainBackSpec)

/-- ITS FALSE NEIGHBOUR: 'it returns false'. Refute it at one input. -/
def plainBackWrong : ChangeSpec := { name := "plainBack", fn := fun _ => fun
  | [d1, d2, d3, d4] => { results := [.lit (.bool false)], args := [d1, d2, d3, d4] }
  | _ => none }
def PlainBackWrongFalsely : Prop := plainBackRow.holds Tryd.pinned (OpenSpec.ofChange plainBackWrong)

/-- 'rabbetlaw5.PlainTurned': WHATEVER THE INPUT: true; the input reads as it did. -/
def plainTurnedSpec : ChangeSpec := { name := "plainTurned", fn := fun _ => fun
  | [d1, d2, d3, d4] => { results := [.lit (.bool true)], args := [d1, d2, d3, d4] }
  | _ => none }
def plainTurnedRow : OpenClaim := { program := "ytgbammocbjghjaadoor", sum := "37018658226317504a03669ca3ff24f962211c1e7bfbc832dd2776543fde1908", func := "rabbet/rabbetlaw5.PlainTurned", spec := "plainTurned", inPlace := ["internal/reflectlite.TypeOf"], unfollowed := true, recurses := true, named := ["rabbet/plain.errForm", "rabbet/num.errShort", "rabbet/num.errLong"], apart := false, laid := [("rabbet/num.errShort", laid_rabbet_num_errShort), ("rabbet/num.errLong", laid_rabbet_num_errLong), ("rabbet/plain.errForm", laid_rabbet_plain_errForm)] }
def PlainTurnedSaid : Prop := plainTurnedRow.holds Tryd.pinned (OpenSpec.ofChange plainTurnedSpec)

/-- ITS FALSE NEIGHBOUR: 'it returns false'. Refute it at one input. -/
def plainTurnedWrong : ChangeSpec := { name := "plainTurned", fn := fun _ => fun
  | [d1, d2, d3, d4] => { results := [.lit (.bool false)], args := [d1, d2, d3, d4] }
  | _ => none }
def PlainTurnedWrongFalsely : Prop := plainTurnedRow.holds Tryd.pinned (OpenSpec.ofChange plainTurnedWrong)

/-- 'rabbetlaw5.PlainForms': WHATEVER THE INPUT: true; the input reads as it did. -/
def plainFormsSpec : ChangeSpec := { name := "plainForms", fn := fun _ => fun
  | [] => { results := [.lit (.bool true)], args := [] }
  | _ => none }
def plainFormsRow : OpenClaim := { program := "ytgbammocbjghjaadoor", sum := "37018658226317504a03669ca3ff24f962211c1e7bfbc832dd2776543fde1908", func := "rabbet/rabbetlaw5.PlainForms", spec := "plainForms", inPlace := ["internal/reflectlite.TypeOf"], unfollowed := true, recurses := true, named := ["rabbet/plain.errForm", "rabbet/num.errShort", "rabbet/num.errLong"], apart := false, laid := [("rabbet/num.errShort", laid_rabbet_num_errShort), ("rabbet/num.errLong", laid_rabbet_num_errLong), ("rabbet/plain.errForm", laid_rabbet_plain_errForm)] }
def PlainFormsSaid : Prop := plainFormsRow.holds Tryd.pinned (OpenSpec.ofChange plainFormsSpec)

/-- ITS FALSE NEIGHBOUR: 'it returns false'. Refute it at one input. -/
def plainFormsWrong : ChangeSpec := { name := "plainForms", fn := fun _ => fun
  | [] => { results := [.lit (.bool false)], args := [] }
  | _ => none }
def PlainFormsWrongFalsely : Prop := plainFormsRow.holds Tryd.pinned (OpenSpec.ofChange plainFormsWrong)

/- THE SECOND FORM. 'bulk': how many values and letters a reading holds, each counted each time it is reached (what is shared counts as often as it is met; a slice's spare places count too). A statement '..UptoSaid' is the law's where the arguments, and the package variables that the reading takes, are together of bulk at most 1048576: NARROWER than '..Said'. Prove '..Said' where nothing that the law and all that it calls make is longer than what came in: it says more and counts as full. Else prove '..UptoSaid'. A law counts once. -/
mutual
def uptoBulk {H : Type} : DataW H → Nat
  | .lit (.string bytes) => bytes.length + 1
  | .lit _ => 1
  | .nil => 1
  | .ptr d => uptoBulk d + 1
  | .slice elems spare => uptoBulkAll elems + uptoBulkAll spare + 1
  | .agg parts => uptoBulkAll parts + 1
  | .iface _ d => uptoBulk d + 1
  | .map entries => uptoBulkEntries entries + 1
  | .held _ => 1
def uptoBulkAll {H : Type} : List (DataW H) → Nat
  | [] => 0
  | d :: r => uptoBulk d + uptoBulkAll r
def uptoBulkEntries {H : Type} : List (Lit × DataW H) → Nat
  | [] => 0
  | x :: r => uptoBulkEntry x + uptoBulkEntries r
def uptoBulkEntry {H : Type} : Lit × DataW H → Nat
  | (.string bytes, d) => bytes.length + uptoBulk d + 1
  | (_, d) => uptoBulk d + 1
 end
def uptoSmall : (H : Type) → List (DataW H) → Bool := fun _ ds => decide (uptoBulkAll ds ≤ 1048576)
def OpenSpec.upto (s : _root_.Go.ChangeSpec) : _root_.Go.OpenSpec := { _root_.Go.OpenSpec.ofChange s with cond := some uptoSmall }

/-- 'rabbetlaw9.DeltaAll', WHERE WHAT IT READS IS OF BULK AT MOST 1048576: true; the input reads as it did. -/
def deltaAllUptoRow : OpenClaim := { program := "ytgbammocbjghjaadoor", sum := "37018658226317504a03669ca3ff24f962211c1e7bfbc832dd2776543fde1908", func := "rabbet/rabbetlaw9.DeltaAll", spec := "deltaAll", inPlace := ["internal/reflectlite.TypeOf"], unfollowed := true, recurses := true, named := ["rabbet/delta.errForm", "rabbet/num.errShort", "rabbet/num.errLong"], apart := false, laid := [("rabbet/num.errShort", laid_rabbet_num_errShort), ("rabbet/num.errLong", laid_rabbet_num_errLong), ("rabbet/delta.errForm", laid_rabbet_delta_errForm)], narrowed := true }
def DeltaAllUptoSaid : Prop := deltaAllUptoRow.holds Tryd.pinned (OpenSpec.upto deltaAllSpec)

/-- 'rabbetlaw9.DeltaBack', WHERE WHAT IT READS IS OF BULK AT MOST 1048576: true; the input reads as it did. -/
def deltaBackUptoRow : OpenClaim := { program := "ytgbammocbjghjaadoor", sum := "37018658226317504a03669ca3ff24f962211c1e7bfbc832dd2776543fde1908", func := "rabbet/rabbetlaw9.DeltaBack", spec := "deltaBack", inPlace := ["internal/reflectlite.TypeOf"], unfollowed := true, recurses := true, named := ["rabbet/delta.errForm", "rabbet/num.errShort", "rabbet/num.errLong"], apart := false, laid := [("rabbet/num.errShort", laid_rabbet_num_errShort), ("rabbet/num.errLong", laid_rabbet_num_errLong), ("rabbet/delta.errForm", laid_rabbet_delta_errForm)], narrowed := true }
def DeltaBackUptoSaid : Prop := deltaBackUptoRow.holds Tryd.pinned (OpenSpec.upto deltaBackSpec)

/-- 'rabbetlaw9.DeltaTurned', WHERE WHAT IT READS IS OF BULK AT MOST 1048576: true; the input reads as it did. -/
def deltaTurnedUptoRow : OpenClaim := { program := "ytgbammocbjghjaadoor", sum := "37018658226317504a03669ca3ff24f962211c1e7bfbc832dd2776543fde1908", func := "rabbet/rabbetlaw9.DeltaTurned", spec := "deltaTurned", inPlace := ["internal/reflectlite.TypeOf"], unfollowed := true, recurses := true, named := ["rabbet/delta.errForm", "rabbet/num.errShort", "rabbet/num.errLong"], apart := false, laid := [("rabbet/num.errShort", laid_rabbet_num_errShort), ("rabbet/num.errLong", laid_rabbet_num_errLong), ("rabbet/delta.errForm", laid_rabbet_delta_errForm)], narrowed := true }
def DeltaTurnedUptoSaid : Prop := deltaTurnedUptoRow.holds Tryd.pinned (OpenSpec.upto deltaTurnedSpec)

/-- 'rabbetlaw9.DeltaForms', WHERE WHAT IT READS IS OF BULK AT MOST 1048576: true; the input reads as it did. -/
def deltaFormsUptoRow : OpenClaim := { program := "ytgbammocbjghjaadoor", sum := "37018658226317504a03669ca3ff24f962211c1e7bfbc832dd2776543fde1908", func := "rabbet/rabbetlaw9.DeltaForms", spec := "deltaForms", inPlace := ["internal/reflectlite.TypeOf"], unfollowed := true, recurses := true, named := ["rabbet/delta.errForm", "rabbet/num.errShort", "rabbet/num.errLong"], apart := false, laid := [("rabbet/num.errShort", laid_rabbet_num_errShort), ("rabbet/num.errLong", laid_rabbet_num_errLong), ("rabbet/delta.errForm", laid_rabbet_delta_errForm)], narrowed := true }
def DeltaFormsUptoSaid : Prop := deltaFormsUptoRow.holds Tryd.pinned (OpenSpec.upto deltaFormsSpec)

/-- 'rabbetlaw9.DeltaEven', WHERE WHAT IT READS IS OF BULK AT MOST 1048576: true; the input reads as it did. -/
def deltaEvenUptoRow : OpenClaim := { program := "ytgbammocbjghjaadoor", sum := "37018658226317504a03669ca3ff24f962211c1e7bfbc832dd2776543fde1908", func := "rabbet/rabbetlaw9.DeltaEven", spec := "deltaEven", inPlace := ["internal/reflectlite.TypeOf"], unfollowed := true, recurses := true, named := ["rabbet/delta.errForm", "rabbet/num.errShort", "rabbet/num.errLong"], apart := false, laid := [("rabbet/num.errShort", laid_rabbet_num_errShort), ("rabbet/num.errLong", laid_rabbet_num_errLong), ("rabbet/delta.errForm", laid_rabbet_delta_errForm)], narrowed := true }
def DeltaEvenUptoSaid : Prop := deltaEvenUptoRow.holds Tryd.pinned (OpenSpec.upto deltaEvenSpec)

/-- 'rabbetlaw5.PlainAll', WHERE WHAT IT READS IS OF BULK AT MOST 1048576: true; the input reads as it did. -/
def plainAllUptoRow : OpenClaim := { program := "ytgbammocbjghjaadoor", sum := "37018658226317504a03669ca3ff24f962211c1e7bfbc832dd2776543fde1908", func := "rabbet/rabbetlaw5.PlainAll", spec := "plainAll", inPlace := ["internal/reflectlite.TypeOf"], unfollowed := true, recurses := true, named := ["rabbet/plain.errForm", "rabbet/num.errShort", "rabbet/num.errLong"], apart := false, laid := [("rabbet/num.errShort", laid_rabbet_num_errShort), ("rabbet/num.errLong", laid_rabbet_num_errLong), ("rabbet/plain.errForm", laid_rabbet_plain_errForm)], narrowed := true }
def PlainAllUptoSaid : Prop := plainAllUptoRow.holds Tryd.pinned (OpenSpec.upto plainAllSpec)

/-- 'rabbetlaw5.PlainBack', WHERE WHAT IT READS IS OF BULK AT MOST 1048576: true; the input reads as it did. -/
def plainBackUptoRow : OpenClaim := { program := "ytgbammocbjghjaadoor", sum := "37018658226317504a03669ca3ff24f962211c1e7bfbc832dd2776543fde1908", func := "rabbet/rabbetlaw5.PlainBack", spec := "plainBack", inPlace := ["internal/reflectlite.TypeOf"], unfollowed := true, recurses := true, named := ["rabbet/plain.errForm", "rabbet/num.errShort", "rabbet/num.errLong"], apart := false, laid := [("rabbet/num.errShort", laid_rabbet_num_errShort), ("rabbet/num.errLong", laid_rabbet_num_errLong), ("rabbet/plain.errForm", laid_rabbet_plain_errForm)], narrowed := true }
def PlainBackUptoSaid : Prop := plainBackUptoRow.holds Tryd.pinned (OpenSpec.upto plainBackSpec)

/-- 'rabbetlaw5.PlainTurned', WHERE WHAT IT READS IS OF BULK AT MOST 1048576: true; the input reads as it did. -/
def plainTurnedUptoRow : OpenClaim := { program := "ytgbammocbjghjaadoor", sum := "37018658226317504a03669ca3ff24f962211c1e7bfbc832dd2776543fde1908", func := "rabbet/rabbetlaw5.PlainTurned", spec := "plainTurned", inPlace := ["internal/reflectlite.TypeOf"], unfollowed := true, recurses := true, named := ["rabbet/plain.errForm", "rabbet/num.errShort", "rabbet/num.errLong"], apart := false, laid := [("rabbet/num.errShort", laid_rabbet_num_errShort), ("rabbet/num.errLong", laid_rabbet_num_errLong), ("rabbet/plain.errForm", laid_rabbet_plain_errForm)], narrowed := true }
def PlainTurnedUptoSaid : Prop := plainTurnedUptoRow.holds Tryd.pinned (OpenSpec.upto plainTurnedSpec)

/-- 'rabbetlaw5.PlainForms', WHERE WHAT IT READS IS OF BULK AT MOST 1048576: true; the input reads as it did. -/
def plainFormsUptoRow : OpenClaim := { program := "ytgbammocbjghjaadoor", sum := "37018658226317504a03669ca3ff24f962211c1e7bfbc832dd2776543fde1908", func := "rabbet/rabbetlaw5.PlainForms", spec := "plainForms", inPlace := ["internal/reflectlite.TypeOf"], unfollowed := true, recurses := true, named := ["rabbet/plain.errForm", "rabbet/num.errShort", "rabbet/num.errLong"], apart := false, laid := [("rabbet/num.errShort", laid_rabbet_num_errShort), ("rabbet/num.errLong", laid_rabbet_num_errLong), ("rabbet/plain.errForm", laid_rabbet_plain_errForm)], narrowed := true }
def PlainFormsUptoSaid : Prop := plainFormsUptoRow.holds Tryd.pinned (OpenSpec.upto plainFormsSpec)

end Rows
end Go.Proofs.YtgbammocbjghjaaDoor
