/-
  NARROWER THAN 'FOR EVERY INPUT', by the rows' own cells (each row's printed sentence says how): LogFull: laid · LogNone: laid · LogAnew: laid · LogCrashes: laid.
  DERIVED. THE GIVEN ROWS OF THIS SEAT. 4 by the template 'for every input the law returns true; each argument reads behind the call as it read before'; 0 by the template 'total and deterministic' (their statements: YtokmildjniploaaDoorTotals.lean).
  GIVEN WITH THE SEED: the statements are not yours to turn. If you find one false, say at which input.
  Laid BY PROGRAM, IN A SANDBOX (cutbox-rows.mjs): the forced cells as the released guide's own fill.sh prints them over the translation 811fa75f05a7c320… (all of the seat's roots in one cut). By AI agents, Wed Nov 11 2026. No macro, syntax, notation, axiom, sorry.
-/
import Derived.Test.YtokmildjniploaaDoorChecked
import GoSem.Claim
import GoSem.ClaimJoined
import GoSem.ClaimMapViews
import Derived.JoinedTies
import Derived.KernelRfl
namespace Go.Proofs.YtokmildjniploaaDoor
/- THE CELL 'sum', in the pinned program and in every row, IS THE sha256 OF THE DUMP (.gsa) THAT YtokmildjniploaaDoorProg.lean LOADS. Nothing in Lean hashes anything: it is a label: what it is worth is what the hold of that sum in a sandbox is worth. -/
noncomputable def Tryd.pinned : Pinned := { name := "ytokmildjniploaadoor", sum := "811fa75f05a7c320c4c4b4190fcca5818dc0f2e7d487e3e6c401909cfc8d1bf0", checked := Tryd.checked }
namespace Rows
def none {H : Type} : Left H := { results := [], args := [] }

/- WHAT THE LISTED PACKAGE-LEVEL VARIABLES READ AS WHEN THE CALL BEGINS. Each datum BY PROGRAM (the guide's laid-datum.mjs) off the statement by which the dump's own 'gosem.cut.vars' lays the variable. In a bare row this is a premise. The card (YtokmildjniploaaDoorCards.lean) ties it to the program's text. -/
def laid_rabbet_tag_errForm {H : Type} : DataW H := .iface "*errors.errorString" (.ptr (.agg [.lit (.string [105, 115, 32, 110, 111, 116, 32, 119, 104, 111, 108, 101])]))
def laid_rabbet_log_errForm {H : Type} : DataW H := .iface "*errors.errorString" (.ptr (.agg [.lit (.string [105, 115, 32, 110, 111, 32, 114, 101, 99, 111, 114, 100])]))

/-- 'rabbetlaw21.LogFull': WHATEVER THE INPUT: true; the input reads as it did. -/
def logFullSpec : ChangeSpec := { name := "logFull", fn := fun _ => fun
  | [d1, d2] => { results := [.lit (.bool true)], args := [d1, d2] }
  | _ => none }
def logFullRow : OpenClaim := { program := "ytokmildjniploaadoor", sum := "811fa75f05a7c320c4c4b4190fcca5818dc0f2e7d487e3e6c401909cfc8d1bf0", func := "rabbet/rabbetlaw21.LogFull", spec := "logFull", inPlace := ["internal/reflectlite.TypeOf"], unfollowed := true, recurses := true, named := ["rabbet/log.errForm", "rabbet/tag.errForm"], apart := false, laid := [("rabbet/tag.errForm", laid_rabbet_tag_errForm), ("rabbet/log.errForm", laid_rabbet_log_errForm)] }
def LogFullSaid : Prop := logFullRow.holds Tryd.pinned (OpenSpec.ofChange logFullSpec)

/-- ITS FALSE NEIGHBOUR: 'it returns false'. Refute it at one input. -/
def logFullWrong : ChangeSpec := { name := "logFull", fn := fun _ => fun
  | [d1, d2] => { results := [.lit (.bool false)], args := [d1, d2] }
  | _ => none }
def LogFullWrongFalsely : Prop := logFullRow.holds Tryd.pinned (OpenSpec.ofChange logFullWrong)

/-- 'rabbetlaw21.LogNone': WHATEVER THE INPUT: true; the input reads as it did. -/
def logNoneSpec : ChangeSpec := { name := "logNone", fn := fun _ => fun
  | [d1, d2] => { results := [.lit (.bool true)], args := [d1, d2] }
  | _ => none }
def logNoneRow : OpenClaim := { program := "ytokmildjniploaadoor", sum := "811fa75f05a7c320c4c4b4190fcca5818dc0f2e7d487e3e6c401909cfc8d1bf0", func := "rabbet/rabbetlaw21.LogNone", spec := "logNone", inPlace := ["internal/reflectlite.TypeOf"], unfollowed := true, recurses := true, named := ["rabbet/log.errForm", "rabbet/tag.errForm"], apart := false, laid := [("rabbet/tag.errForm", laid_rabbet_tag_errForm), ("rabbet/log.errForm", laid_rabbet_log_errForm)] }
def LogNoneSaid : Prop := logNoneRow.holds Tryd.pinned (OpenSpec.ofChange logNoneSpec)

/-- ITS FALSE NEIGHBOUR: 'it returns false'. Refute it at one input. -/
def logNoneWrong : ChangeSpec := { name := "logNone", fn := fun _ => fun
  | [d1, d2] => { results := [.lit (.bool false)], args := [d1, d2] }
  | _ => none }
def LogNoneWrongFalsely : Prop := logNoneRow.holds Tryd.pinned (OpenSpec.ofChange logNoneWrong)

/-- 'rabbetlaw21.LogAnew': WHATEVER THE INPUT: true; the input reads as it did. -/
def logAnewSpec : ChangeSpec := { name := "logAnew", fn := fun _ => fun
  | [d1, d2, d3] => { results := [.lit (.bool true)], args := [d1, d2, d3] }
  | _ => none }
def logAnewRow : OpenClaim := { program := "ytokmildjniploaadoor", sum := "811fa75f05a7c320c4c4b4190fcca5818dc0f2e7d487e3e6c401909cfc8d1bf0", func := "rabbet/rabbetlaw21.LogAnew", spec := "logAnew", inPlace := ["internal/reflectlite.TypeOf"], unfollowed := true, recurses := true, named := ["rabbet/log.errForm", "rabbet/tag.errForm"], apart := false, laid := [("rabbet/tag.errForm", laid_rabbet_tag_errForm), ("rabbet/log.errForm", laid_rabbet_log_errForm)] }
def LogAnewSaid : Prop := logAnewRow.holds Tryd.pinned (OpenSpec.ofChange logAnewSpec)

/-- ITS FALSE NEIGHBOUR: 'it returns false'. Refute it at one input. -/
def logAnewWrong : ChangeSpec := { name := "logAnew", fn := fun _ => fun
  | [d1, d2, d3] => { results := [.lit (.bool false)], args := [d1, d2, d3] }
  | _ => none }
def LogAnewWrongFalsely : Prop := logAnewRow.holds Tryd.pinned (OpenSpec.ofChange logAnewWrong)

/-- 'rabbetlaw21.LogCrashes': WHATEVER THE INPUT: true; the input reads as it did. -/
def logCrashesSpec : ChangeSpec := { name := "logCrashes", fn := fun _ => fun
  | [d1, d2, d3, d4, d5, d6, d7, d8, d9, d10] => { results := [.lit (.bool true)], args := [d1, d2, d3, d4, d5, d6, d7, d8, d9, d10] }
  | _ => none }
def logCrashesRow : OpenClaim := { program := "ytokmildjniploaadoor", sum := "811fa75f05a7c320c4c4b4190fcca5818dc0f2e7d487e3e6c401909cfc8d1bf0", func := "rabbet/rabbetlaw21.LogCrashes", spec := "logCrashes", inPlace := ["internal/reflectlite.TypeOf"], unfollowed := true, recurses := true, named := ["rabbet/log.errForm", "rabbet/tag.errForm"], apart := false, laid := [("rabbet/tag.errForm", laid_rabbet_tag_errForm), ("rabbet/log.errForm", laid_rabbet_log_errForm)] }
def LogCrashesSaid : Prop := logCrashesRow.holds Tryd.pinned (OpenSpec.ofChange logCrashesSpec)

/-- ITS FALSE NEIGHBOUR: 'it returns false'. Refute it at one input. -/
def logCrashesWrong : ChangeSpec := { name := "logCrashes", fn := fun _ => fun
  | [d1, d2, d3, d4, d5, d6, d7, d8, d9, d10] => { results := [.lit (.bool false)], args := [d1, d2, d3, d4, d5, d6, d7, d8, d9, d10] }
  | _ => none }
def LogCrashesWrongFalsely : Prop := logCrashesRow.holds Tryd.pinned (OpenSpec.ofChange logCrashesWrong)

/- THE SECOND FORM. 'bulk': how many values and letters a reading holds, each counted each time it is reached (what is shared counts as often as it is met; a slice's spare places count too). A statement '..UptoSaid' is the law's where the arguments, and the package variables that the reading takes, are together of bulk at most 1048576: NARROWER than '..Said'. Prove '..Said' where nothing that the law and all that it calls make is longer than what came in: it says more and counts as full. Else prove '..UptoSaid'. A law counts once. -/
mutual
def uptoBulk {H : Type} : DataW H → Nat
  | .lit (.string bytes) => bytes.length + 1
  | .lit _ => 1
  | .nil => 1
  | .ptr d => uptoBulk d + 1
  | .slice elems spare => uptoBulkAll elems + uptoBulkAll spare + 1
  | .agg parts => uptoBulkAll parts + 1
  | .iface _ d => uptoBulk d + 1
  | .map entries => uptoBulkEntries entries + 1
  | .held _ => 1
def uptoBulkAll {H : Type} : List (DataW H) → Nat
  | [] => 0
  | d :: r => uptoBulk d + uptoBulkAll r
def uptoBulkEntries {H : Type} : List (Lit × DataW H) → Nat
  | [] => 0
  | x :: r => uptoBulkEntry x + uptoBulkEntries r
def uptoBulkEntry {H : Type} : Lit × DataW H → Nat
  | (.string bytes, d) => bytes.length + uptoBulk d + 1
  | (_, d) => uptoBulk d + 1
 end
def uptoSmall : (H : Type) → List (DataW H) → Bool := fun _ ds => decide (uptoBulkAll ds ≤ 1048576)
def OpenSpec.upto (s : _root_.Go.ChangeSpec) : _root_.Go.OpenSpec := { _root_.Go.OpenSpec.ofChange s with cond := some uptoSmall }

/-- 'rabbetlaw21.LogFull', WHERE WHAT IT READS IS OF BULK AT MOST 1048576: true; the input reads as it did. -/
def logFullUptoRow : OpenClaim := { program := "ytokmildjniploaadoor", sum := "811fa75f05a7c320c4c4b4190fcca5818dc0f2e7d487e3e6c401909cfc8d1bf0", func := "rabbet/rabbetlaw21.LogFull", spec := "logFull", inPlace := ["internal/reflectlite.TypeOf"], unfollowed := true, recurses := true, named := ["rabbet/log.errForm", "rabbet/tag.errForm"], apart := false, laid := [("rabbet/tag.errForm", laid_rabbet_tag_errForm), ("rabbet/log.errForm", laid_rabbet_log_errForm)], narrowed := true }
def LogFullUptoSaid : Prop := logFullUptoRow.holds Tryd.pinned (OpenSpec.upto logFullSpec)

/-- 'rabbetlaw21.LogNone', WHERE WHAT IT READS IS OF BULK AT MOST 1048576: true; the input reads as it did. -/
def logNoneUptoRow : OpenClaim := { program := "ytokmildjniploaadoor", sum := "811fa75f05a7c320c4c4b4190fcca5818dc0f2e7d487e3e6c401909cfc8d1bf0", func := "rabbet/rabbetlaw21.LogNone", spec := "logNone", inPlace := ["internal/reflectlite.TypeOf"], unfollowed := true, recurses := true, named := ["rabbet/log.errForm", "rabbet/tag.errForm"], apart := false, laid := [("rabbet/tag.errForm", laid_rabbet_tag_errForm), ("rabbet/log.errForm", laid_rabbet_log_errForm)], narrowed := true }
def LogNoneUptoSaid : Prop := logNoneUptoRow.holds Tryd.pinned (OpenSpec.upto logNoneSpec)

/-- 'rabbetlaw21.LogAnew', WHERE WHAT IT READS IS OF BULK AT MOST 1048576: true; the input reads as it did. -/
def logAnewUptoRow : OpenClaim := { program := "ytokmildjniploaadoor", sum := "811fa75f05a7c320c4c4b4190fcca5818dc0f2e7d487e3e6c401909cfc8d1bf0", func := "rabbet/rabbetlaw21.LogAnew", spec := "logAnew", inPlace := ["internal/reflectlite.TypeOf"], unfollowed := true, recurses := true, named := ["rabbet/log.errForm", "rabbet/tag.errForm"], apart := false, laid := [("rabbet/tag.errForm", laid_rabbet_tag_errForm), ("rabbet/log.errForm", laid_rabbet_log_errForm)], narrowed := true }
def LogAnewUptoSaid : Prop := logAnewUptoRow.holds Tryd.pinned (OpenSpec.upto logAnewSpec)

/-- 'rabbetlaw21.LogCrashes', WHERE WHAT IT READS IS OF BULK AT MOST 1048576: true; the input reads as it did. -/
def logCrashesUptoRow : OpenClaim := { program := "ytokmildjniploaadoor", sum := "811fa75f05a7c320c4c4b4190fcca5818dc0f2e7d487e3e6c401909cfc8d1bf0", func := "rabbet/rabbetlaw21.LogCrashes", spec := "logCrashes", inPlace := ["internal/reflectlite.TypeOf"], unfollowed := true, recurses := true, named := ["rabbet/log.errForm", "rabbet/tag.errForm"], apart := false, laid := [("rabbet/tag.errForm", laid_rabbet_tag_errForm), ("rabbet/log.errForm", laid_rabbet_log_errForm)], narrowed := true }
def LogCrashesUptoSaid : Prop := logCrashesUptoRow.holds Tryd.pinned (OpenSpec.upto logCrashesSpec)

end Rows
end Go.Proofs.YtokmildjniploaaDoor
