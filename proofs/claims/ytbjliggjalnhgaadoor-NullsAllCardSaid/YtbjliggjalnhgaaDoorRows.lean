/-
  NARROWER THAN 'FOR EVERY INPUT', by the rows' own cells (each row's printed sentence says how): NumAll: laid · NumBack: laid · NumForms: laid · NullsAll: laid · NullsBack: laid · NullsSums: laid.
  DERIVED. THE GIVEN ROWS OF THIS SEAT. 6 by the template 'for every input the law returns true; each argument reads behind the call as it read before'; 0 by the template 'total and deterministic' (their statements: YtbjliggjalnhgaaDoorTotals.lean).
  GIVEN WITH THE SEED: the statements are not yours to turn. If you find one false, say at which input.
  Laid BY PROGRAM, IN A SANDBOX (cutbox-rows.mjs): the forced cells as the released guide's own fill.sh prints them over the translation 6703e108dc51e3ac… (all of the seat's roots in one cut). By AI agents, Wed Nov 11 2026. No macro, syntax, notation, axiom, sorry.
-/
import Derived.Test.YtbjliggjalnhgaaDoorChecked
import GoSem.Claim
import GoSem.ClaimJoined
import GoSem.ClaimMapViews
import Derived.JoinedTies
import Derived.KernelRfl
namespace Go.Proofs.YtbjliggjalnhgaaDoor
/- THE CELL 'sum', in the pinned program and in every row, IS THE sha256 OF THE DUMP (.gsa) THAT YtbjliggjalnhgaaDoorProg.lean LOADS. Nothing in Lean hashes anything: it is a label: what it is worth is what the hold of that sum in a sandbox is worth. -/
noncomputable def Tryd.pinned : Pinned := { name := "ytbjliggjalnhgaadoor", sum := "6703e108dc51e3ac8c1784d3ab25140384982050b4baf6c8bab06a5baf668184", checked := Tryd.checked }
namespace Rows
def none {H : Type} : Left H := { results := [], args := [] }

/- WHAT THE LISTED PACKAGE-LEVEL VARIABLES READ AS WHEN THE CALL BEGINS. Each datum BY PROGRAM (the guide's laid-datum.mjs) off the statement by which the dump's own 'gosem.cut.vars' lays the variable. In a bare row this is a premise. The card (YtbjliggjalnhgaaDoorCards.lean) ties it to the program's text. -/
def laid_rabbet_num_errShort {H : Type} : DataW H := .iface "*errors.errorString" (.ptr (.agg [.lit (.string [101, 110, 100, 115, 32, 116, 111, 111, 32, 115, 111, 111, 110])]))
def laid_rabbet_num_errLong {H : Type} : DataW H := .iface "*errors.errorString" (.ptr (.agg [.lit (.string [105, 115, 32, 110, 111, 116, 32, 97, 115, 32, 115, 104, 111, 114, 116, 32, 97, 115, 32, 109, 97, 121, 32, 98, 101])]))
def laid_rabbet_nulls_errForm {H : Type} : DataW H := .iface "*errors.errorString" (.ptr (.agg [.lit (.string [105, 115, 32, 110, 111, 116, 32, 111, 102, 32, 115, 111, 32, 109, 97, 110, 121])]))

/-- 'rabbetlaw2.NumAll': WHATEVER THE INPUT: true; the input reads as it did. -/
def numAllSpec : ChangeSpec := { name := "numAll", fn := fun _ => fun
  | [d1, d2, d3] => { results := [.lit (.bool true)], args := [d1, d2, d3] }
  | _ => none }
def numAllRow : OpenClaim := { program := "ytbjliggjalnhgaadoor", sum := "6703e108dc51e3ac8c1784d3ab25140384982050b4baf6c8bab06a5baf668184", func := "rabbet/rabbetlaw2.NumAll", spec := "numAll", inPlace := ["internal/reflectlite.TypeOf"], unfollowed := true, recurses := true, named := ["rabbet/num.errShort", "rabbet/num.errLong"], apart := false, laid := [("rabbet/num.errShort", laid_rabbet_num_errShort), ("rabbet/num.errLong", laid_rabbet_num_errLong)] }
def NumAllSaid : Prop := numAllRow.holds Tryd.pinned (OpenSpec.ofChange numAllSpec)

/-- ITS FALSE NEIGHBOUR: 'it returns false'. Refute it at one input. -/
def numAllWrong : ChangeSpec := { name := "numAll", fn := fun _ => fun
  | [d1, d2, d3] => { results := [.lit (.bool false)], args := [d1, d2, d3] }
  | _ => none }
def NumAllWrongFalsely : Prop := numAllRow.holds Tryd.pinned (OpenSpec.ofChange numAllWrong)

/-- 'rabbetlaw2.NumBack': WHATEVER THE INPUT: true; the input reads as it did. -/
def numBackSpec : ChangeSpec := { name := "numBack", fn := fun _ => fun
  | [d1, d2, d3, d4, d5] => { results := [.lit (.bool true)], args := [d1, d2, d3, d4, d5] }
  | _ => none }
def numBackRow : OpenClaim := { program := "ytbjliggjalnhgaadoor", sum := "6703e108dc51e3ac8c1784d3ab25140384982050b4baf6c8bab06a5baf668184", func := "rabbet/rabbetlaw2.NumBack", spec := "numBack", inPlace := ["internal/reflectlite.TypeOf"], unfollowed := true, recurses := true, named := ["rabbet/num.errShort", "rabbet/num.errLong"], apart := false, laid := [("rabbet/num.errShort", laid_rabbet_num_errShort), ("rabbet/num.errLong", laid_rabbet_num_errLong)] }
def NumBackSaid : Prop := numBackRow.holds Tryd.pinned (OpenSpec.ofChange numBackSpec)

/-- ITS FALSE NEIGHBOUR: 'it returns false'. Refute it at one input. -/
def numBackWrong : ChangeSpec := { name := "numBack", fn := fun _ => fun
  | [d1, d2, d3, d4, d5] => { results := [.lit (.bool false)], args := [d1, d2, d3, d4, d5] }
  | _ => none }
def NumBackWrongFalsely : Prop := numBackRow.holds Tryd.pinned (OpenSpec.ofChange numBackWrong)

/-- 'rabbetlaw2.NumForms': WHATEVER THE INPUT: true; the input reads as it did. -/
def numFormsSpec : ChangeSpec := { name := "numForms", fn := fun _ => fun
  | [] => { results := [.lit (.bool true)], args := [] }
  | _ => none }
def numFormsRow : OpenClaim := { program := "ytbjliggjalnhgaadoor", sum := "6703e108dc51e3ac8c1784d3ab25140384982050b4baf6c8bab06a5baf668184", func := "rabbet/rabbetlaw2.NumForms", spec := "numForms", inPlace := ["internal/reflectlite.TypeOf"], unfollowed := true, recurses := true, named := ["rabbet/num.errShort", "rabbet/num.errLong"], apart := false, laid := [("rabbet/num.errShort", laid_rabbet_num_errShort), ("rabbet/num.errLong", laid_rabbet_num_errLong)] }
def NumFormsSaid : Prop := numFormsRow.holds Tryd.pinned (OpenSpec.ofChange numFormsSpec)

/-- ITS FALSE NEIGHBOUR: 'it returns false'. Refute it at one input. -/
def numFormsWrong : ChangeSpec := { name := "numForms", fn := fun _ => fun
  | [] => { results := [.lit (.bool false)], args := [] }
  | _ => none }
def NumFormsWrongFalsely : Prop := numFormsRow.holds Tryd.pinned (OpenSpec.ofChange numFormsWrong)

/-- 'rabbetlaw4.NullsAll': WHATEVER THE INPUT: true; the input reads as it did. -/
def nullsAllSpec : ChangeSpec := { name := "nullsAll", fn := fun _ => fun
  | [d1, d2, d3] => { results := [.lit (.bool true)], args := [d1, d2, d3] }
  | _ => none }
def nullsAllRow : OpenClaim := { program := "ytbjliggjalnhgaadoor", sum := "6703e108dc51e3ac8c1784d3ab25140384982050b4baf6c8bab06a5baf668184", func := "rabbet/rabbetlaw4.NullsAll", spec := "nullsAll", inPlace := ["internal/reflectlite.TypeOf"], unfollowed := true, recurses := true, named := ["rabbet/nulls.errForm"], apart := false, laid := [("rabbet/nulls.errForm", laid_rabbet_nulls_errForm)] }
def NullsAllSaid : Prop := nullsAllRow.holds Tryd.pinned (OpenSpec.ofChange nullsAllSpec)

/-- ITS FALSE NEIGHBOUR: 'it returns false'. Refute it at one input. -/
def nullsAllWrong : ChangeSpec := { name := "nullsAll", fn := fun _ => fun
  | [d1, d2, d3] => { results := [.lit (.bool false)], args := [d1, d2, d3] }
  | _ => none }
def NullsAllWrongFalsely : Prop := nullsAllRow.holds Tryd.pinned (OpenSpec.ofChange nullsAllWrong)

/-- 'rabbetlaw4.NullsBack': WHATEVER THE INPUT: true; the input reads as it did. -/
def nullsBackSpec : ChangeSpec := { name := "nullsBack", fn := fun _ => fun
  | [d1, d2] => { results := [.lit (.bool true)], args := [d1, d2] }
  | _ => none }
def nullsBackRow : OpenClaim := { program := "ytbjliggjalnhgaadoor", sum := "6703e108dc51e3ac8c1784d3ab25140384982050b4baf6c8bab06a5baf668184", func := "rabbet/rabbetlaw4.NullsBack", spec := "nullsBack", inPlace := ["internal/reflectlite.TypeOf"], unfollowed := true, recurses := true, named := ["rabbet/nulls.errForm"], apart := false, laid := [("rabbet/nulls.errForm", laid_rabbet_nulls_errForm)] }
def NullsBackSaid : Prop := nullsBackRow.holds Tryd.pinned (OpenSpec.ofChange nullsBackSpec)

/-- ITS FALSE NEIGHBOUR: 'it returns false'. Refute it at one input. -/
def nullsBackWrong : ChangeSpec := { name := "nullsBack", fn := fun _ => fun
  | [d1, d2] => { results := [.lit (.bool false)], args := [d1, d2] }
  | _ => none }
def NullsBackWrongFalsely : Prop := nullsBackRow.holds Tryd.pinned (OpenSpec.ofChange nullsBackWrong)

/-- 'rabbetlaw4.NullsSums': WHATEVER THE INPUT: true; the input reads as it did. -/
def nullsSumsSpec : ChangeSpec := { name := "nullsSums", fn := fun _ => fun
  | [d1, d2] => { results := [.lit (.bool true)], args := [d1, d2] }
  | _ => none }
def nullsSumsRow : OpenClaim := { program := "ytbjliggjalnhgaadoor", sum := "6703e108dc51e3ac8c1784d3ab25140384982050b4baf6c8bab06a5baf668184", func := "rabbet/rabbetlaw4.NullsSums", spec := "nullsSums", inPlace := ["internal/reflectlite.TypeOf"], unfollowed := true, recurses := true, named := ["rabbet/nulls.errForm"], apart := false, laid := [("rabbet/nulls.errForm", laid_rabbet_nulls_errForm)] }
def NullsSumsSaid : Prop := nullsSumsRow.holds Tryd.pinned (OpenSpec.ofChange nullsSumsSpec)

/-- ITS FALSE NEIGHBOUR: 'it returns false'. Refute it at one input. -/
def nullsSumsWrong : ChangeSpec := { name := "nullsSums", fn := fun _ => fun
  | [d1, d2] => { results := [.lit (.bool false)], args := [d1, d2] }
  | _ => none }
def NullsSumsWrongFalsely : Prop := nullsSumsRow.holds Tryd.pinned (OpenSpec.ofChange nullsSumsWrong)

/- THE SECOND FORM. 'bulk': how many values and letters a reading holds, each counted each time it is reached (what is shared counts as often as it is met; a slice's spare places count too). A statement '..UptoSaid' is the law's where the arguments, and the package variables that the reading takes, are together of bulk at most 1048576: NARROWER than '..Said'. Prove '..Said' where nothing that the law and all that it calls make is longer than what came in: it says more and counts as full. Else prove '..UptoSaid'. A law counts once. -/
mutual
def uptoBulk {H : Type} : DataW H → Nat
  | .lit (.string bytes) => bytes.length + 1
  | .lit _ => 1
  | .nil => 1
  | .ptr d => uptoBulk d + 1
  | .slice elems spare => uptoBulkAll elems + uptoBulkAll spare + 1
  | .agg parts => uptoBulkAll parts + 1
  | .iface _ d => uptoBulk d + 1
  | .map entries => uptoBulkEntries entries + 1
  | .held _ => 1
def uptoBulkAll {H : Type} : List (DataW H) → Nat
  | [] => 0
  | d :: r => uptoBulk d + uptoBulkAll r
def uptoBulkEntries {H : Type} : List (Lit × DataW H) → Nat
  | [] => 0
  | x :: r => uptoBulkEntry x + uptoBulkEntries r
def uptoBulkEntry {H : Type} : Lit × DataW H → Nat
  | (.string bytes, d) => bytes.length + uptoBulk d + 1
  | (_, d) => uptoBulk d + 1
 end
def uptoSmall : (H : Type) → List (DataW H) → Bool := fun _ ds => decide (uptoBulkAll ds ≤ 1048576)
def OpenSpec.upto (s : _root_.Go.ChangeSpec) : _root_.Go.OpenSpec := { _root_.Go.OpenSpec.ofChange s with cond := some uptoSmall }

/-- 'rabbetlaw2.NumAll', WHERE WHAT IT READS IS OF BULK AT MOST 1048576: true; the input reads as it did. -/
def numAllUptoRow : OpenClaim := { program := "ytbjliggjalnhgaadoor", sum := "6703e108dc51e3ac8c1784d3ab25140384982050b4baf6c8bab06a5baf668184", func := "rabbet/rabbetlaw2.NumAll", spec := "numAll", inPlace := ["internal/reflectlite.TypeOf"], unfollowed := true, recurses := true, named := ["rabbet/num.errShort", "rabbet/num.errLong"], apart := false, laid := [("rabbet/num.errShort", laid_rabbet_num_errShort), ("rabbet/num.errLong", laid_rabbet_num_errLong)], narrowed := true }
def NumAllUptoSaid : Prop := numAllUptoRow.holds Tryd.pinned (OpenSpec.upto numAllSpec)

/-- 'rabbetlaw2.NumBack', WHERE WHAT IT READS IS OF BULK AT MOST 1048576: true; the input reads as it did. -/
def numBackUptoRow : OpenClaim := { program := "ytbjliggjalnhgaadoor", sum := "6703e108dc51e3ac8c1784d3ab25140384982050b4baf6c8bab06a5baf668184", func := "rabbet/rabbetlaw2.NumBack", spec := "numBack", inPlace := ["internal/reflectlite.TypeOf"], unfollowed := true, recurses := true, named := ["rabbet/num.errShort", "rabbet/num.errLong"], apart := false, laid := [("rabbet/num.errShort", laid_rabbet_num_errShort), ("rabbet/num.errLong", laid_rabbet_num_errLong)], narrowed := true }
def NumBackUptoSaid : Prop := numBackUptoRow.holds Tryd.pinned (OpenSpec.upto numBackSpec)

/-- 'rabbetlaw2.NumForms', WHERE WHAT IT READS IS OF BULK AT MOST 1048576: true; the input reads as it did. -/
def numFormsUptoRow : OpenClaim := { program := "ytbjliggjalnhgaadoor", sum := "6703e108dc51e3ac8c1784d3ab25140384982050b4baf6c8bab06a5baf668184", func := "rabbet/rabbetlaw2.NumForms", spec := "numForms", inPlace := ["internal/reflectlite.TypeOf"], unfollowed := true, recurses := true, named := ["rabbet/num.errShort", "rabbet/num.errLong"], apart := false, laid := [("rabbet/num.errShort", laid_rabbet_num_errShort), ("rabbet/num.errLong", laid_rabbet_num_errLong)], narrowed := true }
def NumFormsUptoSaid : Prop := numFormsUptoRow.holds Tryd.pinned (OpenSpec.upto numFormsSpec)

/-- 'rabbetlaw4.NullsAll', WHERE WHAT IT READS IS OF BULK AT MOST 1048576: true; the input reads as it did. -/
def nullsAllUptoRow : OpenClaim := { program := "ytbjliggjalnhgaadoor", sum := "6703e108dc51e3ac8c1784d3ab25140384982050b4baf6c8bab06a5baf668184", func := "rabbet/rabbetlaw4.NullsAll", spec := "nullsAll", inPlace := ["internal/reflectlite.TypeOf"], unfollowed := true, recurses := true, named := ["rabbet/nulls.errForm"], apart := false, laid := [("rabbet/nulls.errForm", laid_rabbet_nulls_errForm)], narrowed := true }
def NullsAllUptoSaid : Prop := nullsAllUptoRow.holds Tryd.pinned (OpenSpec.upto nullsAllSpec)

/-- 'rabbetlaw4.NullsBack', WHERE WHAT IT READS IS OF BULK AT MOST 1048576: true; the input reads as it did. -/
def nullsBackUptoRow : OpenClaim := { program := "ytbjliggjalnhgaadoor", sum := "6703e108dc51e3ac8c1784d3ab25140384982050b4baf6c8bab06a5baf668184", func := "rabbet/rabbetlaw4.NullsBack", spec := "nullsBack", inPlace := ["internal/reflectlite.TypeOf"], unfollowed := true, recurses := true, named := ["rabbet/nulls.errForm"], apart := false, laid := [("rabbet/nulls.errForm", laid_rabbet_nulls_errForm)], narrowed := true }
def NullsBackUptoSaid : Prop := nullsBackUptoRow.holds Tryd.pinned (OpenSpec.upto nullsBackSpec)

/-- 'rabbetlaw4.NullsSums', WHERE WHAT IT READS IS OF BULK AT MOST 1048576: true; the input reads as it did. -/
def nullsSumsUptoRow : OpenClaim := { program := "ytbjliggjalnhgaadoor", sum := "6703e108dc51e3ac8c1784d3ab25140384982050b4baf6c8bab06a5baf668184", func := "rabbet/rabbetlaw4.NullsSums", spec := "nullsSums", inPlace := ["internal/reflectlite.TypeOf"], unfollowed := true, recurses := true, named := ["rabbet/nulls.errForm"], apart := false, laid := [("rabbet/nulls.errForm", laid_rabbet_nulls_errForm)], narrowed := true }
def NullsSumsUptoSaid : Prop := nullsSumsUptoRow.holds Tryd.pinned (OpenSpec.upto nullsSumsSpec)

end Rows
end Go.Proofs.YtbjliggjalnhgaaDoor
