/-
  NARROWER THAN 'FOR EVERY INPUT', by the rows' own cells (each row's printed sentence says how): TagAll: laid · TagTorn: laid · TagBack: laid · TagForms: laid · SpaceAll: laid · SpaceApart: laid · SpaceFirst: laid.
  DERIVED. THE GIVEN ROWS OF THIS SEAT. 7 by the template 'for every input the law returns true; each argument reads behind the call as it read before'; 0 by the template 'total and deterministic' (their statements: YtaoegbebeogkbaaDoorTotals.lean).
  GIVEN WITH THE SEED: the statements are not yours to turn. If you find one false, say at which input.
  Laid BY PROGRAM, IN A SANDBOX (cutbox-rows.mjs): the forced cells as the released guide's own fill.sh prints them over the translation e38577bc89ff95d8… (all of the seat's roots in one cut). By AI agents, Wed Nov 11 2026. No macro, syntax, notation, axiom, sorry.
-/
import Derived.Test.YtaoegbebeogkbaaDoorChecked
import GoSem.Claim
import GoSem.ClaimJoined
import GoSem.ClaimMapViews
import Derived.JoinedTies
import Derived.KernelRfl
namespace Go.Proofs.YtaoegbebeogkbaaDoor
/- THE CELL 'sum', in the pinned program and in every row, IS THE sha256 OF THE DUMP (.gsa) THAT YtaoegbebeogkbaaDoorProg.lean LOADS. Nothing in Lean hashes anything: it is a label: what it is worth is what the hold of that sum in a sandbox is worth. -/
noncomputable def Tryd.pinned : Pinned := { name := "ytaoegbebeogkbaadoor", sum := "e38577bc89ff95d8529c2a84b687b034c045d44e842617851a64e54c3e1f6ec5", checked := Tryd.checked }
namespace Rows
def none {H : Type} : Left H := { results := [], args := [] }

/- WHAT THE LISTED PACKAGE-LEVEL VARIABLES READ AS WHEN THE CALL BEGINS. Each datum BY PROGRAM (the guide's laid-datum.mjs) off the statement by which the dump's own 'gosem.cut.vars' lays the variable. In a bare row this is a premise. The card (YtaoegbebeogkbaaDoorCards.lean) ties it to the program's text. -/
def laid_rabbet_tag_errForm {H : Type} : DataW H := .iface "*errors.errorString" (.ptr (.agg [.lit (.string [105, 115, 32, 110, 111, 116, 32, 119, 104, 111, 108, 101])]))
def laid_rabbet_space_errNone {H : Type} : DataW H := .iface "*errors.errorString" (.ptr (.agg [.lit (.string [110, 111, 110, 101, 32, 111, 102, 32, 116, 104, 101, 115, 101, 32, 98, 108, 111, 99, 107, 115])]))
def laid_rabbet_space_errHere {H : Type} : DataW H := .iface "*errors.errorString" (.ptr (.agg [.lit (.string [116, 97, 107, 101, 110, 44, 32, 111, 114, 32, 110, 111, 116])]))

/-- 'rabbetlaw20.TagAll': WHATEVER THE INPUT: true; the input reads as it did. -/
def tagAllSpec : ChangeSpec := { name := "tagAll", fn := fun _ => fun
  | [d1, d2, d3, d4] => { results := [.lit (.bool true)], args := [d1, d2, d3, d4] }
  | _ => none }
def tagAllRow : OpenClaim := { program := "ytaoegbebeogkbaadoor", sum := "e38577bc89ff95d8529c2a84b687b034c045d44e842617851a64e54c3e1f6ec5", func := "rabbet/rabbetlaw20.TagAll", spec := "tagAll", inPlace := ["internal/reflectlite.TypeOf"], unfollowed := true, recurses := true, named := ["rabbet/tag.errForm"], apart := false, laid := [("rabbet/tag.errForm", laid_rabbet_tag_errForm)] }
def TagAllSaid : Prop := tagAllRow.holds Tryd.pinned (OpenSpec.ofChange tagAllSpec)

/-- ITS FALSE NEIGHBOUR: 'it returns false'. Refute it at one input. -/
def tagAllWrong : ChangeSpec := { name := "tagAll", fn := fun _ => fun
  | [d1, d2, d3, d4] => { results := [.lit (.bool false)], args := [d1, d2, d3, d4] }
  | _ => none }
def TagAllWrongFalsely : Prop := tagAllRow.holds Tryd.pinned (OpenSpec.ofChange tagAllWrong)

/-- 'rabbetlaw20.TagTorn': WHATEVER THE INPUT: true; the input reads as it did. -/
def tagTornSpec : ChangeSpec := { name := "tagTorn", fn := fun _ => fun
  | [d1, d2, d3, d4, d5, d6, d7, d8] => { results := [.lit (.bool true)], args := [d1, d2, d3, d4, d5, d6, d7, d8] }
  | _ => none }
def tagTornRow : OpenClaim := { program := "ytaoegbebeogkbaadoor", sum := "e38577bc89ff95d8529c2a84b687b034c045d44e842617851a64e54c3e1f6ec5", func := "rabbet/rabbetlaw20.TagTorn", spec := "tagTorn", inPlace := ["internal/reflectlite.TypeOf"], unfollowed := true, recurses := true, named := ["rabbet/tag.errForm"], apart := false, laid := [("rabbet/tag.errForm", laid_rabbet_tag_errForm)] }
def TagTornSaid : Prop := tagTornRow.holds Tryd.pinned (OpenSpec.ofChange tagTornSpec)

/-- ITS FALSE NEIGHBOUR: 'it returns false'. Refute it at one input. -/
def tagTornWrong : ChangeSpec := { name := "tagTorn", fn := fun _ => fun
  | [d1, d2, d3, d4, d5, d6, d7, d8] => { results := [.lit (.bool false)], args := [d1, d2, d3, d4, d5, d6, d7, d8] }
  | _ => none }
def TagTornWrongFalsely : Prop := tagTornRow.holds Tryd.pinned (OpenSpec.ofChange tagTornWrong)

/-- 'rabbetlaw20.TagBack': WHATEVER THE INPUT: true; the input reads as it did. -/
def tagBackSpec : ChangeSpec := { name := "tagBack", fn := fun _ => fun
  | [d1, d2, d3, d4, d5] => { results := [.lit (.bool true)], args := [d1, d2, d3, d4, d5] }
  | _ => none }
def tagBackRow : OpenClaim := { program := "ytaoegbebeogkbaadoor", sum := "e38577bc89ff95d8529c2a84b687b034c045d44e842617851a64e54c3e1f6ec5", func := "rabbet/rabbetlaw20.TagBack", spec := "tagBack", inPlace := ["internal/reflectlite.TypeOf"], unfollowed := true, recurses := true, named := ["rabbet/tag.errForm"], apart := false, laid := [("rabbet/tag.errForm", laid_rabbet_tag_errForm)] }
def TagBackSaid : Prop := tagBackRow.holds Tryd.pinned (OpenSpec.ofChange tagBackSpec)

/-- ITS FALSE NEIGHBOUR: 'it returns false'. Refute it at one input. -/
def tagBackWrong : ChangeSpec := { name := "tagBack", fn := fun _ => fun
  | [d1, d2, d3, d4, d5] => { results := [.lit (.bool false)], args := [d1, d2, d3, d4, d5] }
  | _ => none }
def TagBackWrongFalsely : Prop := tagBackRow.holds Tryd.pinned (OpenSpec.ofChange tagBackWrong)

/-- 'rabbetlaw20.TagForms': WHATEVER THE INPUT: true; the input reads as it did. -/
def tagFormsSpec : ChangeSpec := { name := "tagForms", fn := fun _ => fun
  | [] => { results := [.lit (.bool true)], args := [] }
  | _ => none }
def tagFormsRow : OpenClaim := { program := "ytaoegbebeogkbaadoor", sum := "e38577bc89ff95d8529c2a84b687b034c045d44e842617851a64e54c3e1f6ec5", func := "rabbet/rabbetlaw20.TagForms", spec := "tagForms", inPlace := ["internal/reflectlite.TypeOf"], unfollowed := true, recurses := true, named := ["rabbet/tag.errForm"], apart := false, laid := [("rabbet/tag.errForm", laid_rabbet_tag_errForm)] }
def TagFormsSaid : Prop := tagFormsRow.holds Tryd.pinned (OpenSpec.ofChange tagFormsSpec)

/-- ITS FALSE NEIGHBOUR: 'it returns false'. Refute it at one input. -/
def tagFormsWrong : ChangeSpec := { name := "tagForms", fn := fun _ => fun
  | [] => { results := [.lit (.bool false)], args := [] }
  | _ => none }
def TagFormsWrongFalsely : Prop := tagFormsRow.holds Tryd.pinned (OpenSpec.ofChange tagFormsWrong)

/-- 'rabbetlaw19.SpaceAll': WHATEVER THE INPUT: true; the input reads as it did. -/
def spaceAllSpec : ChangeSpec := { name := "spaceAll", fn := fun _ => fun
  | [d1, d2, d3] => { results := [.lit (.bool true)], args := [d1, d2, d3] }
  | _ => none }
def spaceAllRow : OpenClaim := { program := "ytaoegbebeogkbaadoor", sum := "e38577bc89ff95d8529c2a84b687b034c045d44e842617851a64e54c3e1f6ec5", func := "rabbet/rabbetlaw19.SpaceAll", spec := "spaceAll", inPlace := ["internal/reflectlite.TypeOf"], unfollowed := true, recurses := true, named := ["rabbet/space.errNone", "rabbet/space.errHere"], apart := false, laid := [("rabbet/space.errNone", laid_rabbet_space_errNone), ("rabbet/space.errHere", laid_rabbet_space_errHere)] }
def SpaceAllSaid : Prop := spaceAllRow.holds Tryd.pinned (OpenSpec.ofChange spaceAllSpec)

/-- ITS FALSE NEIGHBOUR: 'it returns false'. Refute it at one input. -/
def spaceAllWrong : ChangeSpec := { name := "spaceAll", fn := fun _ => fun
  | [d1, d2, d3] => { results := [.lit (.bool false)], args := [d1, d2, d3] }
  | _ => none }
def SpaceAllWrongFalsely : Prop := spaceAllRow.holds Tryd.pinned (OpenSpec.ofChange spaceAllWrong)

/-- 'rabbetlaw19.SpaceApart': WHATEVER THE INPUT: true; the input reads as it did. -/
def spaceApartSpec : ChangeSpec := { name := "spaceApart", fn := fun _ => fun
  | [d1, d2] => { results := [.lit (.bool true)], args := [d1, d2] }
  | _ => none }
def spaceApartRow : OpenClaim := { program := "ytaoegbebeogkbaadoor", sum := "e38577bc89ff95d8529c2a84b687b034c045d44e842617851a64e54c3e1f6ec5", func := "rabbet/rabbetlaw19.SpaceApart", spec := "spaceApart", inPlace := ["internal/reflectlite.TypeOf"], unfollowed := true, recurses := true, named := ["rabbet/space.errNone", "rabbet/space.errHere"], apart := false, laid := [("rabbet/space.errNone", laid_rabbet_space_errNone), ("rabbet/space.errHere", laid_rabbet_space_errHere)] }
def SpaceApartSaid : Prop := spaceApartRow.holds Tryd.pinned (OpenSpec.ofChange spaceApartSpec)

/-- ITS FALSE NEIGHBOUR: 'it returns false'. Refute it at one input. -/
def spaceApartWrong : ChangeSpec := { name := "spaceApart", fn := fun _ => fun
  | [d1, d2] => { results := [.lit (.bool false)], args := [d1, d2] }
  | _ => none }
def SpaceApartWrongFalsely : Prop := spaceApartRow.holds Tryd.pinned (OpenSpec.ofChange spaceApartWrong)

/-- 'rabbetlaw19.SpaceFirst': WHATEVER THE INPUT: true; the input reads as it did. -/
def spaceFirstSpec : ChangeSpec := { name := "spaceFirst", fn := fun _ => fun
  | [d1, d2] => { results := [.lit (.bool true)], args := [d1, d2] }
  | _ => none }
def spaceFirstRow : OpenClaim := { program := "ytaoegbebeogkbaadoor", sum := "e38577bc89ff95d8529c2a84b687b034c045d44e842617851a64e54c3e1f6ec5", func := "rabbet/rabbetlaw19.SpaceFirst", spec := "spaceFirst", inPlace := ["internal/reflectlite.TypeOf"], unfollowed := true, recurses := true, named := ["rabbet/space.errNone", "rabbet/space.errHere"], apart := false, laid := [("rabbet/space.errNone", laid_rabbet_space_errNone), ("rabbet/space.errHere", laid_rabbet_space_errHere)] }
def SpaceFirstSaid : Prop := spaceFirstRow.holds Tryd.pinned (OpenSpec.ofChange spaceFirstSpec)

/-- ITS FALSE NEIGHBOUR: 'it returns false'. Refute it at one input. -/
def spaceFirstWrong : ChangeSpec := { name := "spaceFirst", fn := fun _ => fun
  | [d1, d2] => { results := [.lit (.bool false)], args := [d1, d2] }
  | _ => none }
def SpaceFirstWrongFalsely : Prop := spaceFirstRow.holds Tryd.pinned (OpenSpec.ofChange spaceFirstWrong)

/- THE SECOND FORM. 'bulk': how many values and letters a reading holds, each counted each time it is reached (what is shared counts as often as it is met; a slice's spare places count too). A statement '..UptoSaid' is the law's where the arguments, and the package variables that the reading takes, are together of bulk at most 1048576: NARROWER than '..Said'. Prove '..Said' where nothing that the law and all that it calls make is longer than what came in: it says more and counts as full. Else prove '..UptoSaid'. A law counts once. -/
mutual
def uptoBulk {H : Type} : DataW H → Nat
  | .lit (.string bytes) => bytes.length + 1
  | .lit _ => 1
  | .nil => 1
  | .ptr d => uptoBulk d + 1
  | .slice elems spare => uptoBulkAll elems + uptoBulkAll spare + 1
  | .agg parts => uptoBulkAll parts + 1
  | .iface _ d => uptoBulk d + 1
  | .map entries => uptoBulkEntries entries + 1
  | .held _ => 1
def uptoBulkAll {H : Type} : List (DataW H) → Nat
  | [] => 0
  | d :: r => uptoBulk d + uptoBulkAll r
def uptoBulkEntries {H : Type} : List (Lit × DataW H) → Nat
  | [] => 0
  | x :: r => uptoBulkEntry x + uptoBulkEntries r
def uptoBulkEntry {H : Type} : Lit × DataW H → Nat
  | (.string bytes, d) => bytes.length + uptoBulk d + 1
  | (_, d) => uptoBulk d + 1
 end
def uptoSmall : (H : Type) → List (DataW H) → Bool := fun _ ds => decide (uptoBulkAll ds ≤ 1048576)
def OpenSpec.upto (s : _root_.Go.ChangeSpec) : _root_.Go.OpenSpec := { _root_.Go.OpenSpec.ofChange s with cond := some uptoSmall }

/-- 'rabbetlaw20.TagAll', WHERE WHAT IT READS IS OF BULK AT MOST 1048576: true; the input reads as it did. -/
def tagAllUptoRow : OpenClaim := { program := "ytaoegbebeogkbaadoor", sum := "e38577bc89ff95d8529c2a84b687b034c045d44e842617851a64e54c3e1f6ec5", func := "rabbet/rabbetlaw20.TagAll", spec := "tagAll", inPlace := ["internal/reflectlite.TypeOf"], unfollowed := true, recurses := true, named := ["rabbet/tag.errForm"], apart := false, laid := [("rabbet/tag.errForm", laid_rabbet_tag_errForm)], narrowed := true }
def TagAllUptoSaid : Prop := tagAllUptoRow.holds Tryd.pinned (OpenSpec.upto tagAllSpec)

/-- 'rabbetlaw20.TagTorn', WHERE WHAT IT READS IS OF BULK AT MOST 1048576: true; the input reads as it did. -/
def tagTornUptoRow : OpenClaim := { program := "ytaoegbebeogkbaadoor", sum := "e38577bc89ff95d8529c2a84b687b034c045d44e842617851a64e54c3e1f6ec5", func := "rabbet/rabbetlaw20.TagTorn", spec := "tagTorn", inPlace := ["internal/reflectlite.TypeOf"], unfollowed := true, recurses := true, named := ["rabbet/tag.errForm"], apart := false, laid := [("rabbet/tag.errForm", laid_rabbet_tag_errForm)], narrowed := true }
def TagTornUptoSaid : Prop := tagTornUptoRow.holds Tryd.pinned (OpenSpec.upto tagTornSpec)

/-- 'rabbetlaw20.TagBack', WHERE WHAT IT READS IS OF BULK AT MOST 1048576: true; the input reads as it did. -/
def tagBackUptoRow : OpenClaim := { program := "ytaoegbebeogkbaadoor", sum := "e38577bc89ff95d8529c2a84b687b034c045d44e842617851a64e54c3e1f6ec5", func := "rabbet/rabbetlaw20.TagBack", spec := "tagBack", inPlace := ["internal/reflectlite.TypeOf"], unfollowed := true, recurses := true, named := ["rabbet/tag.errForm"], apart := false, laid := [("rabbet/tag.errForm", laid_rabbet_tag_errForm)], narrowed := true }
def TagBackUptoSaid : Prop := tagBackUptoRow.holds Tryd.pinned (OpenSpec.upto tagBackSpec)

/-- 'rabbetlaw20.TagForms', WHERE WHAT IT READS IS OF BULK AT MOST 1048576: true; the input reads as it did. -/
def tagFormsUptoRow : OpenClaim := { program := "ytaoegbebeogkbaadoor", sum := "e38577bc89ff95d8529c2a84b687b034c045d44e842617851a64e54c3e1f6ec5", func := "rabbet/rabbetlaw20.TagForms", spec := "tagForms", inPlace := ["internal/reflectlite.TypeOf"], unfollowed := true, recurses := true, named := ["rabbet/tag.errForm"], apart := false, laid := [("rabbet/tag.errForm", laid_rabbet_tag_errForm)], narrowed := true }
def TagFormsUptoSaid : Prop := tagFormsUptoRow.holds Tryd.pinned (OpenSpec.upto tagFormsSpec)

/-- 'rabbetlaw19.SpaceAll', WHERE WHAT IT READS IS OF BULK AT MOST 1048576: true; the input reads as it did. -/
def spaceAllUptoRow : OpenClaim := { program := "ytaoegbebeogkbaadoor", sum := "e38577bc89ff95d8529c2a84b687b034c045d44e842617851a64e54c3e1f6ec5", func := "rabbet/rabbetlaw19.SpaceAll", spec := "spaceAll", inPlace := ["internal/reflectlite.TypeOf"], unfollowed := true, recurses := true, named := ["rabbet/space.errNone", "rabbet/space.errHere"], apart := false, laid := [("rabbet/space.errNone", laid_rabbet_space_errNone), ("rabbet/space.errHere", laid_rabbet_space_errHere)], narrowed := true }
def SpaceAllUptoSaid : Prop := spaceAllUptoRow.holds Tryd.pinned (OpenSpec.upto spaceAllSpec)

/-- 'rabbetlaw19.SpaceApart', WHERE WHAT IT READS IS OF BULK AT MOST 1048576: true; the input reads as it did. -/
def spaceApartUptoRow : OpenClaim := { program := "ytaoegbebeogkbaadoor", sum := "e38577bc89ff95d8529c2a84b687b034c045d44e842617851a64e54c3e1f6ec5", func := "rabbet/rabbetlaw19.SpaceApart", spec := "spaceApart", inPlace := ["internal/reflectlite.TypeOf"], unfollowed := true, recurses := true, named := ["rabbet/space.errNone", "rabbet/space.errHere"], apart := false, laid := [("rabbet/space.errNone", laid_rabbet_space_errNone), ("rabbet/space.errHere", laid_rabbet_space_errHere)], narrowed := true }
def SpaceApartUptoSaid : Prop := spaceApartUptoRow.holds Tryd.pinned (OpenSpec.upto spaceApartSpec)

/-- 'rabbetlaw19.SpaceFirst', WHERE WHAT IT READS IS OF BULK AT MOST 1048576: true; the input reads as it did. -/
def spaceFirstUptoRow : OpenClaim := { program := "ytaoegbebeogkbaadoor", sum := "e38577bc89ff95d8529c2a84b687b034c045d44e842617851a64e54c3e1f6ec5", func := "rabbet/rabbetlaw19.SpaceFirst", spec := "spaceFirst", inPlace := ["internal/reflectlite.TypeOf"], unfollowed := true, recurses := true, named := ["rabbet/space.errNone", "rabbet/space.errHere"], apart := false, laid := [("rabbet/space.errNone", laid_rabbet_space_errNone), ("rabbet/space.errHere", laid_rabbet_space_errHere)], narrowed := true }
def SpaceFirstUptoSaid : Prop := spaceFirstUptoRow.holds Tryd.pinned (OpenSpec.upto spaceFirstSpec)

end Rows
end Go.Proofs.YtaoegbebeogkbaaDoor
