/-
  NARROWER THAN 'FOR EVERY INPUT', by the rows' own cells (each row's printed sentence says how): PackAll: laid · PackBack: laid · PackTurned: laid · PackForms: laid · PackMoved: laid · RleAll: laid · RleBack: laid · RleTurned: laid · RleForms: laid · RleRuns: laid.
  DERIVED. THE GIVEN ROWS OF THIS SEAT. 10 by the template 'for every input the law returns true; each argument reads behind the call as it read before'; 0 by the template 'total and deterministic' (their statements: YtigldipjkejalaaDoorTotals.lean).
  GIVEN WITH THE SEED: the statements are not yours to turn. If you find one false, say at which input.
  Laid BY PROGRAM, IN A SANDBOX (cutbox-rows.mjs): the forced cells as the released guide's own fill.sh prints them over the translation 050b67995335eb06… (all of the seat's roots in one cut). By AI agents, Wed Nov 11 2026. No macro, syntax, notation, axiom, sorry.
-/
import Derived.Test.YtigldipjkejalaaDoorChecked
import GoSem.Claim
import GoSem.ClaimJoined
import GoSem.ClaimMapViews
import Derived.JoinedTies
import Derived.KernelRfl
namespace Go.Proofs.YtigldipjkejalaaDoor
/- THE CELL 'sum', in the pinned program and in every row, IS THE sha256 OF THE DUMP (.gsa) THAT YtigldipjkejalaaDoorProg.lean LOADS. Nothing in Lean hashes anything: it is a label: what it is worth is what the hold of that sum in a sandbox is worth. -/
noncomputable def Tryd.pinned : Pinned := { name := "ytigldipjkejalaadoor", sum := "050b67995335eb06d0afa86f967542a3c60166ac03d9860c0630ecdbc00d749f", checked := Tryd.checked }
namespace Rows
def none {H : Type} : Left H := { results := [], args := [] }

/- WHAT THE LISTED PACKAGE-LEVEL VARIABLES READ AS WHEN THE CALL BEGINS. Each datum BY PROGRAM (the guide's laid-datum.mjs) off the statement by which the dump's own 'gosem.cut.vars' lays the variable. In a bare row this is a premise. The card (YtigldipjkejalaaDoorCards.lean) ties it to the program's text. -/
def laid_rabbet_num_errShort {H : Type} : DataW H := .iface "*errors.errorString" (.ptr (.agg [.lit (.string [101, 110, 100, 115, 32, 116, 111, 111, 32, 115, 111, 111, 110])]))
def laid_rabbet_num_errLong {H : Type} : DataW H := .iface "*errors.errorString" (.ptr (.agg [.lit (.string [105, 115, 32, 110, 111, 116, 32, 97, 115, 32, 115, 104, 111, 114, 116, 32, 97, 115, 32, 109, 97, 121, 32, 98, 101])]))
def laid_rabbet_pack_errForm {H : Type} : DataW H := .iface "*errors.errorString" (.ptr (.agg [.lit (.string [115, 97, 121, 115, 32, 110, 111, 32, 99, 111, 108, 117, 109, 110])]))
def laid_rabbet_rle_errForm {H : Type} : DataW H := .iface "*errors.errorString" (.ptr (.agg [.lit (.string [115, 97, 121, 115, 32, 110, 111, 32, 99, 111, 108, 117, 109, 110])]))

/-- 'rabbetlaw8.PackAll': WHATEVER THE INPUT: true; the input reads as it did. -/
def packAllSpec : ChangeSpec := { name := "packAll", fn := fun _ => fun
  | [d1, d2, d3, d4, d5] => { results := [.lit (.bool true)], args := [d1, d2, d3, d4, d5] }
  | _ => none }
def packAllRow : OpenClaim := { program := "ytigldipjkejalaadoor", sum := "050b67995335eb06d0afa86f967542a3c60166ac03d9860c0630ecdbc00d749f", func := "rabbet/rabbetlaw8.PackAll", spec := "packAll", inPlace := ["internal/reflectlite.TypeOf"], unfollowed := true, recurses := true, named := ["rabbet/pack.errForm", "rabbet/num.errShort", "rabbet/num.errLong"], apart := false, laid := [("rabbet/num.errShort", laid_rabbet_num_errShort), ("rabbet/num.errLong", laid_rabbet_num_errLong), ("rabbet/pack.errForm", laid_rabbet_pack_errForm)] }
def PackAllSaid : Prop := packAllRow.holds Tryd.pinned (OpenSpec.ofChange packAllSpec)

/-- ITS FALSE NEIGHBOUR: 'it returns false'. Refute it at one input. -/
def packAllWrong : ChangeSpec := { name := "packAll", fn := fun _ => fun
  | [d1, d2, d3, d4, d5] => { results := [.lit (.bool false)], args := [d1, d2, d3, d4, d5] }
  | _ => none }
def PackAllWrongFalsely : Prop := packAllRow.holds Tryd.pinned (OpenSpec.ofChange packAllWrong)

/-- 'rabbetlaw8.PackBack': WHATEVER THE INPUT: true; the input reads as it did. -/
def packBackSpec : ChangeSpec := { name := "packBack", fn := fun _ => fun
  | [d1, d2, d3, d4] => { results := [.lit (.bool true)], args := [d1, d2, d3, d4] }
  | _ => none }
def packBackRow : OpenClaim := { program := "ytigldipjkejalaadoor", sum := "050b67995335eb06d0afa86f967542a3c60166ac03d9860c0630ecdbc00d749f", func := "rabbet/rabbetlaw8.PackBack", spec := "packBack", inPlace := ["internal/reflectlite.TypeOf"], unfollowed := true, recurses := true, named := ["rabbet/pack.errForm", "rabbet/num.errShort", "rabbet/num.errLong"], apart := false, laid := [("rabbet/num.errShort", laid_rabbet_num_errShort), ("rabbet/num.errLong", laid_rabbet_num_errLong), ("rabbet/pack.errForm", laid_rabbet_pack_errForm)] }
def PackBackSaid : Prop := packBackRow.holds Tryd.pinned (OpenSpec.ofChange packBackSpec)

/-- ITS FALSE NEIGHBOUR: 'it returns false'. Refute it at one input. -/
def packBackWrong : ChangeSpec := { name := "packBack", fn := fun _ => fun
  | [d1, d2, d3, d4] => { results := [.lit (.bool false)], args := [d1, d2, d3, d4] }
  | _ => none }
def PackBackWrongFalsely : Prop := packBackRow.holds Tryd.pinned (OpenSpec.ofChange packBackWrong)

/-- 'rabbetlaw8.PackTurned': WHATEVER THE INPUT: true; the input reads as it did. -/
def packTurnedSpec : ChangeSpec := { name := "packTurned", fn := fun _ => fun
  | [d1, d2, d3, d4] => { results := [.lit (.bool true)], args := [d1, d2, d3, d4] }
  | _ => none }
def packTurnedRow : OpenClaim := { program := "ytigldipjkejalaadoor", sum := "050b67995335eb06d0afa86f967542a3c60166ac03d9860c0630ecdbc00d749f", func := "rabbet/rabbetlaw8.PackTurned", spec := "packTurned", inPlace := ["internal/reflectlite.TypeOf"], unfollowed := true, recurses := true, named := ["rabbet/pack.errForm", "rabbet/num.errShort", "rabbet/num.errLong"], apart := false, laid := [("rabbet/num.errShort", laid_rabbet_num_errShort), ("rabbet/num.errLong", laid_rabbet_num_errLong), ("rabbet/pack.errForm", laid_rabbet_pack_errForm)] }
def PackTurnedSaid : Prop := packTurnedRow.holds Tryd.pinned (OpenSpec.ofChange packTurnedSpec)

/-- ITS FALSE NEIGHBOUR: 'it returns false'. Refute it at one input. -/
def packTurnedWrong : ChangeSpec := { name := "packTurned", fn := fun _ => fun
  | [d1, d2, d3, d4] => { results := [.lit (.bool false)], args := [d1, d2, d3, d4] }
  | _ => none }
def PackTurnedWrongFalsely : Prop := packTurnedRow.holds Tryd.pinned (OpenSpec.ofChange packTurnedWrong)

/-- 'rabbetlaw8.PackForms': WHATEVER THE INPUT: true; the input reads as it did. -/
def packFormsSpec : ChangeSpec := { name := "packForms", fn := fun _ => fun
  | [] => { results := [.lit (.bool true)], args := [] }
  | _ => none }
def packFormsRow : OpenClaim := { program := "ytigldipjkejalaadoor", sum := "050b67995335eb06d0afa86f967542a3c60166ac03d9860c0630ecdbc00d749f", func := "rabbet/rabbetlaw8.PackForms", spec := "packForms", inPlace := ["internal/reflectlite.TypeOf"], unfollowed := true, recurses := true, named := ["rabbet/pack.errForm", "rabbet/num.errShort", "rabbet/num.errLong"], apart := false, laid := [("rabbet/num.errShort", laid_rabbet_num_errShort), ("rabbet/num.errLong", laid_rabbet_num_errLong), ("rabbet/pack.errForm", laid_rabbet_pack_errForm)] }
def PackFormsSaid : Prop := packFormsRow.holds Tryd.pinned (OpenSpec.ofChange packFormsSpec)

/-- ITS FALSE NEIGHBOUR: 'it returns false'. Refute it at one input. -/
def packFormsWrong : ChangeSpec := { name := "packForms", fn := fun _ => fun
  | [] => { results := [.lit (.bool false)], args := [] }
  | _ => none }
def PackFormsWrongFalsely : Prop := packFormsRow.holds Tryd.pinned (OpenSpec.ofChange packFormsWrong)

/-- 'rabbetlaw8.PackMoved': WHATEVER THE INPUT: true; the input reads as it did. -/
def packMovedSpec : ChangeSpec := { name := "packMoved", fn := fun _ => fun
  | [d1, d2] => { results := [.lit (.bool true)], args := [d1, d2] }
  | _ => none }
def packMovedRow : OpenClaim := { program := "ytigldipjkejalaadoor", sum := "050b67995335eb06d0afa86f967542a3c60166ac03d9860c0630ecdbc00d749f", func := "rabbet/rabbetlaw8.PackMoved", spec := "packMoved", inPlace := ["internal/reflectlite.TypeOf"], unfollowed := true, recurses := true, named := ["rabbet/pack.errForm", "rabbet/num.errShort", "rabbet/num.errLong"], apart := false, laid := [("rabbet/num.errShort", laid_rabbet_num_errShort), ("rabbet/num.errLong", laid_rabbet_num_errLong), ("rabbet/pack.errForm", laid_rabbet_pack_errForm)] }
def PackMovedSaid : Prop := packMovedRow.holds Tryd.pinned (OpenSpec.ofChange packMovedSpec)

/-- ITS FALSE NEIGHBOUR: 'it returns false'. Refute it at one input. -/
def packMovedWrong : ChangeSpec := { name := "packMoved", fn := fun _ => fun
  | [d1, d2] => { results := [.lit (.bool false)], args := [d1, d2] }
  | _ => none }
def PackMovedWrongFalsely : Prop := packMovedRow.holds Tryd.pinned (OpenSpec.ofChange packMovedWrong)

/-- 'rabbetlaw6.RleAll': WHATEVER THE INPUT: true; the input reads as it did. -/
def rleAllSpec : ChangeSpec := { name := "rleAll", fn := fun _ => fun
  | [d1, d2, d3, d4, d5] => { results := [.lit (.bool true)], args := [d1, d2, d3, d4, d5] }
  | _ => none }
def rleAllRow : OpenClaim := { program := "ytigldipjkejalaadoor", sum := "050b67995335eb06d0afa86f967542a3c60166ac03d9860c0630ecdbc00d749f", func := "rabbet/rabbetlaw6.RleAll", spec := "rleAll", inPlace := ["internal/reflectlite.TypeOf"], unfollowed := true, recurses := true, named := ["rabbet/rle.errForm", "rabbet/num.errShort", "rabbet/num.errLong"], apart := false, laid := [("rabbet/num.errShort", laid_rabbet_num_errShort), ("rabbet/num.errLong", laid_rabbet_num_errLong), ("rabbet/rle.errForm", laid_rabbet_rle_errForm)] }
def RleAllSaid : Prop := rleAllRow.holds Tryd.pinned (OpenSpec.ofChange rleAllSpec)

/-- ITS FALSE NEIGHBOUR: 'it returns false'. Refute it at one input. -/
def rleAllWrong : ChangeSpec := { name := "rleAll", fn := fun _ => fun
  | [d1, d2, d3, d4, d5] => { results := [.lit (.bool false)], args := [d1, d2, d3, d4, d5] }
  | _ => none }
def RleAllWrongFalsely : Prop := rleAllRow.holds Tryd.pinned (OpenSpec.ofChange rleAllWrong)

/-- 'rabbetlaw6.RleBack': WHATEVER THE INPUT: true; the input reads as it did. -/
def rleBackSpec : ChangeSpec := { name := "rleBack", fn := fun _ => fun
  | [d1, d2, d3, d4] => { results := [.lit (.bool true)], args := [d1, d2, d3, d4] }
  | _ => none }
def rleBackRow : OpenClaim := { program := "ytigldipjkejalaadoor", sum := "050b67995335eb06d0afa86f967542a3c60166ac03d9860c0630ecdbc00d749f", func := "rabbet/rabbetlaw6.RleBack", spec := "rleBack", inPlace := ["internal/reflectlite.TypeOf"], unfollowed := true, recurses := true, named := ["rabbet/rle.errForm", "rabbet/num.errShort", "rabbet/num.errLong"], apart := false, laid := [("rabbet/num.errShort", laid_rabbet_num_errShort), ("rabbet/num.errLong", laid_rabbet_num_errLong), ("rabbet/rle.errForm", laid_rabbet_rle_errForm)] }
def RleBackSaid : Prop := rleBackRow.holds Tryd.pinned (OpenSpec.ofChange rleBackSpec)

/-- ITS FALSE NEIGHBOUR: 'it returns false'. Refute it at one input. -/
def rleBackWrong : ChangeSpec := { name := "rleBack", fn := fun _ => fun
  | [d1, d2, d3, d4] => { results := [.lit (.bool false)], args := [d1, d2, d3, d4] }
  | _ => none }
def RleBackWrongFalsely : Prop := rleBackRow.holds Tryd.pinned (OpenSpec.ofChange rleBackWrong)

/-- 'rabbetlaw6.RleTurned': WHATEVER THE INPUT: true; the input reads as it did. -/
def rleTurnedSpec : ChangeSpec := { name := "rleTurned", fn := fun _ => fun
  | [d1, d2, d3, d4] => { results := [.lit (.bool true)], args := [d1, d2, d3, d4] }
  | _ => none }
def rleTurnedRow : OpenClaim := { program := "ytigldipjkejalaadoor", sum := "050b67995335eb06d0afa86f967542a3c60166ac03d9860c0630ecdbc00d749f", func := "rabbet/rabbetlaw6.RleTurned", spec := "rleTurned", inPlace := ["internal/reflectlite.TypeOf"], unfollowed := true, recurses := true, named := ["rabbet/rle.errForm", "rabbet/num.errShort", "rabbet/num.errLong"], apart := false, laid := [("rabbet/num.errShort", laid_rabbet_num_errShort), ("rabbet/num.errLong", laid_rabbet_num_errLong), ("rabbet/rle.errForm", laid_rabbet_rle_errForm)] }
def RleTurnedSaid : Prop := rleTurnedRow.holds Tryd.pinned (OpenSpec.ofChange rleTurnedSpec)

/-- ITS FALSE NEIGHBOUR: 'it returns false'. Refute it at one input. -/
def rleTurnedWrong : ChangeSpec := { name := "rleTurned", fn := fun _ => fun
  | [d1, d2, d3, d4] => { results := [.lit (.bool false)], args := [d1, d2, d3, d4] }
  | _ => none }
def RleTurnedWrongFalsely : Prop := rleTurnedRow.holds Tryd.pinned (OpenSpec.ofChange rleTurnedWrong)

/-- 'rabbetlaw6.RleForms': WHATEVER THE INPUT: true; the input reads as it did. -/
def rleFormsSpec : ChangeSpec := { name := "rleForms", fn := fun _ => fun
  | [] => { results := [.lit (.bool true)], args := [] }
  | _ => none }
def rleFormsRow : OpenClaim := { program := "ytigldipjkejalaadoor", sum := "050b67995335eb06d0afa86f967542a3c60166ac03d9860c0630ecdbc00d749f", func := "rabbet/rabbetlaw6.RleForms", spec := "rleForms", inPlace := ["internal/reflectlite.TypeOf"], unfollowed := true, recurses := true, named := ["rabbet/rle.errForm", "rabbet/num.errShort", "rabbet/num.errLong"], apart := false, laid := [("rabbet/num.errShort", laid_rabbet_num_errShort), ("rabbet/num.errLong", laid_rabbet_num_errLong), ("rabbet/rle.errForm", laid_rabbet_rle_errForm)] }
def RleFormsSaid : Prop := rleFormsRow.holds Tryd.pinned (OpenSpec.ofChange rleFormsSpec)

/-- ITS FALSE NEIGHBOUR: 'it returns false'. Refute it at one input. -/
def rleFormsWrong : ChangeSpec := { name := "rleForms", fn := fun _ => fun
  | [] => { results := [.lit (.bool false)], args := [] }
  | _ => none }
def RleFormsWrongFalsely : Prop := rleFormsRow.holds Tryd.pinned (OpenSpec.ofChange rleFormsWrong)

/-- 'rabbetlaw6.RleRuns': WHATEVER THE INPUT: true; the input reads as it did. -/
def rleRunsSpec : ChangeSpec := { name := "rleRuns", fn := fun _ => fun
  | [d1, d2] => { results := [.lit (.bool true)], args := [d1, d2] }
  | _ => none }
def rleRunsRow : OpenClaim := { program := "ytigldipjkejalaadoor", sum := "050b67995335eb06d0afa86f967542a3c60166ac03d9860c0630ecdbc00d749f", func := "rabbet/rabbetlaw6.RleRuns", spec := "rleRuns", inPlace := ["internal/reflectlite.TypeOf"], unfollowed := true, recurses := true, named := ["rabbet/rle.errForm", "rabbet/num.errShort", "rabbet/num.errLong"], apart := false, laid := [("rabbet/num.errShort", laid_rabbet_num_errShort), ("rabbet/num.errLong", laid_rabbet_num_errLong), ("rabbet/rle.errForm", laid_rabbet_rle_errForm)] }
def RleRunsSaid : Prop := rleRunsRow.holds Tryd.pinned (OpenSpec.ofChange rleRunsSpec)

/-- ITS FALSE NEIGHBOUR: 'it returns false'. Refute it at one input. -/
def rleRunsWrong : ChangeSpec := { name := "rleRuns", fn := fun _ => fun
  | [d1, d2] => { results := [.lit (.bool false)], args := [d1, d2] }
  | _ => none }
def RleRunsWrongFalsely : Prop := rleRunsRow.holds Tryd.pinned (OpenSpec.ofChange rleRunsWrong)

/- THE SECOND FORM. 'bulk': how many values and letters a reading holds, each counted each time it is reached (what is shared counts as often as it is met; a slice's spare places count too). A statement '..UptoSaid' is the law's where the arguments, and the package variables that the reading takes, are together of bulk at most 1048576: NARROWER than '..Said'. Prove '..Said' where nothing that the law and all that it calls make is longer than what came in: it says more and counts as full. Else prove '..UptoSaid'. A law counts once. -/
mutual
def uptoBulk {H : Type} : DataW H → Nat
  | .lit (.string bytes) => bytes.length + 1
  | .lit _ => 1
  | .nil => 1
  | .ptr d => uptoBulk d + 1
  | .slice elems spare => uptoBulkAll elems + uptoBulkAll spare + 1
  | .agg parts => uptoBulkAll parts + 1
  | .iface _ d => uptoBulk d + 1
  | .map entries => uptoBulkEntries entries + 1
  | .held _ => 1
def uptoBulkAll {H : Type} : List (DataW H) → Nat
  | [] => 0
  | d :: r => uptoBulk d + uptoBulkAll r
def uptoBulkEntries {H : Type} : List (Lit × DataW H) → Nat
  | [] => 0
  | x :: r => uptoBulkEntry x + uptoBulkEntries r
def uptoBulkEntry {H : Type} : Lit × DataW H → Nat
  | (.string bytes, d) => bytes.length + uptoBulk d + 1
  | (_, d) => uptoBulk d + 1
 end
def uptoSmall : (H : Type) → List (DataW H) → Bool := fun _ ds => decide (uptoBulkAll ds ≤ 1048576)
def OpenSpec.upto (s : _root_.Go.ChangeSpec) : _root_.Go.OpenSpec := { _root_.Go.OpenSpec.ofChange s with cond := some uptoSmall }

/-- 'rabbetlaw8.PackAll', WHERE WHAT IT READS IS OF BULK AT MOST 1048576: true; the input reads as it did. -/
def packAllUptoRow : OpenClaim := { program := "ytigldipjkejalaadoor", sum := "050b67995335eb06d0afa86f967542a3c60166ac03d9860c0630ecdbc00d749f", func := "rabbet/rabbetlaw8.PackAll", spec := "packAll", inPlace := ["internal/reflectlite.TypeOf"], unfollowed := true, recurses := true, named := ["rabbet/pack.errForm", "rabbet/num.errShort", "rabbet/num.errLong"], apart := false, laid := [("rabbet/num.errShort", laid_rabbet_num_errShort), ("rabbet/num.errLong", laid_rabbet_num_errLong), ("rabbet/pack.errForm", laid_rabbet_pack_errForm)], narrowed := true }
def PackAllUptoSaid : Prop := packAllUptoRow.holds Tryd.pinned (OpenSpec.upto packAllSpec)

/-- 'rabbetlaw8.PackBack', WHERE WHAT IT READS IS OF BULK AT MOST 1048576: true; the input reads as it did. -/
def packBackUptoRow : OpenClaim := { program := "ytigldipjkejalaadoor", sum := "050b67995335eb06d0afa86f967542a3c60166ac03d9860c0630ecdbc00d749f", func := "rabbet/rabbetlaw8.PackBack", spec := "packBack", inPlace := ["internal/reflectlite.TypeOf"], unfollowed := true, recurses := true, named := ["rabbet/pack.errForm", "rabbet/num.errShort", "rabbet/num.errLong"], apart := false, laid := [("rabbet/num.errShort", laid_rabbet_num_errShort), ("rabbet/num.errLong", laid_rabbet_num_errLong), ("rabbet/pack.errForm", laid_rabbet_pack_errForm)], narrowed := true }
def PackBackUptoSaid : Prop := packBackUptoRow.holds Tryd.pinned (OpenSpec.upto packBackSpec)

/-- 'rabbetlaw8.PackTurned', WHERE WHAT IT READS IS OF BULK AT MOST 1048576: true; the input reads as it did. -/
def packTurnedUptoRow : OpenClaim := { program := "ytigldipjkejalaadoor", sum := "050b67995335eb06d0afa86f967542a3c60166ac03d9860c0630ecdbc00d749f", func := "rabbet/rabbetlaw8.PackTurned", spec := "packTurned", inPlace := ["internal/reflectlite.TypeOf"], unfollowed := true, recurses := true, named := ["rabbet/pack.errForm", "rabbet/num.errShort", "rabbet/num.errLong"], apart := false, laid := [("rabbet/num.errShort", laid_rabbet_num_errShort), ("rabbet/num.errLong", laid_rabbet_num_errLong), ("rabbet/pack.errForm", laid_rabbet_pack_errForm)], narrowed := true }
def PackTurnedUptoSaid : Prop := packTurnedUptoRow.holds Tryd.pinned (OpenSpec.upto packTurnedSpec)

/-- 'rabbetlaw8.PackForms', WHERE WHAT IT READS IS OF BULK AT MOST 1048576: true; the input reads as it did. -/
def packFormsUptoRow : OpenClaim := { program := "ytigldipjkejalaadoor", sum := "050b67995335eb06d0afa86f967542a3c60166ac03d9860c0630ecdbc00d749f", func := "rabbet/rabbetlaw8.PackForms", spec := "packForms", inPlace := ["internal/reflectlite.TypeOf"], unfollowed := true, recurses := true, named := ["rabbet/pack.errForm", "rabbet/num.errShort", "rabbet/num.errLong"], apart := false, laid := [("rabbet/num.errShort", laid_rabbet_num_errShort), ("rabbet/num.errLong", laid_rabbet_num_errLong), ("rabbet/pack.errForm", laid_rabbet_pack_errForm)], narrowed := true }
def PackFormsUptoSaid : Prop := packFormsUptoRow.holds Tryd.pinned (OpenSpec.upto packFormsSpec)

/-- 'rabbetlaw8.PackMoved', WHERE WHAT IT READS IS OF BULK AT MOST 1048576: true; the input reads as it did. -/
def packMovedUptoRow : OpenClaim := { program := "ytigldipjkejalaadoor", sum := "050b67995335eb06d0afa86f967542a3c60166ac03d9860c0630ecdbc00d749f", func := "rabbet/rabbetlaw8.PackMoved", spec := "packMoved", inPlace := ["internal/reflectlite.TypeOf"], unfollowed := true, recurses := true, named := ["rabbet/pack.errForm", "rabbet/num.errShort", "rabbet/num.errLong"], apart := false, laid := [("rabbet/num.errShort", laid_rabbet_num_errShort), ("rabbet/num.errLong", laid_rabbet_num_errLong), ("rabbet/pack.errForm", laid_rabbet_pack_errForm)], narrowed := true }
def PackMovedUptoSaid : Prop := packMovedUptoRow.holds Tryd.pinned (OpenSpec.upto packMovedSpec)

/-- 'rabbetlaw6.RleAll', WHERE WHAT IT READS IS OF BULK AT MOST 1048576: true; the input reads as it did. -/
def rleAllUptoRow : OpenClaim := { program := "ytigldipjkejalaadoor", sum := "050b67995335eb06d0afa86f967542a3c60166ac03d9860c0630ecdbc00d749f", func := "rabbet/rabbetlaw6.RleAll", spec := "rleAll", inPlace := ["internal/reflectlite.TypeOf"], unfollowed := true, recurses := true, named := ["rabbet/rle.errForm", "rabbet/num.errShort", "rabbet/num.errLong"], apart := false, laid := [("rabbet/num.errShort", laid_rabbet_num_errShort), ("rabbet/num.errLong", laid_rabbet_num_errLong), ("rabbet/rle.errForm", laid_rabbet_rle_errForm)], narrowed := true }
def RleAllUptoSaid : Prop := rleAllUptoRow.holds Tryd.pinned (OpenSpec.upto rleAllSpec)

/-- 'rabbetlaw6.RleBack', WHERE WHAT IT READS IS OF BULK AT MOST 1048576: true; the input reads as it did. -/
def rleBackUptoRow : OpenClaim := { program := "ytigldipjkejalaadoor", sum := "050b67995335eb06d0afa86f967542a3c60166ac03d9860c0630ecdbc00d749f", func := "rabbet/rabbetlaw6.RleBack", spec := "rleBack", inPlace := ["internal/reflectlite.TypeOf"], unfollowed := true, recurses := true, named := ["rabbet/rle.errForm", "rabbet/num.errShort", "rabbet/num.errLong"], apart := false, laid := [("rabbet/num.errShort", laid_rabbet_num_errShort), ("rabbet/num.errLong", laid_rabbet_num_errLong), ("rabbet/rle.errForm", laid_rabbet_rle_errForm)], narrowed := true }
def RleBackUptoSaid : Prop := rleBackUptoRow.holds Tryd.pinned (OpenSpec.upto rleBackSpec)

/-- 'rabbetlaw6.RleTurned', WHERE WHAT IT READS IS OF BULK AT MOST 1048576: true; the input reads as it did. -/
def rleTurnedUptoRow : OpenClaim := { program := "ytigldipjkejalaadoor", sum := "050b67995335eb06d0afa86f967542a3c60166ac03d9860c0630ecdbc00d749f", func := "rabbet/rabbetlaw6.RleTurned", spec := "rleTurned", inPlace := ["internal/reflectlite.TypeOf"], unfollowed := true, recurses := true, named := ["rabbet/rle.errForm", "rabbet/num.errShort", "rabbet/num.errLong"], apart := false, laid := [("rabbet/num.errShort", laid_rabbet_num_errShort), ("rabbet/num.errLong", laid_rabbet_num_errLong), ("rabbet/rle.errForm", laid_rabbet_rle_errForm)], narrowed := true }
def RleTurnedUptoSaid : Prop := rleTurnedUptoRow.holds Tryd.pinned (OpenSpec.upto rleTurnedSpec)

/-- 'rabbetlaw6.RleForms', WHERE WHAT IT READS IS OF BULK AT MOST 1048576: true; the input reads as it did. -/
def rleFormsUptoRow : OpenClaim := { program := "ytigldipjkejalaadoor", sum := "050b67995335eb06d0afa86f967542a3c60166ac03d9860c0630ecdbc00d749f", func := "rabbet/rabbetlaw6.RleForms", spec := "rleForms", inPlace := ["internal/reflectlite.TypeOf"], unfollowed := true, recurses := true, named := ["rabbet/rle.errForm", "rabbet/num.errShort", "rabbet/num.errLong"], apart := false, laid := [("rabbet/num.errShort", laid_rabbet_num_errShort), ("rabbet/num.errLong", laid_rabbet_num_errLong), ("rabbet/rle.errForm", laid_rabbet_rle_errForm)], narrowed := true }
def RleFormsUptoSaid : Prop := rleFormsUptoRow.holds Tryd.pinned (OpenSpec.upto rleFormsSpec)

/-- 'rabbetlaw6.RleRuns', WHERE WHAT IT READS IS OF BULK AT MOST 1048576: true; the input reads as it did. -/
def rleRunsUptoRow : OpenClaim := { program := "ytigldipjkejalaadoor", sum := "050b67995335eb06d0afa86f967542a3c60166ac03d9860c0630ecdbc00d749f", func := "rabbet/rabbetlaw6.RleRuns", spec := "rleRuns", inPlace := ["internal/reflectlite.TypeOf"], unfollowed := true, recurses := true, named := ["rabbet/rle.errForm", "rabbet/num.errShort", "rabbet/num.errLong"], apart := false, laid := [("rabbet/num.errShort", laid_rabbet_num_errShort), ("rabbet/num.errLong", laid_rabbet_num_errLong), ("rabbet/rle.errForm", laid_rabbet_rle_errForm)], narrowed := true }
def RleRunsUptoSaid : Prop := rleRunsUptoRow.holds Tryd.pinned (OpenSpec.upto rleRunsSpec)

end Rows
end Go.Proofs.YtigldipjkejalaaDoor
