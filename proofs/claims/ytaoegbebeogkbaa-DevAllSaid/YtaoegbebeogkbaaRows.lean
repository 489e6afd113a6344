/-
  No cell of these rows narrows 'for every input' (looked for: loops, veiled, ifaces, maps, wideKeys, modest, calm, conditions, laid).
  DERIVED. THE GIVEN ROWS OF THIS SEAT. 4 by the template 'for every input the law returns true; each argument reads behind the call as it read before'; 0 by the template 'total and deterministic' (their statements: YtaoegbebeogkbaaTotals.lean).
  GIVEN WITH THE SEED: the statements are not yours to turn. If you find one false, say at which input.
  Laid BY PROGRAM, IN A SANDBOX (cutbox-rows.mjs): the forced cells as the released guide's own fill.sh prints them over the translation f14ef68f50c3ec06… (all of the seat's roots in one cut). By AI agents, Wed Nov 11 2026. No macro, syntax, notation, axiom, sorry.
-/
import Derived.Test.YtaoegbebeogkbaaChecked
import GoSem.Claim
import GoSem.ClaimJoined
import GoSem.ClaimMapViews
import Derived.JoinedTies
import Derived.KernelRfl
namespace Go.Proofs.Ytaoegbebeogkbaa
/- THE CELL 'sum', in the pinned program and in every row, IS THE sha256 OF THE DUMP (.gsa) THAT YtaoegbebeogkbaaProg.lean LOADS. Nothing in Lean hashes anything: it is a label: what it is worth is what the hold of that sum in a sandbox is worth. -/
noncomputable def Try.pinned : Pinned := { name := "ytaoegbebeogkbaa", sum := "f14ef68f50c3ec06931ea74aeafa665e51315486fd01078b3bf2b76deef73514", checked := Try.checked }
namespace Rows
def none {H : Type} : Left H := { results := [], args := [] }

/-- 'rabbetlaw18.DevSure': WHATEVER THE INPUT: true; the input reads as it did. -/
def devSureSpec : ChangeSpec := { name := "devSure", fn := fun _ => fun
  | [d1, d2, d3, d4, d5] => { results := [.lit (.bool true)], args := [d1, d2, d3, d4, d5] }
  | _ => none }
def devSureRow : OpenClaim := { program := "ytaoegbebeogkbaa", sum := "f14ef68f50c3ec06931ea74aeafa665e51315486fd01078b3bf2b76deef73514", func := "rabbet/rabbetlaw18.DevSure", spec := "devSure", apart := false }
def DevSureSaid : Prop := devSureRow.holds Try.pinned (OpenSpec.ofChange devSureSpec)

/-- ITS FALSE NEIGHBOUR: 'it returns false'. Refute it at one input. -/
def devSureWrong : ChangeSpec := { name := "devSure", fn := fun _ => fun
  | [d1, d2, d3, d4, d5] => { results := [.lit (.bool false)], args := [d1, d2, d3, d4, d5] }
  | _ => none }
def DevSureWrongFalsely : Prop := devSureRow.holds Try.pinned (OpenSpec.ofChange devSureWrong)

/-- 'rabbetlaw18.DevTorn': WHATEVER THE INPUT: true; the input reads as it did. -/
def devTornSpec : ChangeSpec := { name := "devTorn", fn := fun _ => fun
  | [d1, d2, d3] => { results := [.lit (.bool true)], args := [d1, d2, d3] }
  | _ => none }
def devTornRow : OpenClaim := { program := "ytaoegbebeogkbaa", sum := "f14ef68f50c3ec06931ea74aeafa665e51315486fd01078b3bf2b76deef73514", func := "rabbet/rabbetlaw18.DevTorn", spec := "devTorn", apart := false }
def DevTornSaid : Prop := devTornRow.holds Try.pinned (OpenSpec.ofChange devTornSpec)

/-- ITS FALSE NEIGHBOUR: 'it returns false'. Refute it at one input. -/
def devTornWrong : ChangeSpec := { name := "devTorn", fn := fun _ => fun
  | [d1, d2, d3] => { results := [.lit (.bool false)], args := [d1, d2, d3] }
  | _ => none }
def DevTornWrongFalsely : Prop := devTornRow.holds Try.pinned (OpenSpec.ofChange devTornWrong)

/-- 'rabbetlaw18.DevAll': WHATEVER THE INPUT: true; the input reads as it did. -/
def devAllSpec : ChangeSpec := { name := "devAll", fn := fun _ => fun
  | [d1, d2] => { results := [.lit (.bool true)], args := [d1, d2] }
  | _ => none }
def devAllRow : OpenClaim := { program := "ytaoegbebeogkbaa", sum := "f14ef68f50c3ec06931ea74aeafa665e51315486fd01078b3bf2b76deef73514", func := "rabbet/rabbetlaw18.DevAll", spec := "devAll", apart := false }
def DevAllSaid : Prop := devAllRow.holds Try.pinned (OpenSpec.ofChange devAllSpec)

/-- ITS FALSE NEIGHBOUR: 'it returns false'. Refute it at one input. -/
def devAllWrong : ChangeSpec := { name := "devAll", fn := fun _ => fun
  | [d1, d2] => { results := [.lit (.bool false)], args := [d1, d2] }
  | _ => none }
def DevAllWrongFalsely : Prop := devAllRow.holds Try.pinned (OpenSpec.ofChange devAllWrong)

/-- 'rabbetlaw18.DevStops': WHATEVER THE INPUT: true; the input reads as it did. -/
def devStopsSpec : ChangeSpec := { name := "devStops", fn := fun _ => fun
  | [d1, d2] => { results := [.lit (.bool true)], args := [d1, d2] }
  | _ => none }
def devStopsRow : OpenClaim := { program := "ytaoegbebeogkbaa", sum := "f14ef68f50c3ec06931ea74aeafa665e51315486fd01078b3bf2b76deef73514", func := "rabbet/rabbetlaw18.DevStops", spec := "devStops", apart := false }
def DevStopsSaid : Prop := devStopsRow.holds Try.pinned (OpenSpec.ofChange devStopsSpec)

/-- ITS FALSE NEIGHBOUR: 'it returns false'. Refute it at one input. -/
def devStopsWrong : ChangeSpec := { name := "devStops", fn := fun _ => fun
  | [d1, d2] => { results := [.lit (.bool false)], args := [d1, d2] }
  | _ => none }
def DevStopsWrongFalsely : Prop := devStopsRow.holds Try.pinned (OpenSpec.ofChange devStopsWrong)

/- THE SECOND FORM. 'bulk': how many values and letters a reading holds, each counted each time it is reached (what is shared counts as often as it is met; a slice's spare places count too). A statement '..UptoSaid' is the law's where the arguments, and the package variables that the reading takes, are together of bulk at most 1048576: NARROWER than '..Said'. Prove '..Said' where nothing that the law and all that it calls make is longer than what came in: it says more and counts as full. Else prove '..UptoSaid'. A law counts once. -/
mutual
def uptoBulk {H : Type} : DataW H → Nat
  | .lit (.string bytes) => bytes.length + 1
  | .lit _ => 1
  | .nil => 1
  | .ptr d => uptoBulk d + 1
  | .slice elems spare => uptoBulkAll elems + uptoBulkAll spare + 1
  | .agg parts => uptoBulkAll parts + 1
  | .iface _ d => uptoBulk d + 1
  | .map entries => uptoBulkEntries entries + 1
  | .held _ => 1
def uptoBulkAll {H : Type} : List (DataW H) → Nat
  | [] => 0
  | d :: r => uptoBulk d + uptoBulkAll r
def uptoBulkEntries {H : Type} : List (Lit × DataW H) → Nat
  | [] => 0
  | x :: r => uptoBulkEntry x + uptoBulkEntries r
def uptoBulkEntry {H : Type} : Lit × DataW H → Nat
  | (.string bytes, d) => bytes.length + uptoBulk d + 1
  | (_, d) => uptoBulk d + 1
 end
def uptoSmall : (H : Type) → List (DataW H) → Bool := fun _ ds => decide (uptoBulkAll ds ≤ 1048576)
def OpenSpec.upto (s : _root_.Go.ChangeSpec) : _root_.Go.OpenSpec := { _root_.Go.OpenSpec.ofChange s with cond := some uptoSmall }

/-- 'rabbetlaw18.DevSure', WHERE WHAT IT READS IS OF BULK AT MOST 1048576: true; the input reads as it did. -/
def devSureUptoRow : OpenClaim := { program := "ytaoegbebeogkbaa", sum := "f14ef68f50c3ec06931ea74aeafa665e51315486fd01078b3bf2b76deef73514", func := "rabbet/rabbetlaw18.DevSure", spec := "devSure", apart := false, narrowed := true }
def DevSureUptoSaid : Prop := devSureUptoRow.holds Try.pinned (OpenSpec.upto devSureSpec)

/-- 'rabbetlaw18.DevTorn', WHERE WHAT IT READS IS OF BULK AT MOST 1048576: true; the input reads as it did. -/
def devTornUptoRow : OpenClaim := { program := "ytaoegbebeogkbaa", sum := "f14ef68f50c3ec06931ea74aeafa665e51315486fd01078b3bf2b76deef73514", func := "rabbet/rabbetlaw18.DevTorn", spec := "devTorn", apart := false, narrowed := true }
def DevTornUptoSaid : Prop := devTornUptoRow.holds Try.pinned (OpenSpec.upto devTornSpec)

/-- 'rabbetlaw18.DevAll', WHERE WHAT IT READS IS OF BULK AT MOST 1048576: true; the input reads as it did. -/
def devAllUptoRow : OpenClaim := { program := "ytaoegbebeogkbaa", sum := "f14ef68f50c3ec06931ea74aeafa665e51315486fd01078b3bf2b76deef73514", func := "rabbet/rabbetlaw18.DevAll", spec := "devAll", apart := false, narrowed := true }
def DevAllUptoSaid : Prop := devAllUptoRow.holds Try.pinned (OpenSpec.upto devAllSpec)

/-- 'rabbetlaw18.DevStops', WHERE WHAT IT READS IS OF BULK AT MOST 1048576: true; the input reads as it did. -/
def devStopsUptoRow : OpenClaim := { program := "ytaoegbebeogkbaa", sum := "f14ef68f50c3ec06931ea74aeafa665e51315486fd01078b3bf2b76deef73514", func := "rabbet/rabbetlaw18.DevStops", spec := "devStops", apart := false, narrowed := true }
def DevStopsUptoSaid : Prop := devStopsUptoRow.holds Try.pinned (OpenSpec.upto devStopsSpec)

end Rows
end Go.Proofs.Ytaoegbebeogkbaa
