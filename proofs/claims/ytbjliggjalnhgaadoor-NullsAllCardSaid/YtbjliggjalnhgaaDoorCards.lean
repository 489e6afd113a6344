/-
  DERIVED. GIVEN WITH THE SEED: THE CARDS: each row of YtbjliggjalnhgaaDoorRows.lean that lists a variable, with what it lists TIED to the program's text (the seventh form; the later family's looks); each row that meets fmt, with fmt's text TOLD by the authors' own Lean function (tested against real Go, not proved from fmt's source: count such statements apart). THE CARD IS WHAT COUNTS. Prove the row's statement (the work); the ties are given (YtbjliggjalnhgaaDoorTie.lean); close each card by the builder's one call (the guide's Derived/Test/ToyasCard.lean, 'card_holds'). Laid BY PROGRAM, IN A SANDBOX (cutbox-door.mjs). By AI agents, Wed Nov 11 2026. No macro, syntax, notation, axiom, sorry.
-/
import Derived.Test.YtbjliggjalnhgaaDoorRows
import GoSem.ClaimSeven
namespace Go.Proofs.YtbjliggjalnhgaaDoor
namespace Rows

/-- THE TIED CARD OF 'rabbetlaw2.NumAll'. -/
def numAllCard : Claim7 := { stood := { row := numAllRow, standIns := [], harness := (true, "4216ae31533ec40652b8fa65c40f0c71d15e6fd42839531e4acd2b994b3cc3dd"), looks := true }, kinds := [], alts := [], laidByText := true, laidKinds := [.sentinel, .sentinel], laidTests := true, laidLooks := .later }
def NumAllCardSaid : Prop := Claim7.holds Tryd.pinned (.plain (OpenSpec.ofChange numAllSpec)) numAllCard

/-- THE TIED CARD OF 'rabbetlaw2.NumBack'. -/
def numBackCard : Claim7 := { stood := { row := numBackRow, standIns := [], harness := (true, "4216ae31533ec40652b8fa65c40f0c71d15e6fd42839531e4acd2b994b3cc3dd"), looks := true }, kinds := [], alts := [], laidByText := true, laidKinds := [.sentinel, .sentinel], laidTests := true, laidLooks := .later }
def NumBackCardSaid : Prop := Claim7.holds Tryd.pinned (.plain (OpenSpec.ofChange numBackSpec)) numBackCard

/-- THE TIED CARD OF 'rabbetlaw2.NumForms'. -/
def numFormsCard : Claim7 := { stood := { row := numFormsRow, standIns := [], harness := (true, "4216ae31533ec40652b8fa65c40f0c71d15e6fd42839531e4acd2b994b3cc3dd"), looks := true }, kinds := [], alts := [], laidByText := true, laidKinds := [.sentinel, .sentinel], laidTests := true, laidLooks := .later }
def NumFormsCardSaid : Prop := Claim7.holds Tryd.pinned (.plain (OpenSpec.ofChange numFormsSpec)) numFormsCard

/-- THE TIED CARD OF 'rabbetlaw4.NullsAll'. -/
def nullsAllCard : Claim7 := { stood := { row := nullsAllRow, standIns := [], harness := (true, "4216ae31533ec40652b8fa65c40f0c71d15e6fd42839531e4acd2b994b3cc3dd"), looks := true }, kinds := [], alts := [], laidByText := true, laidKinds := [.sentinel], laidTests := true, laidLooks := .later }
def NullsAllCardSaid : Prop := Claim7.holds Tryd.pinned (.plain (OpenSpec.ofChange nullsAllSpec)) nullsAllCard

/-- THE TIED CARD OF 'rabbetlaw4.NullsBack'. -/
def nullsBackCard : Claim7 := { stood := { row := nullsBackRow, standIns := [], harness := (true, "4216ae31533ec40652b8fa65c40f0c71d15e6fd42839531e4acd2b994b3cc3dd"), looks := true }, kinds := [], alts := [], laidByText := true, laidKinds := [.sentinel], laidTests := true, laidLooks := .later }
def NullsBackCardSaid : Prop := Claim7.holds Tryd.pinned (.plain (OpenSpec.ofChange nullsBackSpec)) nullsBackCard

/-- THE TIED CARD OF 'rabbetlaw4.NullsSums'. -/
def nullsSumsCard : Claim7 := { stood := { row := nullsSumsRow, standIns := [], harness := (true, "4216ae31533ec40652b8fa65c40f0c71d15e6fd42839531e4acd2b994b3cc3dd"), looks := true }, kinds := [], alts := [], laidByText := true, laidKinds := [.sentinel], laidTests := true, laidLooks := .later }
def NullsSumsCardSaid : Prop := Claim7.holds Tryd.pinned (.plain (OpenSpec.ofChange nullsSumsSpec)) nullsSumsCard

/-- THE SECOND FORM's CARD OF 'rabbetlaw2.NumAll'. -/
def numAllUptoCard : Claim7 := { stood := { row := numAllUptoRow, standIns := [], harness := (true, "4216ae31533ec40652b8fa65c40f0c71d15e6fd42839531e4acd2b994b3cc3dd"), looks := true }, kinds := [], alts := [], laidByText := true, laidKinds := [.sentinel, .sentinel], laidTests := true, laidLooks := .later }
def NumAllUptoCardSaid : Prop := Claim7.holds Tryd.pinned (.plain (OpenSpec.upto numAllSpec)) numAllUptoCard

/-- THE SECOND FORM's CARD OF 'rabbetlaw2.NumBack'. -/
def numBackUptoCard : Claim7 := { stood := { row := numBackUptoRow, standIns := [], harness := (true, "4216ae31533ec40652b8fa65c40f0c71d15e6fd42839531e4acd2b994b3cc3dd"), looks := true }, kinds := [], alts := [], laidByText := true, laidKinds := [.sentinel, .sentinel], laidTests := true, laidLooks := .later }
def NumBackUptoCardSaid : Prop := Claim7.holds Tryd.pinned (.plain (OpenSpec.upto numBackSpec)) numBackUptoCard

/-- THE SECOND FORM's CARD OF 'rabbetlaw2.NumForms'. -/
def numFormsUptoCard : Claim7 := { stood := { row := numFormsUptoRow, standIns := [], harness := (true, "4216ae31533ec40652b8fa65c40f0c71d15e6fd42839531e4acd2b994b3cc3dd"), looks := true }, kinds := [], alts := [], laidByText := true, laidKinds := [.sentinel, .sentinel], laidTests := true, laidLooks := .later }
def NumFormsUptoCardSaid : Prop := Claim7.holds Tryd.pinned (.plain (OpenSpec.upto numFormsSpec)) numFormsUptoCard

/-- THE SECOND FORM's CARD OF 'rabbetlaw4.NullsAll'. -/
def nullsAllUptoCard : Claim7 := { stood := { row := nullsAllUptoRow, standIns := [], harness := (true, "4216ae31533ec40652b8fa65c40f0c71d15e6fd42839531e4acd2b994b3cc3dd"), looks := true }, kinds := [], alts := [], laidByText := true, laidKinds := [.sentinel], laidTests := true, laidLooks := .later }
def NullsAllUptoCardSaid : Prop := Claim7.holds Tryd.pinned (.plain (OpenSpec.upto nullsAllSpec)) nullsAllUptoCard

/-- THE SECOND FORM's CARD OF 'rabbetlaw4.NullsBack'. -/
def nullsBackUptoCard : Claim7 := { stood := { row := nullsBackUptoRow, standIns := [], harness := (true, "4216ae31533ec40652b8fa65c40f0c71d15e6fd42839531e4acd2b994b3cc3dd"), looks := true }, kinds := [], alts := [], laidByText := true, laidKinds := [.sentinel], laidTests := true, laidLooks := .later }
def NullsBackUptoCardSaid : Prop := Claim7.holds Tryd.pinned (.plain (OpenSpec.upto nullsBackSpec)) nullsBackUptoCard

/-- THE SECOND FORM's CARD OF 'rabbetlaw4.NullsSums'. -/
def nullsSumsUptoCard : Claim7 := { stood := { row := nullsSumsUptoRow, standIns := [], harness := (true, "4216ae31533ec40652b8fa65c40f0c71d15e6fd42839531e4acd2b994b3cc3dd"), looks := true }, kinds := [], alts := [], laidByText := true, laidKinds := [.sentinel], laidTests := true, laidLooks := .later }
def NullsSumsUptoCardSaid : Prop := Claim7.holds Tryd.pinned (.plain (OpenSpec.upto nullsSumsSpec)) nullsSumsUptoCard
end Rows
end Go.Proofs.YtbjliggjalnhgaaDoor
