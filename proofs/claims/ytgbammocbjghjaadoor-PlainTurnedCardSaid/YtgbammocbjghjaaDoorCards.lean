/-
  DERIVED. GIVEN WITH THE SEED: THE CARDS: each row of YtgbammocbjghjaaDoorRows.lean that lists a variable, with what it lists TIED to the program's text (the seventh form; the later family's looks); each row that meets fmt, with fmt's text TOLD by the authors' own Lean function (tested against real Go, not proved from fmt's source: count such statements apart). THE CARD IS WHAT COUNTS. Prove the row's statement (the work); the ties are given (YtgbammocbjghjaaDoorTie.lean); close each card by the builder's one call (the guide's Derived/Test/ToyasCard.lean, 'card_holds'). Laid BY PROGRAM, IN A SANDBOX (cutbox-door.mjs). By AI agents, Wed Nov 11 2026. No macro, syntax, notation, axiom, sorry.
-/
import Derived.Test.YtgbammocbjghjaaDoorRows
import GoSem.ClaimSeven
namespace Go.Proofs.YtgbammocbjghjaaDoor
namespace Rows

/-- THE TIED CARD OF 'rabbetlaw9.DeltaAll'. -/
def deltaAllCard : Claim7 := { stood := { row := deltaAllRow, standIns := [], harness := (true, "1d89707ec482fca84916a0757c38f4caa4ae8e70732e6d1ebdaac58496e487f1"), looks := true }, kinds := [], alts := [], laidByText := true, laidKinds := [.sentinel, .sentinel, .sentinel], laidTests := true, laidLooks := .later }
def DeltaAllCardSaid : Prop := Claim7.holds Tryd.pinned (.plain (OpenSpec.ofChange deltaAllSpec)) deltaAllCard

/-- THE TIED CARD OF 'rabbetlaw9.DeltaBack'. -/
def deltaBackCard : Claim7 := { stood := { row := deltaBackRow, standIns := [], harness := (true, "1d89707ec482fca84916a0757c38f4caa4ae8e70732e6d1ebdaac58496e487f1"), looks := true }, kinds := [], alts := [], laidByText := true, laidKinds := [.sentinel, .sentinel, .sentinel], laidTests := true, laidLooks := .later }
def DeltaBackCardSaid : Prop := Claim7.holds Tryd.pinned (.plain (OpenSpec.ofChange deltaBackSpec)) deltaBackCard

/-- THE TIED CARD OF 'rabbetlaw9.DeltaTurned'. -/
def deltaTurnedCard : Claim7 := { stood := { row := deltaTurnedRow, standIns := [], harness := (true, "1d89707ec482fca84916a0757c38f4caa4ae8e70732e6d1ebdaac58496e487f1"), looks := true }, kinds := [], alts := [], laidByText := true, laidKinds := [.sentinel, .sentinel, .sentinel], laidTests := true, laidLooks := .later }
def DeltaTurnedCardSaid : Prop := Claim7.holds Tryd.pinned (.plain (OpenSpec.ofChange deltaTurnedSpec)) deltaTurnedCard

/-- THE TIED CARD OF 'rabbetlaw9.DeltaForms'. -/
def deltaFormsCard : Claim7 := { stood := { row := deltaFormsRow, standIns := [], harness := (true, "1d89707ec482fca84916a0757c38f4caa4ae8e70732e6d1ebdaac58496e487f1"), looks := true }, kinds := [], alts := [], laidByText := true, laidKinds := [.sentinel, .sentinel, .sentinel], laidTests := true, laidLooks := .later }
def DeltaFormsCardSaid : Prop := Claim7.holds Tryd.pinned (.plain (OpenSpec.ofChange deltaFormsSpec)) deltaFormsCard

/-- THE TIED CARD OF 'rabbetlaw9.DeltaEven'. -/
def deltaEvenCard : Claim7 := { stood := { row := deltaEvenRow, standIns := [], harness := (true, "1d89707ec482fca84916a0757c38f4caa4ae8e70732e6d1ebdaac58496e487f1"), looks := true }, kinds := [], alts := [], laidByText := true, laidKinds := [.sentinel, .sentinel, .sentinel], laidTests := true, laidLooks := .later }
def DeltaEvenCardSaid : Prop := Claim7.holds Tryd.pinned (.plain (OpenSpec.ofChange deltaEvenSpec)) deltaEvenCard

/-- THE TIED CARD OF 'rabbetlaw5.PlainAll'. -/
def plainAllCard : Claim7 := { stood := { row := plainAllRow, standIns := [], harness := (true, "1d89707ec482fca84916a0757c38f4caa4ae8e70732e6d1ebdaac58496e487f1"), looks := true }, kinds := [], alts := [], laidByText := true, laidKinds := [.sentinel, .sentinel, .sentinel], laidTests := true, laidLooks := .later }
def PlainAllCardSaid : Prop := Claim7.holds Tryd.pinned (.plain (OpenSpec.ofChange plainAllSpec)) plainAllCard

/-- THE TIED CARD OF 'rabbetlaw5.PlainBack'. -/
def plainBackCard : Claim7 := { stood := { row := plainBackRow, standIns := [], harness := (true, "1d89707ec482fca84916a0757c38f4caa4ae8e70732e6d1ebdaac58496e487f1"), looks := true }, kinds := [], alts := [], laidByText := true, laidKinds := [.sentinel, .sentinel, .sentinel], laidTests := true, laidLooks := .later }
def PlainBackCardSaid : Prop := Claim7.holds Tryd.pinned (.plain (OpenSpec.ofChange plainBackSpec)) plainBackCard

/-- THE TIED CARD OF 'rabbetlaw5.PlainTurned'. -/
def plainTurnedCard : Claim7 := { stood := { row := plainTurnedRow, standIns := [], harness := (true, "1d89707ec482fca84916a0757c38f4caa4ae8e70732e6d1ebdaac58496e487f1"), looks := true }, kinds := [], alts := [], laidByText := true, laidKinds := [.sentinel, .sentinel, .sentinel], laidTests := true, laidLooks := .later }
def PlainTurnedCardSaid : Prop := Claim7.holds Tryd.pinned (.plain (OpenSpec.ofChange plainTurnedSpec)) plainTurnedCard

/-- THE TIED CARD OF 'rabbetlaw5.PlainForms'. -/
def plainFormsCard : Claim7 := { stood := { row := plainFormsRow, standIns := [], harness := (true, "1d89707ec482fca84916a0757c38f4caa4ae8e70732e6d1ebdaac58496e487f1"), looks := true }, kinds := [], alts := [], laidByText := true, laidKinds := [.sentinel, .sentinel, .sentinel], laidTests := true, laidLooks := .later }
def PlainFormsCardSaid : Prop := Claim7.holds Tryd.pinned (.plain (OpenSpec.ofChange plainFormsSpec)) plainFormsCard

/-- THE SECOND FORM's CARD OF 'rabbetlaw9.DeltaAll'. -/
def deltaAllUptoCard : Claim7 := { stood := { row := deltaAllUptoRow, standIns := [], harness := (true, "1d89707ec482fca84916a0757c38f4caa4ae8e70732e6d1ebdaac58496e487f1"), looks := true }, kinds := [], alts := [], laidByText := true, laidKinds := [.sentinel, .sentinel, .sentinel], laidTests := true, laidLooks := .later }
def DeltaAllUptoCardSaid : Prop := Claim7.holds Tryd.pinned (.plain (OpenSpec.upto deltaAllSpec)) deltaAllUptoCard

/-- THE SECOND FORM's CARD OF 'rabbetlaw9.DeltaBack'. -/
def deltaBackUptoCard : Claim7 := { stood := { row := deltaBackUptoRow, standIns := [], harness := (true, "1d89707ec482fca84916a0757c38f4caa4ae8e70732e6d1ebdaac58496e487f1"), looks := true }, kinds := [], alts := [], laidByText := true, laidKinds := [.sentinel, .sentinel, .sentinel], laidTests := true, laidLooks := .later }
def DeltaBackUptoCardSaid : Prop := Claim7.holds Tryd.pinned (.plain (OpenSpec.upto deltaBackSpec)) deltaBackUptoCard

/-- THE SECOND FORM's CARD OF 'rabbetlaw9.DeltaTurned'. -/
def deltaTurnedUptoCard : Claim7 := { stood := { row := deltaTurnedUptoRow, standIns := [], harness := (true, "1d89707ec482fca84916a0757c38f4caa4ae8e70732e6d1ebdaac58496e487f1"), looks := true }, kinds := [], alts := [], laidByText := true, laidKinds := [.sentinel, .sentinel, .sentinel], laidTests := true, laidLooks := .later }
def DeltaTurnedUptoCardSaid : Prop := Claim7.holds Tryd.pinned (.plain (OpenSpec.upto deltaTurnedSpec)) deltaTurnedUptoCard

/-- THE SECOND FORM's CARD OF 'rabbetlaw9.DeltaForms'. -/
def deltaFormsUptoCard : Claim7 := { stood := { row := deltaFormsUptoRow, standIns := [], harness := (true, "1d89707ec482fca84916a0757c38f4caa4ae8e70732e6d1ebdaac58496e487f1"), looks := true }, kinds := [], alts := [], laidByText := true, laidKinds := [.sentinel, .sentinel, .sentinel], laidTests := true, laidLooks := .later }
def DeltaFormsUptoCardSaid : Prop := Claim7.holds Tryd.pinned (.plain (OpenSpec.upto deltaFormsSpec)) deltaFormsUptoCard

/-- THE SECOND FORM's CARD OF 'rabbetlaw9.DeltaEven'. -/
def deltaEvenUptoCard : Claim7 := { stood := { row := deltaEvenUptoRow, standIns := [], harness := (true, "1d89707ec482fca84916a0757c38f4caa4ae8e70732e6d1ebdaac58496e487f1"), looks := true }, kinds := [], alts := [], laidByText := true, laidKinds := [.sentinel, .sentinel, .sentinel], laidTests := true, laidLooks := .later }
def DeltaEvenUptoCardSaid : Prop := Claim7.holds Tryd.pinned (.plain (OpenSpec.upto deltaEvenSpec)) deltaEvenUptoCard

/-- THE SECOND FORM's CARD OF 'rabbetlaw5.PlainAll'. -/
def plainAllUptoCard : Claim7 := { stood := { row := plainAllUptoRow, standIns := [], harness := (true, "1d89707ec482fca84916a0757c38f4caa4ae8e70732e6d1ebdaac58496e487f1"), looks := true }, kinds := [], alts := [], laidByText := true, laidKinds := [.sentinel, .sentinel, .sentinel], laidTests := true, laidLooks := .later }
def PlainAllUptoCardSaid : Prop := Claim7.holds Tryd.pinned (.plain (OpenSpec.upto plainAllSpec)) plainAllUptoCard

/-- THE SECOND FORM's CARD OF 'rabbetlaw5.PlainBack'. -/
def plainBackUptoCard : Claim7 := { stood := { row := plainBackUptoRow, standIns := [], harness := (true, "1d89707ec482fca84916a0757c38f4caa4ae8e70732e6d1ebdaac58496e487f1"), looks := true }, kinds := [], alts := [], laidByText := true, laidKinds := [.sentinel, .sentinel, .sentinel], laidTests := true, laidLooks := .later }
def PlainBackUptoCardSaid : Prop := Claim7.holds Tryd.pinned (.plain (OpenSpec.upto plainBackSpec)) plainBackUptoCard

/-- THE SECOND FORM's CARD OF 'rabbetlaw5.PlainTurned'. -/
def plainTurnedUptoCard : Claim7 := { stood := { row := plainTurnedUptoRow, standIns := [], harness := (true, "1d89707ec482fca84916a0757c38f4caa4ae8e70732e6d1ebdaac58496e487f1"), looks := true }, kinds := [], alts := [], laidByText := true, laidKinds := [.sentinel, .sentinel, .sentinel], laidTests := true, laidLooks := .later }
def PlainTurnedUptoCardSaid : Prop := Claim7.holds Tryd.pinned (.plain (OpenSpec.upto plainTurnedSpec)) plainTurnedUptoCard

/-- THE SECOND FORM's CARD OF 'rabbetlaw5.PlainForms'. -/
def plainFormsUptoCard : Claim7 := { stood := { row := plainFormsUptoRow, standIns := [], harness := (true, "1d89707ec482fca84916a0757c38f4caa4ae8e70732e6d1ebdaac58496e487f1"), looks := true }, kinds := [], alts := [], laidByText := true, laidKinds := [.sentinel, .sentinel, .sentinel], laidTests := true, laidLooks := .later }
def PlainFormsUptoCardSaid : Prop := Claim7.holds Tryd.pinned (.plain (OpenSpec.upto plainFormsSpec)) plainFormsUptoCard
end Rows
end Go.Proofs.YtgbammocbjghjaaDoor
