/-
  DERIVED. GIVEN WITH THE SEED: THE CARDS: each row of YtigldipjkejalaaDoorRows.lean that lists a variable, with what it lists TIED to the program's text (the seventh form; the later family's looks); each row that meets fmt, with fmt's text TOLD by the authors' own Lean function (tested against real Go, not proved from fmt's source: count such statements apart). THE CARD IS WHAT COUNTS. Prove the row's statement (the work); the ties are given (YtigldipjkejalaaDoorTie.lean); close each card by the builder's one call (the guide's Derived/Test/ToyasCard.lean, 'card_holds'). Laid BY PROGRAM, IN A SANDBOX (cutbox-door.mjs). By AI agents, Wed Nov 11 2026. No macro, syntax, notation, axiom, sorry.
-/
import Derived.Test.YtigldipjkejalaaDoorRows
import GoSem.ClaimSeven
namespace Go.Proofs.YtigldipjkejalaaDoor
namespace Rows

/-- THE TIED CARD OF 'rabbetlaw8.PackAll'. -/
def packAllCard : Claim7 := { stood := { row := packAllRow, standIns := [], harness := (true, "46257fa51a405771af7d578b4e00b9714ae15292c905cfd0b9c4df6de6c94b8e"), looks := true }, kinds := [], alts := [], laidByText := true, laidKinds := [.sentinel, .sentinel, .sentinel], laidTests := true, laidLooks := .later }
def PackAllCardSaid : Prop := Claim7.holds Tryd.pinned (.plain (OpenSpec.ofChange packAllSpec)) packAllCard

/-- THE TIED CARD OF 'rabbetlaw8.PackBack'. -/
def packBackCard : Claim7 := { stood := { row := packBackRow, standIns := [], harness := (true, "46257fa51a405771af7d578b4e00b9714ae15292c905cfd0b9c4df6de6c94b8e"), looks := true }, kinds := [], alts := [], laidByText := true, laidKinds := [.sentinel, .sentinel, .sentinel], laidTests := true, laidLooks := .later }
def PackBackCardSaid : Prop := Claim7.holds Tryd.pinned (.plain (OpenSpec.ofChange packBackSpec)) packBackCard

/-- THE TIED CARD OF 'rabbetlaw8.PackTurned'. -/
def packTurnedCard : Claim7 := { stood := { row := packTurnedRow, standIns := [], harness := (true, "46257fa51a405771af7d578b4e00b9714ae15292c905cfd0b9c4df6de6c94b8e"), looks := true }, kinds := [], alts := [], laidByText := true, laidKinds := [.sentinel, .sentinel, .sentinel], laidTests := true, laidLooks := .later }
def PackTurnedCardSaid : Prop := Claim7.holds Tryd.pinned (.plain (OpenSpec.ofChange packTurnedSpec)) packTurnedCard

/-- THE TIED CARD OF 'rabbetlaw8.PackForms'. -/
def packFormsCard : Claim7 := { stood := { row := packFormsRow, standIns := [], harness := (true, "46257fa51a405771af7d578b4e00b9714ae15292c905cfd0b9c4df6de6c94b8e"), looks := true }, kinds := [], alts := [], laidByText := true, laidKinds := [.sentinel, .sentinel, .sentinel], laidTests := true, laidLooks := .later }
def PackFormsCardSaid : Prop := Claim7.holds Tryd.pinned (.plain (OpenSpec.ofChange packFormsSpec)) packFormsCard

/-- THE TIED CARD OF 'rabbetlaw8.PackMoved'. -/
def packMovedCard : Claim7 := { stood := { row := packMovedRow, standIns := [], harness := (true, "46257fa51a405771af7d578b4e00b9714ae15292c905cfd0b9c4df6de6c94b8e"), looks := true }, kinds := [], alts := [], laidByText := true, laidKinds := [.sentinel, .sentinel, .sentinel], laidTests := true, laidLooks := .later }
def PackMovedCardSaid : Prop := Claim7.holds Tryd.pinned (.plain (OpenSpec.ofChange packMovedSpec)) packMovedCard

/-- THE TIED CARD OF 'rabbetlaw6.RleAll'. -/
def rleAllCard : Claim7 := { stood := { row := rleAllRow, standIns := [], harness := (true, "46257fa51a405771af7d578b4e00b9714ae15292c905cfd0b9c4df6de6c94b8e"), looks := true }, kinds := [], alts := [], laidByText := true, laidKinds := [.sentinel, .sentinel, .sentinel], laidTests := true, laidLooks := .later }
def RleAllCardSaid : Prop := Claim7.holds Tryd.pinned (.plain (OpenSpec.ofChange rleAllSpec)) rleAllCard

/-- THE TIED CARD OF 'rabbetlaw6.RleBack'. -/
def rleBackCard : Claim7 := { stood := { row := rleBackRow, standIns := [], harness := (true, "46257fa51a405771af7d578b4e00b9714ae15292c905cfd0b9c4df6de6c94b8e"), looks := true }, kinds := [], alts := [], laidByText := true, laidKinds := [.sentinel, .sentinel, .sentinel], laidTests := true, laidLooks := .later }
def RleBackCardSaid : Prop := Claim7.holds Tryd.pinned (.plain (OpenSpec.ofChange rleBackSpec)) rleBackCard

/-- THE TIED CARD OF 'rabbetlaw6.RleTurned'. -/
def rleTurnedCard : Claim7 := { stood := { row := rleTurnedRow, standIns := [], harness := (true, "46257fa51a405771af7d578b4e00b9714ae15292c905cfd0b9c4df6de6c94b8e"), looks := true }, kinds := [], alts := [], laidByText := true, laidKinds := [.sentinel, .sentinel, .sentinel], laidTests := true, laidLooks := .later }
def RleTurnedCardSaid : Prop := Claim7.holds Tryd.pinned (.plain (OpenSpec.ofChange rleTurnedSpec)) rleTurnedCard

/-- THE TIED CARD OF 'rabbetlaw6.RleForms'. -/
def rleFormsCard : Claim7 := { stood := { row := rleFormsRow, standIns := [], harness := (true, "46257fa51a405771af7d578b4e00b9714ae15292c905cfd0b9c4df6de6c94b8e"), looks := true }, kinds := [], alts := [], laidByText := true, laidKinds := [.sentinel, .sentinel, .sentinel], laidTests := true, laidLooks := .later }
def RleFormsCardSaid : Prop := Claim7.holds Tryd.pinned (.plain (OpenSpec.ofChange rleFormsSpec)) rleFormsCard

/-- THE TIED CARD OF 'rabbetlaw6.RleRuns'. -/
def rleRunsCard : Claim7 := { stood := { row := rleRunsRow, standIns := [], harness := (true, "46257fa51a405771af7d578b4e00b9714ae15292c905cfd0b9c4df6de6c94b8e"), looks := true }, kinds := [], alts := [], laidByText := true, laidKinds := [.sentinel, .sentinel, .sentinel], laidTests := true, laidLooks := .later }
def RleRunsCardSaid : Prop := Claim7.holds Tryd.pinned (.plain (OpenSpec.ofChange rleRunsSpec)) rleRunsCard

/-- THE SECOND FORM's CARD OF 'rabbetlaw8.PackAll'. -/
def packAllUptoCard : Claim7 := { stood := { row := packAllUptoRow, standIns := [], harness := (true, "46257fa51a405771af7d578b4e00b9714ae15292c905cfd0b9c4df6de6c94b8e"), looks := true }, kinds := [], alts := [], laidByText := true, laidKinds := [.sentinel, .sentinel, .sentinel], laidTests := true, laidLooks := .later }
def PackAllUptoCardSaid : Prop := Claim7.holds Tryd.pinned (.plain (OpenSpec.upto packAllSpec)) packAllUptoCard

/-- THE SECOND FORM's CARD OF 'rabbetlaw8.PackBack'. -/
def packBackUptoCard : Claim7 := { stood := { row := packBackUptoRow, standIns := [], harness := (true, "46257fa51a405771af7d578b4e00b9714ae15292c905cfd0b9c4df6de6c94b8e"), looks := true }, kinds := [], alts := [], laidByText := true, laidKinds := [.sentinel, .sentinel, .sentinel], laidTests := true, laidLooks := .later }
def PackBackUptoCardSaid : Prop := Claim7.holds Tryd.pinned (.plain (OpenSpec.upto packBackSpec)) packBackUptoCard

/-- THE SECOND FORM's CARD OF 'rabbetlaw8.PackTurned'. -/
def packTurnedUptoCard : Claim7 := { stood := { row := packTurnedUptoRow, standIns := [], harness := (true, "46257fa51a405771af7d578b4e00b9714ae15292c905cfd0b9c4df6de6c94b8e"), looks := true }, kinds := [], alts := [], laidByText := true, laidKinds := [.sentinel, .sentinel, .sentinel], laidTests := true, laidLooks := .later }
def PackTurnedUptoCardSaid : Prop := Claim7.holds Tryd.pinned (.plain (OpenSpec.upto packTurnedSpec)) packTurnedUptoCard

/-- THE SECOND FORM's CARD OF 'rabbetlaw8.PackForms'. -/
def packFormsUptoCard : Claim7 := { stood := { row := packFormsUptoRow, standIns := [], harness := (true, "46257fa51a405771af7d578b4e00b9714ae15292c905cfd0b9c4df6de6c94b8e"), looks := true }, kinds := [], alts := [], laidByText := true, laidKinds := [.sentinel, .sentinel, .sentinel], laidTests := true, laidLooks := .later }
def PackFormsUptoCardSaid : Prop := Claim7.holds Tryd.pinned (.plain (OpenSpec.upto packFormsSpec)) packFormsUptoCard

/-- THE SECOND FORM's CARD OF 'rabbetlaw8.PackMoved'. -/
def packMovedUptoCard : Claim7 := { stood := { row := packMovedUptoRow, standIns := [], harness := (true, "46257fa51a405771af7d578b4e00b9714ae15292c905cfd0b9c4df6de6c94b8e"), looks := true }, kinds := [], alts := [], laidByText := true, laidKinds := [.sentinel, .sentinel, .sentinel], laidTests := true, laidLooks := .later }
def PackMovedUptoCardSaid : Prop := Claim7.holds Tryd.pinned (.plain (OpenSpec.upto packMovedSpec)) packMovedUptoCard

/-- THE SECOND FORM's CARD OF 'rabbetlaw6.RleAll'. -/
def rleAllUptoCard : Claim7 := { stood := { row := rleAllUptoRow, standIns := [], harness := (true, "46257fa51a405771af7d578b4e00b9714ae15292c905cfd0b9c4df6de6c94b8e"), looks := true }, kinds := [], alts := [], laidByText := true, laidKinds := [.sentinel, .sentinel, .sentinel], laidTests := true, laidLooks := .later }
def RleAllUptoCardSaid : Prop := Claim7.holds Tryd.pinned (.plain (OpenSpec.upto rleAllSpec)) rleAllUptoCard

/-- THE SECOND FORM's CARD OF 'rabbetlaw6.RleBack'. -/
def rleBackUptoCard : Claim7 := { stood := { row := rleBackUptoRow, standIns := [], harness := (true, "46257fa51a405771af7d578b4e00b9714ae15292c905cfd0b9c4df6de6c94b8e"), looks := true }, kinds := [], alts := [], laidByText := true, laidKinds := [.sentinel, .sentinel, .sentinel], laidTests := true, laidLooks := .later }
def RleBackUptoCardSaid : Prop := Claim7.holds Tryd.pinned (.plain (OpenSpec.upto rleBackSpec)) rleBackUptoCard

/-- THE SECOND FORM's CARD OF 'rabbetlaw6.RleTurned'. -/
def rleTurnedUptoCard : Claim7 := { stood := { row := rleTurnedUptoRow, standIns := [], harness := (true, "46257fa51a405771af7d578b4e00b9714ae15292c905cfd0b9c4df6de6c94b8e"), looks := true }, kinds := [], alts := [], laidByText := true, laidKinds := [.sentinel, .sentinel, .sentinel], laidTests := true, laidLooks := .later }
def RleTurnedUptoCardSaid : Prop := Claim7.holds Tryd.pinned (.plain (OpenSpec.upto rleTurnedSpec)) rleTurnedUptoCard

/-- THE SECOND FORM's CARD OF 'rabbetlaw6.RleForms'. -/
def rleFormsUptoCard : Claim7 := { stood := { row := rleFormsUptoRow, standIns := [], harness := (true, "46257fa51a405771af7d578b4e00b9714ae15292c905cfd0b9c4df6de6c94b8e"), looks := true }, kinds := [], alts := [], laidByText := true, laidKinds := [.sentinel, .sentinel, .sentinel], laidTests := true, laidLooks := .later }
def RleFormsUptoCardSaid : Prop := Claim7.holds Tryd.pinned (.plain (OpenSpec.upto rleFormsSpec)) rleFormsUptoCard

/-- THE SECOND FORM's CARD OF 'rabbetlaw6.RleRuns'. -/
def rleRunsUptoCard : Claim7 := { stood := { row := rleRunsUptoRow, standIns := [], harness := (true, "46257fa51a405771af7d578b4e00b9714ae15292c905cfd0b9c4df6de6c94b8e"), looks := true }, kinds := [], alts := [], laidByText := true, laidKinds := [.sentinel, .sentinel, .sentinel], laidTests := true, laidLooks := .later }
def RleRunsUptoCardSaid : Prop := Claim7.holds Tryd.pinned (.plain (OpenSpec.upto rleRunsSpec)) rleRunsUptoCard
end Rows
end Go.Proofs.YtigldipjkejalaaDoor
