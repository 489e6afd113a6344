/-
  DERIVED. GIVEN WITH THE SEED: THE CARDS: each row of YtokmildjniploaaDoorRows.lean that lists a variable, with what it lists TIED to the program's text (the seventh form; the later family's looks); each row that meets fmt, with fmt's text TOLD by the authors' own Lean function (tested against real Go, not proved from fmt's source: count such statements apart). THE CARD IS WHAT COUNTS. Prove the row's statement (the work); the ties are given (YtokmildjniploaaDoorTie.lean); close each card by the builder's one call (the guide's Derived/Test/ToyasCard.lean, 'card_holds'). Laid BY PROGRAM, IN A SANDBOX (cutbox-door.mjs). By AI agents, Wed Nov 11 2026. No macro, syntax, notation, axiom, sorry.
-/
import Derived.Test.YtokmildjniploaaDoorRows
import GoSem.ClaimSeven
namespace Go.Proofs.YtokmildjniploaaDoor
namespace Rows

/-- THE TIED CARD OF 'rabbetlaw21.LogFull'. -/
def logFullCard : Claim7 := { stood := { row := logFullRow, standIns := [], harness := (true, "8793e91391fb81c36d7cd91cb9fe943d552dee08a18a07185cc2557640e264a9"), looks := true }, kinds := [], alts := [], laidByText := true, laidKinds := [.sentinel, .sentinel], laidTests := true, laidLooks := .later }
def LogFullCardSaid : Prop := Claim7.holds Tryd.pinned (.plain (OpenSpec.ofChange logFullSpec)) logFullCard

/-- THE TIED CARD OF 'rabbetlaw21.LogNone'. -/
def logNoneCard : Claim7 := { stood := { row := logNoneRow, standIns := [], harness := (true, "8793e91391fb81c36d7cd91cb9fe943d552dee08a18a07185cc2557640e264a9"), looks := true }, kinds := [], alts := [], laidByText := true, laidKinds := [.sentinel, .sentinel], laidTests := true, laidLooks := .later }
def LogNoneCardSaid : Prop := Claim7.holds Tryd.pinned (.plain (OpenSpec.ofChange logNoneSpec)) logNoneCard

/-- THE TIED CARD OF 'rabbetlaw21.LogAnew'. -/
def logAnewCard : Claim7 := { stood := { row := logAnewRow, standIns := [], harness := (true, "8793e91391fb81c36d7cd91cb9fe943d552dee08a18a07185cc2557640e264a9"), looks := true }, kinds := [], alts := [], laidByText := true, laidKinds := [.sentinel, .sentinel], laidTests := true, laidLooks := .later }
def LogAnewCardSaid : Prop := Claim7.holds Tryd.pinned (.plain (OpenSpec.ofChange logAnewSpec)) logAnewCard

/-- THE TIED CARD OF 'rabbetlaw21.LogCrashes'. -/
def logCrashesCard : Claim7 := { stood := { row := logCrashesRow, standIns := [], harness := (true, "8793e91391fb81c36d7cd91cb9fe943d552dee08a18a07185cc2557640e264a9"), looks := true }, kinds := [], alts := [], laidByText := true, laidKinds := [.sentinel, .sentinel], laidTests := true, laidLooks := .later }
def LogCrashesCardSaid : Prop := Claim7.holds Tryd.pinned (.plain (OpenSpec.ofChange logCrashesSpec)) logCrashesCard

/-- THE SECOND FORM's CARD OF 'rabbetlaw21.LogFull'. -/
def logFullUptoCard : Claim7 := { stood := { row := logFullUptoRow, standIns := [], harness := (true, "8793e91391fb81c36d7cd91cb9fe943d552dee08a18a07185cc2557640e264a9"), looks := true }, kinds := [], alts := [], laidByText := true, laidKinds := [.sentinel, .sentinel], laidTests := true, laidLooks := .later }
def LogFullUptoCardSaid : Prop := Claim7.holds Tryd.pinned (.plain (OpenSpec.upto logFullSpec)) logFullUptoCard

/-- THE SECOND FORM's CARD OF 'rabbetlaw21.LogNone'. -/
def logNoneUptoCard : Claim7 := { stood := { row := logNoneUptoRow, standIns := [], harness := (true, "8793e91391fb81c36d7cd91cb9fe943d552dee08a18a07185cc2557640e264a9"), looks := true }, kinds := [], alts := [], laidByText := true, laidKinds := [.sentinel, .sentinel], laidTests := true, laidLooks := .later }
def LogNoneUptoCardSaid : Prop := Claim7.holds Tryd.pinned (.plain (OpenSpec.upto logNoneSpec)) logNoneUptoCard

/-- THE SECOND FORM's CARD OF 'rabbetlaw21.LogAnew'. -/
def logAnewUptoCard : Claim7 := { stood := { row := logAnewUptoRow, standIns := [], harness := (true, "8793e91391fb81c36d7cd91cb9fe943d552dee08a18a07185cc2557640e264a9"), looks := true }, kinds := [], alts := [], laidByText := true, laidKinds := [.sentinel, .sentinel], laidTests := true, laidLooks := .later }
def LogAnewUptoCardSaid : Prop := Claim7.holds Tryd.pinned (.plain (OpenSpec.upto logAnewSpec)) logAnewUptoCard

/-- THE SECOND FORM's CARD OF 'rabbetlaw21.LogCrashes'. -/
def logCrashesUptoCard : Claim7 := { stood := { row := logCrashesUptoRow, standIns := [], harness := (true, "8793e91391fb81c36d7cd91cb9fe943d552dee08a18a07185cc2557640e264a9"), looks := true }, kinds := [], alts := [], laidByText := true, laidKinds := [.sentinel, .sentinel], laidTests := true, laidLooks := .later }
def LogCrashesUptoCardSaid : Prop := Claim7.holds Tryd.pinned (.plain (OpenSpec.upto logCrashesSpec)) logCrashesUptoCard
end Rows
end Go.Proofs.YtokmildjniploaaDoor
