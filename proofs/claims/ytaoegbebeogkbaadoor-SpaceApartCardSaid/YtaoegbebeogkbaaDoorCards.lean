/-
  DERIVED. GIVEN WITH THE SEED: THE CARDS: each row of YtaoegbebeogkbaaDoorRows.lean that lists a variable, with what it lists TIED to the program's text (the seventh form; the later family's looks); each row that meets fmt, with fmt's text TOLD by the authors' own Lean function (tested against real Go, not proved from fmt's source: count such statements apart). THE CARD IS WHAT COUNTS. Prove the row's statement (the work); the ties are given (YtaoegbebeogkbaaDoorTie.lean); close each card by the builder's one call (the guide's Derived/Test/ToyasCard.lean, 'card_holds'). Laid BY PROGRAM, IN A SANDBOX (cutbox-door.mjs). By AI agents, Wed Nov 11 2026. No macro, syntax, notation, axiom, sorry.
-/
import Derived.Test.YtaoegbebeogkbaaDoorRows
import GoSem.ClaimSeven
namespace Go.Proofs.YtaoegbebeogkbaaDoor
namespace Rows

/-- THE TIED CARD OF 'rabbetlaw20.TagAll'. -/
def tagAllCard : Claim7 := { stood := { row := tagAllRow, standIns := [], harness := (true, "29bbe03d11dc6a7ca7dbb5c5b365bcb89e06aa4e4b2f8cd187a6a9139fa32008"), looks := true }, kinds := [], alts := [], laidByText := true, laidKinds := [.sentinel], laidTests := true, laidLooks := .later }
def TagAllCardSaid : Prop := Claim7.holds Tryd.pinned (.plain (OpenSpec.ofChange tagAllSpec)) tagAllCard

/-- THE TIED CARD OF 'rabbetlaw20.TagTorn'. -/
def tagTornCard : Claim7 := { stood := { row := tagTornRow, standIns := [], harness := (true, "29bbe03d11dc6a7ca7dbb5c5b365bcb89e06aa4e4b2f8cd187a6a9139fa32008"), looks := true }, kinds := [], alts := [], laidByText := true, laidKinds := [.sentinel], laidTests := true, laidLooks := .later }
def TagTornCardSaid : Prop := Claim7.holds Tryd.pinned (.plain (OpenSpec.ofChange tagTornSpec)) tagTornCard

/-- THE TIED CARD OF 'rabbetlaw20.TagBack'. -/
def tagBackCard : Claim7 := { stood := { row := tagBackRow, standIns := [], harness := (true, "29bbe03d11dc6a7ca7dbb5c5b365bcb89e06aa4e4b2f8cd187a6a9139fa32008"), looks := true }, kinds := [], alts := [], laidByText := true, laidKinds := [.sentinel], laidTests := true, laidLooks := .later }
def TagBackCardSaid : Prop := Claim7.holds Tryd.pinned (.plain (OpenSpec.ofChange tagBackSpec)) tagBackCard

/-- THE TIED CARD OF 'rabbetlaw20.TagForms'. -/
def tagFormsCard : Claim7 := { stood := { row := tagFormsRow, standIns := [], harness := (true, "29bbe03d11dc6a7ca7dbb5c5b365bcb89e06aa4e4b2f8cd187a6a9139fa32008"), looks := true }, kinds := [], alts := [], laidByText := true, laidKinds := [.sentinel], laidTests := true, laidLooks := .later }
def TagFormsCardSaid : Prop := Claim7.holds Tryd.pinned (.plain (OpenSpec.ofChange tagFormsSpec)) tagFormsCard

/-- THE TIED CARD OF 'rabbetlaw19.SpaceAll'. -/
def spaceAllCard : Claim7 := { stood := { row := spaceAllRow, standIns := [], harness := (true, "29bbe03d11dc6a7ca7dbb5c5b365bcb89e06aa4e4b2f8cd187a6a9139fa32008"), looks := true }, kinds := [], alts := [], laidByText := true, laidKinds := [.sentinel, .sentinel], laidTests := true, laidLooks := .later }
def SpaceAllCardSaid : Prop := Claim7.holds Tryd.pinned (.plain (OpenSpec.ofChange spaceAllSpec)) spaceAllCard

/-- THE TIED CARD OF 'rabbetlaw19.SpaceApart'. -/
def spaceApartCard : Claim7 := { stood := { row := spaceApartRow, standIns := [], harness := (true, "29bbe03d11dc6a7ca7dbb5c5b365bcb89e06aa4e4b2f8cd187a6a9139fa32008"), looks := true }, kinds := [], alts := [], laidByText := true, laidKinds := [.sentinel, .sentinel], laidTests := true, laidLooks := .later }
def SpaceApartCardSaid : Prop := Claim7.holds Tryd.pinned (.plain (OpenSpec.ofChange spaceApartSpec)) spaceApartCard

/-- THE TIED CARD OF 'rabbetlaw19.SpaceFirst'. -/
def spaceFirstCard : Claim7 := { stood := { row := spaceFirstRow, standIns := [], harness := (true, "29bbe03d11dc6a7ca7dbb5c5b365bcb89e06aa4e4b2f8cd187a6a9139fa32008"), looks := true }, kinds := [], alts := [], laidByText := true, laidKinds := [.sentinel, .sentinel], laidTests := true, laidLooks := .later }
def SpaceFirstCardSaid : Prop := Claim7.holds Tryd.pinned (.plain (OpenSpec.ofChange spaceFirstSpec)) spaceFirstCard

/-- THE SECOND FORM's CARD OF 'rabbetlaw20.TagAll'. -/
def tagAllUptoCard : Claim7 := { stood := { row := tagAllUptoRow, standIns := [], harness := (true, "29bbe03d11dc6a7ca7dbb5c5b365bcb89e06aa4e4b2f8cd187a6a9139fa32008"), looks := true }, kinds := [], alts := [], laidByText := true, laidKinds := [.sentinel], laidTests := true, laidLooks := .later }
def TagAllUptoCardSaid : Prop := Claim7.holds Tryd.pinned (.plain (OpenSpec.upto tagAllSpec)) tagAllUptoCard

/-- THE SECOND FORM's CARD OF 'rabbetlaw20.TagTorn'. -/
def tagTornUptoCard : Claim7 := { stood := { row := tagTornUptoRow, standIns := [], harness := (true, "29bbe03d11dc6a7ca7dbb5c5b365bcb89e06aa4e4b2f8cd187a6a9139fa32008"), looks := true }, kinds := [], alts := [], laidByText := true, laidKinds := [.sentinel], laidTests := true, laidLooks := .later }
def TagTornUptoCardSaid : Prop := Claim7.holds Tryd.pinned (.plain (OpenSpec.upto tagTornSpec)) tagTornUptoCard

/-- THE SECOND FORM's CARD OF 'rabbetlaw20.TagBack'. -/
def tagBackUptoCard : Claim7 := { stood := { row := tagBackUptoRow, standIns := [], harness := (true, "29bbe03d11dc6a7ca7dbb5c5b365bcb89e06aa4e4b2f8cd187a6a9139fa32008"), looks := true }, kinds := [], alts := [], laidByText := true, laidKinds := [.sentinel], laidTests := true, laidLooks := .later }
def TagBackUptoCardSaid : Prop := Claim7.holds Tryd.pinned (.plain (OpenSpec.upto tagBackSpec)) tagBackUptoCard

/-- THE SECOND FORM's CARD OF 'rabbetlaw20.TagForms'. -/
def tagFormsUptoCard : Claim7 := { stood := { row := tagFormsUptoRow, standIns := [], harness := (true, "29bbe03d11dc6a7ca7dbb5c5b365bcb89e06aa4e4b2f8cd187a6a9139fa32008"), looks := true }, kinds := [], alts := [], laidByText := true, laidKinds := [.sentinel], laidTests := true, laidLooks := .later }
def TagFormsUptoCardSaid : Prop := Claim7.holds Tryd.pinned (.plain (OpenSpec.upto tagFormsSpec)) tagFormsUptoCard

/-- THE SECOND FORM's CARD OF 'rabbetlaw19.SpaceAll'. -/
def spaceAllUptoCard : Claim7 := { stood := { row := spaceAllUptoRow, standIns := [], harness := (true, "29bbe03d11dc6a7ca7dbb5c5b365bcb89e06aa4e4b2f8cd187a6a9139fa32008"), looks := true }, kinds := [], alts := [], laidByText := true, laidKinds := [.sentinel, .sentinel], laidTests := true, laidLooks := .later }
def SpaceAllUptoCardSaid : Prop := Claim7.holds Tryd.pinned (.plain (OpenSpec.upto spaceAllSpec)) spaceAllUptoCard

/-- THE SECOND FORM's CARD OF 'rabbetlaw19.SpaceApart'. -/
def spaceApartUptoCard : Claim7 := { stood := { row := spaceApartUptoRow, standIns := [], harness := (true, "29bbe03d11dc6a7ca7dbb5c5b365bcb89e06aa4e4b2f8cd187a6a9139fa32008"), looks := true }, kinds := [], alts := [], laidByText := true, laidKinds := [.sentinel, .sentinel], laidTests := true, laidLooks := .later }
def SpaceApartUptoCardSaid : Prop := Claim7.holds Tryd.pinned (.plain (OpenSpec.upto spaceApartSpec)) spaceApartUptoCard

/-- THE SECOND FORM's CARD OF 'rabbetlaw19.SpaceFirst'. -/
def spaceFirstUptoCard : Claim7 := { stood := { row := spaceFirstUptoRow, standIns := [], harness := (true, "29bbe03d11dc6a7ca7dbb5c5b365bcb89e06aa4e4b2f8cd187a6a9139fa32008"), looks := true }, kinds := [], alts := [], laidByText := true, laidKinds := [.sentinel, .sentinel], laidTests := true, laidLooks := .later }
def SpaceFirstUptoCardSaid : Prop := Claim7.holds Tryd.pinned (.plain (OpenSpec.upto spaceFirstSpec)) spaceFirstUptoCard
end Rows
end Go.Proofs.YtaoegbebeogkbaaDoor
