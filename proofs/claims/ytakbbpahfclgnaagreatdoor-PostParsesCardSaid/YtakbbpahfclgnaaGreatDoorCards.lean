/-
  DERIVED. GIVEN WITH THE SEED: THE CARDS: each row of YtakbbpahfclgnaaGreatDoorRows.lean that lists a variable, with what it lists TIED to the program's text (the seventh form; the later family's looks); each row that meets fmt, with fmt's text TOLD by the authors' own Lean function (tested against real Go, not proved from fmt's source: count such statements apart). THE CARD IS WHAT COUNTS. Prove the row's statement (the work); the ties are given (YtakbbpahfclgnaaGreatDoorTie.lean); close each card by the builder's one call (the guide's Derived/Test/ToyasCard.lean, 'card_holds'). Laid BY PROGRAM, IN A SANDBOX (cutbox-door.mjs). By AI agents, Wed Nov 11 2026. No macro, syntax, notation, axiom, sorry.
-/
import Derived.Test.YtakbbpahfclgnaaGreatDoorRows
import GoSem.ClaimSeven
namespace Go.Proofs.YtakbbpahfclgnaaGreatDoor
namespace Rows

/-- THE TIED CARD OF 'pawllaw16.LabParses'. -/
def labParsesCard : Claim7 := { stood := { row := labParsesRow, standIns := [], harness := (true, "1b837f70c8c69c5692803a02391dce862d29d702cfdb9e97faeb7e5190eafee9"), looks := true }, kinds := [], alts := [], laidByText := true, laidKinds := [.data, .data, .data, .data, .handle, .sentinel, .sentinel, .pinned], laidTests := true, laidLooks := .later }
def LabParsesCardSaid : Prop := Claim7.holds Tryz.pinned (.plain (OpenSpec.ofChange labParsesSpec)) labParsesCard

/-- THE TIED CARD OF 'pawllaw28.PostParses'. -/
def postParsesCard : Claim7 := { stood := { row := postParsesRow, standIns := [], harness := (true, "1b837f70c8c69c5692803a02391dce862d29d702cfdb9e97faeb7e5190eafee9"), looks := true }, kinds := [], alts := [], laidByText := true, laidKinds := [.data, .data, .data, .handle, .sentinel, .sentinel, .listed, .data], laidTests := true, laidLooks := .later }
def PostParsesCardSaid : Prop := Claim7.holds Tryz.pinned (.plain (OpenSpec.ofChange postParsesSpec)) postParsesCard

/-- THE SECOND FORM's CARD OF 'pawllaw16.LabParses'. -/
def labParsesUptoCard : Claim7 := { stood := { row := labParsesUptoRow, standIns := [], harness := (true, "1b837f70c8c69c5692803a02391dce862d29d702cfdb9e97faeb7e5190eafee9"), looks := true }, kinds := [], alts := [], laidByText := true, laidKinds := [.data, .data, .data, .data, .handle, .sentinel, .sentinel, .pinned], laidTests := true, laidLooks := .later }
def LabParsesUptoCardSaid : Prop := Claim7.holds Tryz.pinned (.plain (OpenSpec.upto labParsesSpec)) labParsesUptoCard

/-- THE SECOND FORM's CARD OF 'pawllaw28.PostParses'. -/
def postParsesUptoCard : Claim7 := { stood := { row := postParsesUptoRow, standIns := [], harness := (true, "1b837f70c8c69c5692803a02391dce862d29d702cfdb9e97faeb7e5190eafee9"), looks := true }, kinds := [], alts := [], laidByText := true, laidKinds := [.data, .data, .data, .handle, .sentinel, .sentinel, .listed, .data], laidTests := true, laidLooks := .later }
def PostParsesUptoCardSaid : Prop := Claim7.holds Tryz.pinned (.plain (OpenSpec.upto postParsesSpec)) postParsesUptoCard
end Rows
end Go.Proofs.YtakbbpahfclgnaaGreatDoor
