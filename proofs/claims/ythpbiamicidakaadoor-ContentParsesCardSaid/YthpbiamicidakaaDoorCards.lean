/-
  DERIVED. GIVEN WITH THE SEED: THE CARDS: each row of YthpbiamicidakaaDoorRows.lean that lists a variable, with what it lists TIED to the program's text (the seventh form; the later family's looks); each row that meets fmt, with fmt's text TOLD by the authors' own Lean function (tested against real Go, not proved from fmt's source: count such statements apart). THE CARD IS WHAT COUNTS. Prove the row's statement (the work); the ties are given (YthpbiamicidakaaDoorTie.lean); close each card by the builder's one call (the guide's Derived/Test/ToyasCard.lean, 'card_holds'). Laid BY PROGRAM, IN A SANDBOX (cutbox-door.mjs). By AI agents, Wed Nov 11 2026. No macro, syntax, notation, axiom, sorry.
-/
import Derived.Test.YthpbiamicidakaaDoorRows
import GoSem.ClaimSeven
namespace Go.Proofs.YthpbiamicidakaaDoor
namespace Rows

/-- THE TIED CARD OF 'pawllaw09.ContentChecks'. -/
def contentChecksCard : Claim7 := { stood := { row := contentChecksRow, standIns := [], harness := (true, "eaff5602f16009a75e294530c1c39c3436e583f10ae91c592370ce35e5a34927"), looks := true }, kinds := [], alts := [], laidByText := true, laidKinds := [.data, .pinned], laidTests := true, laidLooks := .later }
def ContentChecksCardSaid : Prop := Claim7.holds Tryd.pinned (.plain (OpenSpec.ofChange contentChecksSpec)) contentChecksCard

/-- THE TIED CARD OF 'pawllaw09.ContentPrints'. -/
def contentPrintsCard : Claim7 := { stood := { row := contentPrintsRow, standIns := [], harness := (true, "eaff5602f16009a75e294530c1c39c3436e583f10ae91c592370ce35e5a34927"), looks := true }, kinds := [], alts := [], laidByText := true, laidKinds := [.data, .data, .data, .data, .pinned], laidTests := true, laidLooks := .later }
def ContentPrintsCardSaid : Prop := Claim7.holds Tryd.pinned (.plain (OpenSpec.ofChange contentPrintsSpec)) contentPrintsCard

/-- THE TIED CARD OF 'pawllaw09.ContentParses'. -/
def contentParsesCard : Claim7 := { stood := { row := contentParsesRow, standIns := [], harness := (true, "eaff5602f16009a75e294530c1c39c3436e583f10ae91c592370ce35e5a34927"), looks := true }, kinds := [], alts := [], laidByText := true, laidKinds := [.data, .data, .data, .sentinel, .sentinel], laidTests := true, laidLooks := .later }
def ContentParsesCardSaid : Prop := Claim7.holds Tryd.pinned (.plain (OpenSpec.ofChange contentParsesSpec)) contentParsesCard

/-- THE SECOND FORM's CARD OF 'pawllaw09.ContentChecks'. -/
def contentChecksUptoCard : Claim7 := { stood := { row := contentChecksUptoRow, standIns := [], harness := (true, "eaff5602f16009a75e294530c1c39c3436e583f10ae91c592370ce35e5a34927"), looks := true }, kinds := [], alts := [], laidByText := true, laidKinds := [.data, .pinned], laidTests := true, laidLooks := .later }
def ContentChecksUptoCardSaid : Prop := Claim7.holds Tryd.pinned (.plain (OpenSpec.upto contentChecksSpec)) contentChecksUptoCard

/-- THE SECOND FORM's CARD OF 'pawllaw09.ContentPrints'. -/
def contentPrintsUptoCard : Claim7 := { stood := { row := contentPrintsUptoRow, standIns := [], harness := (true, "eaff5602f16009a75e294530c1c39c3436e583f10ae91c592370ce35e5a34927"), looks := true }, kinds := [], alts := [], laidByText := true, laidKinds := [.data, .data, .data, .data, .pinned], laidTests := true, laidLooks := .later }
def ContentPrintsUptoCardSaid : Prop := Claim7.holds Tryd.pinned (.plain (OpenSpec.upto contentPrintsSpec)) contentPrintsUptoCard

/-- THE SECOND FORM's CARD OF 'pawllaw09.ContentParses'. -/
def contentParsesUptoCard : Claim7 := { stood := { row := contentParsesUptoRow, standIns := [], harness := (true, "eaff5602f16009a75e294530c1c39c3436e583f10ae91c592370ce35e5a34927"), looks := true }, kinds := [], alts := [], laidByText := true, laidKinds := [.data, .data, .data, .sentinel, .sentinel], laidTests := true, laidLooks := .later }
def ContentParsesUptoCardSaid : Prop := Claim7.holds Tryd.pinned (.plain (OpenSpec.upto contentParsesSpec)) contentParsesUptoCard
end Rows
end Go.Proofs.YthpbiamicidakaaDoor
