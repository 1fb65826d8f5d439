/-
  DERIVED. GIVEN WITH THE SEED: THE CARDS: each row of YtencnknhnckpaaaGreatDoorRows.lean that lists a variable, with what it lists TIED to the program's text (the seventh form; the later family's looks); each row that meets fmt, with fmt's text TOLD by the authors' own Lean function (tested against real Go, not proved from fmt's source: count such statements apart). THE CARD IS WHAT COUNTS. Prove the row's statement (the work); the ties are given (YtencnknhnckpaaaGreatDoorTie.lean); close each card by the builder's one call (the guide's Derived/Test/ToyasCard.lean, 'card_holds'). Laid BY PROGRAM, IN A SANDBOX (cutbox-door.mjs). By AI agents, Wed Nov 11 2026. No macro, syntax, notation, axiom, sorry.
-/
import Derived.Test.YtencnknhnckpaaaGreatDoorRows
import GoSem.ClaimSeven
namespace Go.Proofs.YtencnknhnckpaaaGreatDoor
namespace Rows

/-- THE TIED CARD OF 'straitlaw28.RoadsLeast'. -/
def roadsLeastCard : Claim7 := { stood := { row := roadsLeastRow, standIns := [], harness := (true, "5d6bde53b89888d652b58826cbb9850d412a707c809a6c7966d0486493d77db1"), looks := true }, kinds := [], alts := [], laidByText := true, laidKinds := [.data], laidTests := true, laidLooks := .later }
def RoadsLeastCardSaid : Prop := Claim7.holds Tryz.pinned (.plain (OpenSpec.ofChange roadsLeastSpec)) roadsLeastCard

/-- THE TIED CARD OF 'straitlaw28.RoadsBack'. -/
def roadsBackCard : Claim7 := { stood := { row := roadsBackRow, standIns := [], harness := (true, "5d6bde53b89888d652b58826cbb9850d412a707c809a6c7966d0486493d77db1"), looks := true }, kinds := [], alts := [], laidByText := true, laidKinds := [.data], laidTests := true, laidLooks := .later }
def RoadsBackCardSaid : Prop := Claim7.holds Tryz.pinned (.plain (OpenSpec.ofChange roadsBackSpec)) roadsBackCard

/-- THE TIED CARD OF 'straitlaw28.RoadsMore'. -/
def roadsMoreCard : Claim7 := { stood := { row := roadsMoreRow, standIns := [], harness := (true, "5d6bde53b89888d652b58826cbb9850d412a707c809a6c7966d0486493d77db1"), looks := true }, kinds := [], alts := [], laidByText := true, laidKinds := [.data], laidTests := true, laidLooks := .later }
def RoadsMoreCardSaid : Prop := Claim7.holds Tryz.pinned (.plain (OpenSpec.ofChange roadsMoreSpec)) roadsMoreCard

/-- THE TIED CARD OF 'straitlaw28.RoadsTells'. -/
def roadsTellsCard : Claim7 := { stood := { row := roadsTellsRow, standIns := [], harness := (true, "5d6bde53b89888d652b58826cbb9850d412a707c809a6c7966d0486493d77db1"), looks := true }, kinds := [], alts := [], laidByText := true, laidKinds := [.data], laidTests := true, laidLooks := .later }
def RoadsTellsCardSaid : Prop := Claim7.holds Tryz.pinned (.plain (OpenSpec.ofChange roadsTellsSpec)) roadsTellsCard

/-- THE SECOND FORM's CARD OF 'straitlaw28.RoadsLeast'. -/
def roadsLeastUptoCard : Claim7 := { stood := { row := roadsLeastUptoRow, standIns := [], harness := (true, "5d6bde53b89888d652b58826cbb9850d412a707c809a6c7966d0486493d77db1"), looks := true }, kinds := [], alts := [], laidByText := true, laidKinds := [.data], laidTests := true, laidLooks := .later }
def RoadsLeastUptoCardSaid : Prop := Claim7.holds Tryz.pinned (.plain (OpenSpec.upto roadsLeastSpec)) roadsLeastUptoCard

/-- THE SECOND FORM's CARD OF 'straitlaw28.RoadsBack'. -/
def roadsBackUptoCard : Claim7 := { stood := { row := roadsBackUptoRow, standIns := [], harness := (true, "5d6bde53b89888d652b58826cbb9850d412a707c809a6c7966d0486493d77db1"), looks := true }, kinds := [], alts := [], laidByText := true, laidKinds := [.data], laidTests := true, laidLooks := .later }
def RoadsBackUptoCardSaid : Prop := Claim7.holds Tryz.pinned (.plain (OpenSpec.upto roadsBackSpec)) roadsBackUptoCard

/-- THE SECOND FORM's CARD OF 'straitlaw28.RoadsMore'. -/
def roadsMoreUptoCard : Claim7 := { stood := { row := roadsMoreUptoRow, standIns := [], harness := (true, "5d6bde53b89888d652b58826cbb9850d412a707c809a6c7966d0486493d77db1"), looks := true }, kinds := [], alts := [], laidByText := true, laidKinds := [.data], laidTests := true, laidLooks := .later }
def RoadsMoreUptoCardSaid : Prop := Claim7.holds Tryz.pinned (.plain (OpenSpec.upto roadsMoreSpec)) roadsMoreUptoCard

/-- THE SECOND FORM's CARD OF 'straitlaw28.RoadsTells'. -/
def roadsTellsUptoCard : Claim7 := { stood := { row := roadsTellsUptoRow, standIns := [], harness := (true, "5d6bde53b89888d652b58826cbb9850d412a707c809a6c7966d0486493d77db1"), looks := true }, kinds := [], alts := [], laidByText := true, laidKinds := [.data], laidTests := true, laidLooks := .later }
def RoadsTellsUptoCardSaid : Prop := Claim7.holds Tryz.pinned (.plain (OpenSpec.upto roadsTellsSpec)) roadsTellsUptoCard
end Rows
end Go.Proofs.YtencnknhnckpaaaGreatDoor
