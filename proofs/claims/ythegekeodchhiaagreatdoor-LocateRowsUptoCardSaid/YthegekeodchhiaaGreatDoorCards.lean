/-
  DERIVED. GIVEN WITH THE SEED: THE CARDS: each row of YthegekeodchhiaaGreatDoorRows.lean that lists a variable, with what it lists TIED to the program's text (the seventh form; the later family's looks); each row that meets fmt, with fmt's text TOLD by the authors' own Lean function (tested against real Go, not proved from fmt's source: count such statements apart). THE CARD IS WHAT COUNTS. Prove the row's statement (the work); the ties are given (YthegekeodchhiaaGreatDoorTie.lean); close each card by the builder's one call (the guide's Derived/Test/ToyasCard.lean, 'card_holds'). Laid BY PROGRAM, IN A SANDBOX (cutbox-door.mjs). By AI agents, Wed Nov 11 2026. No macro, syntax, notation, axiom, sorry.
-/
import Derived.Test.YthegekeodchhiaaGreatDoorRows
import GoSem.ClaimSeven
namespace Go.Proofs.YthegekeodchhiaaGreatDoor
namespace Rows

/-- THE TIED CARD OF 'straitlaw27.LocateRows'. -/
def locateRowsCard : Claim7 := { stood := { row := locateRowsRow, standIns := [], harness := (true, "1722217171fcd68986a5bc417a17cb7d0bd53a035df117cee0fc21117770e01b"), looks := false }, kinds := [], alts := [], laidByText := true, laidKinds := [.data], laidTests := true, laidLooks := .later }
def LocateRowsCardSaid : Prop := Claim7.holds Tryz.pinned (.plain (OpenSpec.ofChange locateRowsSpec)) locateRowsCard

/-- THE SECOND FORM's CARD OF 'straitlaw27.LocateRows'. -/
def locateRowsUptoCard : Claim7 := { stood := { row := locateRowsUptoRow, standIns := [], harness := (true, "1722217171fcd68986a5bc417a17cb7d0bd53a035df117cee0fc21117770e01b"), looks := false }, kinds := [], alts := [], laidByText := true, laidKinds := [.data], laidTests := true, laidLooks := .later }
def LocateRowsUptoCardSaid : Prop := Claim7.holds Tryz.pinned (.plain (OpenSpec.upto locateRowsSpec)) locateRowsUptoCard
end Rows
end Go.Proofs.YthegekeodchhiaaGreatDoor
