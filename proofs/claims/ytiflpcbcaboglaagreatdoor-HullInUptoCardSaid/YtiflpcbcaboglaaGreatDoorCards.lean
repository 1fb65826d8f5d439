/-
  DERIVED. GIVEN WITH THE SEED: THE CARDS: each row of YtiflpcbcaboglaaGreatDoorRows.lean that lists a variable, with what it lists TIED to the program's text (the seventh form; the later family's looks); each row that meets fmt, with fmt's text TOLD by the authors' own Lean function (tested against real Go, not proved from fmt's source: count such statements apart). THE CARD IS WHAT COUNTS. Prove the row's statement (the work); the ties are given (YtiflpcbcaboglaaGreatDoorTie.lean); close each card by the builder's one call (the guide's Derived/Test/ToyasCard.lean, 'card_holds'). Laid BY PROGRAM, IN A SANDBOX (cutbox-door.mjs). By AI agents, Wed Nov 11 2026. No macro, syntax, notation, axiom, sorry.
-/
import Derived.Test.YtiflpcbcaboglaaGreatDoorRows
import GoSem.ClaimSeven
namespace Go.Proofs.YtiflpcbcaboglaaGreatDoor
namespace Rows

/-- THE TIED CARD OF 'straitlaw21.HullIn'. -/
def hullInCard : Claim7 := { stood := { row := hullInRow, standIns := [], harness := (true, "4532e5c103016ef8160a40c04c880c3fab4e4e5c09eeba2cc8c546e71cf1ba82"), looks := false }, kinds := [], alts := [], laidByText := true, laidKinds := [.data], laidTests := true, laidLooks := .later }
def HullInCardSaid : Prop := Claim7.holds Tryz.pinned (.plain (OpenSpec.ofChange hullInSpec)) hullInCard

/-- THE TIED CARD OF 'straitlaw21.HullFrame'. -/
def hullFrameCard : Claim7 := { stood := { row := hullFrameRow, standIns := [], harness := (true, "4532e5c103016ef8160a40c04c880c3fab4e4e5c09eeba2cc8c546e71cf1ba82"), looks := false }, kinds := [], alts := [], laidByText := true, laidKinds := [.data], laidTests := true, laidLooks := .later }
def HullFrameCardSaid : Prop := Claim7.holds Tryz.pinned (.plain (OpenSpec.ofChange hullFrameSpec)) hullFrameCard

/-- THE SECOND FORM's CARD OF 'straitlaw21.HullIn'. -/
def hullInUptoCard : Claim7 := { stood := { row := hullInUptoRow, standIns := [], harness := (true, "4532e5c103016ef8160a40c04c880c3fab4e4e5c09eeba2cc8c546e71cf1ba82"), looks := false }, kinds := [], alts := [], laidByText := true, laidKinds := [.data], laidTests := true, laidLooks := .later }
def HullInUptoCardSaid : Prop := Claim7.holds Tryz.pinned (.plain (OpenSpec.upto hullInSpec)) hullInUptoCard

/-- THE SECOND FORM's CARD OF 'straitlaw21.HullFrame'. -/
def hullFrameUptoCard : Claim7 := { stood := { row := hullFrameUptoRow, standIns := [], harness := (true, "4532e5c103016ef8160a40c04c880c3fab4e4e5c09eeba2cc8c546e71cf1ba82"), looks := false }, kinds := [], alts := [], laidByText := true, laidKinds := [.data], laidTests := true, laidLooks := .later }
def HullFrameUptoCardSaid : Prop := Claim7.holds Tryz.pinned (.plain (OpenSpec.upto hullFrameSpec)) hullFrameUptoCard
end Rows
end Go.Proofs.YtiflpcbcaboglaaGreatDoor
