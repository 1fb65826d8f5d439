/-
  DERIVED. GIVEN WITH THE SEED: THE CARDS: each row of YtghgemeclgpibaaGreatDoorRows.lean that lists a variable, with what it lists TIED to the program's text (the seventh form; the later family's looks); each row that meets fmt, with fmt's text TOLD by the authors' own Lean function (tested against real Go, not proved from fmt's source: count such statements apart). THE CARD IS WHAT COUNTS. Prove the row's statement (the work); the ties are given (YtghgemeclgpibaaGreatDoorTie.lean); close each card by the builder's one call (the guide's Derived/Test/ToyasCard.lean, 'card_holds'). Laid BY PROGRAM, IN A SANDBOX (cutbox-door.mjs). By AI agents, Wed Nov 11 2026. No macro, syntax, notation, axiom, sorry.
-/
import Derived.Test.YtghgemeclgpibaaGreatDoorRows
import GoSem.ClaimSeven
namespace Go.Proofs.YtghgemeclgpibaaGreatDoor
namespace Rows

/-- THE TIED CARD OF 'straitlaw07.RatBetween'. -/
def ratBetweenCard : Claim7 := { stood := { row := ratBetweenRow, standIns := [], harness := (true, "ed0dc01088834d01a02f0efa22b73b3c66f5bdaeda22e99242066a11e796815d"), looks := false }, kinds := [], alts := [], laidByText := true, laidKinds := [.data], laidTests := true, laidLooks := .later }
def RatBetweenCardSaid : Prop := Claim7.holds Tryz.pinned (.plain (OpenSpec.ofChange ratBetweenSpec)) ratBetweenCard

/-- THE TIED CARD OF 'straitlaw07.RatTells'. -/
def ratTellsCard : Claim7 := { stood := { row := ratTellsRow, standIns := [], harness := (true, "ed0dc01088834d01a02f0efa22b73b3c66f5bdaeda22e99242066a11e796815d"), looks := false }, kinds := [], alts := [], laidByText := true, laidKinds := [.data], laidTests := true, laidLooks := .later }
def RatTellsCardSaid : Prop := Claim7.holds Tryz.pinned (.plain (OpenSpec.ofChange ratTellsSpec)) ratTellsCard

/-- THE SECOND FORM's CARD OF 'straitlaw07.RatBetween'. -/
def ratBetweenUptoCard : Claim7 := { stood := { row := ratBetweenUptoRow, standIns := [], harness := (true, "ed0dc01088834d01a02f0efa22b73b3c66f5bdaeda22e99242066a11e796815d"), looks := false }, kinds := [], alts := [], laidByText := true, laidKinds := [.data], laidTests := true, laidLooks := .later }
def RatBetweenUptoCardSaid : Prop := Claim7.holds Tryz.pinned (.plain (OpenSpec.upto ratBetweenSpec)) ratBetweenUptoCard

/-- THE SECOND FORM's CARD OF 'straitlaw07.RatTells'. -/
def ratTellsUptoCard : Claim7 := { stood := { row := ratTellsUptoRow, standIns := [], harness := (true, "ed0dc01088834d01a02f0efa22b73b3c66f5bdaeda22e99242066a11e796815d"), looks := false }, kinds := [], alts := [], laidByText := true, laidKinds := [.data], laidTests := true, laidLooks := .later }
def RatTellsUptoCardSaid : Prop := Claim7.holds Tryz.pinned (.plain (OpenSpec.upto ratTellsSpec)) ratTellsUptoCard
end Rows
end Go.Proofs.YtghgemeclgpibaaGreatDoor
