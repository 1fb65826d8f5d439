/-
  DERIVED. GIVEN WITH THE SEED: THE CARDS: each row of YthjkmdblifmkoaaGreatDoorRows.lean that lists a variable, with what it lists TIED to the program's text (the seventh form; the later family's looks); each row that meets fmt, with fmt's text TOLD by the authors' own Lean function (tested against real Go, not proved from fmt's source: count such statements apart). THE CARD IS WHAT COUNTS. Prove the row's statement (the work); the ties are given (YthjkmdblifmkoaaGreatDoorTie.lean); close each card by the builder's one call (the guide's Derived/Test/ToyasCard.lean, 'card_holds'). Laid BY PROGRAM, IN A SANDBOX (cutbox-door.mjs). By AI agents, Wed Nov 11 2026. No macro, syntax, notation, axiom, sorry.
-/
import Derived.Test.YthjkmdblifmkoaaGreatDoorRows
import GoSem.ClaimSeven
namespace Go.Proofs.YthjkmdblifmkoaaGreatDoor
namespace Rows

/-- THE TIED CARD OF 'straitlaw19.ChainPoints'. -/
def chainPointsCard : Claim7 := { stood := { row := chainPointsRow, standIns := [], harness := (true, "93edddffc158879d02e4ffe9fbc24594e0ef1bb241bc2cb2a5691d66e9e9571f"), looks := false }, kinds := [], alts := [], laidByText := true, laidKinds := [.data], laidTests := true, laidLooks := .later }
def ChainPointsCardSaid : Prop := Claim7.holds Tryz.pinned (.plain (OpenSpec.ofChange chainPointsSpec)) chainPointsCard

/-- THE TIED CARD OF 'straitlaw19.ChainParts'. -/
def chainPartsCard : Claim7 := { stood := { row := chainPartsRow, standIns := [], harness := (true, "93edddffc158879d02e4ffe9fbc24594e0ef1bb241bc2cb2a5691d66e9e9571f"), looks := false }, kinds := [], alts := [], laidByText := true, laidKinds := [.data], laidTests := true, laidLooks := .later }
def ChainPartsCardSaid : Prop := Claim7.holds Tryz.pinned (.plain (OpenSpec.ofChange chainPartsSpec)) chainPartsCard

/-- THE TIED CARD OF 'straitlaw19.ChainMoved'. -/
def chainMovedCard : Claim7 := { stood := { row := chainMovedRow, standIns := [], harness := (true, "93edddffc158879d02e4ffe9fbc24594e0ef1bb241bc2cb2a5691d66e9e9571f"), looks := false }, kinds := [], alts := [], laidByText := true, laidKinds := [.data], laidTests := true, laidLooks := .later }
def ChainMovedCardSaid : Prop := Claim7.holds Tryz.pinned (.plain (OpenSpec.ofChange chainMovedSpec)) chainMovedCard

/-- THE SECOND FORM's CARD OF 'straitlaw19.ChainPoints'. -/
def chainPointsUptoCard : Claim7 := { stood := { row := chainPointsUptoRow, standIns := [], harness := (true, "93edddffc158879d02e4ffe9fbc24594e0ef1bb241bc2cb2a5691d66e9e9571f"), looks := false }, kinds := [], alts := [], laidByText := true, laidKinds := [.data], laidTests := true, laidLooks := .later }
def ChainPointsUptoCardSaid : Prop := Claim7.holds Tryz.pinned (.plain (OpenSpec.upto chainPointsSpec)) chainPointsUptoCard

/-- THE SECOND FORM's CARD OF 'straitlaw19.ChainParts'. -/
def chainPartsUptoCard : Claim7 := { stood := { row := chainPartsUptoRow, standIns := [], harness := (true, "93edddffc158879d02e4ffe9fbc24594e0ef1bb241bc2cb2a5691d66e9e9571f"), looks := false }, kinds := [], alts := [], laidByText := true, laidKinds := [.data], laidTests := true, laidLooks := .later }
def ChainPartsUptoCardSaid : Prop := Claim7.holds Tryz.pinned (.plain (OpenSpec.upto chainPartsSpec)) chainPartsUptoCard

/-- THE SECOND FORM's CARD OF 'straitlaw19.ChainMoved'. -/
def chainMovedUptoCard : Claim7 := { stood := { row := chainMovedUptoRow, standIns := [], harness := (true, "93edddffc158879d02e4ffe9fbc24594e0ef1bb241bc2cb2a5691d66e9e9571f"), looks := false }, kinds := [], alts := [], laidByText := true, laidKinds := [.data], laidTests := true, laidLooks := .later }
def ChainMovedUptoCardSaid : Prop := Claim7.holds Tryz.pinned (.plain (OpenSpec.upto chainMovedSpec)) chainMovedUptoCard
end Rows
end Go.Proofs.YthjkmdblifmkoaaGreatDoor
