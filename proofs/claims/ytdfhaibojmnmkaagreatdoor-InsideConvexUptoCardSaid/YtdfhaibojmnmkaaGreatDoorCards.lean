/-
  DERIVED. GIVEN WITH THE SEED: THE CARDS: each row of YtdfhaibojmnmkaaGreatDoorRows.lean that lists a variable, with what it lists TIED to the program's text (the seventh form; the later family's looks); each row that meets fmt, with fmt's text TOLD by the authors' own Lean function (tested against real Go, not proved from fmt's source: count such statements apart). THE CARD IS WHAT COUNTS. Prove the row's statement (the work); the ties are given (YtdfhaibojmnmkaaGreatDoorTie.lean); close each card by the builder's one call (the guide's Derived/Test/ToyasCard.lean, 'card_holds'). Laid BY PROGRAM, IN A SANDBOX (cutbox-door.mjs). By AI agents, Wed Nov 11 2026. No macro, syntax, notation, axiom, sorry.
-/
import Derived.Test.YtdfhaibojmnmkaaGreatDoorRows
import GoSem.ClaimSeven
namespace Go.Proofs.YtdfhaibojmnmkaaGreatDoor
namespace Rows

/-- THE TIED CARD OF 'straitlaw18.ApartPoints'. -/
def apartPointsCard : Claim7 := { stood := { row := apartPointsRow, standIns := [], harness := (true, "943912cba1df5ea37f26d26f385704ffae08caa42387205804811b36d499008b"), looks := false }, kinds := [], alts := [], laidByText := true, laidKinds := [.data], laidTests := true, laidLooks := .later }
def ApartPointsCardSaid : Prop := Claim7.holds Tryz.pinned (.plain (OpenSpec.ofChange apartPointsSpec)) apartPointsCard

/-- THE TIED CARD OF 'straitlaw18.ApartFree'. -/
def apartFreeCard : Claim7 := { stood := { row := apartFreeRow, standIns := [], harness := (true, "943912cba1df5ea37f26d26f385704ffae08caa42387205804811b36d499008b"), looks := false }, kinds := [], alts := [], laidByText := true, laidKinds := [.data], laidTests := true, laidLooks := .later }
def ApartFreeCardSaid : Prop := Claim7.holds Tryz.pinned (.plain (OpenSpec.ofChange apartFreeSpec)) apartFreeCard

/-- THE TIED CARD OF 'straitlaw17.InsideConvex'. -/
def insideConvexCard : Claim7 := { stood := { row := insideConvexRow, standIns := [], harness := (true, "943912cba1df5ea37f26d26f385704ffae08caa42387205804811b36d499008b"), looks := false }, kinds := [], alts := [], laidByText := true, laidKinds := [.data], laidTests := true, laidLooks := .later }
def InsideConvexCardSaid : Prop := Claim7.holds Tryz.pinned (.plain (OpenSpec.ofChange insideConvexSpec)) insideConvexCard

/-- THE TIED CARD OF 'straitlaw17.InsideRound'. -/
def insideRoundCard : Claim7 := { stood := { row := insideRoundRow, standIns := [], harness := (true, "943912cba1df5ea37f26d26f385704ffae08caa42387205804811b36d499008b"), looks := false }, kinds := [], alts := [], laidByText := true, laidKinds := [.data], laidTests := true, laidLooks := .later }
def InsideRoundCardSaid : Prop := Claim7.holds Tryz.pinned (.plain (OpenSpec.ofChange insideRoundSpec)) insideRoundCard

/-- THE TIED CARD OF 'straitlaw17.InsideFar'. -/
def insideFarCard : Claim7 := { stood := { row := insideFarRow, standIns := [], harness := (true, "943912cba1df5ea37f26d26f385704ffae08caa42387205804811b36d499008b"), looks := false }, kinds := [], alts := [], laidByText := true, laidKinds := [.data], laidTests := true, laidLooks := .later }
def InsideFarCardSaid : Prop := Claim7.holds Tryz.pinned (.plain (OpenSpec.ofChange insideFarSpec)) insideFarCard

/-- THE TIED CARD OF 'straitlaw21.HullIn'. -/
def hullInCard : Claim7 := { stood := { row := hullInRow, standIns := [], harness := (true, "943912cba1df5ea37f26d26f385704ffae08caa42387205804811b36d499008b"), looks := false }, kinds := [], alts := [], laidByText := true, laidKinds := [.data], laidTests := true, laidLooks := .later }
def HullInCardSaid : Prop := Claim7.holds Tryz.pinned (.plain (OpenSpec.ofChange hullInSpec)) hullInCard

/-- THE TIED CARD OF 'straitlaw21.HullEdges'. -/
def hullEdgesCard : Claim7 := { stood := { row := hullEdgesRow, standIns := [], harness := (true, "943912cba1df5ea37f26d26f385704ffae08caa42387205804811b36d499008b"), looks := false }, kinds := [], alts := [], laidByText := true, laidKinds := [.data], laidTests := true, laidLooks := .later }
def HullEdgesCardSaid : Prop := Claim7.holds Tryz.pinned (.plain (OpenSpec.ofChange hullEdgesSpec)) hullEdgesCard

/-- THE TIED CARD OF 'straitlaw21.HullFrame'. -/
def hullFrameCard : Claim7 := { stood := { row := hullFrameRow, standIns := [], harness := (true, "943912cba1df5ea37f26d26f385704ffae08caa42387205804811b36d499008b"), looks := false }, kinds := [], alts := [], laidByText := true, laidKinds := [.data], laidTests := true, laidLooks := .later }
def HullFrameCardSaid : Prop := Claim7.holds Tryz.pinned (.plain (OpenSpec.ofChange hullFrameSpec)) hullFrameCard

/-- THE SECOND FORM's CARD OF 'straitlaw18.ApartPoints'. -/
def apartPointsUptoCard : Claim7 := { stood := { row := apartPointsUptoRow, standIns := [], harness := (true, "943912cba1df5ea37f26d26f385704ffae08caa42387205804811b36d499008b"), looks := false }, kinds := [], alts := [], laidByText := true, laidKinds := [.data], laidTests := true, laidLooks := .later }
def ApartPointsUptoCardSaid : Prop := Claim7.holds Tryz.pinned (.plain (OpenSpec.upto apartPointsSpec)) apartPointsUptoCard

/-- THE SECOND FORM's CARD OF 'straitlaw18.ApartFree'. -/
def apartFreeUptoCard : Claim7 := { stood := { row := apartFreeUptoRow, standIns := [], harness := (true, "943912cba1df5ea37f26d26f385704ffae08caa42387205804811b36d499008b"), looks := false }, kinds := [], alts := [], laidByText := true, laidKinds := [.data], laidTests := true, laidLooks := .later }
def ApartFreeUptoCardSaid : Prop := Claim7.holds Tryz.pinned (.plain (OpenSpec.upto apartFreeSpec)) apartFreeUptoCard

/-- THE SECOND FORM's CARD OF 'straitlaw17.InsideConvex'. -/
def insideConvexUptoCard : Claim7 := { stood := { row := insideConvexUptoRow, standIns := [], harness := (true, "943912cba1df5ea37f26d26f385704ffae08caa42387205804811b36d499008b"), looks := false }, kinds := [], alts := [], laidByText := true, laidKinds := [.data], laidTests := true, laidLooks := .later }
def InsideConvexUptoCardSaid : Prop := Claim7.holds Tryz.pinned (.plain (OpenSpec.upto insideConvexSpec)) insideConvexUptoCard

/-- THE SECOND FORM's CARD OF 'straitlaw17.InsideRound'. -/
def insideRoundUptoCard : Claim7 := { stood := { row := insideRoundUptoRow, standIns := [], harness := (true, "943912cba1df5ea37f26d26f385704ffae08caa42387205804811b36d499008b"), looks := false }, kinds := [], alts := [], laidByText := true, laidKinds := [.data], laidTests := true, laidLooks := .later }
def InsideRoundUptoCardSaid : Prop := Claim7.holds Tryz.pinned (.plain (OpenSpec.upto insideRoundSpec)) insideRoundUptoCard

/-- THE SECOND FORM's CARD OF 'straitlaw17.InsideFar'. -/
def insideFarUptoCard : Claim7 := { stood := { row := insideFarUptoRow, standIns := [], harness := (true, "943912cba1df5ea37f26d26f385704ffae08caa42387205804811b36d499008b"), looks := false }, kinds := [], alts := [], laidByText := true, laidKinds := [.data], laidTests := true, laidLooks := .later }
def InsideFarUptoCardSaid : Prop := Claim7.holds Tryz.pinned (.plain (OpenSpec.upto insideFarSpec)) insideFarUptoCard

/-- THE SECOND FORM's CARD OF 'straitlaw21.HullIn'. -/
def hullInUptoCard : Claim7 := { stood := { row := hullInUptoRow, standIns := [], harness := (true, "943912cba1df5ea37f26d26f385704ffae08caa42387205804811b36d499008b"), looks := false }, kinds := [], alts := [], laidByText := true, laidKinds := [.data], laidTests := true, laidLooks := .later }
def HullInUptoCardSaid : Prop := Claim7.holds Tryz.pinned (.plain (OpenSpec.upto hullInSpec)) hullInUptoCard

/-- THE SECOND FORM's CARD OF 'straitlaw21.HullEdges'. -/
def hullEdgesUptoCard : Claim7 := { stood := { row := hullEdgesUptoRow, standIns := [], harness := (true, "943912cba1df5ea37f26d26f385704ffae08caa42387205804811b36d499008b"), looks := false }, kinds := [], alts := [], laidByText := true, laidKinds := [.data], laidTests := true, laidLooks := .later }
def HullEdgesUptoCardSaid : Prop := Claim7.holds Tryz.pinned (.plain (OpenSpec.upto hullEdgesSpec)) hullEdgesUptoCard

/-- THE SECOND FORM's CARD OF 'straitlaw21.HullFrame'. -/
def hullFrameUptoCard : Claim7 := { stood := { row := hullFrameUptoRow, standIns := [], harness := (true, "943912cba1df5ea37f26d26f385704ffae08caa42387205804811b36d499008b"), looks := false }, kinds := [], alts := [], laidByText := true, laidKinds := [.data], laidTests := true, laidLooks := .later }
def HullFrameUptoCardSaid : Prop := Claim7.holds Tryz.pinned (.plain (OpenSpec.upto hullFrameSpec)) hullFrameUptoCard
end Rows
end Go.Proofs.YtdfhaibojmnmkaaGreatDoor
