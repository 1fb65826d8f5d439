/-
  DERIVED. GIVEN WITH THE SEED: THE CARDS: each row of YtfiehognkdlgmaaGreatDoorRows.lean that lists a variable, with what it lists TIED to the program's text (the seventh form; the later family's looks); each row that meets fmt, with fmt's text TOLD by the authors' own Lean function (tested against real Go, not proved from fmt's source: count such statements apart). THE CARD IS WHAT COUNTS. Prove the row's statement (the work); the ties are given (YtfiehognkdlgmaaGreatDoorTie.lean); close each card by the builder's one call (the guide's Derived/Test/ToyasCard.lean, 'card_holds'). Laid BY PROGRAM, IN A SANDBOX (cutbox-door.mjs). By AI agents, Wed Nov 11 2026. No macro, syntax, notation, axiom, sorry.
-/
import Derived.Test.YtfiehognkdlgmaaGreatDoorRows
import GoSem.ClaimSeven
namespace Go.Proofs.YtfiehognkdlgmaaGreatDoor
namespace Rows

/-- THE TIED CARD OF 'straitlaw18.ApartPoints'. -/
def apartPointsCard : Claim7 := { stood := { row := apartPointsRow, standIns := [], harness := (true, "6ba94038fece166f92666da56cdedc57d8933eedf0a5da058762279d1990f151"), looks := false }, kinds := [], alts := [], laidByText := true, laidKinds := [.data], laidTests := true, laidLooks := .later }
def ApartPointsCardSaid : Prop := Claim7.holds Tryz.pinned (.plain (OpenSpec.ofChange apartPointsSpec)) apartPointsCard

/-- THE TIED CARD OF 'straitlaw18.ApartTurns'. -/
def apartTurnsCard : Claim7 := { stood := { row := apartTurnsRow, standIns := [], harness := (true, "6ba94038fece166f92666da56cdedc57d8933eedf0a5da058762279d1990f151"), looks := false }, kinds := [], alts := [], laidByText := true, laidKinds := [.data], laidTests := true, laidLooks := .later }
def ApartTurnsCardSaid : Prop := Claim7.holds Tryz.pinned (.plain (OpenSpec.ofChange apartTurnsSpec)) apartTurnsCard

/-- THE TIED CARD OF 'straitlaw18.ApartFree'. -/
def apartFreeCard : Claim7 := { stood := { row := apartFreeRow, standIns := [], harness := (true, "6ba94038fece166f92666da56cdedc57d8933eedf0a5da058762279d1990f151"), looks := false }, kinds := [], alts := [], laidByText := true, laidKinds := [.data], laidTests := true, laidLooks := .later }
def ApartFreeCardSaid : Prop := Claim7.holds Tryz.pinned (.plain (OpenSpec.ofChange apartFreeSpec)) apartFreeCard

/-- THE TIED CARD OF 'straitlaw18.ApartSelf'. -/
def apartSelfCard : Claim7 := { stood := { row := apartSelfRow, standIns := [], harness := (true, "6ba94038fece166f92666da56cdedc57d8933eedf0a5da058762279d1990f151"), looks := false }, kinds := [], alts := [], laidByText := true, laidKinds := [.data], laidTests := true, laidLooks := .later }
def ApartSelfCardSaid : Prop := Claim7.holds Tryz.pinned (.plain (OpenSpec.ofChange apartSelfSpec)) apartSelfCard

/-- THE TIED CARD OF 'straitlaw17.InsideConvex'. -/
def insideConvexCard : Claim7 := { stood := { row := insideConvexRow, standIns := [], harness := (true, "6ba94038fece166f92666da56cdedc57d8933eedf0a5da058762279d1990f151"), looks := false }, kinds := [], alts := [], laidByText := true, laidKinds := [.data], laidTests := true, laidLooks := .later }
def InsideConvexCardSaid : Prop := Claim7.holds Tryz.pinned (.plain (OpenSpec.ofChange insideConvexSpec)) insideConvexCard

/-- THE TIED CARD OF 'straitlaw17.InsideRound'. -/
def insideRoundCard : Claim7 := { stood := { row := insideRoundRow, standIns := [], harness := (true, "6ba94038fece166f92666da56cdedc57d8933eedf0a5da058762279d1990f151"), looks := false }, kinds := [], alts := [], laidByText := true, laidKinds := [.data], laidTests := true, laidLooks := .later }
def InsideRoundCardSaid : Prop := Claim7.holds Tryz.pinned (.plain (OpenSpec.ofChange insideRoundSpec)) insideRoundCard

/-- THE TIED CARD OF 'straitlaw17.InsideFar'. -/
def insideFarCard : Claim7 := { stood := { row := insideFarRow, standIns := [], harness := (true, "6ba94038fece166f92666da56cdedc57d8933eedf0a5da058762279d1990f151"), looks := false }, kinds := [], alts := [], laidByText := true, laidKinds := [.data], laidTests := true, laidLooks := .later }
def InsideFarCardSaid : Prop := Claim7.holds Tryz.pinned (.plain (OpenSpec.ofChange insideFarSpec)) insideFarCard

/-- THE SECOND FORM's CARD OF 'straitlaw18.ApartPoints'. -/
def apartPointsUptoCard : Claim7 := { stood := { row := apartPointsUptoRow, standIns := [], harness := (true, "6ba94038fece166f92666da56cdedc57d8933eedf0a5da058762279d1990f151"), looks := false }, kinds := [], alts := [], laidByText := true, laidKinds := [.data], laidTests := true, laidLooks := .later }
def ApartPointsUptoCardSaid : Prop := Claim7.holds Tryz.pinned (.plain (OpenSpec.upto apartPointsSpec)) apartPointsUptoCard

/-- THE SECOND FORM's CARD OF 'straitlaw18.ApartTurns'. -/
def apartTurnsUptoCard : Claim7 := { stood := { row := apartTurnsUptoRow, standIns := [], harness := (true, "6ba94038fece166f92666da56cdedc57d8933eedf0a5da058762279d1990f151"), looks := false }, kinds := [], alts := [], laidByText := true, laidKinds := [.data], laidTests := true, laidLooks := .later }
def ApartTurnsUptoCardSaid : Prop := Claim7.holds Tryz.pinned (.plain (OpenSpec.upto apartTurnsSpec)) apartTurnsUptoCard

/-- THE SECOND FORM's CARD OF 'straitlaw18.ApartFree'. -/
def apartFreeUptoCard : Claim7 := { stood := { row := apartFreeUptoRow, standIns := [], harness := (true, "6ba94038fece166f92666da56cdedc57d8933eedf0a5da058762279d1990f151"), looks := false }, kinds := [], alts := [], laidByText := true, laidKinds := [.data], laidTests := true, laidLooks := .later }
def ApartFreeUptoCardSaid : Prop := Claim7.holds Tryz.pinned (.plain (OpenSpec.upto apartFreeSpec)) apartFreeUptoCard

/-- THE SECOND FORM's CARD OF 'straitlaw18.ApartSelf'. -/
def apartSelfUptoCard : Claim7 := { stood := { row := apartSelfUptoRow, standIns := [], harness := (true, "6ba94038fece166f92666da56cdedc57d8933eedf0a5da058762279d1990f151"), looks := false }, kinds := [], alts := [], laidByText := true, laidKinds := [.data], laidTests := true, laidLooks := .later }
def ApartSelfUptoCardSaid : Prop := Claim7.holds Tryz.pinned (.plain (OpenSpec.upto apartSelfSpec)) apartSelfUptoCard

/-- THE SECOND FORM's CARD OF 'straitlaw17.InsideConvex'. -/
def insideConvexUptoCard : Claim7 := { stood := { row := insideConvexUptoRow, standIns := [], harness := (true, "6ba94038fece166f92666da56cdedc57d8933eedf0a5da058762279d1990f151"), looks := false }, kinds := [], alts := [], laidByText := true, laidKinds := [.data], laidTests := true, laidLooks := .later }
def InsideConvexUptoCardSaid : Prop := Claim7.holds Tryz.pinned (.plain (OpenSpec.upto insideConvexSpec)) insideConvexUptoCard

/-- THE SECOND FORM's CARD OF 'straitlaw17.InsideRound'. -/
def insideRoundUptoCard : Claim7 := { stood := { row := insideRoundUptoRow, standIns := [], harness := (true, "6ba94038fece166f92666da56cdedc57d8933eedf0a5da058762279d1990f151"), looks := false }, kinds := [], alts := [], laidByText := true, laidKinds := [.data], laidTests := true, laidLooks := .later }
def InsideRoundUptoCardSaid : Prop := Claim7.holds Tryz.pinned (.plain (OpenSpec.upto insideRoundSpec)) insideRoundUptoCard

/-- THE SECOND FORM's CARD OF 'straitlaw17.InsideFar'. -/
def insideFarUptoCard : Claim7 := { stood := { row := insideFarUptoRow, standIns := [], harness := (true, "6ba94038fece166f92666da56cdedc57d8933eedf0a5da058762279d1990f151"), looks := false }, kinds := [], alts := [], laidByText := true, laidKinds := [.data], laidTests := true, laidLooks := .later }
def InsideFarUptoCardSaid : Prop := Claim7.holds Tryz.pinned (.plain (OpenSpec.upto insideFarSpec)) insideFarUptoCard
end Rows
end Go.Proofs.YtfiehognkdlgmaaGreatDoor
