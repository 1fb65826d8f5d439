/-
  DERIVED. GIVEN WITH THE SEED: THE CARDS: each row of YtghgemeclgpibaaDoorRows.lean that lists a variable, with what it lists TIED to the program's text (the seventh form; the later family's looks); each row that meets fmt, with fmt's text TOLD by the authors' own Lean function (tested against real Go, not proved from fmt's source: count such statements apart). THE CARD IS WHAT COUNTS. Prove the row's statement (the work); the ties are given (YtghgemeclgpibaaDoorTie.lean); close each card by the builder's one call (the guide's Derived/Test/ToyasCard.lean, 'card_holds'). Laid BY PROGRAM, IN A SANDBOX (cutbox-door.mjs). By AI agents, Wed Nov 11 2026. No macro, syntax, notation, axiom, sorry.
-/
import Derived.Test.YtghgemeclgpibaaDoorRows
import GoSem.ClaimSeven
namespace Go.Proofs.YtghgemeclgpibaaDoor
namespace Rows

/-- THE TIED CARD OF 'straitlaw04.GcdReduces'. -/
def gcdReducesCard : Claim7 := { stood := { row := gcdReducesRow, standIns := [], harness := (true, "9ca361eaf0a9e5a03db569872b2d2d3a4766faf22975fac9e7c42bf3144d7ad6"), looks := false }, kinds := [], alts := [], laidByText := true, laidKinds := [.data], laidTests := true, laidLooks := .later }
def GcdReducesCardSaid : Prop := Claim7.holds Tryd.pinned (.plain (OpenSpec.ofChange gcdReducesSpec)) gcdReducesCard

/-- THE TIED CARD OF 'straitlaw04.GcdOwn'. -/
def gcdOwnCard : Claim7 := { stood := { row := gcdOwnRow, standIns := [], harness := (true, "9ca361eaf0a9e5a03db569872b2d2d3a4766faf22975fac9e7c42bf3144d7ad6"), looks := false }, kinds := [], alts := [], laidByText := true, laidKinds := [.data], laidTests := true, laidLooks := .later }
def GcdOwnCardSaid : Prop := Claim7.holds Tryd.pinned (.plain (OpenSpec.ofChange gcdOwnSpec)) gcdOwnCard

/-- THE TIED CARD OF 'straitlaw04.GcdRest'. -/
def gcdRestCard : Claim7 := { stood := { row := gcdRestRow, standIns := [], harness := (true, "9ca361eaf0a9e5a03db569872b2d2d3a4766faf22975fac9e7c42bf3144d7ad6"), looks := false }, kinds := [], alts := [], laidByText := true, laidKinds := [.data], laidTests := true, laidLooks := .later }
def GcdRestCardSaid : Prop := Claim7.holds Tryd.pinned (.plain (OpenSpec.ofChange gcdRestSpec)) gcdRestCard

/-- THE TIED CARD OF 'straitlaw04.GcdTells'. -/
def gcdTellsCard : Claim7 := { stood := { row := gcdTellsRow, standIns := [], harness := (true, "9ca361eaf0a9e5a03db569872b2d2d3a4766faf22975fac9e7c42bf3144d7ad6"), looks := false }, kinds := [], alts := [], laidByText := true, laidKinds := [.data], laidTests := true, laidLooks := .later }
def GcdTellsCardSaid : Prop := Claim7.holds Tryd.pinned (.plain (OpenSpec.ofChange gcdTellsSpec)) gcdTellsCard

/-- THE TIED CARD OF 'straitlaw04.GcdDivides'. -/
def gcdDividesCard : Claim7 := { stood := { row := gcdDividesRow, standIns := [], harness := (true, "9ca361eaf0a9e5a03db569872b2d2d3a4766faf22975fac9e7c42bf3144d7ad6"), looks := false }, kinds := [], alts := [], laidByText := true, laidKinds := [.data], laidTests := true, laidLooks := .later }
def GcdDividesCardSaid : Prop := Claim7.holds Tryd.pinned (.plain (OpenSpec.ofChange gcdDividesSpec)) gcdDividesCard

/-- THE TIED CARD OF 'straitlaw07.RatNorm'. -/
def ratNormCard : Claim7 := { stood := { row := ratNormRow, standIns := [], harness := (true, "9ca361eaf0a9e5a03db569872b2d2d3a4766faf22975fac9e7c42bf3144d7ad6"), looks := false }, kinds := [], alts := [], laidByText := true, laidKinds := [.data], laidTests := true, laidLooks := .later }
def RatNormCardSaid : Prop := Claim7.holds Tryd.pinned (.plain (OpenSpec.ofChange ratNormSpec)) ratNormCard

/-- THE TIED CARD OF 'straitlaw07.RatOrder'. -/
def ratOrderCard : Claim7 := { stood := { row := ratOrderRow, standIns := [], harness := (true, "9ca361eaf0a9e5a03db569872b2d2d3a4766faf22975fac9e7c42bf3144d7ad6"), looks := false }, kinds := [], alts := [], laidByText := true, laidKinds := [.data], laidTests := true, laidLooks := .later }
def RatOrderCardSaid : Prop := Claim7.holds Tryd.pinned (.plain (OpenSpec.ofChange ratOrderSpec)) ratOrderCard

/-- THE TIED CARD OF 'straitlaw07.RatLaws'. -/
def ratLawsCard : Claim7 := { stood := { row := ratLawsRow, standIns := [], harness := (true, "9ca361eaf0a9e5a03db569872b2d2d3a4766faf22975fac9e7c42bf3144d7ad6"), looks := false }, kinds := [], alts := [], laidByText := true, laidKinds := [.data], laidTests := true, laidLooks := .later }
def RatLawsCardSaid : Prop := Claim7.holds Tryd.pinned (.plain (OpenSpec.ofChange ratLawsSpec)) ratLawsCard

/-- THE SECOND FORM's CARD OF 'straitlaw04.GcdReduces'. -/
def gcdReducesUptoCard : Claim7 := { stood := { row := gcdReducesUptoRow, standIns := [], harness := (true, "9ca361eaf0a9e5a03db569872b2d2d3a4766faf22975fac9e7c42bf3144d7ad6"), looks := false }, kinds := [], alts := [], laidByText := true, laidKinds := [.data], laidTests := true, laidLooks := .later }
def GcdReducesUptoCardSaid : Prop := Claim7.holds Tryd.pinned (.plain (OpenSpec.upto gcdReducesSpec)) gcdReducesUptoCard

/-- THE SECOND FORM's CARD OF 'straitlaw04.GcdOwn'. -/
def gcdOwnUptoCard : Claim7 := { stood := { row := gcdOwnUptoRow, standIns := [], harness := (true, "9ca361eaf0a9e5a03db569872b2d2d3a4766faf22975fac9e7c42bf3144d7ad6"), looks := false }, kinds := [], alts := [], laidByText := true, laidKinds := [.data], laidTests := true, laidLooks := .later }
def GcdOwnUptoCardSaid : Prop := Claim7.holds Tryd.pinned (.plain (OpenSpec.upto gcdOwnSpec)) gcdOwnUptoCard

/-- THE SECOND FORM's CARD OF 'straitlaw04.GcdRest'. -/
def gcdRestUptoCard : Claim7 := { stood := { row := gcdRestUptoRow, standIns := [], harness := (true, "9ca361eaf0a9e5a03db569872b2d2d3a4766faf22975fac9e7c42bf3144d7ad6"), looks := false }, kinds := [], alts := [], laidByText := true, laidKinds := [.data], laidTests := true, laidLooks := .later }
def GcdRestUptoCardSaid : Prop := Claim7.holds Tryd.pinned (.plain (OpenSpec.upto gcdRestSpec)) gcdRestUptoCard

/-- THE SECOND FORM's CARD OF 'straitlaw04.GcdTells'. -/
def gcdTellsUptoCard : Claim7 := { stood := { row := gcdTellsUptoRow, standIns := [], harness := (true, "9ca361eaf0a9e5a03db569872b2d2d3a4766faf22975fac9e7c42bf3144d7ad6"), looks := false }, kinds := [], alts := [], laidByText := true, laidKinds := [.data], laidTests := true, laidLooks := .later }
def GcdTellsUptoCardSaid : Prop := Claim7.holds Tryd.pinned (.plain (OpenSpec.upto gcdTellsSpec)) gcdTellsUptoCard

/-- THE SECOND FORM's CARD OF 'straitlaw04.GcdDivides'. -/
def gcdDividesUptoCard : Claim7 := { stood := { row := gcdDividesUptoRow, standIns := [], harness := (true, "9ca361eaf0a9e5a03db569872b2d2d3a4766faf22975fac9e7c42bf3144d7ad6"), looks := false }, kinds := [], alts := [], laidByText := true, laidKinds := [.data], laidTests := true, laidLooks := .later }
def GcdDividesUptoCardSaid : Prop := Claim7.holds Tryd.pinned (.plain (OpenSpec.upto gcdDividesSpec)) gcdDividesUptoCard

/-- THE SECOND FORM's CARD OF 'straitlaw07.RatNorm'. -/
def ratNormUptoCard : Claim7 := { stood := { row := ratNormUptoRow, standIns := [], harness := (true, "9ca361eaf0a9e5a03db569872b2d2d3a4766faf22975fac9e7c42bf3144d7ad6"), looks := false }, kinds := [], alts := [], laidByText := true, laidKinds := [.data], laidTests := true, laidLooks := .later }
def RatNormUptoCardSaid : Prop := Claim7.holds Tryd.pinned (.plain (OpenSpec.upto ratNormSpec)) ratNormUptoCard

/-- THE SECOND FORM's CARD OF 'straitlaw07.RatOrder'. -/
def ratOrderUptoCard : Claim7 := { stood := { row := ratOrderUptoRow, standIns := [], harness := (true, "9ca361eaf0a9e5a03db569872b2d2d3a4766faf22975fac9e7c42bf3144d7ad6"), looks := false }, kinds := [], alts := [], laidByText := true, laidKinds := [.data], laidTests := true, laidLooks := .later }
def RatOrderUptoCardSaid : Prop := Claim7.holds Tryd.pinned (.plain (OpenSpec.upto ratOrderSpec)) ratOrderUptoCard

/-- THE SECOND FORM's CARD OF 'straitlaw07.RatLaws'. -/
def ratLawsUptoCard : Claim7 := { stood := { row := ratLawsUptoRow, standIns := [], harness := (true, "9ca361eaf0a9e5a03db569872b2d2d3a4766faf22975fac9e7c42bf3144d7ad6"), looks := false }, kinds := [], alts := [], laidByText := true, laidKinds := [.data], laidTests := true, laidLooks := .later }
def RatLawsUptoCardSaid : Prop := Claim7.holds Tryd.pinned (.plain (OpenSpec.upto ratLawsSpec)) ratLawsUptoCard
end Rows
end Go.Proofs.YtghgemeclgpibaaDoor
