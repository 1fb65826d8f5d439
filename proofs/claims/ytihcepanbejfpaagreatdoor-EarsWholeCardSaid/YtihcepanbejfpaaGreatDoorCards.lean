/-
  DERIVED. GIVEN WITH THE SEED: THE CARDS: each row of YtihcepanbejfpaaGreatDoorRows.lean that lists a variable, with what it lists TIED to the program's text (the seventh form; the later family's looks); each row that meets fmt, with fmt's text TOLD by the authors' own Lean function (tested against real Go, not proved from fmt's source: count such statements apart). THE CARD IS WHAT COUNTS. Prove the row's statement (the work); the ties are given (YtihcepanbejfpaaGreatDoorTie.lean); close each card by the builder's one call (the guide's Derived/Test/ToyasCard.lean, 'card_holds'). Laid BY PROGRAM, IN A SANDBOX (cutbox-door.mjs). By AI agents, Wed Nov 11 2026. No macro, syntax, notation, axiom, sorry.
-/
import Derived.Test.YtihcepanbejfpaaGreatDoorRows
import GoSem.ClaimSeven
namespace Go.Proofs.YtihcepanbejfpaaGreatDoor
namespace Rows

/-- THE TIED CARD OF 'straitlaw16.EarsWhole'. -/
def earsWholeCard : Claim7 := { stood := { row := earsWholeRow, standIns := [], harness := (true, "ec134638518cfab661ba9526ecc3a2bb8bfbe4d7ebc227995b82c09b3486041d"), looks := false }, kinds := [], alts := [], laidByText := true, laidKinds := [.data], laidTests := true, laidLooks := .later }
def EarsWholeCardSaid : Prop := Claim7.holds Tryz.pinned (.plain (OpenSpec.ofChange earsWholeSpec)) earsWholeCard

/-- THE TIED CARD OF 'straitlaw16.EarsSame'. -/
def earsSameCard : Claim7 := { stood := { row := earsSameRow, standIns := [], harness := (true, "ec134638518cfab661ba9526ecc3a2bb8bfbe4d7ebc227995b82c09b3486041d"), looks := false }, kinds := [], alts := [], laidByText := true, laidKinds := [.data], laidTests := true, laidLooks := .later }
def EarsSameCardSaid : Prop := Claim7.holds Tryz.pinned (.plain (OpenSpec.ofChange earsSameSpec)) earsSameCard

/-- THE TIED CARD OF 'straitlaw16.EarsArea'. -/
def earsAreaCard : Claim7 := { stood := { row := earsAreaRow, standIns := [], harness := (true, "ec134638518cfab661ba9526ecc3a2bb8bfbe4d7ebc227995b82c09b3486041d"), looks := false }, kinds := [], alts := [], laidByText := true, laidKinds := [.data], laidTests := true, laidLooks := .later }
def EarsAreaCardSaid : Prop := Claim7.holds Tryz.pinned (.plain (OpenSpec.ofChange earsAreaSpec)) earsAreaCard

/-- THE SECOND FORM's CARD OF 'straitlaw16.EarsWhole'. -/
def earsWholeUptoCard : Claim7 := { stood := { row := earsWholeUptoRow, standIns := [], harness := (true, "ec134638518cfab661ba9526ecc3a2bb8bfbe4d7ebc227995b82c09b3486041d"), looks := false }, kinds := [], alts := [], laidByText := true, laidKinds := [.data], laidTests := true, laidLooks := .later }
def EarsWholeUptoCardSaid : Prop := Claim7.holds Tryz.pinned (.plain (OpenSpec.upto earsWholeSpec)) earsWholeUptoCard

/-- THE SECOND FORM's CARD OF 'straitlaw16.EarsSame'. -/
def earsSameUptoCard : Claim7 := { stood := { row := earsSameUptoRow, standIns := [], harness := (true, "ec134638518cfab661ba9526ecc3a2bb8bfbe4d7ebc227995b82c09b3486041d"), looks := false }, kinds := [], alts := [], laidByText := true, laidKinds := [.data], laidTests := true, laidLooks := .later }
def EarsSameUptoCardSaid : Prop := Claim7.holds Tryz.pinned (.plain (OpenSpec.upto earsSameSpec)) earsSameUptoCard

/-- THE SECOND FORM's CARD OF 'straitlaw16.EarsArea'. -/
def earsAreaUptoCard : Claim7 := { stood := { row := earsAreaUptoRow, standIns := [], harness := (true, "ec134638518cfab661ba9526ecc3a2bb8bfbe4d7ebc227995b82c09b3486041d"), looks := false }, kinds := [], alts := [], laidByText := true, laidKinds := [.data], laidTests := true, laidLooks := .later }
def EarsAreaUptoCardSaid : Prop := Claim7.holds Tryz.pinned (.plain (OpenSpec.upto earsAreaSpec)) earsAreaUptoCard
end Rows
end Go.Proofs.YtihcepanbejfpaaGreatDoor
