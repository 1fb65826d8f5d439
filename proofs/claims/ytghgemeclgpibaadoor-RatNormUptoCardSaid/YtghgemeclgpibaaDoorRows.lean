/-
  NARROWER THAN 'FOR EVERY INPUT', by the rows' own cells (each row's printed sentence says how): GcdReduces: laid · GcdOwn: laid · GcdRest: laid · GcdTells: laid · GcdDivides: laid · RatNorm: laid · RatOrder: laid · RatLaws: laid.
  DERIVED. THE GIVEN ROWS OF THIS SEAT. 8 by the template 'for every input the law returns true; each argument reads behind the call as it read before'; 0 by the template 'total and deterministic' (their statements: YtghgemeclgpibaaDoorTotals.lean).
  GIVEN WITH THE SEED: the statements are not yours to turn. If you find one false, say at which input.
  Laid BY PROGRAM, IN A SANDBOX (cutbox-rows.mjs): the forced cells as the released guide's own fill.sh prints them over the translation a6454938c947c2cb… (all of the seat's roots in one cut). By AI agents, Wed Nov 11 2026. No macro, syntax, notation, axiom, sorry.
-/
import Derived.Test.YtghgemeclgpibaaDoorChecked
import GoSem.Claim
import GoSem.ClaimJoined
import GoSem.ClaimMapViews
import Derived.JoinedTies
import Derived.KernelRfl
namespace Go.Proofs.YtghgemeclgpibaaDoor
/- THE CELL 'sum', in the pinned program and in every row, IS THE sha256 OF THE DUMP (.gsa) THAT YtghgemeclgpibaaDoorProg.lean LOADS. Nothing in Lean hashes anything: it is a label: what it is worth is what the hold of that sum in a sandbox is worth. -/
noncomputable def Tryd.pinned : Pinned := { name := "ytghgemeclgpibaadoor", sum := "a6454938c947c2cb95c0852dffdcb33eebb8f54407151beb2c67227bba1ba2ff", checked := Tryd.checked }
namespace Rows
def none {H : Type} : Left H := { results := [], args := [] }

/- WHAT THE LISTED PACKAGE-LEVEL VARIABLES READ AS WHEN THE CALL BEGINS. Each datum BY PROGRAM (the guide's laid-datum.mjs) off the statement by which the dump's own 'gosem.cut.vars' lays the variable. In a bare row this is a premise. The card (YtghgemeclgpibaaDoorCards.lean) ties it to the program's text. -/
def laid_math_bits_deBruijn64tab {H : Type} : DataW H := .agg [.lit (.int .u8 0), .lit (.int .u8 1), .lit (.int .u8 56), .lit (.int .u8 2), .lit (.int .u8 57), .lit (.int .u8 49), .lit (.int .u8 28), .lit (.int .u8 3), .lit (.int .u8 61), .lit (.int .u8 58), .lit (.int .u8 42), .lit (.int .u8 50), .lit (.int .u8 38), .lit (.int .u8 29), .lit (.int .u8 17), .lit (.int .u8 4), .lit (.int .u8 62), .lit (.int .u8 47), .lit (.int .u8 59), .lit (.int .u8 36), .lit (.int .u8 45), .lit (.int .u8 43), .lit (.int .u8 51), .lit (.int .u8 22), .lit (.int .u8 53), .lit (.int .u8 39), .lit (.int .u8 33), .lit (.int .u8 30), .lit (.int .u8 24), .lit (.int .u8 18), .lit (.int .u8 12), .lit (.int .u8 5), .lit (.int .u8 63), .lit (.int .u8 55), .lit (.int .u8 48), .lit (.int .u8 27), .lit (.int .u8 60), .lit (.int .u8 41), .lit (.int .u8 37), .lit (.int .u8 16), .lit (.int .u8 46), .lit (.int .u8 35), .lit (.int .u8 44), .lit (.int .u8 21), .lit (.int .u8 52), .lit (.int .u8 32), .lit (.int .u8 23), .lit (.int .u8 11), .lit (.int .u8 54), .lit (.int .u8 26), .lit (.int .u8 40), .lit (.int .u8 15), .lit (.int .u8 34), .lit (.int .u8 20), .lit (.int .u8 31), .lit (.int .u8 10), .lit (.int .u8 25), .lit (.int .u8 14), .lit (.int .u8 19), .lit (.int .u8 9), .lit (.int .u8 13), .lit (.int .u8 8), .lit (.int .u8 7), .lit (.int .u8 6)]

/-- 'straitlaw04.GcdReduces': WHATEVER THE INPUT: true; the input reads as it did. -/
def gcdReducesSpec : ChangeSpec := { name := "gcdReduces", fn := fun _ => fun
  | [d1, d2] => { results := [.lit (.bool true)], args := [d1, d2] }
  | _ => none }
def gcdReducesRow : OpenClaim := { program := "ytghgemeclgpibaadoor", sum := "a6454938c947c2cb95c0852dffdcb33eebb8f54407151beb2c67227bba1ba2ff", func := "strait/straitlaw04.GcdReduces", spec := "gcdReduces", inPlace := ["math/bits.Add64"], unfollowed := true, recurses := true, named := ["math/bits.deBruijn64tab"], apart := false, laid := [("math/bits.deBruijn64tab", laid_math_bits_deBruijn64tab)] }
def GcdReducesSaid : Prop := gcdReducesRow.holds Tryd.pinned (OpenSpec.ofChange gcdReducesSpec)

/-- ITS FALSE NEIGHBOUR: 'it returns false'. Refute it at one input. -/
def gcdReducesWrong : ChangeSpec := { name := "gcdReduces", fn := fun _ => fun
  | [d1, d2] => { results := [.lit (.bool false)], args := [d1, d2] }
  | _ => none }
def GcdReducesWrongFalsely : Prop := gcdReducesRow.holds Tryd.pinned (OpenSpec.ofChange gcdReducesWrong)

/-- 'straitlaw04.GcdOwn': WHATEVER THE INPUT: true; the input reads as it did. -/
def gcdOwnSpec : ChangeSpec := { name := "gcdOwn", fn := fun _ => fun
  | [d1, d2, d3] => { results := [.lit (.bool true)], args := [d1, d2, d3] }
  | _ => none }
def gcdOwnRow : OpenClaim := { program := "ytghgemeclgpibaadoor", sum := "a6454938c947c2cb95c0852dffdcb33eebb8f54407151beb2c67227bba1ba2ff", func := "strait/straitlaw04.GcdOwn", spec := "gcdOwn", inPlace := ["math/bits.Add64"], unfollowed := true, recurses := true, named := ["math/bits.deBruijn64tab"], apart := false, laid := [("math/bits.deBruijn64tab", laid_math_bits_deBruijn64tab)] }
def GcdOwnSaid : Prop := gcdOwnRow.holds Tryd.pinned (OpenSpec.ofChange gcdOwnSpec)

/-- ITS FALSE NEIGHBOUR: 'it returns false'. Refute it at one input. -/
def gcdOwnWrong : ChangeSpec := { name := "gcdOwn", fn := fun _ => fun
  | [d1, d2, d3] => { results := [.lit (.bool false)], args := [d1, d2, d3] }
  | _ => none }
def GcdOwnWrongFalsely : Prop := gcdOwnRow.holds Tryd.pinned (OpenSpec.ofChange gcdOwnWrong)

/-- 'straitlaw04.GcdRest': WHATEVER THE INPUT: true; the input reads as it did. -/
def gcdRestSpec : ChangeSpec := { name := "gcdRest", fn := fun _ => fun
  | [d1, d2] => { results := [.lit (.bool true)], args := [d1, d2] }
  | _ => none }
def gcdRestRow : OpenClaim := { program := "ytghgemeclgpibaadoor", sum := "a6454938c947c2cb95c0852dffdcb33eebb8f54407151beb2c67227bba1ba2ff", func := "strait/straitlaw04.GcdRest", spec := "gcdRest", inPlace := ["math/bits.Add64"], unfollowed := true, recurses := true, named := ["math/bits.deBruijn64tab"], apart := false, laid := [("math/bits.deBruijn64tab", laid_math_bits_deBruijn64tab)] }
def GcdRestSaid : Prop := gcdRestRow.holds Tryd.pinned (OpenSpec.ofChange gcdRestSpec)

/-- ITS FALSE NEIGHBOUR: 'it returns false'. Refute it at one input. -/
def gcdRestWrong : ChangeSpec := { name := "gcdRest", fn := fun _ => fun
  | [d1, d2] => { results := [.lit (.bool false)], args := [d1, d2] }
  | _ => none }
def GcdRestWrongFalsely : Prop := gcdRestRow.holds Tryd.pinned (OpenSpec.ofChange gcdRestWrong)

/-- 'straitlaw04.GcdTells': WHATEVER THE INPUT: true; the input reads as it did. -/
def gcdTellsSpec : ChangeSpec := { name := "gcdTells", fn := fun _ => fun
  | [d1, d2, d3] => { results := [.lit (.bool true)], args := [d1, d2, d3] }
  | _ => none }
def gcdTellsRow : OpenClaim := { program := "ytghgemeclgpibaadoor", sum := "a6454938c947c2cb95c0852dffdcb33eebb8f54407151beb2c67227bba1ba2ff", func := "strait/straitlaw04.GcdTells", spec := "gcdTells", inPlace := ["math/bits.Add64"], unfollowed := true, recurses := true, named := ["math/bits.deBruijn64tab"], apart := false, laid := [("math/bits.deBruijn64tab", laid_math_bits_deBruijn64tab)] }
def GcdTellsSaid : Prop := gcdTellsRow.holds Tryd.pinned (OpenSpec.ofChange gcdTellsSpec)

/-- ITS FALSE NEIGHBOUR: 'it returns false'. Refute it at one input. -/
def gcdTellsWrong : ChangeSpec := { name := "gcdTells", fn := fun _ => fun
  | [d1, d2, d3] => { results := [.lit (.bool false)], args := [d1, d2, d3] }
  | _ => none }
def GcdTellsWrongFalsely : Prop := gcdTellsRow.holds Tryd.pinned (OpenSpec.ofChange gcdTellsWrong)

/-- 'straitlaw04.GcdDivides': WHATEVER THE INPUT: true; the input reads as it did. -/
def gcdDividesSpec : ChangeSpec := { name := "gcdDivides", fn := fun _ => fun
  | [d1, d2, d3] => { results := [.lit (.bool true)], args := [d1, d2, d3] }
  | _ => none }
def gcdDividesRow : OpenClaim := { program := "ytghgemeclgpibaadoor", sum := "a6454938c947c2cb95c0852dffdcb33eebb8f54407151beb2c67227bba1ba2ff", func := "strait/straitlaw04.GcdDivides", spec := "gcdDivides", inPlace := ["math/bits.Add64"], unfollowed := true, recurses := true, named := ["math/bits.deBruijn64tab"], apart := false, laid := [("math/bits.deBruijn64tab", laid_math_bits_deBruijn64tab)] }
def GcdDividesSaid : Prop := gcdDividesRow.holds Tryd.pinned (OpenSpec.ofChange gcdDividesSpec)

/-- ITS FALSE NEIGHBOUR: 'it returns false'. Refute it at one input. -/
def gcdDividesWrong : ChangeSpec := { name := "gcdDivides", fn := fun _ => fun
  | [d1, d2, d3] => { results := [.lit (.bool false)], args := [d1, d2, d3] }
  | _ => none }
def GcdDividesWrongFalsely : Prop := gcdDividesRow.holds Tryd.pinned (OpenSpec.ofChange gcdDividesWrong)

/-- 'straitlaw07.RatNorm': WHATEVER THE INPUT: true; the input reads as it did. -/
def ratNormSpec : ChangeSpec := { name := "ratNorm", fn := fun _ => fun
  | [d1, d2] => { results := [.lit (.bool true)], args := [d1, d2] }
  | _ => none }
def ratNormRow : OpenClaim := { program := "ytghgemeclgpibaadoor", sum := "a6454938c947c2cb95c0852dffdcb33eebb8f54407151beb2c67227bba1ba2ff", func := "strait/straitlaw07.RatNorm", spec := "ratNorm", inPlace := ["math/bits.Add64"], unfollowed := true, recurses := true, named := ["math/bits.deBruijn64tab"], apart := false, laid := [("math/bits.deBruijn64tab", laid_math_bits_deBruijn64tab)] }
def RatNormSaid : Prop := ratNormRow.holds Tryd.pinned (OpenSpec.ofChange ratNormSpec)

/-- ITS FALSE NEIGHBOUR: 'it returns false'. Refute it at one input. -/
def ratNormWrong : ChangeSpec := { name := "ratNorm", fn := fun _ => fun
  | [d1, d2] => { results := [.lit (.bool false)], args := [d1, d2] }
  | _ => none }
def RatNormWrongFalsely : Prop := ratNormRow.holds Tryd.pinned (OpenSpec.ofChange ratNormWrong)

/-- 'straitlaw07.RatOrder': WHATEVER THE INPUT: true; the input reads as it did. -/
def ratOrderSpec : ChangeSpec := { name := "ratOrder", fn := fun _ => fun
  | [d1, d2, d3] => { results := [.lit (.bool true)], args := [d1, d2, d3] }
  | _ => none }
def ratOrderRow : OpenClaim := { program := "ytghgemeclgpibaadoor", sum := "a6454938c947c2cb95c0852dffdcb33eebb8f54407151beb2c67227bba1ba2ff", func := "strait/straitlaw07.RatOrder", spec := "ratOrder", inPlace := ["math/bits.Add64"], unfollowed := true, recurses := true, named := ["math/bits.deBruijn64tab"], apart := false, laid := [("math/bits.deBruijn64tab", laid_math_bits_deBruijn64tab)] }
def RatOrderSaid : Prop := ratOrderRow.holds Tryd.pinned (OpenSpec.ofChange ratOrderSpec)

/-- ITS FALSE NEIGHBOUR: 'it returns false'. Refute it at one input. -/
def ratOrderWrong : ChangeSpec := { name := "ratOrder", fn := fun _ => fun
  | [d1, d2, d3] => { results := [.lit (.bool false)], args := [d1, d2, d3] }
  | _ => none }
def RatOrderWrongFalsely : Prop := ratOrderRow.holds Tryd.pinned (OpenSpec.ofChange ratOrderWrong)

/-- 'straitlaw07.RatLaws': WHATEVER THE INPUT: true; the input reads as it did. -/
def ratLawsSpec : ChangeSpec := { name := "ratLaws", fn := fun _ => fun
  | [d1, d2, d3] => { results := [.lit (.bool true)], args := [d1, d2, d3] }
  | _ => none }
def ratLawsRow : OpenClaim := { program := "ytghgemeclgpibaadoor", sum := "a6454938c947c2cb95c0852dffdcb33eebb8f54407151beb2c67227bba1ba2ff", func := "strait/straitlaw07.RatLaws", spec := "ratLaws", inPlace := ["math/bits.Add64"], unfollowed := true, recurses := true, named := ["math/bits.deBruijn64tab"], apart := false, laid := [("math/bits.deBruijn64tab", laid_math_bits_deBruijn64tab)] }
def RatLawsSaid : Prop := ratLawsRow.holds Tryd.pinned (OpenSpec.ofChange ratLawsSpec)

/-- ITS FALSE NEIGHBOUR: 'it returns false'. Refute it at one input. -/
def ratLawsWrong : ChangeSpec := { name := "ratLaws", fn := fun _ => fun
  | [d1, d2, d3] => { results := [.lit (.bool false)], args := [d1, d2, d3] }
  | _ => none }
def RatLawsWrongFalsely : Prop := ratLawsRow.holds Tryd.pinned (OpenSpec.ofChange ratLawsWrong)

/- THE SECOND FORM. 'bulk': how many values and letters a reading holds, each counted each time it is reached (what is shared counts as often as it is met; a slice's spare places count too). A statement '..UptoSaid' is the law's where the arguments, and the package variables that the reading takes, are together of bulk at most 1048576: NARROWER than '..Said'. Prove '..Said' where nothing that the law and all that it calls make is longer than what came in: it says more and counts as full. Else prove '..UptoSaid'. A law counts once. -/
mutual
def uptoBulk {H : Type} : DataW H → Nat
  | .lit (.string bytes) => bytes.length + 1
  | .lit _ => 1
  | .nil => 1
  | .ptr d => uptoBulk d + 1
  | .slice elems spare => uptoBulkAll elems + uptoBulkAll spare + 1
  | .agg parts => uptoBulkAll parts + 1
  | .iface _ d => uptoBulk d + 1
  | .map entries => uptoBulkEntries entries + 1
  | .held _ => 1
def uptoBulkAll {H : Type} : List (DataW H) → Nat
  | [] => 0
  | d :: r => uptoBulk d + uptoBulkAll r
def uptoBulkEntries {H : Type} : List (Lit × DataW H) → Nat
  | [] => 0
  | x :: r => uptoBulkEntry x + uptoBulkEntries r
def uptoBulkEntry {H : Type} : Lit × DataW H → Nat
  | (.string bytes, d) => bytes.length + uptoBulk d + 1
  | (_, d) => uptoBulk d + 1
 end
def uptoSmall : (H : Type) → List (DataW H) → Bool := fun _ ds => decide (uptoBulkAll ds ≤ 1048576)
def OpenSpec.upto (s : _root_.Go.ChangeSpec) : _root_.Go.OpenSpec := { _root_.Go.OpenSpec.ofChange s with cond := some uptoSmall }

/-- 'straitlaw04.GcdReduces', WHERE WHAT IT READS IS OF BULK AT MOST 1048576: true; the input reads as it did. -/
def gcdReducesUptoRow : OpenClaim := { program := "ytghgemeclgpibaadoor", sum := "a6454938c947c2cb95c0852dffdcb33eebb8f54407151beb2c67227bba1ba2ff", func := "strait/straitlaw04.GcdReduces", spec := "gcdReduces", inPlace := ["math/bits.Add64"], unfollowed := true, recurses := true, named := ["math/bits.deBruijn64tab"], apart := false, laid := [("math/bits.deBruijn64tab", laid_math_bits_deBruijn64tab)], narrowed := true }
def GcdReducesUptoSaid : Prop := gcdReducesUptoRow.holds Tryd.pinned (OpenSpec.upto gcdReducesSpec)

/-- 'straitlaw04.GcdOwn', WHERE WHAT IT READS IS OF BULK AT MOST 1048576: true; the input reads as it did. -/
def gcdOwnUptoRow : OpenClaim := { program := "ytghgemeclgpibaadoor", sum := "a6454938c947c2cb95c0852dffdcb33eebb8f54407151beb2c67227bba1ba2ff", func := "strait/straitlaw04.GcdOwn", spec := "gcdOwn", inPlace := ["math/bits.Add64"], unfollowed := true, recurses := true, named := ["math/bits.deBruijn64tab"], apart := false, laid := [("math/bits.deBruijn64tab", laid_math_bits_deBruijn64tab)], narrowed := true }
def GcdOwnUptoSaid : Prop := gcdOwnUptoRow.holds Tryd.pinned (OpenSpec.upto gcdOwnSpec)

/-- 'straitlaw04.GcdRest', WHERE WHAT IT READS IS OF BULK AT MOST 1048576: true; the input reads as it did. -/
def gcdRestUptoRow : OpenClaim := { program := "ytghgemeclgpibaadoor", sum := "a6454938c947c2cb95c0852dffdcb33eebb8f54407151beb2c67227bba1ba2ff", func := "strait/straitlaw04.GcdRest", spec := "gcdRest", inPlace := ["math/bits.Add64"], unfollowed := true, recurses := true, named := ["math/bits.deBruijn64tab"], apart := false, laid := [("math/bits.deBruijn64tab", laid_math_bits_deBruijn64tab)], narrowed := true }
def GcdRestUptoSaid : Prop := gcdRestUptoRow.holds Tryd.pinned (OpenSpec.upto gcdRestSpec)

/-- 'straitlaw04.GcdTells', WHERE WHAT IT READS IS OF BULK AT MOST 1048576: true; the input reads as it did. -/
def gcdTellsUptoRow : OpenClaim := { program := "ytghgemeclgpibaadoor", sum := "a6454938c947c2cb95c0852dffdcb33eebb8f54407151beb2c67227bba1ba2ff", func := "strait/straitlaw04.GcdTells", spec := "gcdTells", inPlace := ["math/bits.Add64"], unfollowed := true, recurses := true, named := ["math/bits.deBruijn64tab"], apart := false, laid := [("math/bits.deBruijn64tab", laid_math_bits_deBruijn64tab)], narrowed := true }
def GcdTellsUptoSaid : Prop := gcdTellsUptoRow.holds Tryd.pinned (OpenSpec.upto gcdTellsSpec)

/-- 'straitlaw04.GcdDivides', WHERE WHAT IT READS IS OF BULK AT MOST 1048576: true; the input reads as it did. -/
def gcdDividesUptoRow : OpenClaim := { program := "ytghgemeclgpibaadoor", sum := "a6454938c947c2cb95c0852dffdcb33eebb8f54407151beb2c67227bba1ba2ff", func := "strait/straitlaw04.GcdDivides", spec := "gcdDivides", inPlace := ["math/bits.Add64"], unfollowed := true, recurses := true, named := ["math/bits.deBruijn64tab"], apart := false, laid := [("math/bits.deBruijn64tab", laid_math_bits_deBruijn64tab)], narrowed := true }
def GcdDividesUptoSaid : Prop := gcdDividesUptoRow.holds Tryd.pinned (OpenSpec.upto gcdDividesSpec)

/-- 'straitlaw07.RatNorm', WHERE WHAT IT READS IS OF BULK AT MOST 1048576: true; the input reads as it did. -/
def ratNormUptoRow : OpenClaim := { program := "ytghgemeclgpibaadoor", sum := "a6454938c947c2cb95c0852dffdcb33eebb8f54407151beb2c67227bba1ba2ff", func := "strait/straitlaw07.RatNorm", spec := "ratNorm", inPlace := ["math/bits.Add64"], unfollowed := true, recurses := true, named := ["math/bits.deBruijn64tab"], apart := false, laid := [("math/bits.deBruijn64tab", laid_math_bits_deBruijn64tab)], narrowed := true }
def RatNormUptoSaid : Prop := ratNormUptoRow.holds Tryd.pinned (OpenSpec.upto ratNormSpec)

/-- 'straitlaw07.RatOrder', WHERE WHAT IT READS IS OF BULK AT MOST 1048576: true; the input reads as it did. -/
def ratOrderUptoRow : OpenClaim := { program := "ytghgemeclgpibaadoor", sum := "a6454938c947c2cb95c0852dffdcb33eebb8f54407151beb2c67227bba1ba2ff", func := "strait/straitlaw07.RatOrder", spec := "ratOrder", inPlace := ["math/bits.Add64"], unfollowed := true, recurses := true, named := ["math/bits.deBruijn64tab"], apart := false, laid := [("math/bits.deBruijn64tab", laid_math_bits_deBruijn64tab)], narrowed := true }
def RatOrderUptoSaid : Prop := ratOrderUptoRow.holds Tryd.pinned (OpenSpec.upto ratOrderSpec)

/-- 'straitlaw07.RatLaws', WHERE WHAT IT READS IS OF BULK AT MOST 1048576: true; the input reads as it did. -/
def ratLawsUptoRow : OpenClaim := { program := "ytghgemeclgpibaadoor", sum := "a6454938c947c2cb95c0852dffdcb33eebb8f54407151beb2c67227bba1ba2ff", func := "strait/straitlaw07.RatLaws", spec := "ratLaws", inPlace := ["math/bits.Add64"], unfollowed := true, recurses := true, named := ["math/bits.deBruijn64tab"], apart := false, laid := [("math/bits.deBruijn64tab", laid_math_bits_deBruijn64tab)], narrowed := true }
def RatLawsUptoSaid : Prop := ratLawsUptoRow.holds Tryd.pinned (OpenSpec.upto ratLawsSpec)

end Rows
end Go.Proofs.YtghgemeclgpibaaDoor
