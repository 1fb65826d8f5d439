/-
  No cell of these rows narrows 'for every input' (looked for: loops, veiled, ifaces, maps, wideKeys, modest, calm, conditions, laid).
  DERIVED. THE GIVEN ROWS OF THIS SEAT. 5 by the template 'for every input the law returns true; each argument reads behind the call as it read before'; 0 by the template 'total and deterministic' (their statements: YtghgemeclgpibaaTotals.lean).
  GIVEN WITH THE SEED: the statements are not yours to turn. If you find one false, say at which input.
  Laid BY PROGRAM, IN A SANDBOX (cutbox-rows.mjs): the forced cells as the released guide's own fill.sh prints them over the translation df48b69e714122f3… (all of the seat's roots in one cut). By AI agents, Wed Nov 11 2026. No macro, syntax, notation, axiom, sorry.
-/
import Derived.Test.YtghgemeclgpibaaChecked
import GoSem.Claim
import GoSem.ClaimJoined
import GoSem.ClaimMapViews
import Derived.JoinedTies
import Derived.KernelRfl
namespace Go.Proofs.Ytghgemeclgpibaa
/- THE CELL 'sum', in the pinned program and in every row, IS THE sha256 OF THE DUMP (.gsa) THAT YtghgemeclgpibaaProg.lean LOADS. Nothing in Lean hashes anything: it is a label: what it is worth is what the hold of that sum in a sandbox is worth. -/
noncomputable def Try.pinned : Pinned := { name := "ytghgemeclgpibaa", sum := "df48b69e714122f3574bf1e9f82b9d70340ed72ec57c1ea1729d8650013944ef", checked := Try.checked }
namespace Rows
def none {H : Type} : Left H := { results := [], args := [] }

/-- 'straitlaw05.SintFloor': WHATEVER THE INPUT: true; the input reads as it did. -/
def sintFloorSpec : ChangeSpec := { name := "sintFloor", fn := fun _ => fun
  | [d1, d2] => { results := [.lit (.bool true)], args := [d1, d2] }
  | _ => none }
def sintFloorRow : OpenClaim := { program := "ytghgemeclgpibaa", sum := "df48b69e714122f3574bf1e9f82b9d70340ed72ec57c1ea1729d8650013944ef", func := "strait/straitlaw05.SintFloor", spec := "sintFloor", inPlace := ["math/bits.Add64"], unfollowed := true, recurses := true, apart := false }
def SintFloorSaid : Prop := sintFloorRow.holds Try.pinned (OpenSpec.ofChange sintFloorSpec)

/-- ITS FALSE NEIGHBOUR: 'it returns false'. Refute it at one input. -/
def sintFloorWrong : ChangeSpec := { name := "sintFloor", fn := fun _ => fun
  | [d1, d2] => { results := [.lit (.bool false)], args := [d1, d2] }
  | _ => none }
def SintFloorWrongFalsely : Prop := sintFloorRow.holds Try.pinned (OpenSpec.ofChange sintFloorWrong)

/-- 'straitlaw05.SintOrder': WHATEVER THE INPUT: true; the input reads as it did. -/
def sintOrderSpec : ChangeSpec := { name := "sintOrder", fn := fun _ => fun
  | [d1, d2, d3] => { results := [.lit (.bool true)], args := [d1, d2, d3] }
  | _ => none }
def sintOrderRow : OpenClaim := { program := "ytghgemeclgpibaa", sum := "df48b69e714122f3574bf1e9f82b9d70340ed72ec57c1ea1729d8650013944ef", func := "strait/straitlaw05.SintOrder", spec := "sintOrder", inPlace := ["math/bits.Add64"], unfollowed := true, recurses := true, apart := false }
def SintOrderSaid : Prop := sintOrderRow.holds Try.pinned (OpenSpec.ofChange sintOrderSpec)

/-- ITS FALSE NEIGHBOUR: 'it returns false'. Refute it at one input. -/
def sintOrderWrong : ChangeSpec := { name := "sintOrder", fn := fun _ => fun
  | [d1, d2, d3] => { results := [.lit (.bool false)], args := [d1, d2, d3] }
  | _ => none }
def SintOrderWrongFalsely : Prop := sintOrderRow.holds Try.pinned (OpenSpec.ofChange sintOrderWrong)

/-- 'straitlaw05.SintLaws': WHATEVER THE INPUT: true; the input reads as it did. -/
def sintLawsSpec : ChangeSpec := { name := "sintLaws", fn := fun _ => fun
  | [d1, d2, d3] => { results := [.lit (.bool true)], args := [d1, d2, d3] }
  | _ => none }
def sintLawsRow : OpenClaim := { program := "ytghgemeclgpibaa", sum := "df48b69e714122f3574bf1e9f82b9d70340ed72ec57c1ea1729d8650013944ef", func := "strait/straitlaw05.SintLaws", spec := "sintLaws", inPlace := ["math/bits.Add64"], unfollowed := true, recurses := true, apart := false }
def SintLawsSaid : Prop := sintLawsRow.holds Try.pinned (OpenSpec.ofChange sintLawsSpec)

/-- ITS FALSE NEIGHBOUR: 'it returns false'. Refute it at one input. -/
def sintLawsWrong : ChangeSpec := { name := "sintLaws", fn := fun _ => fun
  | [d1, d2, d3] => { results := [.lit (.bool false)], args := [d1, d2, d3] }
  | _ => none }
def SintLawsWrongFalsely : Prop := sintLawsRow.holds Try.pinned (OpenSpec.ofChange sintLawsWrong)

/-- 'straitlaw05.SintSmall': WHATEVER THE INPUT: true; the input reads as it did. -/
def sintSmallSpec : ChangeSpec := { name := "sintSmall", fn := fun _ => fun
  | [d1, d2, d3] => { results := [.lit (.bool true)], args := [d1, d2, d3] }
  | _ => none }
def sintSmallRow : OpenClaim := { program := "ytghgemeclgpibaa", sum := "df48b69e714122f3574bf1e9f82b9d70340ed72ec57c1ea1729d8650013944ef", func := "strait/straitlaw05.SintSmall", spec := "sintSmall", inPlace := ["math/bits.Add64"], unfollowed := true, recurses := true, apart := false }
def SintSmallSaid : Prop := sintSmallRow.holds Try.pinned (OpenSpec.ofChange sintSmallSpec)

/-- ITS FALSE NEIGHBOUR: 'it returns false'. Refute it at one input. -/
def sintSmallWrong : ChangeSpec := { name := "sintSmall", fn := fun _ => fun
  | [d1, d2, d3] => { results := [.lit (.bool false)], args := [d1, d2, d3] }
  | _ => none }
def SintSmallWrongFalsely : Prop := sintSmallRow.holds Try.pinned (OpenSpec.ofChange sintSmallWrong)

/-- 'straitlaw05.SintTells': WHATEVER THE INPUT: true; the input reads as it did. -/
def sintTellsSpec : ChangeSpec := { name := "sintTells", fn := fun _ => fun
  | [d1, d2, d3, d4] => { results := [.lit (.bool true)], args := [d1, d2, d3, d4] }
  | _ => none }
def sintTellsRow : OpenClaim := { program := "ytghgemeclgpibaa", sum := "df48b69e714122f3574bf1e9f82b9d70340ed72ec57c1ea1729d8650013944ef", func := "strait/straitlaw05.SintTells", spec := "sintTells", inPlace := ["math/bits.Add64"], unfollowed := true, recurses := true, apart := false }
def SintTellsSaid : Prop := sintTellsRow.holds Try.pinned (OpenSpec.ofChange sintTellsSpec)

/-- ITS FALSE NEIGHBOUR: 'it returns false'. Refute it at one input. -/
def sintTellsWrong : ChangeSpec := { name := "sintTells", fn := fun _ => fun
  | [d1, d2, d3, d4] => { results := [.lit (.bool false)], args := [d1, d2, d3, d4] }
  | _ => none }
def SintTellsWrongFalsely : Prop := sintTellsRow.holds Try.pinned (OpenSpec.ofChange sintTellsWrong)

/- THE SECOND FORM. 'bulk': how many values and letters a reading holds, each counted each time it is reached (what is shared counts as often as it is met; a slice's spare places count too). A statement '..UptoSaid' is the law's where the arguments, and the package variables that the reading takes, are together of bulk at most 1048576: NARROWER than '..Said'. Prove '..Said' where nothing that the law and all that it calls make is longer than what came in: it says more and counts as full. Else prove '..UptoSaid'. A law counts once. -/
mutual
def uptoBulk {H : Type} : DataW H → Nat
  | .lit (.string bytes) => bytes.length + 1
  | .lit _ => 1
  | .nil => 1
  | .ptr d => uptoBulk d + 1
  | .slice elems spare => uptoBulkAll elems + uptoBulkAll spare + 1
  | .agg parts => uptoBulkAll parts + 1
  | .iface _ d => uptoBulk d + 1
  | .map entries => uptoBulkEntries entries + 1
  | .held _ => 1
def uptoBulkAll {H : Type} : List (DataW H) → Nat
  | [] => 0
  | d :: r => uptoBulk d + uptoBulkAll r
def uptoBulkEntries {H : Type} : List (Lit × DataW H) → Nat
  | [] => 0
  | x :: r => uptoBulkEntry x + uptoBulkEntries r
def uptoBulkEntry {H : Type} : Lit × DataW H → Nat
  | (.string bytes, d) => bytes.length + uptoBulk d + 1
  | (_, d) => uptoBulk d + 1
 end
def uptoSmall : (H : Type) → List (DataW H) → Bool := fun _ ds => decide (uptoBulkAll ds ≤ 1048576)
def OpenSpec.upto (s : _root_.Go.ChangeSpec) : _root_.Go.OpenSpec := { _root_.Go.OpenSpec.ofChange s with cond := some uptoSmall }

/-- 'straitlaw05.SintFloor', WHERE WHAT IT READS IS OF BULK AT MOST 1048576: true; the input reads as it did. -/
def sintFloorUptoRow : OpenClaim := { program := "ytghgemeclgpibaa", sum := "df48b69e714122f3574bf1e9f82b9d70340ed72ec57c1ea1729d8650013944ef", func := "strait/straitlaw05.SintFloor", spec := "sintFloor", inPlace := ["math/bits.Add64"], unfollowed := true, recurses := true, apart := false, narrowed := true }
def SintFloorUptoSaid : Prop := sintFloorUptoRow.holds Try.pinned (OpenSpec.upto sintFloorSpec)

/-- 'straitlaw05.SintOrder', WHERE WHAT IT READS IS OF BULK AT MOST 1048576: true; the input reads as it did. -/
def sintOrderUptoRow : OpenClaim := { program := "ytghgemeclgpibaa", sum := "df48b69e714122f3574bf1e9f82b9d70340ed72ec57c1ea1729d8650013944ef", func := "strait/straitlaw05.SintOrder", spec := "sintOrder", inPlace := ["math/bits.Add64"], unfollowed := true, recurses := true, apart := false, narrowed := true }
def SintOrderUptoSaid : Prop := sintOrderUptoRow.holds Try.pinned (OpenSpec.upto sintOrderSpec)

/-- 'straitlaw05.SintLaws', WHERE WHAT IT READS IS OF BULK AT MOST 1048576: true; the input reads as it did. -/
def sintLawsUptoRow : OpenClaim := { program := "ytghgemeclgpibaa", sum := "df48b69e714122f3574bf1e9f82b9d70340ed72ec57c1ea1729d8650013944ef", func := "strait/straitlaw05.SintLaws", spec := "sintLaws", inPlace := ["math/bits.Add64"], unfollowed := true, recurses := true, apart := false, narrowed := true }
def SintLawsUptoSaid : Prop := sintLawsUptoRow.holds Try.pinned (OpenSpec.upto sintLawsSpec)

/-- 'straitlaw05.SintSmall', WHERE WHAT IT READS IS OF BULK AT MOST 1048576: true; the input reads as it did. -/
def sintSmallUptoRow : OpenClaim := { program := "ytghgemeclgpibaa", sum := "df48b69e714122f3574bf1e9f82b9d70340ed72ec57c1ea1729d8650013944ef", func := "strait/straitlaw05.SintSmall", spec := "sintSmall", inPlace := ["math/bits.Add64"], unfollowed := true, recurses := true, apart := false, narrowed := true }
def SintSmallUptoSaid : Prop := sintSmallUptoRow.holds Try.pinned (OpenSpec.upto sintSmallSpec)

/-- 'straitlaw05.SintTells', WHERE WHAT IT READS IS OF BULK AT MOST 1048576: true; the input reads as it did. -/
def sintTellsUptoRow : OpenClaim := { program := "ytghgemeclgpibaa", sum := "df48b69e714122f3574bf1e9f82b9d70340ed72ec57c1ea1729d8650013944ef", func := "strait/straitlaw05.SintTells", spec := "sintTells", inPlace := ["math/bits.Add64"], unfollowed := true, recurses := true, apart := false, narrowed := true }
def SintTellsUptoSaid : Prop := sintTellsUptoRow.holds Try.pinned (OpenSpec.upto sintTellsSpec)

end Rows
end Go.Proofs.Ytghgemeclgpibaa
