/- A tied card's parts: the library's table out of the row's condition; the witness's memory; arguments that are natural numbers. -/
import Derived.Test.YtghgemeclgpibaaDoorCards
import Derived.Test.YtghgemeclgpibaaDoorTie
import Derived.Test.YtghgemeclgpibaaDoorMQN11
import Derived.Test.YtghgemeclgpibaaDoorMQN19
import Derived.Lib.LaidTab
import Derived.LaidMore
import Derived.OpenShut
import Derived.Stop.Joined
namespace Go.Proofs.YtghgemeclgpibaaDoor
open Go.ChangeShapes Go.WideShapes Go.ChangeAt Go.RowKit Go.Proofs.Wd Lb

def bitsLaid : List (String × DataW Unit) := [("math/bits.deBruijn64tab", Rows.laid_math_bits_deBruijn64tab)]
def tabZ : List Int := Lib.deBruijn64tab.map fun n : Nat => (n : Int)
theorem laid_tab : bitsLaid = [("math/bits.deBruijn64tab", Lib.tabData .u8 tabZ)] := rfl

theorem tab_of_laid {W : World} (h : laidMetH Tryd.prog bitsLaid W) : Tab W := by
  rw [MakeChecks.laidMetH_plain _ _ _ (by kernel_rfl), laid_tab] at h
  have hg : Tryd.prog.globalNamed "math/bits.deBruijn64tab" = some 0 := by kernel_rfl
  have ht := Lib.tabIs_of_head hg (t := 117) (e := 5) (n := 64) (by kernel_rfl) Tryd.underlying117 Tryd.underlying5 (by kernel_rfl) (by kernel_rfl) h
  intro j hj
  have := ht.cell hg j (by show j < 64; exact hj)
  rw [this]
  congr 2
  unfold tabZ
  rw [List.getD_eq_getElem?_getD, List.getD_eq_getElem?_getD, List.getElem?_map]
  have hl : j < Lib.deBruijn64tab.length := hj
  rw [List.getElem?_eq_getElem hl]
  rfl

theorem door_met (os : Os) (args : Array Value) : laidMetH Tryd.prog bitsLaid ((World.doorLaid Tryd.prog 400 os).forCall (fun _ _ => 0) ⟨#[], args, []⟩).memory :=
  laidMetH_of_parts3 (fuel := 8) (laidMet_of_run' 8 (by kernel_rfl) (by kernel_rfl)) (by kernel_rfl) (by kernel_rfl)

section
variable {H : Type} {enc : TypeId × Value → H} {w : World} {base : Nat} {held : Bool}
end
end Go.Proofs.YtghgemeclgpibaaDoor

