/- A tied card's parts: the library's table out of the row's condition; t and what it needs. -/
import Derived.Test.YthegekeodchhiaaGreatDoorCards
import Derived.Test.YthegekeodchhiaaGreatDoorTie
import Derived.Test.YthegekeodchhiaaGreatDoorMLR10
import Derived.Test.YthegekeodchhiaaGreatDoorMLR20
import Derived.Lib.LaidTab
import Derived.LaidMore
import Derived.OpenShut
import Derived.Stop.Joined
abbrev zW3:=@List.getD_eq_getElem?_getD
namespace Go.Proofs.YthegekeodchhiaaGreatDoor
open Go.ChangeShapes Go.WideShapes Go.ChangeAt Go.RowKit Go.Proofs.Wd Lb
def zEP:List (String×DataW Unit):= [("math/bits.deBruijn64tab",Rows.laid_math_bits_deBruijn64tab)]
def zVa:List Int:=Lib.deBruijn64tab.map fun n:Nat=>(n:Int)
theorem zOX:zEP= [("math/bits.deBruijn64tab",Lib.tabData .u8 zVa)]:=rfl
theorem zIc {W:World} (h:laidMetH Tryz.prog zEP W):Tab W:=by
 rw [MakeChecks.laidMetH_plain _ _ _ (by kernel_rfl),zOX] at h
 have hg:Tryz.prog.globalNamed "math/bits.deBruijn64tab" =some 0:=by kernel_rfl
 have ht:=Lib.tabIs_of_head hg (t:=198) (e:=5) (n:=64) (by kernel_rfl) Tryz.underlying198 Tryz.underlying5 (by kernel_rfl) (by kernel_rfl) h
 intro j hj
 have:=ht.cell hg j (by show j<64;exact hj)
 rw [this]
 congr 2
 unfold zVa
 rw [zW3,zW3,List.getElem?_map]
 have hl:j<Lib.deBruijn64tab.length:=hj
 rw [List.getElem?_eq_getElem hl]
 rfl
theorem zPd (os:Os) (args:Array Value):laidMetH Tryz.prog zEP ((World.doorLaid Tryz.prog 400 os).forCall (fun _ _=>0) ⟨#[],args, []⟩).memory:=
 laidMetH_of_parts3 (fuel:=8) (laidMet_of_run' 8 (by kernel_rfl) (by kernel_rfl)) (by kernel_rfl) (by kernel_rfl)
section
variable {H:Type} {enc:TypeId×Value->H} {w:World} {base:Nat} {held:Bool}
end
end Go.Proofs.YthegekeodchhiaaGreatDoor
