/- A tied card's parts: the library's table out of the row's condition; t and what it needs. -/
import Derived.Test.YtencnknhnckpaaaGreatDoorCards
import Derived.Test.YtencnknhnckpaaaGreatDoorTie
import Derived.Test.YtencnknhnckpaaaGreatDoorMRM10
import Derived.Test.YtencnknhnckpaaaGreatDoorMRM20
import Derived.Lib.LaidTab
import Derived.LaidMore
import Derived.OpenShut
import Derived.Stop.Joined
abbrev zVD:=@List.getD_eq_getElem?_getD
namespace Go.Proofs.YtencnknhnckpaaaGreatDoor
open Go.ChangeShapes Go.WideShapes Go.ChangeAt Go.RowKit Go.Proofs.Wd Lb
def zCA:List (String×DataW Unit):= [("math/bits.deBruijn64tab",Rows.laid_math_bits_deBruijn64tab)]
def zTx:List Int:=Lib.deBruijn64tab.map fun n:Nat=>(n:Int)
theorem zNs:zCA= [("math/bits.deBruijn64tab",Lib.tabData .u8 zTx)]:=rfl
theorem zHA {W:World} (h:laidMetH Tryz.prog zCA W):Tab W:=by
 rw [MakeChecks.laidMetH_plain _ _ _ (by kernel_rfl),zNs] at h
 have hg:Tryz.prog.globalNamed "math/bits.deBruijn64tab" =some 0:=by kernel_rfl
 have ht:=Lib.tabIs_of_head hg (t:=169) (e:=5) (n:=64) (by kernel_rfl) Tryz.underlying169 Tryz.underlying5 (by kernel_rfl) (by kernel_rfl) h
 intro j hj
 have:=ht.cell hg j (by show j<64;exact hj)
 rw [this]
 congr 2
 unfold zTx
 rw [zVD,zVD,List.getElem?_map]
 have hl:j<Lib.deBruijn64tab.length:=hj
 rw [List.getElem?_eq_getElem hl]
 rfl
theorem zNO (os:Os) (args:Array Value):laidMetH Tryz.prog zCA ((World.doorLaid Tryz.prog 400 os).forCall (fun _ _=>0) ⟨#[],args, []⟩).memory:=
 laidMetH_of_parts3 (fuel:=8) (laidMet_of_run' 8 (by kernel_rfl) (by kernel_rfl)) (by kernel_rfl) (by kernel_rfl)
section
variable {H:Type} {enc:TypeId×Value->H} {w:World} {base:Nat} {held:Bool}
end
end Go.Proofs.YtencnknhnckpaaaGreatDoor
