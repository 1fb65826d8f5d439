/- A tied card's parts: the library's table out of the row's condition; t and what it needs. -/
import Derived.Test.YtencnknhnckpaaaGreatDoorCards
import Derived.Test.YtencnknhnckpaaaGreatDoorTie
import Derived.Test.YtencnknhnckpaaaGreatDoorMRT10
import Derived.Test.YtencnknhnckpaaaGreatDoorMRT20
import Derived.LaidMore
namespace Go.Proofs.YtencnknhnckpaaaGreatDoor
open Go.ChangeShapes Go.WideShapes Go.ChangeAt Go.RowKit Go.Proofs.Wd Lb
def zCP:List (String×DataW Unit):=[("math/bits.deBruijn64tab",Rows.laid_math_bits_deBruijn64tab)]
def zUc:List Int:=Lib.deBruijn64tab.map fun n:Nat=>(n:Int)
theorem zN8:zCP=[("math/bits.deBruijn64tab",Lib.tabData .u8 zUc)]:=rfl
theorem zH6{W:World}(h:laidMetH Tryz.prog zCP W):Tab W:=by
 rw[MakeChecks.laidMetH_plain _ _ _ rZ,zN8]at h
 have I:Tryz.prog.globalNamed "math/bits.deBruijn64tab" =some 0:=by kernel_rfl
 have J:=Lib.tabIs_of_head I (t:=169) (e:=5) (n:=64) rZ Tryz.underlying169 Tryz.underlying5 rZ rZ h
 intro j hj
 have:=J.cell I j (by show j<64;exact hj)
 rw[this]
 congr 2
 unfold zUc
 rw[nX,nX,rJ]
 have O:j<Lib.deBruijn64tab.length:=hj
 rw[mD O]
 rfl
theorem zOx(os:Os)(args:Array Value):laidMetH Tryz.prog zCP ((World.doorLaid Tryz.prog 400 os).forCall (fun _ _=>0) ⟨#[],args, []⟩).memory:=
 laidMetH_of_parts3 (fuel:=8) (laidMet_of_run' 8 rZ rZ) rZ rZ
section
variable {H:Type}{enc:TypeId×Value->H}{w:World}{base:Nat}{held:Bool}
end
end Go.Proofs.YtencnknhnckpaaaGreatDoor
