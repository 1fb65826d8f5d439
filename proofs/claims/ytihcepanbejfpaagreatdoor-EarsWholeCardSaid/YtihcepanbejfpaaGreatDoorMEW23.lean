/- A tied card's parts: the library's table out of the row's condition; t and what it needs. -/
import Derived.Test.YtihcepanbejfpaaGreatDoorCards
import Derived.Test.YtihcepanbejfpaaGreatDoorTie
import Derived.Test.YtihcepanbejfpaaGreatDoorMEW10
import Derived.Test.YtihcepanbejfpaaGreatDoorMEW20
import Derived.LaidMore
namespace Go.Proofs.YtihcepanbejfpaaGreatDoor
open Go.ChangeShapes Go.WideShapes Go.ChangeAt Go.RowKit Go.Proofs.Wd Lb
def zDG:List (String×DataW Unit):=[("math/bits.deBruijn64tab",Rows.laid_math_bits_deBruijn64tab)]
def zY9:List Int:=Lib.deBruijn64tab.map fun n:Nat=>(n:Int)
theorem zRp:zDG=[("math/bits.deBruijn64tab",Lib.tabData .u8 zY9)]:=rfl
theorem zJW{W:World}(h:laidMetH Tryz.prog zDG W):Tab W:=by
 rw[MakeChecks.laidMetH_plain _ _ _ fJ,zRp]at h
 have J:Tryz.prog.globalNamed "math/bits.deBruijn64tab" =some 0:=by kernel_rfl
 have ht:=Lib.tabIs_of_head J (t:=172) (e:=5) (n:=64) fJ Tryz.underlying172 Tryz.underlying5 fJ fJ h
 intro j I
 have:=ht.cell J j (by show j<64;exact I)
 rw[this]
 congr 2
 unfold zY9
 rw[rG,rG,tK]
 have O:j<Lib.deBruijn64tab.length:=I
 rw[nE O]
 rfl
theorem zRH(os:Os)(args:Array Value):laidMetH Tryz.prog zDG ((World.doorLaid Tryz.prog 400 os).forCall (fun _ _=>0) ⟨#[],args, []⟩).memory:=
 laidMetH_of_parts3 (fuel:=8) (laidMet_of_run' 8 fJ fJ) fJ fJ
section
variable {H:Type}{enc:TypeId×Value->H}{w:World}{base:Nat}{held:Bool}
end
end Go.Proofs.YtihcepanbejfpaaGreatDoor
