/- A tied card's parts: the library's table out of the row's condition; t and what it needs. -/
import Derived.Test.YtihcepanbejfpaaGreatDoorCards
import Derived.Test.YtihcepanbejfpaaGreatDoorTie
import Derived.Test.YtihcepanbejfpaaGreatDoorMEU10
import Derived.Test.YtihcepanbejfpaaGreatDoorMEU20
import Derived.LaidMore
namespace Go.Proofs.YtihcepanbejfpaaGreatDoor
open Go.ChangeShapes Go.WideShapes Go.ChangeAt Go.RowKit Go.Proofs.Wd Lb
def zDy:List (String×DataW Unit):=[("math/bits.deBruijn64tab",Rows.laid_math_bits_deBruijn64tab)]
def zYo:List Int:=Lib.deBruijn64tab.map fun n:Nat=>(n:Int)
theorem zQJ:zDy=[("math/bits.deBruijn64tab",Lib.tabData .u8 zYo)]:=rfl
theorem zJr{W:World}(h:laidMetH Tryz.prog zDy W):Tab W:=by
 rw[MakeChecks.laidMetH_plain _ _ _ (by kernel_rfl),zQJ]at h
 have J:Tryz.prog.globalNamed "math/bits.deBruijn64tab" =some 0:=by kernel_rfl
 have ht:=Lib.tabIs_of_head J (t:=172) (e:=5) (n:=64) (by kernel_rfl) Tryz.underlying172 Tryz.underlying5 (by kernel_rfl) (by kernel_rfl) h
 intro j I
 have:=ht.cell J j (by show j<64;exact I)
 rw[this]
 congr 2
 unfold zYo
 rw[rH,rH,tJ]
 have O:j<Lib.deBruijn64tab.length:=I
 rw[nG O]
 rfl
theorem zQ5(os:Os)(args:Array Value):laidMetH Tryz.prog zDy ((World.doorLaid Tryz.prog 400 os).forCall (fun _ _=>0) ⟨#[],args, []⟩).memory:=
 laidMetH_of_parts3 (fuel:=8) (laidMet_of_run' 8 (by kernel_rfl) (by kernel_rfl)) (by kernel_rfl) (by kernel_rfl)
section
variable {H:Type}{enc:TypeId×Value->H}{w:World}{base:Nat}{held:Bool}
end
end Go.Proofs.YtihcepanbejfpaaGreatDoor
