/- A law's arguments, opened: limbs, integers; and what a call that only  and what it needs. -/
import Derived.Test.YtencnknhnckpaaaGreatDoorRows
import Derived.Test.YtencnknhnckpaaaGreatDoorMRT7
import Derived.Lib.SmallJoins
abbrev nN:=@List.getD_eq_getElem?_getD
namespace Go.Proofs.Wd
open Tryz
open Go.ChangeShapes Go.WideShapes Go.ChangeAt Go.RowKit Go.Joins Lb
theorem zMM:laidOutB prog=true:=rZ
theorem zOH:ownKnob prog.godebug=none:=rZ
section
variable {H:Type}{enc:TypeId×Value->H}{w:World}{base:Nat}{spare:Nat->Bool}{held:Bool}
theorem zKm(f:Int->Nat)(zs:List Int)(len:Nat)(i:Nat)(hi:i<len)(hl:len<=zs.length):lm ((zs.take len).map f) i=f (zs.getD i 0):=by
 rw[zGu (by rw[xT,uG];omega)]
 rw[List.getElem_map,List.getElem_take,nN,mD oA]
 rfl
theorem zNZ{fuel:Nat}{v:Value}{x:DataW H×List MemPlace}(h:DataW.trod enc prog w base (fun _=>true) held fuel 28 [v]=some x):∃A n c l,v=.slice A n c/\Rd w A n c l/\Lt l:=by
 rcases open_ints underlying28 underlying81 rZ h with⟨J,_⟩|⟨a,len,cap,zs,J,_,hl,hm,hz,_,I,h5⟩
 .obtain rfl:v=.slice none 0 0:=by simpa using J
  exact⟨none,0,0, [],rfl,wM w,zCc⟩
 .obtain rfl:v=.slice (some a) len cap:=by simpa using J
  simp only[cH]at hz
  have wz:∀i,i<len->0<=zs.getD i 0/\zs.getD i 0<4294967296:=fun i hi=>by
   have h1:zs.getD i 0∈zs:=by
    rw[nN,mD oA]
    simp
   have:=h5 _ h1
   simp[Lit.wf,IntKind.min,IntKind.max,IntKind.signed,IntKind.bits]at this
   simp
   omega
  refine⟨some a,len,cap,(zs.take len).map Int.toNat,rfl,⟨by rw[xT,uG];omega,hl,by unfold maxLen at hm;omega,fun e=>(by cases e),fun i hi=>?_⟩,fun x hx=>?_⟩
  .obtain⟨b,h4,h2⟩:=a
   have O:h2=none:=by simpa[Addr.add]using World.cell?_spot (I 0 oA)
   subst O
   refine⟨b,h4,rfl,?_⟩
   have:=I i oA
   rw[xH]at this
   rw[this,zKm _ _ _ _ hi oA,Int.toNat_of_nonneg (wz i hi).1]
  .obtain⟨z,h3,rfl⟩:=xG.1 hx
   obtain⟨i,hi,rfl⟩:=mY h3
   rw[uG]at hi
   have:=wz i oA
   rw[nN,mD oA]at this
   rw[List.getElem_take]
   simp at this
   unfold BB
   omega
end
end Go.Proofs.Wd
