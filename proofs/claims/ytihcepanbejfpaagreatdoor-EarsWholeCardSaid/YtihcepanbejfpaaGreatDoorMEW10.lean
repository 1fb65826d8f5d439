/- A law's arguments, opened: limbs, integers; and what a call that only  and what it needs. -/
import Derived.Test.YtihcepanbejfpaaGreatDoorRows
import Derived.Test.YtihcepanbejfpaaGreatDoorMEW7
import Derived.Lib.SmallJoins
abbrev pP:=@List.getD_eq_getElem?_getD
namespace Go.Proofs.Wd
open Tryz
open Go.ChangeShapes Go.WideShapes Go.ChangeAt Go.RowKit Go.Joins Lb
theorem zPL:laidOutB prog=true:=fJ
theorem zRS:ownKnob prog.godebug=none:=fJ
section
variable {H:Type}{enc:TypeId×Value->H}{w:World}{base:Nat}{spare:Nat->Bool}{held:Bool}
theorem zMA(f:Int->Nat)(zs:List Int)(len:Nat)(i:Nat)(hi:i<len)(hl:len<=zs.length):lm ((zs.take len).map f) i=f (zs.getD i 0):=by
 rw[zH4 (by rw[bF,uE];omega)]
 rw[List.getElem_map,List.getElem_take,pP,nE oA]
 rfl
theorem zRf{fuel:Nat}{v:Value}{x:DataW H×List MemPlace}(h:DataW.trod enc prog w base (fun _=>true) held fuel 24 [v]=some x):∃A n c l,v=.slice A n c/\Rd w A n c l/\Lt l:=by
 rcases open_ints underlying24 underlying69 fJ h with⟨O,_⟩|⟨a,len,cap,zs,O,_,hl,hm,hz,_,I,h4⟩
 .obtain rfl:v=.slice none 0 0:=by simpa using O
  exact⟨none,0,0, [],rfl,wM w,zCp⟩
 .obtain rfl:v=.slice (some a) len cap:=by simpa using O
  simp only[cG]at hz
  have wz:∀i,i<len->0<=zs.getD i 0/\zs.getD i 0<4294967296:=fun i hi=>by
   have U:zs.getD i 0∈zs:=by
    rw[pP,nE oA]
    simp
   have:=h4 _ U
   simp[Lit.wf,IntKind.min,IntKind.max,IntKind.signed,IntKind.bits]at this
   simp
   omega
  refine⟨some a,len,cap,(zs.take len).map Int.toNat,rfl,⟨by rw[bF,uE];omega,hl,by unfold maxLen at hm;omega,fun e=>(by cases e),fun i hi=>?_⟩,fun x hx=>?_⟩
  .obtain⟨b,off,h0⟩:=a
   have J:h0=none:=by simpa[Addr.add]using World.cell?_spot (I 0 oA)
   subst J
   refine⟨b,off,rfl,?_⟩
   have:=I i oA
   rw[xI]at this
   rw[this,zMA _ _ _ _ hi oA,Int.toNat_of_nonneg (wz i hi).1]
  .obtain⟨z,h1,rfl⟩:=xH.1 hx
   obtain⟨i,hi,rfl⟩:=nY h1
   rw[uE]at hi
   have:=wz i oA
   rw[pP,nE oA]at this
   rw[List.getElem_take]
   simp at this
   unfold BB
   omega
end
end Go.Proofs.Wd
