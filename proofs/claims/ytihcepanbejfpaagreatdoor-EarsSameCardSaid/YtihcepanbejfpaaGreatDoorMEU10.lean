/- A law's arguments, opened: limbs, integers; and what a call that only  and what it needs. -/
import Derived.Test.YtihcepanbejfpaaGreatDoorRows
import Derived.Test.YtihcepanbejfpaaGreatDoorMEU7
import Derived.Lib.SmallJoins
abbrev pR:=@List.getD_eq_getElem?_getD
namespace Go.Proofs.Wd
open Tryz
open Go.ChangeShapes Go.WideShapes Go.ChangeAt Go.RowKit Go.Joins Lb
theorem zO0:laidOutB prog=true:=by kernel_rfl
theorem zRc:ownKnob prog.godebug=none:=by kernel_rfl
section
variable {H:Type}{enc:TypeId×Value->H}{w:World}{base:Nat}{spare:Nat->Bool}{held:Bool}
theorem zL2(f:Int->Nat)(zs:List Int)(len:Nat)(i:Nat)(hi:i<len)(hl:len<=zs.length):lm ((zs.take len).map f) i=f (zs.getD i 0):=by
 rw[zHF (by rw[bC,uD];omega)]
 rw[List.getElem_map,List.getElem_take,pR,nG (by omega)]
 rfl
theorem zQA{fuel:Nat}{v:Value}{x:DataW H×List MemPlace}(h:DataW.trod enc prog w base (fun _=>true) held fuel 24 [v]=some x):∃A n c l,v=.slice A n c/\Rd w A n c l/\Lt l:=by
 rcases open_ints underlying24 underlying69 (by kernel_rfl) h with⟨J,_⟩|⟨a,len,cap,zs,J,_,hl,hm,hz,_,I,h1⟩
 .obtain rfl:v=.slice none 0 0:=by simpa using J
  exact⟨none,0,0, [],rfl,wM w,zB4⟩
 .obtain rfl:v=.slice (some a) len cap:=by simpa using J
  simp only[cG]at hz
  have wz:∀i,i<len->0<=zs.getD i 0/\zs.getD i 0<4294967296:=fun i hi=>by
   have U:zs.getD i 0∈zs:=by
    rw[pR,nG (by omega)]
    simp
   have:=h1 _ U
   simp[Lit.wf,IntKind.min,IntKind.max,IntKind.signed,IntKind.bits]at this
   simp
   omega
  refine⟨some a,len,cap,(zs.take len).map Int.toNat,rfl,⟨by rw[bC,uD];omega,hl,by unfold maxLen at hm;omega,fun e=>(by cases e),fun i hi=>?_⟩,fun x hx=>?_⟩
  .obtain⟨b,off,h0⟩:=a
   have O:h0=none:=by simpa[Addr.add]using World.cell?_spot (I 0 (by omega))
   subst O
   refine⟨b,off,rfl,?_⟩
   have:=I i (by omega)
   rw[xH]at this
   rw[this,zL2 _ _ _ _ hi (by omega),Int.toNat_of_nonneg (wz i hi).1]
  .obtain⟨z,h4,rfl⟩:=xG.1 hx
   obtain⟨i,hi,rfl⟩:=pA h4
   rw[uD]at hi
   have:=wz i (by omega)
   rw[pR,nG (by omega)]at this
   rw[List.getElem_take]
   simp at this
   unfold BB
   omega
end
end Go.Proofs.Wd
