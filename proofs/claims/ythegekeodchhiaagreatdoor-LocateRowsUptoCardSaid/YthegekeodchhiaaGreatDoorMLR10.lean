/- A law's arguments, opened: limbs, integers; and what a call that only  and what it needs. -/
import Derived.Test.YthegekeodchhiaaGreatDoorRows
import Derived.Test.YthegekeodchhiaaGreatDoorMLR7
import Derived.ProofKit
import Derived.Lib.SmallJoins
abbrev fU:=@List.length_take
abbrev fV:=@List.getD_eq_getElem?_getD
abbrev fW:=@List.getElem?_eq_getElem
namespace Go.Proofs.Wd
open Tryz
open Go.ChangeShapes Go.WideShapes Go.ChangeAt Go.RowKit Go.Joins Lb
theorem zNo:laidOutB prog=true:=by kernel_rfl
theorem zPk:ownKnob prog.godebug=none:=by kernel_rfl
section
variable {H:Type} {enc:TypeId×Value->H} {w:World} {base:Nat} {spare:Nat->Bool} {held:Bool}
theorem zKI (f:Int->Nat) (zs:List Int) (len:Nat) (i:Nat) (hi:i<len) (hl:len<=zs.length):lm ((zs.take len).map f) i=f (zs.getD i 0):=by
 rw [zIF (by rw [List.length_map,fU];omega)]
 rw [List.getElem_map,List.getElem_take,fV,fW (by omega)]
 rfl
theorem zOL {fuel:Nat} {v:Value} {x:DataW H×List MemPlace} (h:DataW.trod enc prog w base (fun _=>true) held fuel 23 [v]=some x): ∃A n c l,v= .slice A n c/\Rd w A n c l/\Lt l:=by
 rcases open_ints underlying23 underlying73 (by kernel_rfl) h with ⟨hcs,_⟩|⟨a,len,cap,zs,hcs,_,hl,hm,hz,_,hcell,hwz⟩
 ·obtain rfl:v= .slice none 0 0:=by simpa using hcs
  exact ⟨none,0,0, [],rfl,wL w,zCi⟩
 ·obtain rfl:v= .slice (some a) len cap:=by simpa using hcs
  simp only [if_true] at hz
  have wz: ∀i,i<len->0<=zs.getD i 0/\zs.getD i 0<4294967296:=fun i hi=>by
   have hmem:zs.getD i 0∈zs:=by
    rw [fV,fW (by omega)]
    simp
   have:=hwz _ hmem
   simp [Lit.wf,IntKind.min,IntKind.max,IntKind.signed,IntKind.bits] at this
   simp
   omega
  refine ⟨some a,len,cap,(zs.take len).map Int.toNat,rfl,⟨by rw [List.length_map,fU];omega,hl,by unfold maxLen at hm;omega,fun e=>(by cases e),fun i hi=> ?_⟩,fun x hx=> ?_⟩
  ·obtain ⟨b,off,spot⟩:=a
   have hspot:spot=none:=by simpa [Addr.add] using World.cell?_spot (hcell 0 (by omega))
   subst hspot
   refine ⟨b,off,rfl, ?_⟩
   have:=hcell i (by omega)
   rw [Addr.add_lit] at this
   rw [this,zKI _ _ _ _ hi (by omega),Int.toNat_of_nonneg (wz i hi).1]
  ·obtain ⟨z,hz1,rfl⟩:=List.mem_map.1 hx
   obtain ⟨i,hi,rfl⟩:=List.getElem_of_mem hz1
   rw [fU] at hi
   have:=wz i (by omega)
   rw [fV,fW (by omega)] at this
   rw [List.getElem_take]
   simp at this
   unfold BB
   omega
end
end Go.Proofs.Wd
