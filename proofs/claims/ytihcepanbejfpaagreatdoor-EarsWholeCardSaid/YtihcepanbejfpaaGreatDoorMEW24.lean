/- A tied card's argument that is a rational, and how great the row's bou and what it needs. -/
import Derived.Test.YtihcepanbejfpaaGreatDoorMEW23
import Derived.Deep.DeepHandedRow
namespace Go.Proofs.YtihcepanbejfpaaGreatDoor
open Go.ChangeShapes Go.WideShapes Go.ChangeAt Go.RowKit Go.Proofs.Wd Lb
section
variable {H:Type}
theorem zS1(l:List (DataW H)):l.length<=Rows.uptoBulkAll l:=by
 induction l with
 |nil=>simp[Rows.uptoBulkAll]
 | cons x r ih=>
  have:1<=Rows.uptoBulk x:=by
   cases x with
   |lit l=>cases l<;>simp[Rows.uptoBulk]
   |nil=>simp[Rows.uptoBulk]
   |ptr d=>simp[Rows.uptoBulk]
   |slice elems spare=>simp[Rows.uptoBulk]
   |agg parts=>simp[Rows.uptoBulk]
   |iface t d=>simp[Rows.uptoBulk]
   |map entries=>simp[Rows.uptoBulk]
   |held h=>simp[Rows.uptoBulk]
  simp only[Rows.uptoBulkAll,lU]
  omega
theorem zUZ{d:DataW H}{l:List (DataW H)}(h:d∈l):Rows.uptoBulk d<=Rows.uptoBulkAll l:=by
 induction l with
 |nil=>cases h
 |cons x r ih=>
  simp only[Rows.uptoBulkAll]
  cases xS.1 h with
  |inl e=>subst e;omega
  |inr e=>have:=ih e;omega
variable {enc:TypeId×Value->H}{w:World}{base:Nat}{held:Bool}
theorem zJp{fuel:Nat}{v:Value}{x:DataW H×List MemPlace}(h:DataW.trod enc Tryz.prog w base (fun _=>true) held fuel 24 [v]=some x):∃A n c l,v=.slice A n c/\Rd w A n c l/\Lt l/\n<=Rows.uptoBulk x.1:=by
 obtain⟨A,n,c,l,rfl,J,h2⟩:=zRf h
 refine⟨A,n,c,l,rfl,J,h2,?_⟩
 rcases open_ints Tryz.underlying24 Tryz.underlying69 fJ h with⟨I,_⟩|⟨a,len,cap,zs,I,_,hl,hm,O,U,_,_⟩
 .simp only[tN,Value.slice.injEq]at I
  omega
 .simp only[tN,Value.slice.injEq]at I
  simp only[cG]at O
  subst U
  have h3:=zS1 (lits (H:=H) .u32 (zs.take len))
  have h4:(lits (H:=H) .u32 (zs.take len)).length=len:=by simp[lits];omega
  show n<=Rows.uptoBulk (.slice _ _)
  simp only[Rows.uptoBulk]
  omega
end
end Go.Proofs.YtihcepanbejfpaaGreatDoor
