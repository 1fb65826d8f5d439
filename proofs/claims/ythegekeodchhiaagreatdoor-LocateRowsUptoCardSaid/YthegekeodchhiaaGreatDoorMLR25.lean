/- A tied card's argument that is a list of rationals; A tied card's argu and what it needs. -/
import Derived.Test.YthegekeodchhiaaGreatDoorMLR24
import Derived.Deep.Slices
import Derived.Test.YthegekeodchhiaaGreatDoorMLR20
abbrev zW4:=@Go.World.cells?_some
abbrev zW5:=@List.getElem?_eq_some_iff
namespace Go.Proofs.YthegekeodchhiaaGreatDoor
set_option maxRecDepth 100000
open Go.ChangeShapes Go.WideShapes Go.ChangeAt Go.RowKit Go.Proofs.Wd Lb
section
variable {H:Type} {enc:TypeId×Value->H} {w:World} {base:Nat} {held:Bool}
theorem zLJ {fuel:Nat} {cs:List Value} {x:DataW H×List MemPlace} (hl:cs.length=3) (h:DataW.trod enc Tryz.prog w base (fun _=>true) held fuel 27 cs=some x): ∃y:QX,(QX.cu y).p cs w/\y.n+y.n'<=Rows.uptoBulk x.1:=by
 obtain ⟨c0,c1,c2,rfl⟩: ∃c0 c1 c2,cs= [c0,c1,c2]:=by
  match cs,hl with
  | [c0,c1,c2],_=>exact ⟨c0,c1,c2,rfl⟩
 obtain ⟨y0,y1,n,hx,_,h0,h1⟩:=trod_struct2 Tryz.underlying27 h
 have hI:Tryz.prog.cellsOf 25=2:=by kernel_rfl
 have hN:Tryz.prog.cellsOf 23=1:=by kernel_rfl
 have hB:Tryz.prog.cellsOf 4=1:=by kernel_rfl
 simp only [hI,hN,List.drop_zero,List.drop_succ_cons,List.take_succ_cons,List.take_zero] at h0 h1
 obtain ⟨z0,z1,m,hx0,_,g0,g1⟩:=trod_struct2 Tryz.underlying25 h0
 simp only [hB,hN,List.drop_zero,List.drop_succ_cons,List.take_succ_cons,List.take_zero] at g0 g1
 obtain ⟨s,hs,_⟩:=DataW.trod_bool Tryz.underlying4 g0
 obtain rfl:c0= .bool s:=by simpa using hs
 obtain ⟨A,k,c,l,rfl,r1,r2,r3⟩:=zDJ g1
 obtain ⟨A',k',c',l',rfl,r1',r2',r3'⟩:=zDJ h1
 refine ⟨⟨k,k',iv s l,val l'⟩,⟨_,_,_,rfl,⟨s,A,c,l,rfl,r1,r2,rfl⟩,A',c',l',rfl,r1',r2',rfl⟩, ?_⟩
 subst hx
 subst hx0
 show k+k'<=Rows.uptoBulk (.agg [.agg [z0.1,z1.1],y1.1])
 simp only [Rows.uptoBulk,Rows.uptoBulkAll]
 omega
end
end Go.Proofs.YthegekeodchhiaaGreatDoor

namespace Go.Proofs.YthegekeodchhiaaGreatDoor
set_option maxRecDepth 100000
open Go.ChangeShapes Go.WideShapes Go.ChangeAt Go.RowKit Go.Proofs.Wd Lb
section
variable {H:Type} {enc:TypeId×Value->H} {w:World} {base:Nat} {held:Bool}
theorem zQF {α:Type} [Inhabited α] {t e:TypeId} {z:Nat} (f:α->CU) (bd:α->Nat) (ht:Tryz.prog.underlying t=some (.slice e)) (hC:Tryz.prog.cellsOf e=z) (hz:0<z)
  (hcell: ∀(fuel:Nat) (cs:List Value) (x:DataW H×List MemPlace),cs.length=z->DataW.trod enc Tryz.prog w base (fun _=>true) held fuel e cs=some x-> ∃y,(f y).p cs w/\bd y<=Rows.uptoBulk x.1)
  {r:Reach} {b0:Nat} {v:Value} {d:DataW H} {p:List MemPlace} (hv:Value.okWide Tryz.prog w r b0 t v) (h:DataW.Trod enc Tryz.prog w base (fun _=>true) held t v d p): ∃L:List α,(SF.row z (L.map f)).p v w/\L.length<=Rows.uptoBulk d/\ ∀x,x∈L->bd x<=Rows.uptoBulk d:=by
 obtain ⟨a,len,cap,rfl⟩:=okWide_slice ht hv
 obtain ⟨fuel,h⟩:=h
 rcases Go.Deep.open_slice ht h with ⟨hcs,_⟩|⟨a',len',cap',m,n,D,Pl,hcs,_,hl,hm,hmm,hxx,hx⟩
 ·cases hcs
  exact ⟨[],⟨none,0,rfl,Nat.le_refl _,Nat.zero_le _,fun _=>rfl,fun i C hi=>by simp at hi⟩,Nat.zero_le _,fun x hx=>by cases hx⟩
 ·cases hcs
  simp only [if_true] at hmm
  rw [hC] at hx
  have each: ∀i,i<len-> ∃y:α×List Value,w.cells? base (a'.add (i*z)) z=some y.2/\(f y.1).p y.2 w/\bd y.1<=Rows.uptoBulk (D i):=fun i hi=>by
   obtain ⟨cs,h1,h2⟩:=hx i (by omega)
   obtain ⟨_,h3,_⟩:=zW4 h1
   obtain ⟨y,h4,h5⟩:=hcell _ _ _ h3 h2
   exact ⟨(y,cs),h1,h4,h5⟩
  obtain ⟨y,hy⟩:=Go.Deep.choose_lt each
  simp only [Prod.mk.injEq] at hxx
  refine ⟨(List.range len).map fun i=>(y i).1,⟨some a',cap,by simp,by simpa using hl,by unfold maxLen at hm;omega,fun e=>(by cases e),fun i C hi=> ?_⟩, ?_,fun x hx'=> ?_⟩
  ·have hlt:i<len:=by
    have:=(zW5.1 hi).1
    simpa using this
   obtain rfl:f (y i).1=C:=by simpa [hlt] using hi
   obtain ⟨h1,h2,h3⟩:=hy i hlt
   obtain ⟨_,h4,h5⟩:=zW4 h1
   obtain ⟨b,off,spot⟩:=a'
   have h6:spot=none:=by
    obtain ⟨_,q4,q5⟩:=zW4 (hy 0 (by omega)).1
    have h7:=q5 0 (by omega)
    rw [List.getElem?_eq_getElem (by omega)] at h7
    simpa [Addr.add] using World.cell?_spot h7
   subst h6
   refine ⟨b,off,(y i).2,rfl,fun j u hj=> ?_,h2⟩
   have h7:=h5 j (by have:=(zW5.1 hj).1;omega)
   rw [hj,Addr.add_lit,Addr.add_lit] at h7
   exact h7
  ·rw [hxx.1]
   have:=zP4 ((List.range len).map D)
   simp only [Rows.uptoBulk,List.length_map,List.length_range] at this ⊢
   omega
  ·obtain ⟨i,hi,rfl⟩:=List.mem_map.1 hx'
   have hlt:=List.mem_range.1 hi
   have h3:=(hy i hlt).2.2
   have h4:Rows.uptoBulk (D i)<=Rows.uptoBulkAll ((List.range len).map D):=zIR (List.mem_map.2 ⟨i,hi,rfl⟩)
   rw [hxx.1]
   simp only [Rows.uptoBulk]
   omega
theorem zKe {l:List (DataW H)} (hk:Rows.uptoSmall H l=true) {d:DataW H} (h:d∈l):Rows.uptoBulk d<=1048576:=by
 have h1:Rows.uptoBulkAll l<=1048576:=by simpa [Rows.uptoSmall] using hk
 have:=zIR h
 omega
instance:Inhabited QX:=⟨⟨0,0,0,0⟩⟩
section
variable {P:Program} {sp:Nat->Bool}
end
end
end Go.Proofs.YthegekeodchhiaaGreatDoor

namespace Go.Proofs.YthegekeodchhiaaGreatDoor
set_option maxRecDepth 100000
open Go.ChangeShapes Go.WideShapes Go.ChangeAt Go.RowKit Go.Proofs.Wd Lb
section
variable {H:Type} {enc:TypeId×Value->H} {w:World} {base:Nat} {held:Bool}
theorem zLH {r:Reach} {b0:Nat} {v:Value} {d:DataW H} {p:List MemPlace} (hv:Value.okWide Tryz.prog w r b0 28 v) (h:DataW.Trod enc Tryz.prog w base (fun _=>true) held 28 v d p): ∃L:List QX,(SF.row 3 (L.map QX.cu)).p v w/\L.length<=Rows.uptoBulk d/\ ∀x,x∈L->x.n+x.n'<=Rows.uptoBulk d:=
 haveI:Inhabited QX:=⟨⟨0,0,0,0⟩⟩
 zQF QX.cu (fun x=>x.n+x.n') Tryz.underlying28 (by kernel_rfl) (by decide) (fun _ _ _ hl h=>zLJ hl h) hv h
end
end Go.Proofs.YthegekeodchhiaaGreatDoor
