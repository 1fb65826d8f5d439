/- A tied card's argument that is a rational, and how great the row's bou and what it needs. -/
import Derived.Test.YthegekeodchhiaaGreatDoorMLR23
import Derived.Test.YthegekeodchhiaaGreatDoorMLR20
import Derived.ChangeSame
import Derived.Deep.DeepHandedRow
namespace Go.Proofs.YthegekeodchhiaaGreatDoor
set_option maxRecDepth 100000
open Go.ChangeShapes Go.WideShapes Go.ChangeAt Go.RowKit Go.Proofs.Wd Lb
section
variable {H:Type}
theorem zP4 (l:List (DataW H)):l.length<=Rows.uptoBulkAll l:=by
 induction l with
 |nil=>simp [Rows.uptoBulkAll]
 | cons x r ih=>
  have:1<=Rows.uptoBulk x:=by
   cases x with
   |lit l=>cases l<;>simp [Rows.uptoBulk]
   |nil=>simp [Rows.uptoBulk]
   |ptr d=>simp [Rows.uptoBulk]
   |slice elems spare=>simp [Rows.uptoBulk]
   |agg parts=>simp [Rows.uptoBulk]
   |iface t d=>simp [Rows.uptoBulk]
   |map entries=>simp [Rows.uptoBulk]
   |held h=>simp [Rows.uptoBulk]
  simp only [Rows.uptoBulkAll,List.length_cons]
  omega
theorem zIR {d:DataW H} {l:List (DataW H)} (h:d∈l):Rows.uptoBulk d<=Rows.uptoBulkAll l:=by
 induction l with
 |nil=>cases h
 |cons x r ih=>
  simp only [Rows.uptoBulkAll]
  cases List.mem_cons.1 h with
  |inl e=>subst e;omega
  |inr e=>have:=ih e;omega
theorem zPg {l:List (DataW H)} (hk:Rows.uptoSmall H l=true) {d:DataW H} (h:d∈l):Rows.uptoBulk d<9223372036854775808:=by
 have h1:Rows.uptoBulkAll l<=1048576:=by simpa [Rows.uptoSmall] using hk
 have:=zIR h
 omega
variable {enc:TypeId×Value->H} {w:World} {base:Nat} {held:Bool}
theorem zDJ {fuel:Nat} {v:Value} {x:DataW H×List MemPlace} (h:DataW.trod enc Tryz.prog w base (fun _=>true) held fuel 23 [v]=some x): ∃A n c l,v= .slice A n c/\Rd w A n c l/\Lt l/\n<=Rows.uptoBulk x.1:=by
 obtain ⟨A,n,c,l,rfl,h1,h2⟩:=zOL h
 refine ⟨A,n,c,l,rfl,h1,h2, ?_⟩
 rcases open_ints Tryz.underlying23 Tryz.underlying73 (by kernel_rfl) h with ⟨hcs,_⟩|⟨a,len,cap,zs,hcs,_,hl,hm,hz,hx,_,_⟩
 ·simp only [List.cons.injEq,Value.slice.injEq] at hcs
  omega
 ·simp only [List.cons.injEq,Value.slice.injEq] at hcs
  simp only [if_true] at hz
  subst hx
  have h3:=zP4 (lits (H:=H) .u32 (zs.take len))
  have h4:(lits (H:=H) .u32 (zs.take len)).length=len:=by simp [lits];omega
  show n<=Rows.uptoBulk (.slice _ _)
  simp only [Rows.uptoBulk]
  omega
theorem zQO {r:Reach} {b0:Nat} {v:Value} {d:DataW H} {p:List MemPlace} (hv:Value.okWide Tryz.prog w r b0 27 v) (h:DataW.Trod enc Tryz.prog w base (fun _=>true) held 27 v d p):
  ∃x:QX,QXp x.n x.n' x.k x.d v w/\x.n+x.n'<=Rows.uptoBulk d:=by
 obtain ⟨cs,rfl,hsz⟩:=okWide_struct Tryz.underlying27 hv
 have hC:Tryz.prog.cellsOf 27=3:=by kernel_rfl
 obtain ⟨c0,c1,c2,rfl⟩:=Go.Joins.array3 (hsz.trans hC)
 obtain ⟨fuel,hf⟩:=h
 obtain ⟨y0,y1,n,hx,_,h0,h1⟩:=trod_struct2 Tryz.underlying27 hf
 have hI:Tryz.prog.cellsOf 25=2:=by kernel_rfl
 have hN:Tryz.prog.cellsOf 23=1:=by kernel_rfl
 have hB:Tryz.prog.cellsOf 4=1:=by kernel_rfl
 simp only [hI,hN,Value.cells,List.drop_zero,List.drop_succ_cons,List.take_succ_cons,List.take_zero] at h0 h1
 obtain ⟨z0,z1,m,hx0,_,g0,g1⟩:=trod_struct2 Tryz.underlying25 h0
 simp only [hB,hN,List.drop_zero,List.drop_succ_cons,List.take_succ_cons,List.take_zero] at g0 g1
 obtain ⟨s,hs,_⟩:=DataW.trod_bool Tryz.underlying4 g0
 obtain rfl:c0= .bool s:=by simpa using hs
 obtain ⟨A,k,c,l,rfl,r1,r2,r3⟩:=zDJ g1
 obtain ⟨A',k',c',l',rfl,r1',r2',r3'⟩:=zDJ h1
 refine ⟨⟨k,k',iv s l,val l'⟩,⟨_,_,_,rfl,⟨s,A,c,l,rfl,r1,r2,rfl⟩,A',c',l',rfl,r1',r2',rfl⟩, ?_⟩
 simp only [Prod.mk.injEq] at hx
 rw [hx.1]
 subst hx0
 show k+k'<=Rows.uptoBulk (.agg [.agg [z0.1,z1.1],y1.1])
 simp only [Rows.uptoBulk,Rows.uptoBulkAll]
 omega
end
end Go.Proofs.YthegekeodchhiaaGreatDoor
