/- A tied card's argument that is a list of rationals; A tied card's argu and what it needs. -/
import Derived.Test.YthjkmdblifmkoaaGreatDoorMCQ24
import Derived.Deep.Slices
import Derived.Test.YthjkmdblifmkoaaGreatDoorMCQ21
abbrev zXa:=@List.drop_zero
abbrev zXb:=@List.drop_succ_cons
abbrev zXc:=@List.take_succ_cons
abbrev zXd:=@List.take_zero
abbrev zXe:=@List.cons.injEq
abbrev zXf:=@Go.World.cells?_some
abbrev zXg:=@List.getElem?_eq_some_iff
namespace Go.Proofs.YthjkmdblifmkoaaGreatDoor
set_option maxRecDepth 100000
open Go.ChangeShapes Go.WideShapes Go.ChangeAt Go.RowKit Go.Proofs.Wd Lb
section
variable {H:Type} {enc:TypeId×Value->H} {w:World} {base:Nat} {held:Bool}
theorem zGT {fuel:Nat} {cs:List Value} {x:DataW H×List MemPlace} (hl:cs.length=3) (h:DataW.trod enc Tryz.prog w base (fun _=>true) held fuel 29 cs=some x): ∃y:QX,(QX.cu y).p cs w/\y.n+y.n'<=Rows.uptoBulk x.1:=by
 obtain ⟨c0,c1,c2,rfl⟩: ∃c0 c1 c2,cs= [c0,c1,c2]:=by
  match cs,hl with
  | [c0,c1,c2],_=>exact ⟨c0,c1,c2,rfl⟩
 obtain ⟨y0,y1,n,hx,_,h0,h1⟩:=trod_struct2 Tryz.underlying29 h
 have hI:Tryz.prog.cellsOf 27=2:=by kernel_rfl
 have hN:Tryz.prog.cellsOf 25=1:=by kernel_rfl
 have hB:Tryz.prog.cellsOf 4=1:=by kernel_rfl
 simp only [hI,hN,zXa,zXb,zXc,zXd] at h0 h1
 obtain ⟨z0,z1,m,hx0,_,g0,g1⟩:=trod_struct2 Tryz.underlying27 h0
 simp only [hB,hN,zXa,zXb,zXc,zXd] at g0 g1
 obtain ⟨s,hs,_⟩:=DataW.trod_bool Tryz.underlying4 g0
 obtain rfl:c0= .bool s:=by simpa using hs
 obtain ⟨A,k,c,l,rfl,r1,r2,r3⟩:=zDp g1
 obtain ⟨A',k',c',l',rfl,r1',r2',r3'⟩:=zDp h1
 refine ⟨⟨k,k',iv s l,val l'⟩,⟨_,_,_,rfl,⟨s,A,c,l,rfl,r1,r2,rfl⟩,A',c',l',rfl,r1',r2',rfl⟩, ?_⟩
 subst hx
 subst hx0
 show k+k'<=Rows.uptoBulk (.agg [.agg [z0.1,z1.1],y1.1])
 simp only [Rows.uptoBulk,Rows.uptoBulkAll]
 omega
end
end Go.Proofs.YthjkmdblifmkoaaGreatDoor

namespace Go.Proofs.YthjkmdblifmkoaaGreatDoor
set_option maxRecDepth 100000
open Go.ChangeShapes Go.WideShapes Go.ChangeAt Go.RowKit Go.Proofs.Wd Lb
section
variable {H:Type} {enc:TypeId×Value->H} {w:World} {base:Nat} {held:Bool}
theorem zCn {fuel:Nat} {cs:List Value} {x:DataW H×List MemPlace} (hl:cs.length=6) (h:DataW.trod enc Tryz.prog w base (fun _=>true) held fuel 31 cs=some x): ∃y:PX,(PX.cu y).p cs w/\PX.b y<=Rows.uptoBulk x.1:=by
 obtain ⟨c0,c1,c2,c3,c4,c5,rfl⟩: ∃c0 c1 c2 c3 c4 c5,cs= [c0,c1,c2,c3,c4,c5]:=by
  match cs,hl with
  | [c0,c1,c2,c3,c4,c5],_=>exact ⟨c0,c1,c2,c3,c4,c5,rfl⟩
 obtain ⟨y0,y1,n,hx,_,h0,h1⟩:=trod_struct2 Tryz.underlying31 h
 have hR:Tryz.prog.cellsOf 29=3:=by kernel_rfl
 simp only [hR,zXa,zXb,zXc,zXd] at h0 h1
 obtain ⟨p,hp,bp⟩:=zGT rfl h0
 obtain ⟨q,hq,bq⟩:=zGT rfl h1
 have hb:PX.b (p,q)<=Rows.uptoBulk x.1:=by
  subst hx
  show p.n+p.n'+(q.n+q.n')<=Rows.uptoBulk (.agg [y0.1,y1.1])
  simp only [Rows.uptoBulk,Rows.uptoBulkAll]
  omega
 obtain ⟨s,A,a,c,A',a',c',e1⟩: ∃(s:Bool) (A:Option Addr) (a c:Nat) (A':Option Addr) (a' c':Nat), [c0,c1,c2]= [Value.bool s, .slice A a c, .slice A' a' c']:=by
  obtain ⟨b,t,u,e,⟨s,A,c,l,e',_⟩,A',c',l',e'',_⟩:=hp
  have i1:=congrArg Array.toList (jJ e)
  have i2:=congrArg Array.toList (jJ e')
  simp only [zXe,and_true] at i1 i2
  obtain ⟨rfl,rfl⟩:=i2
  subst e''
  exact ⟨s,A,_,c,A',_,c',by obtain ⟨rfl,rfl,rfl⟩:=i1;rfl⟩
 obtain ⟨s2,B,b,d,B',b',d',e2⟩: ∃(s:Bool) (A:Option Addr) (a c:Nat) (A':Option Addr) (a' c':Nat), [c3,c4,c5]= [Value.bool s, .slice A a c, .slice A' a' c']:=by
  obtain ⟨b,t,u,e,⟨s,A,c,l,e',_⟩,A',c',l',e'',_⟩:=hq
  have i1:=congrArg Array.toList (jJ e)
  have i2:=congrArg Array.toList (jJ e')
  simp only [zXe,and_true] at i1 i2
  obtain ⟨rfl,rfl⟩:=i2
  subst e''
  exact ⟨s,A,_,c,A',_,c',by obtain ⟨rfl,rfl,rfl⟩:=i1;rfl⟩
 simp only [zXe,and_true] at e1 e2
 obtain ⟨rfl,rfl,rfl⟩:=e1
 obtain ⟨rfl,rfl,rfl⟩:=e2
 exact ⟨(p,q),⟨s,A,a,c,A',a',c',s2,B,b,d,B',b',d',rfl,hp,hq⟩,hb⟩
theorem zKq {P:Program} {t e:TypeId} {z fuel:Nat} {cs:List Value} {x:DataW H×List MemPlace} {sp:Nat->Bool} (ht:P.underlying t=some (.array 3 e)) (hce:P.cellsOf e=z) (h:DataW.trod enc P w base sp held fuel t cs=some x):
  ∃y0 y1 y2 n,x=(.agg [y0.1,y1.1,y2.1],y0.2++(y1.2++y2.2))/\DataW.trod enc P w base sp held n e ((cs.drop 0).take z)=some y0/\DataW.trod enc P w base sp held n e ((cs.drop z).take z)=some y1/\DataW.trod enc P w base sp held n e ((cs.drop (2*z)).take z)=some y2:=by
 cases fuel with
 |zero=>simp [DataW.trod] at h
 | succ n=>
  unfold DataW.trod at h
  rw [ht] at h
  have r3:List.range 3= [0,1,2]:=rfl
  simp [r3,hce] at h
  obtain ⟨_,h⟩:=h
  cases h0:DataW.trod enc P w base sp held n e (cs.take z) with
  |none=>simp [h0] at h
  | some y0=>
   cases h1:DataW.trod enc P w base sp held n e ((cs.drop z).take z) with
   |none=>simp [h0,h1] at h
   | some y1=>
    cases h2:DataW.trod enc P w base sp held n e ((cs.drop (2*z)).take z) with
    |none=>simp [h0,h1,h2] at h
    |some y2=>
     simp [h0,h1,h2] at h
     exact ⟨y0,y1,y2,n,h.symm,by simpa using h0,h1,h2⟩
theorem zKs {fuel:Nat} {cs:List Value} {x:DataW H×List MemPlace} (hl:cs.length=18) (h:DataW.trod enc Tryz.prog w base (fun _=>true) held fuel 42 cs=some x): ∃y:TX,(TX.cu y).p cs w/\TX.b y<=Rows.uptoBulk x.1:=by
 obtain ⟨y0,y1,y2,n,rfl,h0,h1,h2⟩:=zKq Tryz.underlying42 (z:=6) (by kernel_rfl) h
 obtain ⟨p,hp,bp⟩:=zCn (by simp;omega) h0
 obtain ⟨q,hq,bq⟩:=zCn (by simp;omega) h1
 obtain ⟨r,hr,br⟩:=zCn (by simp;omega) h2
 refine ⟨(p,q,r),⟨(cs.drop 0).take 6,(cs.drop 6).take 6,(cs.drop 12).take 6, ?_,hp,hq,hr⟩, ?_⟩
 ·congr 2
  rw [zXa]
  have e1:cs=cs.take 6++cs.drop 6:=(List.take_append_drop 6 cs).symm
  have e2:cs.drop 6=(cs.drop 6).take 6++cs.drop 12:=by
   have:=(List.take_append_drop 6 (cs.drop 6)).symm
   rwa [List.drop_drop] at this
  have e3:(cs.drop 12).take 6=cs.drop 12:=List.take_of_length_le (by simp;omega)
  rw [e3,List.append_assoc, <-e2, <-e1]
 ·show PX.b p+PX.b q+PX.b r<=Rows.uptoBulk (.agg [y0.1,y1.1,y2.1])
  simp only [Rows.uptoBulk,Rows.uptoBulkAll]
  omega
theorem zKN {α:Type} [Inhabited α] {t e:TypeId} {z:Nat} (f:α->CU) (bd:α->Nat) (ht:Tryz.prog.underlying t=some (.slice e)) (hC:Tryz.prog.cellsOf e=z) (hz:0<z)
  (hcell: ∀(fuel:Nat) (cs:List Value) (x:DataW H×List MemPlace),cs.length=z->DataW.trod enc Tryz.prog w base (fun _=>true) held fuel e cs=some x-> ∃y,(f y).p cs w/\bd y<=Rows.uptoBulk x.1)
  {r:Reach} {b0:Nat} {v:Value} {d:DataW H} {p:List MemPlace} (hv:Value.okWide Tryz.prog w r b0 t v) (h:DataW.Trod enc Tryz.prog w base (fun _=>true) held t v d p): ∃L:List α,(SF.row z (L.map f)).p v w/\L.length<=Rows.uptoBulk d/\ ∀x,x∈L->bd x<=Rows.uptoBulk d:=by
 obtain ⟨a,len,cap,rfl⟩:=okWide_slice ht hv
 obtain ⟨fuel,h⟩:=h
 rcases Go.Deep.open_slice ht h with ⟨hcs,_⟩|⟨a',len',cap',m,n,D,Pl,hcs,_,hl,hm,hmm,hxx,hx⟩
 ·cases hcs
  exact ⟨[],⟨none,0,rfl,Nat.le_refl _,Nat.zero_le _,fun _=>rfl,fun i C hi=>by simp at hi⟩,Nat.zero_le _,fun x hx=>by cases hx⟩
 ·cases hcs
  simp only [if_true] at hmm
  rw [hC] at hx
  have each: ∀i,i<len-> ∃y:α×List Value,w.cells? base (a'.add (i*z)) z=some y.2/\(f y.1).p y.2 w/\bd y.1<=Rows.uptoBulk (D i):=fun i hi=>by
   obtain ⟨cs,h1,h2⟩:=hx i (by omega)
   obtain ⟨_,h3,_⟩:=zXf h1
   obtain ⟨y,h4,h5⟩:=hcell _ _ _ h3 h2
   exact ⟨(y,cs),h1,h4,h5⟩
  obtain ⟨y,hy⟩:=Go.Deep.choose_lt each
  simp only [Prod.mk.injEq] at hxx
  refine ⟨(List.range len).map fun i=>(y i).1,⟨some a',cap,by simp,by simpa using hl,by unfold maxLen at hm;omega,fun e=>(by cases e),fun i C hi=> ?_⟩, ?_,fun x hx'=> ?_⟩
  ·have hlt:i<len:=by
    have:=(zXg.1 hi).1
    simpa using this
   obtain rfl:f (y i).1=C:=by simpa [hlt] using hi
   obtain ⟨h1,h2,h3⟩:=hy i hlt
   obtain ⟨_,h4,h5⟩:=zXf h1
   obtain ⟨b,off,spot⟩:=a'
   have h6:spot=none:=by
    obtain ⟨_,q4,q5⟩:=zXf (hy 0 (by omega)).1
    have h7:=q5 0 (by omega)
    rw [List.getElem?_eq_getElem (by omega)] at h7
    simpa [Addr.add] using World.cell?_spot h7
   subst h6
   refine ⟨b,off,(y i).2,rfl,fun j u hj=> ?_,h2⟩
   have h7:=h5 j (by have:=(zXg.1 hj).1;omega)
   rw [hj,Addr.add_lit,Addr.add_lit] at h7
   exact h7
  ·rw [hxx.1]
   have:=zPr ((List.range len).map D)
   simp only [Rows.uptoBulk,List.length_map,List.length_range] at this ⊢
   omega
  ·obtain ⟨i,hi,rfl⟩:=List.mem_map.1 hx'
   have hlt:=List.mem_range.1 hi
   have h3:=(hy i hlt).2.2
   have h4:Rows.uptoBulk (D i)<=Rows.uptoBulkAll ((List.range len).map D):=zMz (List.mem_map.2 ⟨i,hi,rfl⟩)
   rw [hxx.1]
   simp only [Rows.uptoBulk]
   omega
theorem zB6 {l:List (DataW H)} (hk:Rows.uptoSmall H l=true) {d:DataW H} (h:d∈l):Rows.uptoBulk d<=1048576:=by
 have h1:Rows.uptoBulkAll l<=1048576:=by simpa [Rows.uptoSmall] using hk
 have:=zMz h
 omega
theorem zLi {r:Reach} {b0:Nat} {v:Value} {d:DataW H} {p:List MemPlace} (hv:Value.okWide Tryz.prog w r b0 31 v) (h:DataW.Trod enc Tryz.prog w base (fun _=>true) held 31 v d p): ∃x:PX,x.u.p v w/\PX.b x<=Rows.uptoBulk d:=by
 obtain ⟨cs,rfl,hsz⟩:=okWide_struct Tryz.underlying31 hv
 have hC:Tryz.prog.cellsOf 31=6:=by kernel_rfl
 obtain ⟨fuel,hf⟩:=h
 obtain ⟨y,hy,hb⟩:=zCn (cs:=cs.toList) (hsz.trans hC) hf
 exact ⟨y,hy,hb⟩
instance:Inhabited QX:=⟨⟨0,0,0,0⟩⟩
theorem zNM {r:Reach} {b0:Nat} {v:Value} {d:DataW H} {p:List MemPlace} (hv:Value.okWide Tryz.prog w r b0 22 v) (h:DataW.Trod enc Tryz.prog w base (fun _=>true) held 22 v d p): ∃L:List PX,(SF.row 6 (pxs L)).p v w/\L.length<=Rows.uptoBulk d/\ ∀x,x∈L->PX.b x<=Rows.uptoBulk d:=
 zKN PX.cu PX.b Tryz.underlying22 (by kernel_rfl) (by decide) (fun _ _ _ hl h=>zCn hl h) hv h
theorem zKr {r:Reach} {b0:Nat} {v:Value} {d:DataW H} {p:List MemPlace} (hv:Value.okWide Tryz.prog w r b0 23 v) (h:DataW.Trod enc Tryz.prog w base (fun _=>true) held 23 v d p): ∃L:List TX,(SF.row 18 (txs L)).p v w/\L.length<=Rows.uptoBulk d/\ ∀x,x∈L->TX.b x<=Rows.uptoBulk d:=
 zKN TX.cu TX.b Tryz.underlying23 (by kernel_rfl) (by decide) (fun _ _ _ hl h=>zKs hl h) hv h
section
variable {P:Program} {sp:Nat->Bool}
theorem zGE {t t' t2 t3 t4:TypeId} {args:Array Value} {ds:List (DataW H)} {ps:List MemPlace} (h:DataW.TrodAll enc P w base sp held [t,t',t2,t3,t4] args.toList ds ps):
  ∃v v' v2 v3 v4 d d' d2 d3 d4 p p' p2 p3 p4,args=#[v,v',v2,v3,v4]/\ds= [d,d',d2,d3,d4]/\ps=p++p'++p2++p3++p4/\DataW.Trod enc P w base sp held t v d p/\DataW.Trod enc P w base sp held t' v' d' p'/\DataW.Trod enc P w base sp held t2 v2 d2 p2/\DataW.Trod enc P w base sp held t3 v3 d3 p3/\DataW.Trod enc P w base sp held t4 v4 d4 p4:=by
 obtain ⟨v,vs,d,ds',p,q,hargs,rfl,rfl,hd,hrest⟩:=trodAll_cons h
 obtain ⟨v',vs',d',dsb,p',q',rfl,rfl,rfl,hd',hrest'⟩:=trodAll_cons hrest
 obtain ⟨v2,vs2,d2,ds2,p2,q2,rfl,rfl,rfl,hd2,hrest2⟩:=trodAll_cons hrest'
 obtain ⟨v3,vs3,d3,ds3,p3,q3,rfl,rfl,rfl,hd3,hrest3⟩:=trodAll_cons hrest2
 obtain ⟨v4,vs4,d4,ds4,p4,q4,rfl,rfl,rfl,hd4,hrest4⟩:=trodAll_cons hrest3
 obtain ⟨rfl,rfl,rfl⟩:=trodAll_nil hrest4
 exact ⟨v,v',v2,v3,v4,d,d',d2,d3,d4,p,p',p2,p3,p4,by cases args;simp_all,rfl,by simp,hd,hd',hd2,hd3,hd4⟩
theorem zHG {t t' t2 t3 t4:TypeId} {v v' v2 v3 v4:Value} {d d' d2 d3 d4:DataW H} {p p' p2 p3 p4:List MemPlace} (h:DataW.Trod enc P w base sp held t v d p) (h':DataW.Trod enc P w base sp held t' v' d' p')
  (h2:DataW.Trod enc P w base sp held t2 v2 d2 p2) (h3:DataW.Trod enc P w base sp held t3 v3 d3 p3) (h4:DataW.Trod enc P w base sp held t4 v4 d4 p4):DataW.TrodAll enc P w base sp held [t,t',t2,t3,t4] [v,v',v2,v3,v4] [d,d',d2,d3,d4] (p++(p'++(p2++(p3++p4)))):=⟨p,p'++(p2++(p3++p4)),h,trodAll_mk4 h' h2 h3 h4,rfl⟩
end
end
end Go.Proofs.YthjkmdblifmkoaaGreatDoor
