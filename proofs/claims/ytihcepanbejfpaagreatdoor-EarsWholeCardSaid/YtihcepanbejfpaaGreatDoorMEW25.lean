/- strait/straitlaw16.EarsWhole returns true at every input, and its arguments read as before; the tied card. -/
import Derived.Test.YtihcepanbejfpaaGreatDoorMEW24
import Derived.Test.YtihcepanbejfpaaGreatDoorMEW22
abbrev zZ5:=@List.drop_succ_cons
abbrev zZ6:=@List.take_succ_cons
abbrev zZ7:=@Go.World.cells?_some
namespace Go.Proofs.YtihcepanbejfpaaGreatDoor
variable {b0 fuel:Nat}{cs:List Value}{r:Reach}{v:Value}{p:List MemPlace}
set_option maxRecDepth 100000
open Go.ChangeShapes Go.WideShapes Go.ChangeAt Go.RowKit Go.Proofs.Wd Lb
section
variable {H:Type}{enc:TypeId×Value->H}{w:World}{base:Nat}{held:Bool}
theorem zIZ{x:DataW H×List MemPlace}(hl:cs.length=3)(h:DataW.trod enc Tryz.prog w base (fun _=>true) held fuel 28 cs=some x):∃y:QX,(QX.cu y).p cs w/\y.n+y.n'<=Rows.uptoBulk x.1:=by
 obtain⟨c0,c1,c2,rfl⟩:∃c0 c1 c2,cs=[c0,c1,c2]:=by
  match cs,hl with
  | [c0,c1,c2],_=>exact⟨c0,c1,c2,rfl⟩
 obtain⟨y0,y1,n,hx,_,h0,h1⟩:=trod_struct2 Tryz.underlying28 h
 have hI:Tryz.prog.cellsOf 26=2:=fJ
 have hN:Tryz.prog.cellsOf 24=1:=fJ
 have hB:Tryz.prog.cellsOf 4=1:=fJ
 simp only[hI,hN,nJ,zZ5,zZ6,mC]at h0 h1
 obtain⟨z0,z1,m,I,_,g0,U⟩:=trod_struct2 Tryz.underlying26 h0
 simp only[hB,hN,nJ,zZ5,zZ6,mC]at g0 U
 obtain⟨s,hs,_⟩:=DataW.trod_bool Tryz.underlying4 g0
 obtain rfl:c0=.bool s:=by simpa using hs
 obtain⟨A,k,c,l,rfl,r1,r2,r3⟩:=zJp U
 obtain⟨A',k',c',l',rfl,J,O,r3'⟩:=zJp h1
 refine⟨⟨k,k',iv s l,val l'⟩,⟨_,_,_,rfl,⟨s,A,c,l,rfl,r1,r2,rfl⟩,A',c',l',rfl,J,O,rfl⟩,?_⟩
 subst hx
 subst I
 show k+k'<=Rows.uptoBulk (.agg [.agg [z0.1,z1.1],y1.1])
 simp only[Rows.uptoBulk,Rows.uptoBulkAll]
 omega
end
section
variable {H:Type}{enc:TypeId×Value->H}{w:World}{base:Nat}{held:Bool}
theorem zJa{x:DataW H×List MemPlace}(hl:cs.length=6)(h:DataW.trod enc Tryz.prog w base (fun _=>true) held fuel 30 cs=some x):∃y:PX,(PX.cu y).p cs w/\PX.b y<=Rows.uptoBulk x.1:=by
 obtain⟨c0,c1,c2,c3,c4,c5,rfl⟩:∃c0 c1 c2 c3 c4 c5,cs=[c0,c1,c2,c3,c4,c5]:=by
  match cs,hl with
  | [c0,c1,c2,c3,c4,c5],_=>exact⟨c0,c1,c2,c3,c4,c5,rfl⟩
 obtain⟨y0,y1,n,hx,_,h0,h1⟩:=trod_struct2 Tryz.underlying30 h
 have hR:Tryz.prog.cellsOf 28=3:=fJ
 simp only[hR,nJ,zZ5,zZ6,mC]at h0 h1
 obtain⟨p,hp,bp⟩:=zIZ rfl h0
 obtain⟨q,U,bq⟩:=zIZ rfl h1
 have hb:PX.b (p,q)<=Rows.uptoBulk x.1:=by
  subst hx
  show p.n+p.n'+(q.n+q.n')<=Rows.uptoBulk (.agg [y0.1,y1.1])
  simp only[Rows.uptoBulk,Rows.uptoBulkAll]
  omega
 obtain⟨s,A,a,c,A',a',c',e1⟩:∃(s:Bool) (A:Option Addr) (a c:Nat) (A':Option Addr) (a' c':Nat), [c0,c1,c2]=[Value.bool s,.slice A a c,.slice A' a' c']:=by
  obtain⟨b,t,u,e,⟨s,A,c,l,e',_⟩,A',c',l',I,_⟩:=hp
  have J:=vR Array.toList (jX e)
  have O:=vR Array.toList (jX e')
  simp only[tN,nP]at J O
  obtain⟨rfl,rfl⟩:=O
  subst I
  exact⟨s,A,_,c,A',_,c',by obtain⟨rfl,rfl,rfl⟩:=J;rfl⟩
 obtain⟨s2,B,b,d,B',b',d',e2⟩:∃(s:Bool) (A:Option Addr) (a c:Nat) (A':Option Addr) (a' c':Nat), [c3,c4,c5]=[Value.bool s,.slice A a c,.slice A' a' c']:=by
  obtain⟨b,t,u,e,⟨s,A,c,l,e',_⟩,A',c',l',I,_⟩:=U
  have J:=vR Array.toList (jX e)
  have O:=vR Array.toList (jX e')
  simp only[tN,nP]at J O
  obtain⟨rfl,rfl⟩:=O
  subst I
  exact⟨s,A,_,c,A',_,c',by obtain⟨rfl,rfl,rfl⟩:=J;rfl⟩
 simp only[tN,nP]at e1 e2
 obtain⟨rfl,rfl,rfl⟩:=e1
 obtain⟨rfl,rfl,rfl⟩:=e2
 exact⟨(p,q),⟨s,A,a,c,A',a',c',s2,B,b,d,B',b',d',rfl,hp,U⟩,hb⟩
theorem zTH{α:Type} [Inhabited α] {t e:TypeId}{z:Nat}(f:α->CU)(bd:α->Nat)(ht:Tryz.prog.underlying t=some (.slice e))(hC:Tryz.prog.cellsOf e=z)(hz:0<z)
  (O:∀(fuel:Nat) (cs:List Value) (x:DataW H×List MemPlace),cs.length=z->DataW.trod enc Tryz.prog w base (fun _=>true) held fuel e cs=some x->∃y,(f y).p cs w/\bd y<=Rows.uptoBulk x.1)
  {r:Reach}{b0:Nat}{v:Value}{d:DataW H}{p:List MemPlace}(hv:Value.okWide Tryz.prog w r b0 t v)(h:DataW.Trod enc Tryz.prog w base (fun _=>true) held t v d p):∃L:List α,(SF.row z (L.map f)).p v w/\L.length<=Rows.uptoBulk d/\∀x,x∈L->bd x<=Rows.uptoBulk d:=by
 obtain⟨a,len,cap,rfl⟩:=okWide_slice ht hv
 obtain⟨fuel,h⟩:=h
 rcases Go.Deep.open_slice ht h with⟨J,_⟩|⟨a',len',cap',m,n,D,Pl,J,_,hl,hm,hk,U,hx⟩
 .cases J
  exact⟨[],⟨none,0,rfl,vQ _,vS _,fun _=>rfl,fun i C hi=>by simp at hi⟩,vS _,fun x hx=>by cases hx⟩
 .cases J
  simp only[cG]at hk
  rw[hC]at hx
  have h8:∀i,i<len->∃y:α×List Value,w.cells? base (a'.add (i*z)) z=some y.2/\(f y.1).p y.2 w/\bd y.1<=Rows.uptoBulk (D i):=fun i hi=>by
   obtain⟨cs,h1,h2⟩:=hx i oA
   obtain⟨_,h3,_⟩:=zZ7 h1
   obtain⟨y,h4,h5⟩:=O _ _ _ h3 h2
   exact⟨(y,cs),h1,h4,h5⟩
  obtain⟨y,hy⟩:=Go.Deep.choose_lt h8
  simp only[tL]at U
  refine⟨(List.range len).map fun i=>(y i).1,⟨some a',cap,fG,by simpa using hl,by unfold maxLen at hm;omega,fun e=>(by cases e),fun i C hi=>?_⟩,?_,fun x he=>?_⟩
  .have I:i<len:=by
    have:=(bE.1 hi).1
    simpa using this
   obtain rfl:f (y i).1=C:=by simpa[I]using hi
   obtain⟨h1,h2,h3⟩:=hy i I
   obtain⟨_,h4,h5⟩:=zZ7 h1
   obtain⟨b,off,h0⟩:=a'
   have h6:h0=none:=by
    obtain⟨_,q4,q5⟩:=zZ7 (hy 0 oA).1
    have h7:=q5 0 oA
    rw[nE oA]at h7
    simpa[Addr.add]using World.cell?_spot h7
   subst h6
   refine⟨b,off,(y i).2,rfl,fun j u hj=>?_,h2⟩
   have h7:=h5 j (by have:=(bE.1 hj).1;omega)
   rw[hj,xI,xI]at h7
   exact h7
  .rw[U.1]
   have:=zS1 ((List.range len).map D)
   simp only[Rows.uptoBulk,bF,List.length_range]at this ⊢
   omega
  .obtain⟨i,hi,rfl⟩:=xH.1 he
   have I:=xU.1 hi
   have h3:=(hy i I).2.2
   have h4:Rows.uptoBulk (D i)<=Rows.uptoBulkAll ((List.range len).map D):=zUZ (xH.2 ⟨i,hi,rfl⟩)
   rw[U.1]
   simp only[Rows.uptoBulk]
   omega
theorem zUc{d:DataW H}(O:Value.okWide Tryz.prog w r b0 30 v)(h:DataW.Trod enc Tryz.prog w base (fun _=>true) held 30 v d p):∃x:PX,x.u.p v w/\PX.b x<=Rows.uptoBulk d:=by
 obtain⟨cs,rfl,I⟩:=okWide_struct Tryz.underlying30 O
 have U:Tryz.prog.cellsOf 30=6:=fJ
 obtain⟨fuel,J⟩:=h
 obtain⟨y,hy,hb⟩:=zJa (cs:=cs.toList) (I.trans U) J
 exact⟨y,hy,hb⟩
instance:Inhabited QX:=⟨⟨0,0,0,0⟩⟩
theorem zQZ{d:DataW H}(J:Value.okWide Tryz.prog w r b0 22 v)(h:DataW.Trod enc Tryz.prog w base (fun _=>true) held 22 v d p):∃L:List PX,(SF.row 6 (pxs L)).p v w/\L.length<=Rows.uptoBulk d/\∀x,x∈L->PX.b x<=Rows.uptoBulk d:=
 zTH PX.cu PX.b Tryz.underlying22 kA fH (fun _ _ _ I h=>zJa I h) J h
section
variable {P:Program}{sp:Nat->Bool}
end
end
section
variable {H:Type}{enc:TypeId×Value->H}{w:World}{base:Nat}{held:Bool}{P:Program}{sp:Nat->Bool}
end
theorem zFm(os:Os)(U:os.Started)(H:Type)(enc:TypeId×Value->H):
  ReturnsInHanded {} Tryz.checked os 3 .any (fun w args=>(Rows.earsWholeSpec.pre enc Tryz.prog Tryz.f3 [] false w args/\laidMetH Tryz.prog zDG w)/\sizedMet enc Tryz.prog Tryz.f3 (OpenSpec.ofChange Rows.earsWholeSpec) false w args)
   (Rows.earsWholeSpec.post enc Tryz.prog Tryz.f3 false true false false):=by
 refine returnsInHanded_of_change_and (C:=Tryz.checked) (X:=fun w _=>laidMetH Tryz.prog zDG w) (fun _ _ _ hh h=>h.of_heap hh) zRS U kA Tryz.func3
  (ChangeSpec.witness_shaped (enc:=enc) (C:=Tryz.checked) (os:=os) (X:=fun w _=>laidMetH Tryz.prog zDG w) false (World.doorLaid Tryz.prog 400 os) #[sN,.agg #[.bool false, sN, sN,.bool false, sN, sN]] 8 rfl (World.shaped_of_RefB kA kA) kA kA kA (zRH os _)) ?_
 intro W base args ds gs before O hW _ _ hL _
 have I:∀(j:Nat) t v,Tryz.f3.params[j]?=some t->args[j]?=some v->Value.okWide Tryz.prog W .any base t v:=O
 have h4:=hW
 obtain⟨p,q,h6,hV,rfl,hfz,hnd⟩:=hW
 have hA:DataW.TrodAll enc Tryz.prog W 0 (fun _=>true) true Tryz.f3.params.toList args.toList ds p:=h6
 rw[Tryz.params3]at hA I
 obtain⟨v0,v1,d0,d1,p0,p1,rfl,rfl,rfl,h0,h1⟩:=trodAll_two hA
 obtain⟨rfl,rfl⟩:=trodVars_none hV
 obtain⟨x0,r0,_,_⟩:=zQZ (I 0 22 _ rfl rfl) h0
 obtain⟨x1,r1,_⟩:=zUc (I 1 30 _ rfl rfl) h1
 have hT:=zJW hL
 clear h6 O
 simp only[tH]at h4
 have h7:∀x∈p0++p1,x.block<W.heap.size:=fun x hx=>h4.lt x (by simpa using hx)
 have J:∀{W':World} {t:TypeId} {v:Value} {d:DataW H} {p:List MemPlace},bW W W'->(∀x∈p,x.block<W.heap.size)->Tryz.prog.readableRec t=true->t<Tryz.prog.types.size->DataW.Trod enc Tryz.prog W 0 (fun _=>true) true t v d p->DataW.Trod enc Tryz.prog W' 0 (fun b=>decide (b<W.heap.size)) true t v d p:=
  fun hn hl hr hs ht=>Below.trod zPL hr hs ht hn hl
 refine(zKt r0 r1 hT).mono fun e W' he=>?_
 obtain⟨v,rfl,hv,hw⟩:=he
 obtain rfl:v=.bool true:=hv
 exact⟨_,rfl,⟨[d0,d1], [],p0++p1, [],p0++p1, [],h4,trodAll_mk1 (shut_bool Tryz.underlying4 true),
  trodAll_mk2 (J hw (fun x hx=>h7 x (by simp[hx])) kA (xX kA) h0) (J hw (fun x hx=>h7 x (by simp[hx])) kA (xX kA) h1),rfl,hw.frame _,fun h=>by cases h⟩⟩
theorem zGu:Rows.EarsWholeSaid:=
 OpenClaim.holds_of_wide 3 Tryz.f3 rfl rfl rfl rfl rfl rfl rfl ⟨rfl,rfl,rfl,rfl,rfl⟩ rfl rfl rfl rfl rfl kA Tryz.func3 kA
  (xX kA) (by unfold Func.isWrapper;first|(rw[if_pos (by decide+kernel)];kernel_rfl)|(rw[if_neg (by decide+kernel)];exact⟨rfl,rfl⟩))
  (fun os I H enc _=>zFm os I H enc)
theorem earsWhole_card:Rows.EarsWholeCardSaid:=
 Claim7.holds_tied_plain_at .later [] [.data] true _ false
  zGu (fun _ h=>by cases h) kA (fun _ h=>by cases h) earsWhole_row_tie rfl ⟨rfl,rfl⟩ kA rfl
  (fun f fn O J=>by
   obtain rfl:f=3:=nM ((show Tryz.prog.funcNamed "strait/straitlaw16.EarsWhole" =some 3 by kernel_rfl).symm.trans O)|>.symm
   obtain rfl:fn=Tryz.f3:=(nM (Tryz.func3.symm.trans J)).symm
   exact⟨fJ,fun j t ht=>by
    rw[Tryz.params3]at ht
    have U:t∈ [22,30]:=by simpa using eZ ht
    have I:([22,30].all fun u=> !Tryz.prog.wantsStandIn u)=true:=fJ
    exact(show Tryz.prog.wantsStandIn t=false by simpa using xT.1 I t U)⟩)
  kA
end Go.Proofs.YtihcepanbejfpaaGreatDoor
