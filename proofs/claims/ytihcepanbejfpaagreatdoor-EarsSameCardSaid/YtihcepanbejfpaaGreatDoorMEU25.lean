/- strait/straitlaw16.EarsSame returns true at every input, and its arguments read as before; the tied card. -/
import Derived.Test.YtihcepanbejfpaaGreatDoorMEU24
import Derived.Test.YtihcepanbejfpaaGreatDoorMEU22
abbrev zZg:=@List.drop_succ_cons
abbrev zZh:=@List.take_succ_cons
abbrev zZi:=@Go.World.cells?_some
namespace Go.Proofs.YtihcepanbejfpaaGreatDoor
variable {fuel:Nat}{cs:List Value}
set_option maxRecDepth 100000
open Go.ChangeShapes Go.WideShapes Go.ChangeAt Go.RowKit Go.Proofs.Wd Lb
section
variable {H:Type}{enc:TypeId×Value->H}{w:World}{base:Nat}{held:Bool}
theorem zIv{x:DataW H×List MemPlace}(hl:cs.length=3)(h:DataW.trod enc Tryz.prog w base (fun _=>true) held fuel 28 cs=some x):∃y:QX,(QX.cu y).p cs w/\y.n+y.n'<=Rows.uptoBulk x.1:=by
 obtain⟨c0,c1,c2,rfl⟩:∃c0 c1 c2,cs=[c0,c1,c2]:=by
  match cs,hl with
  | [c0,c1,c2],_=>exact⟨c0,c1,c2,rfl⟩
 obtain⟨y0,y1,n,hx,_,h0,h1⟩:=trod_struct2 Tryz.underlying28 h
 have hI:Tryz.prog.cellsOf 26=2:=by kernel_rfl
 have U:Tryz.prog.cellsOf 24=1:=by kernel_rfl
 have hB:Tryz.prog.cellsOf 4=1:=by kernel_rfl
 simp only[hI,U,nN,zZg,zZh,mH]at h0 h1
 obtain⟨z0,z1,m,O,_,g0,g1⟩:=trod_struct2 Tryz.underlying26 h0
 simp only[hB,U,nN,zZg,zZh,mH]at g0 g1
 obtain⟨s,hs,_⟩:=DataW.trod_bool Tryz.underlying4 g0
 obtain rfl:c0=.bool s:=by simpa using hs
 obtain⟨A,k,c,l,rfl,r1,r2,r3⟩:=zIR g1
 obtain⟨A',k',c',l',rfl,J,I,r3'⟩:=zIR h1
 refine⟨⟨k,k',iv s l,val l'⟩,⟨_,_,_,rfl,⟨s,A,c,l,rfl,r1,r2,rfl⟩,A',c',l',rfl,J,I,rfl⟩,?_⟩
 subst hx
 subst O
 show k+k'<=Rows.uptoBulk (.agg [.agg [z0.1,z1.1],y1.1])
 simp only[Rows.uptoBulk,Rows.uptoBulkAll]
 omega
end
section
variable {H:Type}{enc:TypeId×Value->H}{w:World}{base:Nat}{held:Bool}
theorem zNr{x:DataW H×List MemPlace}(hl:cs.length=6)(h:DataW.trod enc Tryz.prog w base (fun _=>true) held fuel 30 cs=some x):∃y:PX,(PX.cu y).p cs w/\PX.b y<=Rows.uptoBulk x.1:=by
 obtain⟨c0,c1,c2,c3,c4,c5,rfl⟩:∃c0 c1 c2 c3 c4 c5,cs=[c0,c1,c2,c3,c4,c5]:=by
  match cs,hl with
  | [c0,c1,c2,c3,c4,c5],_=>exact⟨c0,c1,c2,c3,c4,c5,rfl⟩
 obtain⟨y0,y1,n,hx,_,h0,U⟩:=trod_struct2 Tryz.underlying30 h
 have hR:Tryz.prog.cellsOf 28=3:=by kernel_rfl
 simp only[hR,nN,zZg,zZh,mH]at h0 U
 obtain⟨p,hp,bp⟩:=zIv rfl h0
 obtain⟨q,hq,bq⟩:=zIv rfl U
 have hb:PX.b (p,q)<=Rows.uptoBulk x.1:=by
  subst hx
  show p.n+p.n'+(q.n+q.n')<=Rows.uptoBulk (.agg [y0.1,y1.1])
  simp only[Rows.uptoBulk,Rows.uptoBulkAll]
  omega
 obtain⟨s,A,a,c,A',a',c',e1⟩:∃(s:Bool) (A:Option Addr) (a c:Nat) (A':Option Addr) (a' c':Nat), [c0,c1,c2]=[Value.bool s,.slice A a c,.slice A' a' c']:=by
  obtain⟨b,t,u,e,⟨s,A,c,l,e',_⟩,A',c',l',I,_⟩:=hp
  have J:=vQ Array.toList (j5 e)
  have O:=vQ Array.toList (j5 e')
  simp only[tL,nR]at J O
  obtain⟨rfl,rfl⟩:=O
  subst I
  exact⟨s,A,_,c,A',_,c',by obtain⟨rfl,rfl,rfl⟩:=J;rfl⟩
 obtain⟨s2,B,b,d,B',b',d',e2⟩:∃(s:Bool) (A:Option Addr) (a c:Nat) (A':Option Addr) (a' c':Nat), [c3,c4,c5]=[Value.bool s,.slice A a c,.slice A' a' c']:=by
  obtain⟨b,t,u,e,⟨s,A,c,l,e',_⟩,A',c',l',I,_⟩:=hq
  have J:=vQ Array.toList (j5 e)
  have O:=vQ Array.toList (j5 e')
  simp only[tL,nR]at J O
  obtain⟨rfl,rfl⟩:=O
  subst I
  exact⟨s,A,_,c,A',_,c',by obtain⟨rfl,rfl,rfl⟩:=J;rfl⟩
 simp only[tL,nR]at e1 e2
 obtain⟨rfl,rfl,rfl⟩:=e1
 obtain⟨rfl,rfl,rfl⟩:=e2
 exact⟨(p,q),⟨s,A,a,c,A',a',c',s2,B,b,d,B',b',d',rfl,hp,hq⟩,hb⟩
theorem zSW{α:Type} [Inhabited α] {t e:TypeId}{z:Nat}(f:α->CU)(bd:α->Nat)(ht:Tryz.prog.underlying t=some (.slice e))(hC:Tryz.prog.cellsOf e=z)(hz:0<z)
  (U:∀(fuel:Nat) (cs:List Value) (x:DataW H×List MemPlace),cs.length=z->DataW.trod enc Tryz.prog w base (fun _=>true) held fuel e cs=some x->∃y,(f y).p cs w/\bd y<=Rows.uptoBulk x.1)
  {r:Reach}{b0:Nat}{v:Value}{d:DataW H}{p:List MemPlace}(hv:Value.okWide Tryz.prog w r b0 t v)(h:DataW.Trod enc Tryz.prog w base (fun _=>true) held t v d p):∃L:List α,(SF.row z (L.map f)).p v w/\L.length<=Rows.uptoBulk d/\∀x,x∈L->bd x<=Rows.uptoBulk d:=by
 obtain⟨a,len,cap,rfl⟩:=okWide_slice ht hv
 obtain⟨fuel,h⟩:=h
 rcases Go.Deep.open_slice ht h with⟨O,_⟩|⟨a',len',cap',m,n,D,Pl,O,_,hl,hm,hh,J,hx⟩
 .cases O
  exact⟨[],⟨none,0,rfl,vP _,vR _,fun _=>rfl,fun i C hi=>by simp at hi⟩,vR _,fun x hx=>by cases hx⟩
 .cases O
  simp only[cG]at hh
  rw[hC]at hx
  have h9:∀i,i<len->∃y:α×List Value,w.cells? base (a'.add (i*z)) z=some y.2/\(f y.1).p y.2 w/\bd y.1<=Rows.uptoBulk (D i):=fun i hi=>by
   obtain⟨cs,h1,h2⟩:=hx i (by omega)
   obtain⟨_,h3,_⟩:=zZi h1
   obtain⟨y,h4,h5⟩:=U _ _ _ h3 h2
   exact⟨(y,cs),h1,h4,h5⟩
  obtain⟨y,hy⟩:=Go.Deep.choose_lt h9
  simp only[tM]at J
  refine⟨(List.range len).map fun i=>(y i).1,⟨some a',cap,by simp,by simpa using hl,by unfold maxLen at hm;omega,fun e=>(by cases e),fun i C hi=>?_⟩,?_,fun x he=>?_⟩
  .have I:i<len:=by
    have:=(bE.1 hi).1
    simpa using this
   obtain rfl:f (y i).1=C:=by simpa[I]using hi
   obtain⟨h1,h2,h3⟩:=hy i I
   obtain⟨_,h4,h5⟩:=zZi h1
   obtain⟨b,off,h0⟩:=a'
   have h6:h0=none:=by
    obtain⟨_,q4,q5⟩:=zZi (hy 0 (by omega)).1
    have h7:=q5 0 (by omega)
    rw[nG (by omega)]at h7
    simpa[Addr.add]using World.cell?_spot h7
   subst h6
   refine⟨b,off,(y i).2,rfl,fun j u hj=>?_,h2⟩
   have h7:=h5 j (by have:=(bE.1 hj).1;omega)
   rw[hj,xH,xH]at h7
   exact h7
  .rw[J.1]
   have:=zSf ((List.range len).map D)
   simp only[Rows.uptoBulk,bC,lE]at this ⊢
   omega
  .obtain⟨i,hi,rfl⟩:=xG.1 he
   have I:=xT.1 hi
   have h3:=(hy i I).2.2
   have h4:Rows.uptoBulk (D i)<=Rows.uptoBulkAll ((List.range len).map D):=zUh (xG.2 ⟨i,hi,rfl⟩)
   rw[J.1]
   simp only[Rows.uptoBulk]
   omega
instance:Inhabited QX:=⟨⟨0,0,0,0⟩⟩
theorem zQj{r:Reach}{O:Nat}{v:Value}{d:DataW H}{p:List MemPlace}(I:Value.okWide Tryz.prog w r O 22 v)(h:DataW.Trod enc Tryz.prog w base (fun _=>true) held 22 v d p):∃L:List PX,(SF.row 6 (pxs L)).p v w/\L.length<=Rows.uptoBulk d/\∀x,x∈L->PX.b x<=Rows.uptoBulk d:=
 zSW PX.cu PX.b Tryz.underlying22 kA (by decide) (fun _ _ _ J h=>zNr J h) I h
section
variable {P:Program}{sp:Nat->Bool}
end
end
section
variable {H:Type}{enc:TypeId×Value->H}{w:World}{base:Nat}{held:Bool}{P:Program}{sp:Nat->Bool}
end
theorem zF4(os:Os)(U:os.Started)(H:Type)(enc:TypeId×Value->H):
  ReturnsInHanded {} Tryz.checked os 4 .any (fun w args=>(Rows.earsSameSpec.pre enc Tryz.prog Tryz.f4 [] false w args/\laidMetH Tryz.prog zDy w)/\sizedMet enc Tryz.prog Tryz.f4 (OpenSpec.ofChange Rows.earsSameSpec) false w args)
   (Rows.earsSameSpec.post enc Tryz.prog Tryz.f4 false true false false):=by
 refine returnsInHanded_of_change_and (C:=Tryz.checked) (X:=fun w _=>laidMetH Tryz.prog zDy w) (fun _ _ _ hh h=>h.of_heap hh) zRc U kA Tryz.func4
  (ChangeSpec.witness_shaped (enc:=enc) (C:=Tryz.checked) (os:=os) (X:=fun w _=>laidMetH Tryz.prog zDy w) false (World.doorLaid Tryz.prog 400 os) #[sN,.int .i64 0] 8 rfl (World.shaped_of_RefB kA kA) kA kA kA (zQ5 os _)) ?_
 intro W base args ds gs before J hW _ _ hL _
 have I:∀(j:Nat) t v,Tryz.f4.params[j]?=some t->args[j]?=some v->Value.okWide Tryz.prog W .any base t v:=J
 have h4:=hW
 obtain⟨p,q,h5,hV,rfl,hfz,hnd⟩:=hW
 have hA:DataW.TrodAll enc Tryz.prog W 0 (fun _=>true) true Tryz.f4.params.toList args.toList ds p:=h5
 rw[Tryz.params4]at hA I
 obtain⟨v0,v1,d0,d1,p0,p1,rfl,rfl,rfl,h0,h1⟩:=trodAll_two hA
 obtain⟨rfl,rfl⟩:=trodVars_none hV
 obtain⟨x0,r0,_,_⟩:=zQj (I 0 22 _ rfl rfl) h0
 obtain⟨z1,rfl,_,_,_⟩:=open_int Tryz.underlying3 (I 1 3 _ rfl rfl) h1
 have hT:=zJr hL
 clear h5 J
 simp only[tG]at h4
 have h6:∀x∈p0++p1,x.block<W.heap.size:=fun x hx=>h4.lt x (by simpa using hx)
 have O:∀{W':World} {t:TypeId} {v:Value} {d:DataW H} {p:List MemPlace},bW W W'->(∀x∈p,x.block<W.heap.size)->Tryz.prog.readableRec t=true->t<Tryz.prog.types.size->DataW.Trod enc Tryz.prog W 0 (fun _=>true) true t v d p->DataW.Trod enc Tryz.prog W' 0 (fun b=>decide (b<W.heap.size)) true t v d p:=
  fun hn hl hr hs ht=>Below.trod zO0 hr hs ht hn hl
 refine(zL7 r0 rfl hT).mono fun e W' he=>?_
 obtain⟨v,rfl,hv,hw⟩:=he
 obtain rfl:v=.bool true:=hv
 exact⟨_,rfl,⟨[d0,d1], [],p0++p1, [],p0++p1, [],h4,trodAll_mk1 (shut_bool Tryz.underlying4 true),
  trodAll_mk2 (O hw (fun x hx=>h6 x (by simp[hx])) kA (xW kA) h0) (O hw (fun x hx=>h6 x (by simp[hx])) kA (xW kA) h1),rfl,hw.frame _,fun h=>by cases h⟩⟩
theorem zGj:Rows.EarsSameSaid:=
 OpenClaim.holds_of_wide 4 Tryz.f4 rfl rfl rfl rfl rfl rfl rfl ⟨rfl,rfl,rfl,rfl,rfl⟩ rfl rfl rfl rfl rfl kA Tryz.func4 kA
  (xW kA) (by unfold Func.isWrapper;first|(rw[if_pos (by decide+kernel)];kernel_rfl)|(rw[if_neg (by decide+kernel)];exact⟨rfl,rfl⟩))
  (fun os I H enc _=>zF4 os I H enc)
theorem earsSame_card:Rows.EarsSameCardSaid:=
 Claim7.holds_tied_plain_at .later [] [.data] true _ false
  zGj (fun _ h=>by cases h) kA (fun _ h=>by cases h) earsSame_row_tie rfl ⟨rfl,rfl⟩ kA rfl
  (fun f fn O J=>by
   obtain rfl:f=4:=nO ((show Tryz.prog.funcNamed "strait/straitlaw16.EarsSame" =some 4 by kernel_rfl).symm.trans O)|>.symm
   obtain rfl:fn=Tryz.f4:=(nO (Tryz.func4.symm.trans J)).symm
   exact⟨by kernel_rfl,fun j t ht=>by
    rw[Tryz.params4]at ht
    have U:t∈ [22,3]:=by simpa using eZ ht
    have I:([22,3].all fun u=> !Tryz.prog.wantsStandIn u)=true:=by kernel_rfl
    exact(show Tryz.prog.wantsStandIn t=false by simpa using xR.1 I t U)⟩)
  kA
end Go.Proofs.YtihcepanbejfpaaGreatDoor
