/- strait/straitlaw28.RoadsTells returns true at every input, and its arguments read as before; the tied card. -/
import Derived.Test.YtencnknhnckpaaaGreatDoorMRT24
import Derived.Test.YtencnknhnckpaaaGreatDoorMRT23
abbrev rV:=@List.drop_succ_cons
abbrev rW:=@List.take_succ_cons
abbrev rX:=@Go.World.cells?_some
namespace Go.Proofs.YtencnknhnckpaaaGreatDoor
variable {b0 fuel:Nat}{v v' v2 v3 v4:WD}{cs:List WD}{r:Reach}{p p' p2 p3 p4:List MemPlace}{t t' t2 t3 t4 t5:TypeId}
set_option maxRecDepth 100000
open Go.ChangeShapes Go.WideShapes Go.ChangeAt Go.RowKit Go.Proofs.Wd Lb
section
variable {H:Type}{enc:TypeId×WD->H}{w:World}{base:Nat}{held:Bool}
theorem zFK{x:DataW H×List MemPlace}(h:DataW.trod enc Tryz.prog w base (fun _=>true) held fuel 28 [v]=some x):∃A n c l,v=.slice A n c/\Rd w A n c l/\Lt l:=zNZ h
theorem zIf{x:DataW H×List MemPlace}(hl:cs.length=3)(h:DataW.trod enc Tryz.prog w base (fun _=>true) held fuel 32 cs=some x):∃y:QX,(wE y).p cs w:=by
 obtain⟨c0,c1,c2,rfl⟩:∃c0 c1 c2,cs=[c0,c1,c2]:=by
  match cs,hl with
  | [c0,c1,c2],_=>exact⟨c0,c1,c2,rfl⟩
 obtain⟨y0,y1,n,hx,_,h0,h1⟩:=trod_struct2 Tryz.underlying32 h
 have hI:Tryz.prog.cellsOf 30=2:=rZ
 have hN:Tryz.prog.cellsOf 28=1:=rZ
 have hB:Tryz.prog.cellsOf 4=1:=rZ
 simp only[hI,hN,mH,rV,rW,lA]at h0 h1
 obtain⟨z0,z1,m,hx0,_,g0,O⟩:=trod_struct2 Tryz.underlying30 h0
 simp only[hB,hN,mH,rV,rW,lA]at g0 O
 obtain⟨s,hs,_⟩:=DataW.trod_bool Tryz.underlying4 g0
 obtain rfl:c0=.bool s:=by simpa using hs
 obtain⟨A,k,c,l,rfl,r1,r2⟩:=zFK O
 obtain⟨A',k',c',l',rfl,J,I⟩:=zFK h1
 exact⟨⟨k,k',iv s l,val l'⟩,_,_,_,rfl,⟨s,A,c,l,rfl,r1,r2,rfl⟩,A',c',l',rfl,J,I,rfl⟩
theorem zHz{x:DataW H×List MemPlace}(hl:cs.length=2)(h:DataW.trod enc Tryz.prog w base (fun _=>true) held fuel 47 cs=some x):∃y:Int×Int,(CU.agg (fJn y)).p cs w:=by
 obtain⟨c0,c1,rfl⟩:∃c0 c1,cs=[c0,c1]:=by
  match cs,hl with
  | [c0,c1],_=>exact⟨c0,c1,rfl⟩
 obtain⟨y0,y1,n,hx,_,J,O⟩:=trod_struct2 Tryz.underlying47 h
 have hI:Tryz.prog.cellsOf 3=1:=rZ
 simp only[hI,mH,rV,rW,lA]at J O
 obtain⟨I,e0,_⟩:=DataW.trod_int Tryz.underlying3 J
 obtain⟨z1,e1,_⟩:=DataW.trod_int Tryz.underlying3 O
 obtain rfl:c0=.int .i64 I:=by simpa using e0
 obtain rfl:c1=.int .i64 z1:=by simpa using e1
 exact⟨(I,z1),rfl⟩
theorem zIv{x:DataW H×List MemPlace}(_:cs.length=1)(h:DataW.trod enc Tryz.prog w base (fun _=>true) held fuel 3 cs=some x):∃y:Int,(wC [.int .i64 y]).p cs w:=by
 obtain⟨I,J,_⟩:=DataW.trod_int Tryz.underlying3 h
 exact⟨I,J⟩
theorem zEM{α:Type} [Inhabited α] {t e:TypeId}{z:Nat}(f:α->CU)(ht:Tryz.prog.underlying t=some (.slice e))(hC:Tryz.prog.cellsOf e=z)(hz:0<z)
  (J:∀(fuel:Nat) (cs:List WD) (x:DataW H×List MemPlace),cs.length=z->DataW.trod enc Tryz.prog w base (fun _=>true) held fuel e cs=some x->∃y,(f y).p cs w)
  {r:Reach}{b0:Nat}{v:WD}{d:DataW H}{p:List MemPlace}(hv:Value.okWide Tryz.prog w r b0 t v)(h:DataW.Trod enc Tryz.prog w base (fun _=>true) held t v d p):∃L:List α,(SF.row z (L.map f)).p v w:=by
 obtain⟨a,len,cap,rfl⟩:=okWide_slice ht hv
 obtain⟨fuel,h⟩:=h
 rcases Go.Deep.open_slice ht h with⟨I,_⟩|⟨a',len',cap',m,n,D,Pl,I,_,hl,hm,he,hxx,hx⟩
 .cases I
  exact⟨[],⟨none,0,rfl,vR _,vS _,fun _=>rfl,fun i C O=>by simp at O⟩⟩
 .cases I
  simp only[cH]at he
  rw[hC]at hx
  have h9:∀i,i<len->∃y:α×List WD,w.cells? base (a'.add (i*z)) z=some y.2/\(f y.1).p y.2 w:=fun i O=>by
   obtain⟨cs,h1,h2⟩:=hx i oA
   obtain⟨_,h3,_⟩:=rX h1
   obtain⟨y,h4⟩:=J _ _ _ h3 h2
   exact⟨(y,cs),h1,h4⟩
  obtain⟨y,hy⟩:=Go.Deep.choose_lt h9
  refine⟨(List.range len).map fun i=>(y i).1,⟨some a',cap,eN,by simpa using hl,by unfold maxLen at hm;omega,fun e=>(by cases e),fun i C O=>?_⟩⟩
  have ha:i<len:=by
   have:=(cD.1 O).1
   simpa using this
  obtain rfl:f (y i).1=C:=by simpa[ha]using O
  obtain⟨h1,h2⟩:=hy i ha
  obtain⟨_,h4,h5⟩:=rX h1
  obtain⟨b,hc,h0⟩:=a'
  have h6:h0=none:=by
   obtain⟨_,q4,q5⟩:=rX (hy 0 oA).1
   have h7:=q5 0 oA
   rw[mD oA]at h7
   simpa[Addr.add]using World.cell?_spot h7
  subst h6
  refine⟨b,hc,(y i).2,rfl,fun j u hj=>?_,h2⟩
  have h7:=h5 j (by have:=(cD.1 hj).1;omega)
  rw[hj,xH,xH]at h7
  exact h7
instance:Inhabited QX:=⟨⟨0,0,0,0⟩⟩
theorem zJ5{d:DataW H}(I:Value.okWide Tryz.prog w r b0 23 v)(h:DataW.Trod enc Tryz.prog w base (fun _=>true) held 23 v d p):∃L:List QX,(SF.row 3 (qxs L)).p v w:=
 zEM wE Tryz.underlying23 kA rY (fun _ _ _ J h=>zIf J h) I h
theorem zIt{d:DataW H}(I:Value.okWide Tryz.prog w r b0 22 v)(h:DataW.Trod enc Tryz.prog w base (fun _=>true) held 22 v d p):∃L:List (Int×Int),(SF.row 2 (jns L)).p v w:=
 zEM (fun j=>CU.agg (fJn j)) Tryz.underlying22 kA rY (fun _ _ _ J h=>zHz J h) I h
theorem zKo{d:DataW H}(I:Value.okWide Tryz.prog w r b0 24 v)(h:DataW.Trod enc Tryz.prog w base (fun _=>true) held 24 v d p):∃L:List Int,(SF.row 1 (ins L)).p v w:=
 zEM (fun z=>wC [.int .i64 z]) Tryz.underlying24 kA rY (fun _ _ _ J h=>zIv J h) I h
end
section
variable {H:Type}{enc:TypeId×WD->H}{w:World}{base:Nat}{held:Bool}{P:Program}{sp:Nat->Bool}
theorem zH3{args:Array WD}{ds:List (DataW H)}{ps:List MemPlace}(h:DataW.TrodAll enc P w base sp held [t,t',t2,t3,t4,t5] args.toList ds ps):
  ∃v v' v2 v3 v4 v5 d d' d2 d3 d4 d5 p p' p2 p3 p4 p5,args=#[v,v',v2,v3,v4,v5]/\ds=[d,d',d2,d3,d4,d5]/\ps=p++p'++p2++p3++p4++p5/\DataW.Trod enc P w base sp held t v d p/\DataW.Trod enc P w base sp held t' v' d' p'/\DataW.Trod enc P w base sp held t2 v2 d2 p2/\DataW.Trod enc P w base sp held t3 v3 d3 p3/\DataW.Trod enc P w base sp held t4 v4 d4 p4/\DataW.Trod enc P w base sp held t5 v5 d5 p5:=by
 obtain⟨v,vs,d,ds',p,q,hargs,rfl,rfl,hd,h2⟩:=trodAll_cons h
 obtain⟨v',vs',d',dsb,p',q',rfl,rfl,rfl,h6,h1⟩:=trodAll_cons h2
 obtain⟨v2,vs2,d2,ds2,p2,q2,rfl,rfl,rfl,h5,h0⟩:=trodAll_cons h1
 obtain⟨v3,vs3,d3,ds3,p3,q3,rfl,rfl,rfl,h4,O⟩:=trodAll_cons h0
 obtain⟨v4,vs4,d4,ds4,p4,q4,rfl,rfl,rfl,h3,J⟩:=trodAll_cons O
 obtain⟨v5,vs5,d5,ds5,p5,q5,rfl,rfl,rfl,h7,I⟩:=trodAll_cons J
 obtain⟨rfl,rfl,rfl⟩:=trodAll_nil I
 exact⟨v,v',v2,v3,v4,v5,d,d',d2,d3,d4,d5,p,p',p2,p3,p4,p5,by cases args;simp_all,rfl,eN,hd,h6,h5,h4,h3,h7⟩
theorem zH5{d J I O d4:DataW H}(h:DataW.Trod enc P w base sp held t v d p)(h':DataW.Trod enc P w base sp held t' v' J p')
  (h2:DataW.Trod enc P w base sp held t2 v2 I p2)(h3:DataW.Trod enc P w base sp held t3 v3 O p3)(h4:DataW.Trod enc P w base sp held t4 v4 d4 p4):DataW.TrodAll enc P w base sp held [t,t',t2,t3,t4] [v,v',v2,v3,v4] [d,J,I,O,d4] (p++(p'++(p2++(p3++p4)))):=⟨p,p'++(p2++(p3++p4)),h,trodAll_mk4 h' h2 h3 h4,rfl⟩
theorem zH4{v5:WD}{d d' O d3 d4 J:DataW H}{I:List MemPlace}(h:DataW.Trod enc P w base sp held t v d p)(h':DataW.Trod enc P w base sp held t' v' d' p')
  (h2:DataW.Trod enc P w base sp held t2 v2 O p2)(h3:DataW.Trod enc P w base sp held t3 v3 d3 p3)(h4:DataW.Trod enc P w base sp held t4 v4 d4 p4)(h5:DataW.Trod enc P w base sp held t5 v5 J I):DataW.TrodAll enc P w base sp held [t,t',t2,t3,t4,t5] [v,v',v2,v3,v4,v5] [d,d',O,d3,d4,J] (p++(p'++(p2++(p3++(p4++I))))):=⟨p,p'++(p2++(p3++(p4++I))),h,zH5 h' h2 h3 h4 h5,rfl⟩
end
theorem zDB(os:Os)(h8:os.Started)(H:Type)(enc:TypeId×WD->H):
  ReturnsInHanded {} Tryz.checked os 6 .any (fun w args=>(Rows.roadsTellsSpec.pre enc Tryz.prog Tryz.f6 [] false w args/\laidMetH Tryz.prog zCP w)/\sizedMet enc Tryz.prog Tryz.f6 (OpenSpec.ofChange Rows.roadsTellsSpec) false w args)
   (Rows.roadsTellsSpec.post enc Tryz.prog Tryz.f6 false true false false):=by
 refine returnsInHanded_of_change_and (C:=Tryz.checked) (X:=fun w _=>laidMetH Tryz.prog zCP w) (fun _ _ _ hh h=>h.of_heap hh) zOH h8 kA Tryz.func6
  (ChangeSpec.witness_shaped (enc:=enc) (C:=Tryz.checked) (os:=os) (X:=fun w _=>laidMetH Tryz.prog zCP w) false (World.doorLaid Tryz.prog 400 os) #[.int .i64 0,.slice none 0 0,.slice none 0 0,.int .i64 0,.int .i64 0,.slice none 0 0] 8 rfl (World.shaped_of_RefB kA kA) kA kA kA (zOx os _)) ?_
 intro W base args ds gs before h7 hW _ _ hL _
 have J:∀(j:Nat) t v,Tryz.f6.params[j]?=some t->args[j]?=some v->Value.okWide Tryz.prog W .any base t v:=h7
 have h9:=hW
 obtain⟨p,q,hb,hV,rfl,hfz,hnd⟩:=hW
 have hA:DataW.TrodAll enc Tryz.prog W 0 (fun _=>true) true Tryz.f6.params.toList args.toList ds p:=hb
 rw[Tryz.params6]at hA J
 obtain⟨v0,v1,v2,v3,v4,v5,d0,d1,d2,d3,d4,d5,p0,p1,p2,p3,p4,p5,rfl,rfl,rfl,h0,h1,h2,h3,h4,h5⟩:=zH3 hA
 obtain⟨rfl,rfl⟩:=trodVars_none hV
 obtain⟨z0,rfl,_,_,_⟩:=open_int Tryz.underlying3 (J 0 3 _ rfl rfl) h0
 obtain⟨x1,r1⟩:=zIt (J 1 22 _ rfl rfl) h1
 obtain⟨x2,r2⟩:=zJ5 (J 2 23 _ rfl rfl) h2
 obtain⟨z3,rfl,_,_,_⟩:=open_int Tryz.underlying3 (J 3 3 _ rfl rfl) h3
 obtain⟨z4,rfl,_,_,_⟩:=open_int Tryz.underlying3 (J 4 3 _ rfl rfl) h4
 obtain⟨x5,r5⟩:=zKo (J 5 24 _ rfl rfl) h5
 have hT:=zH6 hL
 clear hb h7
 simp only[pU,pT]at h9
 have O:∀x∈p0++(p1++(p2++(p3++(p4++p5)))),x.block<W.heap.size:=fun x hx=>h9.lt x (by simpa using hx)
 have I:∀{W':World} {t:TypeId} {v:WD} {d:DataW H} {p:List MemPlace},Below W.heap.size W W'->(∀x∈p,x.block<W.heap.size)->Tryz.prog.readableRec t=true->t<Tryz.prog.types.size->DataW.Trod enc Tryz.prog W 0 (fun _=>true) true t v d p->DataW.Trod enc Tryz.prog W' 0 (fun b=>decide (b<W.heap.size)) true t v d p:=
  fun hn hl hr hs ht=>Below.trod zMM hr hs ht hn hl
 refine(zG7 rfl r1 r2 rfl rfl r5 hT).mono fun e W' he=>?_
 obtain⟨v,rfl,hv,hw⟩:=he
 obtain rfl:v=.bool true:=hv
 exact⟨_,rfl,⟨[d0,d1,d2,d3,d4,d5], [],p0++(p1++(p2++(p3++(p4++p5)))), [],p0++(p1++(p2++(p3++(p4++p5)))), [],h9,trodAll_mk1 (shut_bool Tryz.underlying4 true),
  zH4 (I hw (fun x hx=>O x (by simp[hx])) kA (xW kA) h0) (I hw (fun x hx=>O x (by simp[hx])) kA (xW kA) h1) (I hw (fun x hx=>O x (by simp[hx])) kA (xW kA) h2) (I hw (fun x hx=>O x (by simp[hx])) kA (xW kA) h3) (I hw (fun x hx=>O x (by simp[hx])) kA (xW kA) h4) (I hw (fun x hx=>O x (by simp[hx])) kA (xW kA) h5),rfl,hw.frame _,fun h=>by cases h⟩⟩
theorem zD5:Rows.RoadsTellsSaid:=
 OpenClaim.holds_of_wide 6 Tryz.f6 rfl rfl rfl rfl rfl rfl rfl ⟨rfl,rfl,rfl,rfl,rfl⟩ rfl rfl rfl rfl rfl kA Tryz.func6 kA
  (xW kA) (by unfold Func.isWrapper;first|(rw[if_pos (by decide+kernel)];kernel_rfl)|(rw[if_neg (by decide+kernel)];exact⟨rfl,rfl⟩))
  (fun os h H enc _=>zDB os h H enc)
theorem roadsTells_card:Rows.RoadsTellsCardSaid:=
 Claim7.holds_tied_plain_at .later [] [.data] true _ true
  zD5 (fun _ h=>by cases h) kA (fun _ h=>by cases h) roadsTells_row_tie rfl ⟨rfl,rfl⟩ kA rfl
  (fun f fn hf J=>by
   obtain rfl:f=6:=mE ((show Tryz.prog.funcNamed "strait/straitlaw28.RoadsTells" =some 6 by kernel_rfl).symm.trans hf)|>.symm
   obtain rfl:fn=Tryz.f6:=(mE (Tryz.func6.symm.trans J)).symm
   exact⟨rZ,fun j t O=>by
    rw[Tryz.params6]at O
    have hm:t∈ [3,22,23,3,3,24]:=by simpa using eS O
    have I:([3,22,23,3,3,24].all fun u=> !Tryz.prog.wantsStandIn u)=true:=rZ
    exact(show Tryz.prog.wantsStandIn t=false by simpa using xR.1 I t hm)⟩)
  kA
end Go.Proofs.YtencnknhnckpaaaGreatDoor
