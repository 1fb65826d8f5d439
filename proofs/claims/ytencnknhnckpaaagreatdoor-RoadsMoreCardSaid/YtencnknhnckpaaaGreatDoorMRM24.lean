/- strait/straitlaw28.RoadsMore returns true at every input, and its arguments read as before; the tied card. -/
import Derived.Test.YtencnknhnckpaaaGreatDoorMRM23
import Derived.Test.YtencnknhnckpaaaGreatDoorMRM21
import Derived.ChangeSame
import Derived.Deep.Slices
import Derived.Test.YtencnknhnckpaaaGreatDoorMRM22
theorem kK {P:Prop} (h:P:=by kernel_rfl):P:=h
abbrev zVE:=@of_decide_eq_true
abbrev zVF:=@List.drop_zero
abbrev zVG:=@List.drop_succ_cons
abbrev zVH:=@List.take_succ_cons
abbrev zVI:=@List.take_zero
abbrev zVJ:=@Go.World.cells?_some
abbrev zVK:=@List.getElem?_eq_some_iff
abbrev Ww:=Go.Value
namespace Go.Proofs.YtencnknhnckpaaaGreatDoor
set_option maxRecDepth 100000
open Go.ChangeShapes Go.WideShapes Go.ChangeAt Go.RowKit Go.Proofs.Wd Lb
section
variable {H:Type} {enc:TypeId×Ww->H} {w:World} {base:Nat} {held:Bool}
theorem zFm {fuel:Nat} {v:Ww} {x:DataW H×List MemPlace} (h:DataW.trod enc Tryz.prog w base (fun _=>true) held fuel 28 [v]=some x): ∃A n c l,v= .slice A n c/\Rd w A n c l/\Lt l:=zNi h
theorem zEx {fuel:Nat} {cs:List Ww} {x:DataW H×List MemPlace} (hl:cs.length=3) (h:DataW.trod enc Tryz.prog w base (fun _=>true) held fuel 32 cs=some x): ∃y:QX,(wD y).p cs w:=by
 obtain ⟨c0,c1,c2,rfl⟩: ∃c0 c1 c2,cs= [c0,c1,c2]:=by
  match cs,hl with
  | [c0,c1,c2],_=>exact ⟨c0,c1,c2,rfl⟩
 obtain ⟨y0,y1,n,hx,_,h0,h1⟩:=trod_struct2 Tryz.underlying32 h
 have hI:Tryz.prog.cellsOf 30=2:=by kernel_rfl
 have hN:Tryz.prog.cellsOf 28=1:=by kernel_rfl
 have hB:Tryz.prog.cellsOf 4=1:=by kernel_rfl
 simp only [hI,hN,zVF,zVG,zVH,zVI] at h0 h1
 obtain ⟨z0,z1,m,hx0,_,g0,g1⟩:=trod_struct2 Tryz.underlying30 h0
 simp only [hB,hN,zVF,zVG,zVH,zVI] at g0 g1
 obtain ⟨s,hs,_⟩:=DataW.trod_bool Tryz.underlying4 g0
 obtain rfl:c0= .bool s:=by simpa using hs
 obtain ⟨A,k,c,l,rfl,r1,r2⟩:=zFm g1
 obtain ⟨A',k',c',l',rfl,r1',r2'⟩:=zFm h1
 exact ⟨⟨k,k',iv s l,val l'⟩,_,_,_,rfl,⟨s,A,c,l,rfl,r1,r2,rfl⟩,A',c',l',rfl,r1',r2',rfl⟩
theorem zDL {fuel:Nat} {cs:List Ww} {x:DataW H×List MemPlace} (hl:cs.length=2) (h:DataW.trod enc Tryz.prog w base (fun _=>true) held fuel 47 cs=some x): ∃y:Int×Int,(CU.agg (fJn y)).p cs w:=by
 obtain ⟨c0,c1,rfl⟩: ∃c0 c1,cs= [c0,c1]:=by
  match cs,hl with
  | [c0,c1],_=>exact ⟨c0,c1,rfl⟩
 obtain ⟨y0,y1,n,hx,_,h0,h1⟩:=trod_struct2 Tryz.underlying47 h
 have hI:Tryz.prog.cellsOf 3=1:=by kernel_rfl
 simp only [hI,zVF,zVG,zVH,zVI] at h0 h1
 obtain ⟨z0,e0,_⟩:=DataW.trod_int Tryz.underlying3 h0
 obtain ⟨z1,e1,_⟩:=DataW.trod_int Tryz.underlying3 h1
 obtain rfl:c0= .int .i64 z0:=by simpa using e0
 obtain rfl:c1= .int .i64 z1:=by simpa using e1
 exact ⟨(z0,z1),rfl⟩
theorem zGH {α:Type} [Inhabited α] {t e:TypeId} {z:Nat} (f:α->CU) (ht:Tryz.prog.underlying t=some (.slice e)) (hC:Tryz.prog.cellsOf e=z) (hz:0<z)
  (hcell: ∀(fuel:Nat) (cs:List Ww) (x:DataW H×List MemPlace),cs.length=z->DataW.trod enc Tryz.prog w base (fun _=>true) held fuel e cs=some x-> ∃y,(f y).p cs w)
  {r:Reach} {b0:Nat} {v:Ww} {d:DataW H} {p:List MemPlace} (hv:Value.okWide Tryz.prog w r b0 t v) (h:DataW.Trod enc Tryz.prog w base (fun _=>true) held t v d p): ∃L:List α,(SF.row z (L.map f)).p v w:=by
 obtain ⟨a,len,cap,rfl⟩:=okWide_slice ht hv
 obtain ⟨fuel,h⟩:=h
 rcases Go.Deep.open_slice ht h with ⟨hcs,_⟩|⟨a',len',cap',m,n,D,Pl,hcs,_,hl,hm,hmm,hxx,hx⟩
 ·cases hcs
  exact ⟨[],⟨none,0,rfl,Nat.le_refl _,Nat.zero_le _,fun _=>rfl,fun i C hi=>by simp at hi⟩⟩
 ·cases hcs
  simp only [if_true] at hmm
  rw [hC] at hx
  have each: ∀i,i<len-> ∃y:α×List Ww,w.cells? base (a'.add (i*z)) z=some y.2/\(f y.1).p y.2 w:=fun i hi=>by
   obtain ⟨cs,h1,h2⟩:=hx i (by omega)
   obtain ⟨_,h3,_⟩:=zVJ h1
   obtain ⟨y,h4⟩:=hcell _ _ _ h3 h2
   exact ⟨(y,cs),h1,h4⟩
  obtain ⟨y,hy⟩:=Go.Deep.choose_lt each
  refine ⟨(List.range len).map fun i=>(y i).1,⟨some a',cap,by simp,by simpa using hl,by unfold maxLen at hm;omega,fun e=>(by cases e),fun i C hi=> ?_⟩⟩
  have hlt:i<len:=by
   have:=(zVK.1 hi).1
   simpa using this
  obtain rfl:f (y i).1=C:=by simpa [hlt] using hi
  obtain ⟨h1,h2⟩:=hy i hlt
  obtain ⟨_,h4,h5⟩:=zVJ h1
  obtain ⟨b,off,spot⟩:=a'
  have h6:spot=none:=by
   obtain ⟨_,q4,q5⟩:=zVJ (hy 0 (by omega)).1
   have h7:=q5 0 (by omega)
   rw [List.getElem?_eq_getElem (by omega)] at h7
   simpa [Addr.add] using World.cell?_spot h7
  subst h6
  refine ⟨b,off,(y i).2,rfl,fun j u hj=> ?_,h2⟩
  have h7:=h5 j (by have:=(zVK.1 hj).1;omega)
  rw [hj,Addr.add_lit,Addr.add_lit] at h7
  exact h7
instance:Inhabited QX:=⟨⟨0,0,0,0⟩⟩
theorem zJn {r:Reach} {b0:Nat} {v:Ww} {d:DataW H} {p:List MemPlace} (hv:Value.okWide Tryz.prog w r b0 23 v) (h:DataW.Trod enc Tryz.prog w base (fun _=>true) held 23 v d p): ∃L:List QX,(SF.row 3 (qxs L)).p v w:=
 zGH wD Tryz.underlying23 kK (by decide) (fun _ _ _ hl h=>zEx hl h) hv h
theorem zHU {r:Reach} {b0:Nat} {v:Ww} {d:DataW H} {p:List MemPlace} (hv:Value.okWide Tryz.prog w r b0 22 v) (h:DataW.Trod enc Tryz.prog w base (fun _=>true) held 22 v d p): ∃L:List (Int×Int),(SF.row 2 (jns L)).p v w:=
 zGH (fun j=>CU.agg (fJn j)) Tryz.underlying22 kK (by decide) (fun _ _ _ hl h=>zDL hl h) hv h
theorem zKA {r:Reach} {b0:Nat} {v:Ww} {d:DataW H} {p:List MemPlace} (hv:Value.okWide Tryz.prog w r b0 32 v) (h:DataW.Trod enc Tryz.prog w base (fun _=>true) held 32 v d p): ∃x:QX,QXp x.n x.n' x.k x.d v w:=by
 obtain ⟨cs,rfl,hsz⟩:=okWide_struct Tryz.underlying32 hv
 have hC:Tryz.prog.cellsOf 32=3:=by kernel_rfl
 obtain ⟨fuel,hf⟩:=h
 obtain ⟨y,hy⟩:=zEx (cs:=cs.toList) (hsz.trans hC) hf
 exact ⟨y,hy⟩
theorem zJF {r:Reach} {b0:Nat} {v:Ww} {d:DataW H} {p:List MemPlace} (hv:Value.okWide Tryz.prog w r b0 47 v) (h:DataW.Trod enc Tryz.prog w base (fun _=>true) held 47 v d p): ∃x:Int×Int,(fJn x).p v w:=by
 obtain ⟨cs,rfl,hsz⟩:=okWide_struct Tryz.underlying47 hv
 have hC:Tryz.prog.cellsOf 47=2:=by kernel_rfl
 obtain ⟨fuel,hf⟩:=h
 obtain ⟨y,hy⟩:=zDL (cs:=cs.toList) (hsz.trans hC) hf
 exact ⟨y,hy⟩
end
section
variable {H:Type} {enc:TypeId×Ww->H} {w:World} {base:Nat} {held:Bool} {P:Program} {sp:Nat->Bool}
theorem zHx {t t' t2 t3 t4 t5:TypeId} {args:Array Ww} {ds:List (DataW H)} {ps:List MemPlace} (h:DataW.TrodAll enc P w base sp held [t,t',t2,t3,t4,t5] args.toList ds ps):
  ∃v v' v2 v3 v4 v5 d d' d2 d3 d4 d5 p p' p2 p3 p4 p5,args=#[v,v',v2,v3,v4,v5]/\ds= [d,d',d2,d3,d4,d5]/\ps=p++p'++p2++p3++p4++p5/\DataW.Trod enc P w base sp held t v d p/\DataW.Trod enc P w base sp held t' v' d' p'/\DataW.Trod enc P w base sp held t2 v2 d2 p2/\DataW.Trod enc P w base sp held t3 v3 d3 p3/\DataW.Trod enc P w base sp held t4 v4 d4 p4/\DataW.Trod enc P w base sp held t5 v5 d5 p5:=by
 obtain ⟨v,vs,d,ds',p,q,hargs,rfl,rfl,hd,hrest⟩:=trodAll_cons h
 obtain ⟨v',vs',d',dsb,p',q',rfl,rfl,rfl,hd',hrest'⟩:=trodAll_cons hrest
 obtain ⟨v2,vs2,d2,ds2,p2,q2,rfl,rfl,rfl,hd2,hrest2⟩:=trodAll_cons hrest'
 obtain ⟨v3,vs3,d3,ds3,p3,q3,rfl,rfl,rfl,hd3,hrest3⟩:=trodAll_cons hrest2
 obtain ⟨v4,vs4,d4,ds4,p4,q4,rfl,rfl,rfl,hd4,hrest4⟩:=trodAll_cons hrest3
 obtain ⟨v5,vs5,d5,ds5,p5,q5,rfl,rfl,rfl,hd5,hrest5⟩:=trodAll_cons hrest4
 obtain ⟨rfl,rfl,rfl⟩:=trodAll_nil hrest5
 exact ⟨v,v',v2,v3,v4,v5,d,d',d2,d3,d4,d5,p,p',p2,p3,p4,p5,by cases args;simp_all,rfl,by simp,hd,hd',hd2,hd3,hd4,hd5⟩
theorem zHz {t t' t2 t3 t4:TypeId} {v v' v2 v3 v4:Ww} {d d' d2 d3 d4:DataW H} {p p' p2 p3 p4:List MemPlace} (h:DataW.Trod enc P w base sp held t v d p) (h':DataW.Trod enc P w base sp held t' v' d' p')
  (h2:DataW.Trod enc P w base sp held t2 v2 d2 p2) (h3:DataW.Trod enc P w base sp held t3 v3 d3 p3) (h4:DataW.Trod enc P w base sp held t4 v4 d4 p4):DataW.TrodAll enc P w base sp held [t,t',t2,t3,t4] [v,v',v2,v3,v4] [d,d',d2,d3,d4] (p++(p'++(p2++(p3++p4)))):=⟨p,p'++(p2++(p3++p4)),h,trodAll_mk4 h' h2 h3 h4,rfl⟩
theorem zHy {t t' t2 t3 t4 t5:TypeId} {v v' v2 v3 v4 v5:Ww} {d d' d2 d3 d4 d5:DataW H} {p p' p2 p3 p4 p5:List MemPlace} (h:DataW.Trod enc P w base sp held t v d p) (h':DataW.Trod enc P w base sp held t' v' d' p')
  (h2:DataW.Trod enc P w base sp held t2 v2 d2 p2) (h3:DataW.Trod enc P w base sp held t3 v3 d3 p3) (h4:DataW.Trod enc P w base sp held t4 v4 d4 p4) (h5:DataW.Trod enc P w base sp held t5 v5 d5 p5):DataW.TrodAll enc P w base sp held [t,t',t2,t3,t4,t5] [v,v',v2,v3,v4,v5] [d,d',d2,d3,d4,d5] (p++(p'++(p2++(p3++(p4++p5))))):=⟨p,p'++(p2++(p3++(p4++p5))),h,zHz h' h2 h3 h4 h5,rfl⟩
end
end Go.Proofs.YtencnknhnckpaaaGreatDoor

namespace Go.Proofs.YtencnknhnckpaaaGreatDoor
set_option maxRecDepth 100000
open Go.ChangeShapes Go.WideShapes Go.ChangeAt Go.RowKit Go.Proofs.Wd
theorem zDO (os:Os) (started:os.Started) (H:Type) (enc:TypeId×Ww->H):
  ReturnsInHanded {} Tryz.checked os 5 .any (fun w args=>(Rows.roadsMoreSpec.pre enc Tryz.prog Tryz.f5 [] false w args/\laidMetH Tryz.prog zCA w)/\sizedMet enc Tryz.prog Tryz.f5 (OpenSpec.ofChange Rows.roadsMoreSpec) false w args)
   (Rows.roadsMoreSpec.post enc Tryz.prog Tryz.f5 false true false false):=by
 refine returnsInHanded_of_change_and (C:=Tryz.checked) (X:=fun w _=>laidMetH Tryz.prog zCA w) (fun _ _ _ hh h=>h.of_heap hh) zNW started kK Tryz.func5
  (ChangeSpec.witness_shaped (enc:=enc) (C:=Tryz.checked) (os:=os) (X:=fun w _=>laidMetH Tryz.prog zCA w) false (World.doorLaid Tryz.prog 400 os) #[.int .i64 0, .slice none 0 0, .slice none 0 0, .agg #[.int .i64 0, .int .i64 0], .agg #[.bool false, .slice none 0 0, .slice none 0 0], .int .i64 0] 8 rfl (World.shaped_of_RefB kK kK) kK kK kK (zNO os _)) ?_
 intro W base args ds gs before hval0 hW _ _ hL _
 have hval: ∀(j:Nat) t v,Tryz.f5.params[j]?=some t->args[j]?=some v->Value.okWide Tryz.prog W .any base t v:=hval0
 have hW':=hW
 obtain ⟨p,q,hA0,hV,rfl,hfz,hnd⟩:=hW
 have hA:DataW.TrodAll enc Tryz.prog W 0 (fun _=>true) true Tryz.f5.params.toList args.toList ds p:=hA0
 rw [Tryz.params5] at hA hval
 obtain ⟨v0,v1,v2,v3,v4,v5,d0,d1,d2,d3,d4,d5,p0,p1,p2,p3,p4,p5,rfl,rfl,rfl,h0,h1,h2,h3,h4,h5⟩:=zHx hA
 obtain ⟨rfl,rfl⟩:=trodVars_none hV
 obtain ⟨z0,rfl,_,_,_⟩:=open_int Tryz.underlying3 (hval 0 3 _ rfl rfl) h0
 obtain ⟨x1,r1⟩:=zHU (hval 1 22 _ rfl rfl) h1
 obtain ⟨x2,r2⟩:=zJn (hval 2 23 _ rfl rfl) h2
 obtain ⟨x3,r3⟩:=zJF (hval 3 47 _ rfl rfl) h3
 obtain ⟨x4,r4⟩:=zKA (hval 4 32 _ rfl rfl) h4
 obtain ⟨z5,rfl,_,_,_⟩:=open_int Tryz.underlying3 (hval 5 3 _ rfl rfl) h5
 have hT:=zHA hL
 clear hA0 hval0
 simp only [List.append_nil,List.append_assoc] at hW'
 have hlt: ∀x∈p0++(p1++(p2++(p3++(p4++p5)))),x.block<W.heap.size:=fun x hx=>hW'.lt x (by simpa using hx)
 have hargs: ∀{W':World} {t:TypeId} {v:Ww} {d:DataW H} {p:List MemPlace},Below W.heap.size W W'->(∀x∈p,x.block<W.heap.size)->Tryz.prog.readableRec t=true->t<Tryz.prog.types.size->DataW.Trod enc Tryz.prog W 0 (fun _=>true) true t v d p->DataW.Trod enc Tryz.prog W' 0 (fun b=>decide (b<W.heap.size)) true t v d p:=
  fun hn hl hr hs ht=>Below.trod zL9 hr hs ht hn hl
 refine (zHH rfl r1 r2 r3 r4 rfl hT).mono fun e W' he=> ?_
 obtain ⟨v,rfl,hv,hw⟩:=he
 obtain rfl:v= .bool true:=hv
 exact ⟨_,rfl,⟨[d0,d1,d2,d3,d4,d5], [],p0++(p1++(p2++(p3++(p4++p5)))), [],p0++(p1++(p2++(p3++(p4++p5)))), [],hW',trodAll_mk1 (shut_bool Tryz.underlying4 true),
  zHy (hargs hw (fun x hx=>hlt x (by simp [hx])) kK (zVE kK) h0) (hargs hw (fun x hx=>hlt x (by simp [hx])) kK (zVE kK) h1) (hargs hw (fun x hx=>hlt x (by simp [hx])) kK (zVE kK) h2) (hargs hw (fun x hx=>hlt x (by simp [hx])) kK (zVE kK) h3) (hargs hw (fun x hx=>hlt x (by simp [hx])) kK (zVE kK) h4) (hargs hw (fun x hx=>hlt x (by simp [hx])) kK (zVE kK) h5),rfl,hw.frame _,fun h=>by cases h⟩⟩
theorem zEu:Rows.RoadsMoreSaid:=
 OpenClaim.holds_of_wide 5 Tryz.f5 rfl rfl rfl rfl rfl rfl rfl ⟨rfl,rfl,rfl,rfl,rfl⟩ rfl rfl rfl rfl rfl kK Tryz.func5 kK
  (zVE kK) (by unfold Func.isWrapper;first|(rw [if_pos (by decide+kernel)];kernel_rfl)|(rw [if_neg (by decide+kernel)];exact ⟨rfl,rfl⟩))
  (fun os started H enc _=>zDO os started H enc)
theorem roadsMore_card:Rows.RoadsMoreCardSaid:=
 Claim7.holds_tied_plain_at .later [] [.data] true _ true
  zEu (fun _ h=>by cases h) kK (fun _ h=>by cases h) roadsMore_row_tie rfl ⟨rfl,rfl⟩ kK rfl
  (fun f fn hf hfn=>by
   obtain rfl:f=5:=Option.some.inj ((show Tryz.prog.funcNamed "strait/straitlaw28.RoadsMore" =some 5 by kernel_rfl).symm.trans hf)|>.symm
   obtain rfl:fn=Tryz.f5:=(Option.some.inj (Tryz.func5.symm.trans hfn)).symm
   exact ⟨by kernel_rfl,fun j t ht=>by
    rw [Tryz.params5] at ht
    have hm:t∈ [3,22,23,47,32,3]:=by simpa using Array.mem_of_getElem? ht
    have hall:([3,22,23,47,32,3].all fun u=> !Tryz.prog.wantsStandIn u)=true:=by kernel_rfl
    exact (show Tryz.prog.wantsStandIn t=false by simpa using List.all_eq_true.1 hall t hm)⟩)
  kK
end Go.Proofs.YtencnknhnckpaaaGreatDoor
