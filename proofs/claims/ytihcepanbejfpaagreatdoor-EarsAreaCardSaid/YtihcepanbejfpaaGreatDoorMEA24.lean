/- strait/straitlaw16.EarsArea returns true at every input, and its arguments read as before; the tied card. -/
import Derived.Test.YtihcepanbejfpaaGreatDoorMEA23
import Derived.Deep.Slices
import Derived.Test.YtihcepanbejfpaaGreatDoorMEA20
import Derived.Test.YtihcepanbejfpaaGreatDoorMEA22
import Derived.Test.YtihcepanbejfpaaGreatDoorMEA21
theorem kJ {P:Prop} (h:P:=by kernel_rfl):P:=h
abbrev zVN:=@List.drop_zero
abbrev zVO:=@List.drop_succ_cons
abbrev zVP:=@List.take_succ_cons
abbrev zVQ:=@List.take_zero
abbrev zVR:=@List.cons.injEq
abbrev zVS:=@Go.World.cells?_some
abbrev zVT:=@of_decide_eq_true
abbrev zVU:=@List.getElem?_eq_some_iff
namespace Go.Proofs.YtihcepanbejfpaaGreatDoor
set_option maxRecDepth 100000
open Go.ChangeShapes Go.WideShapes Go.ChangeAt Go.RowKit Go.Proofs.Wd Lb
section
variable {H:Type} {enc:TypeId×Value->H} {w:World} {base:Nat} {held:Bool}
theorem zGu {fuel:Nat} {cs:List Value} {x:DataW H×List MemPlace} (hl:cs.length=3) (h:DataW.trod enc Tryz.prog w base (fun _=>true) held fuel 28 cs=some x): ∃y:QX,(QX.cu y).p cs w/\y.n+y.n'<=Rows.uptoBulk x.1:=by
 obtain ⟨c0,c1,c2,rfl⟩: ∃c0 c1 c2,cs= [c0,c1,c2]:=by
  match cs,hl with
  | [c0,c1,c2],_=>exact ⟨c0,c1,c2,rfl⟩
 obtain ⟨y0,y1,n,hx,_,h0,h1⟩:=trod_struct2 Tryz.underlying28 h
 have hI:Tryz.prog.cellsOf 26=2:=by kernel_rfl
 have hN:Tryz.prog.cellsOf 24=1:=by kernel_rfl
 have hB:Tryz.prog.cellsOf 4=1:=by kernel_rfl
 simp only [hI,hN,zVN,zVO,zVP,zVQ] at h0 h1
 obtain ⟨z0,z1,m,hx0,_,g0,g1⟩:=trod_struct2 Tryz.underlying26 h0
 simp only [hB,hN,zVN,zVO,zVP,zVQ] at g0 g1
 obtain ⟨s,hs,_⟩:=DataW.trod_bool Tryz.underlying4 g0
 obtain rfl:c0= .bool s:=by simpa using hs
 obtain ⟨A,k,c,l,rfl,r1,r2,r3⟩:=zGL g1
 obtain ⟨A',k',c',l',rfl,r1',r2',r3'⟩:=zGL h1
 refine ⟨⟨k,k',iv s l,val l'⟩,⟨_,_,_,rfl,⟨s,A,c,l,rfl,r1,r2,rfl⟩,A',c',l',rfl,r1',r2',rfl⟩, ?_⟩
 subst hx
 subst hx0
 show k+k'<=Rows.uptoBulk (.agg [.agg [z0.1,z1.1],y1.1])
 simp only [Rows.uptoBulk,Rows.uptoBulkAll]
 omega
end
end Go.Proofs.YtihcepanbejfpaaGreatDoor

namespace Go.Proofs.YtihcepanbejfpaaGreatDoor
set_option maxRecDepth 100000
open Go.ChangeShapes Go.WideShapes Go.ChangeAt Go.RowKit Go.Proofs.Wd Lb
section
variable {H:Type} {enc:TypeId×Value->H} {w:World} {base:Nat} {held:Bool}
theorem zEr {fuel:Nat} {cs:List Value} {x:DataW H×List MemPlace} (hl:cs.length=6) (h:DataW.trod enc Tryz.prog w base (fun _=>true) held fuel 30 cs=some x): ∃y:PX,(PX.cu y).p cs w/\PX.b y<=Rows.uptoBulk x.1:=by
 obtain ⟨c0,c1,c2,c3,c4,c5,rfl⟩: ∃c0 c1 c2 c3 c4 c5,cs= [c0,c1,c2,c3,c4,c5]:=by
  match cs,hl with
  | [c0,c1,c2,c3,c4,c5],_=>exact ⟨c0,c1,c2,c3,c4,c5,rfl⟩
 obtain ⟨y0,y1,n,hx,_,h0,h1⟩:=trod_struct2 Tryz.underlying30 h
 have hR:Tryz.prog.cellsOf 28=3:=by kernel_rfl
 simp only [hR,zVN,zVO,zVP,zVQ] at h0 h1
 obtain ⟨p,hp,bp⟩:=zGu rfl h0
 obtain ⟨q,hq,bq⟩:=zGu rfl h1
 have hb:PX.b (p,q)<=Rows.uptoBulk x.1:=by
  subst hx
  show p.n+p.n'+(q.n+q.n')<=Rows.uptoBulk (.agg [y0.1,y1.1])
  simp only [Rows.uptoBulk,Rows.uptoBulkAll]
  omega
 obtain ⟨s,A,a,c,A',a',c',e1⟩: ∃(s:Bool) (A:Option Addr) (a c:Nat) (A':Option Addr) (a' c':Nat), [c0,c1,c2]= [Value.bool s, .slice A a c, .slice A' a' c']:=by
  obtain ⟨b,t,u,e,⟨s,A,c,l,e',_⟩,A',c',l',e'',_⟩:=hp
  have i1:=congrArg Array.toList (jT e)
  have i2:=congrArg Array.toList (jT e')
  simp only [zVR,and_true] at i1 i2
  obtain ⟨rfl,rfl⟩:=i2
  subst e''
  exact ⟨s,A,_,c,A',_,c',by obtain ⟨rfl,rfl,rfl⟩:=i1;rfl⟩
 obtain ⟨s2,B,b,d,B',b',d',e2⟩: ∃(s:Bool) (A:Option Addr) (a c:Nat) (A':Option Addr) (a' c':Nat), [c3,c4,c5]= [Value.bool s, .slice A a c, .slice A' a' c']:=by
  obtain ⟨b,t,u,e,⟨s,A,c,l,e',_⟩,A',c',l',e'',_⟩:=hq
  have i1:=congrArg Array.toList (jT e)
  have i2:=congrArg Array.toList (jT e')
  simp only [zVR,and_true] at i1 i2
  obtain ⟨rfl,rfl⟩:=i2
  subst e''
  exact ⟨s,A,_,c,A',_,c',by obtain ⟨rfl,rfl,rfl⟩:=i1;rfl⟩
 simp only [zVR,and_true] at e1 e2
 obtain ⟨rfl,rfl,rfl⟩:=e1
 obtain ⟨rfl,rfl,rfl⟩:=e2
 exact ⟨(p,q),⟨s,A,a,c,A',a',c',s2,B,b,d,B',b',d',rfl,hp,hq⟩,hb⟩
theorem zJL {P:Program} {t e:TypeId} {z fuel:Nat} {cs:List Value} {x:DataW H×List MemPlace} {sp:Nat->Bool} (ht:P.underlying t=some (.array 3 e)) (hce:P.cellsOf e=z) (h:DataW.trod enc P w base sp held fuel t cs=some x):
  ∃y0 y1 y2 n,x=(.agg [y0.1,y1.1,y2.1],y0.2++(y1.2++y2.2))/\DataW.trod enc P w base sp held n e ((cs.drop 0).take z)=some y0/\DataW.trod enc P w base sp held n e ((cs.drop z).take z)=some y1/\DataW.trod enc P w base sp held n e ((cs.drop (2*z)).take z)=some y2:=by
 cases fuel with
 |zero=>simp [DataW.trod] at h
 | succ n=>
  unfold DataW.trod at h
  rw [ht] at h
  have r3:List.range 3= [0,1,2]:=rfl
  simp [r3,hce] at h
  obtain ⟨_,h⟩:=h
  cases h0:DataW.trod enc P w base sp held n e (cs.take z) with
  |none=>simp [h0] at h
  | some y0=>
   cases h1:DataW.trod enc P w base sp held n e ((cs.drop z).take z) with
   |none=>simp [h0,h1] at h
   | some y1=>
    cases h2:DataW.trod enc P w base sp held n e ((cs.drop (2*z)).take z) with
    |none=>simp [h0,h1,h2] at h
    |some y2=>
     simp [h0,h1,h2] at h
     exact ⟨y0,y1,y2,n,h.symm,by simpa using h0,h1,h2⟩
theorem zGd {fuel:Nat} {cs:List Value} {x:DataW H×List MemPlace} (hl:cs.length=18) (h:DataW.trod enc Tryz.prog w base (fun _=>true) held fuel 38 cs=some x): ∃y:TX,(TX.cu y).p cs w/\TX.b y<=Rows.uptoBulk x.1:=by
 obtain ⟨y0,y1,y2,n,rfl,h0,h1,h2⟩:=zJL Tryz.underlying38 (z:=6) kJ h
 obtain ⟨p,hp,bp⟩:=zEr (by simp;omega) h0
 obtain ⟨q,hq,bq⟩:=zEr (by simp;omega) h1
 obtain ⟨r,hr,br⟩:=zEr (by simp;omega) h2
 refine ⟨(p,q,r),⟨(cs.drop 0).take 6,(cs.drop 6).take 6,(cs.drop 12).take 6, ?_,hp,hq,hr⟩, ?_⟩
 ·congr 2
  rw [zVN]
  have e1:cs=cs.take 6++cs.drop 6:=(List.take_append_drop 6 cs).symm
  have e2:cs.drop 6=(cs.drop 6).take 6++cs.drop 12:=by
   have:=(List.take_append_drop 6 (cs.drop 6)).symm
   rwa [List.drop_drop] at this
  have e3:(cs.drop 12).take 6=cs.drop 12:=List.take_of_length_le (by simp;omega)
  rw [e3,List.append_assoc, <-e2, <-e1]
 ·show PX.b p+PX.b q+PX.b r<=Rows.uptoBulk (.agg [y0.1,y1.1,y2.1])
  simp only [Rows.uptoBulk,Rows.uptoBulkAll]
  omega
theorem zOY {α:Type} [Inhabited α] {t e:TypeId} {z:Nat} (f:α->CU) (bd:α->Nat) (ht:Tryz.prog.underlying t=some (.slice e)) (hC:Tryz.prog.cellsOf e=z) (hz:0<z)
  (hcell: ∀(fuel:Nat) (cs:List Value) (x:DataW H×List MemPlace),cs.length=z->DataW.trod enc Tryz.prog w base (fun _=>true) held fuel e cs=some x-> ∃y,(f y).p cs w/\bd y<=Rows.uptoBulk x.1)
  {r:Reach} {b0:Nat} {v:Value} {d:DataW H} {p:List MemPlace} (hv:Value.okWide Tryz.prog w r b0 t v) (h:DataW.Trod enc Tryz.prog w base (fun _=>true) held t v d p): ∃L:List α,(SF.row z (L.map f)).p v w/\L.length<=Rows.uptoBulk d/\ ∀x,x∈L->bd x<=Rows.uptoBulk d:=by
 obtain ⟨a,len,cap,rfl⟩:=okWide_slice ht hv
 obtain ⟨fuel,h⟩:=h
 rcases Go.Deep.open_slice ht h with ⟨hcs,_⟩|⟨a',len',cap',m,n,D,Pl,hcs,_,hl,hm,hmm,hxx,hx⟩
 ·cases hcs
  exact ⟨[],⟨none,0,rfl,Nat.le_refl _,Nat.zero_le _,fun _=>rfl,fun i C hi=>by simp at hi⟩,Nat.zero_le _,fun x hx=>by cases hx⟩
 ·cases hcs
  simp only [if_true] at hmm
  rw [hC] at hx
  have each: ∀i,i<len-> ∃y:α×List Value,w.cells? base (a'.add (i*z)) z=some y.2/\(f y.1).p y.2 w/\bd y.1<=Rows.uptoBulk (D i):=fun i hi=>by
   obtain ⟨cs,h1,h2⟩:=hx i (by omega)
   obtain ⟨_,h3,_⟩:=zVS h1
   obtain ⟨y,h4,h5⟩:=hcell _ _ _ h3 h2
   exact ⟨(y,cs),h1,h4,h5⟩
  obtain ⟨y,hy⟩:=Go.Deep.choose_lt each
  simp only [Prod.mk.injEq] at hxx
  refine ⟨(List.range len).map fun i=>(y i).1,⟨some a',cap,by simp,by simpa using hl,by unfold maxLen at hm;omega,fun e=>(by cases e),fun i C hi=> ?_⟩, ?_,fun x hx'=> ?_⟩
  ·have hlt:i<len:=by
    have:=(zVU.1 hi).1
    simpa using this
   obtain rfl:f (y i).1=C:=by simpa [hlt] using hi
   obtain ⟨h1,h2,h3⟩:=hy i hlt
   obtain ⟨_,h4,h5⟩:=zVS h1
   obtain ⟨b,off,spot⟩:=a'
   have h6:spot=none:=by
    obtain ⟨_,q4,q5⟩:=zVS (hy 0 (by omega)).1
    have h7:=q5 0 (by omega)
    rw [List.getElem?_eq_getElem (by omega)] at h7
    simpa [Addr.add] using World.cell?_spot h7
   subst h6
   refine ⟨b,off,(y i).2,rfl,fun j u hj=> ?_,h2⟩
   have h7:=h5 j (by have:=(zVU.1 hj).1;omega)
   rw [hj,Addr.add_lit,Addr.add_lit] at h7
   exact h7
  ·rw [hxx.1]
   have:=zOr ((List.range len).map D)
   simp only [Rows.uptoBulk,List.length_map,List.length_range] at this ⊢
   omega
  ·obtain ⟨i,hi,rfl⟩:=List.mem_map.1 hx'
   have hlt:=List.mem_range.1 hi
   have h3:=(hy i hlt).2.2
   have h4:Rows.uptoBulk (D i)<=Rows.uptoBulkAll ((List.range len).map D):=zP5 (List.mem_map.2 ⟨i,hi,rfl⟩)
   rw [hxx.1]
   simp only [Rows.uptoBulk]
   omega
instance:Inhabited QX:=⟨⟨0,0,0,0⟩⟩
theorem zJM {r:Reach} {b0:Nat} {v:Value} {d:DataW H} {p:List MemPlace} (hv:Value.okWide Tryz.prog w r b0 33 v) (h:DataW.Trod enc Tryz.prog w base (fun _=>true) held 33 v d p): ∃L:List TX,(SF.row 18 (txs L)).p v w/\L.length<=Rows.uptoBulk d/\ ∀x,x∈L->TX.b x<=Rows.uptoBulk d:=
 zOY TX.cu TX.b Tryz.underlying33 kJ (by decide) (fun _ _ _ hl h=>zGd hl h) hv h
theorem zJg {P:Program} {r:Reach} {b0 n:Nat} {t e:TypeId} {v:Value} (ht:P.underlying t=some (.array n e)) (h:Value.okWide P w r b0 t v): ∃cs,v= .agg cs/\cs.size=P.cellsOf t:=by
 simp only [Value.okWide,ht] at h
 obtain ⟨cs,h1,h2,_⟩:=h
 exact ⟨cs,h1,h2⟩
theorem zMb {r:Reach} {b0:Nat} {v:Value} {d:DataW H} {p:List MemPlace} (hv:Value.okWide Tryz.prog w r b0 38 v) (h:DataW.Trod enc Tryz.prog w base (fun _=>true) held 38 v d p): ∃x:TX,x.u.p v w/\TX.b x<=Rows.uptoBulk d:=by
 obtain ⟨cs,rfl,hsz⟩:=zJg Tryz.underlying38 hv
 have hC:Tryz.prog.cellsOf 38=18:=by kernel_rfl
 obtain ⟨fuel,hf⟩:=h
 obtain ⟨y,hy,hb⟩:=zGd (cs:=cs.toList) (hsz.trans hC) hf
 exact ⟨y,hy,hb⟩
section
variable {P:Program} {sp:Nat->Bool}
end
end
end Go.Proofs.YtihcepanbejfpaaGreatDoor

namespace Go.Proofs.YtihcepanbejfpaaGreatDoor
open Go.ChangeShapes Go.WideShapes Go.ChangeAt Go.RowKit Go.Proofs.Wd Lb
section
variable {H:Type} {enc:TypeId×Value->H} {w:World} {base:Nat} {held:Bool} {P:Program} {sp:Nat->Bool}
end
end Go.Proofs.YtihcepanbejfpaaGreatDoor

namespace Go.Proofs.YtihcepanbejfpaaGreatDoor
set_option maxRecDepth 100000
open Go.ChangeShapes Go.WideShapes Go.ChangeAt Go.RowKit Go.Proofs.Wd
theorem zEE (os:Os) (started:os.Started) (H:Type) (enc:TypeId×Value->H):
  ReturnsInHanded {} Tryz.checked os 5 .any (fun w args=>(Rows.earsAreaSpec.pre enc Tryz.prog Tryz.f5 [] false w args/\laidMetH Tryz.prog zCA w)/\sizedMet enc Tryz.prog Tryz.f5 (OpenSpec.ofChange Rows.earsAreaSpec) false w args)
   (Rows.earsAreaSpec.post enc Tryz.prog Tryz.f5 false true false false):=by
 refine returnsInHanded_of_change_and (C:=Tryz.checked) (X:=fun w _=>laidMetH Tryz.prog zCA w) (fun _ _ _ hh h=>h.of_heap hh) zNB started kJ Tryz.func5
  (ChangeSpec.witness_shaped (enc:=enc) (C:=Tryz.checked) (os:=os) (X:=fun w _=>laidMetH Tryz.prog zCA w) false (World.doorLaid Tryz.prog 400 os) #[.slice none 0 0, .agg #[.bool false, .slice none 0 0, .slice none 0 0, .bool false, .slice none 0 0, .slice none 0 0, .bool false, .slice none 0 0, .slice none 0 0, .bool false, .slice none 0 0, .slice none 0 0, .bool false, .slice none 0 0, .slice none 0 0, .bool false, .slice none 0 0, .slice none 0 0]] 8 rfl (World.shaped_of_RefB kJ kJ) kJ kJ kJ (zNv os _)) ?_
 intro W base args ds gs before hval0 hW _ _ hL _
 have hval: ∀(j:Nat) t v,Tryz.f5.params[j]?=some t->args[j]?=some v->Value.okWide Tryz.prog W .any base t v:=hval0
 have hW':=hW
 obtain ⟨p,q,hA0,hV,rfl,hfz,hnd⟩:=hW
 have hA:DataW.TrodAll enc Tryz.prog W 0 (fun _=>true) true Tryz.f5.params.toList args.toList ds p:=hA0
 rw [Tryz.params5] at hA hval
 obtain ⟨v0,v1,d0,d1,p0,p1,rfl,rfl,rfl,h0,h1⟩:=trodAll_two hA
 obtain ⟨rfl,rfl⟩:=trodVars_none hV
 obtain ⟨x0,r0,_,_⟩:=zJM (hval 0 33 _ rfl rfl) h0
 obtain ⟨x1,r1,_⟩:=zMb (hval 1 38 _ rfl rfl) h1
 have hT:=zHi hL
 clear hA0 hval0
 simp only [List.append_nil] at hW'
 have hlt: ∀x∈p0++p1,x.block<W.heap.size:=fun x hx=>hW'.lt x (by simpa using hx)
 have hargs: ∀{W':World} {t:TypeId} {v:Value} {d:DataW H} {p:List MemPlace},Below W.heap.size W W'->(∀x∈p,x.block<W.heap.size)->Tryz.prog.readableRec t=true->t<Tryz.prog.types.size->DataW.Trod enc Tryz.prog W 0 (fun _=>true) true t v d p->DataW.Trod enc Tryz.prog W' 0 (fun b=>decide (b<W.heap.size)) true t v d p:=
  fun hn hl hr hs ht=>Below.trod zLR hr hs ht hn hl
 refine (zJp r0 r1 hT).mono fun e W' he=> ?_
 obtain ⟨v,rfl,hv,hw⟩:=he
 obtain rfl:v= .bool true:=hv
 exact ⟨_,rfl,⟨[d0,d1], [],p0++p1, [],p0++p1, [],hW',trodAll_mk1 (shut_bool Tryz.underlying4 true),
  trodAll_mk2 (hargs hw (fun x hx=>hlt x (by simp [hx])) kJ (zVT kJ) h0) (hargs hw (fun x hx=>hlt x (by simp [hx])) kJ (zVT kJ) h1),rfl,hw.frame _,fun h=>by cases h⟩⟩
theorem zER:Rows.EarsAreaSaid:=
 OpenClaim.holds_of_wide 5 Tryz.f5 rfl rfl rfl rfl rfl rfl rfl ⟨rfl,rfl,rfl,rfl,rfl⟩ rfl rfl rfl rfl rfl kJ Tryz.func5 kJ
  (zVT kJ) (by unfold Func.isWrapper;first|(rw [if_pos (by decide+kernel)];kernel_rfl)|(rw [if_neg (by decide+kernel)];exact ⟨rfl,rfl⟩))
  (fun os started H enc _=>zEE os started H enc)
theorem earsArea_card:Rows.EarsAreaCardSaid:=
 Claim7.holds_tied_plain_at .later [] [.data] true _ false
  zER (fun _ h=>by cases h) kJ (fun _ h=>by cases h) earsArea_row_tie rfl ⟨rfl,rfl⟩ kJ rfl
  (fun f fn hf hfn=>by
   obtain rfl:f=5:=Option.some.inj ((show Tryz.prog.funcNamed "strait/straitlaw16.EarsArea" =some 5 by kernel_rfl).symm.trans hf)|>.symm
   obtain rfl:fn=Tryz.f5:=(Option.some.inj (Tryz.func5.symm.trans hfn)).symm
   exact ⟨by kernel_rfl,fun j t ht=>by
    rw [Tryz.params5] at ht
    have hm:t∈ [33,38]:=by simpa using Array.mem_of_getElem? ht
    have hall:([33,38].all fun u=> !Tryz.prog.wantsStandIn u)=true:=by kernel_rfl
    exact (show Tryz.prog.wantsStandIn t=false by simpa using List.all_eq_true.1 hall t hm)⟩)
  kJ
end Go.Proofs.YtihcepanbejfpaaGreatDoor
