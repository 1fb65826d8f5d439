/- strait/straitlaw28.RoadsLeast returns true at every input, and its arguments read as before; the tied card. -/
import Derived.Test.YtencnknhnckpaaaGreatDoorMRL23
import Derived.Test.YtencnknhnckpaaaGreatDoorMRL21
import Derived.ChangeSame
import Derived.Deep.Slices
import Derived.Test.YtencnknhnckpaaaGreatDoorMRL22
theorem kK {P:Prop} (h:P:=by kernel_rfl):P:=h
abbrev zU7:=@of_decide_eq_true
abbrev zU8:=@List.drop_zero
abbrev zU9:=@List.drop_succ_cons
abbrev zVa:=@List.take_succ_cons
abbrev zVb:=@List.take_zero
abbrev zVc:=@Go.World.cells?_some
abbrev zVd:=@List.getElem?_eq_some_iff
namespace Go.Proofs.YtencnknhnckpaaaGreatDoor
set_option maxRecDepth 100000
open Go.ChangeShapes Go.WideShapes Go.ChangeAt Go.RowKit Go.Proofs.Wd Lb
section
variable {H:Type} {enc:TypeId×Value->H} {w:World} {base:Nat} {held:Bool}
theorem zFk {fuel:Nat} {v:Value} {x:DataW H×List MemPlace} (h:DataW.trod enc Tryz.prog w base (fun _=>true) held fuel 28 [v]=some x): ∃A n c l,v= .slice A n c/\Rd w A n c l/\Lt l:=zM9 h
theorem zHA {fuel:Nat} {cs:List Value} {x:DataW H×List MemPlace} (hl:cs.length=3) (h:DataW.trod enc Tryz.prog w base (fun _=>true) held fuel 32 cs=some x): ∃y:QX,(wD y).p cs w:=by
 obtain ⟨c0,c1,c2,rfl⟩: ∃c0 c1 c2,cs= [c0,c1,c2]:=by
  match cs,hl with
  | [c0,c1,c2],_=>exact ⟨c0,c1,c2,rfl⟩
 obtain ⟨y0,y1,n,hx,_,h0,h1⟩:=trod_struct2 Tryz.underlying32 h
 have hI:Tryz.prog.cellsOf 30=2:=by kernel_rfl
 have hN:Tryz.prog.cellsOf 28=1:=by kernel_rfl
 have hB:Tryz.prog.cellsOf 4=1:=by kernel_rfl
 simp only [hI,hN,zU8,zU9,zVa,zVb] at h0 h1
 obtain ⟨z0,z1,m,hx0,_,g0,g1⟩:=trod_struct2 Tryz.underlying30 h0
 simp only [hB,hN,zU8,zU9,zVa,zVb] at g0 g1
 obtain ⟨s,hs,_⟩:=DataW.trod_bool Tryz.underlying4 g0
 obtain rfl:c0= .bool s:=by simpa using hs
 obtain ⟨A,k,c,l,rfl,r1,r2⟩:=zFk g1
 obtain ⟨A',k',c',l',rfl,r1',r2'⟩:=zFk h1
 exact ⟨⟨k,k',iv s l,val l'⟩,_,_,_,rfl,⟨s,A,c,l,rfl,r1,r2,rfl⟩,A',c',l',rfl,r1',r2',rfl⟩
theorem zG2 {fuel:Nat} {cs:List Value} {x:DataW H×List MemPlace} (hl:cs.length=2) (h:DataW.trod enc Tryz.prog w base (fun _=>true) held fuel 47 cs=some x): ∃y:Int×Int,(CU.agg (fJn y)).p cs w:=by
 obtain ⟨c0,c1,rfl⟩: ∃c0 c1,cs= [c0,c1]:=by
  match cs,hl with
  | [c0,c1],_=>exact ⟨c0,c1,rfl⟩
 obtain ⟨y0,y1,n,hx,_,h0,h1⟩:=trod_struct2 Tryz.underlying47 h
 have hI:Tryz.prog.cellsOf 3=1:=by kernel_rfl
 simp only [hI,zU8,zU9,zVa,zVb] at h0 h1
 obtain ⟨z0,e0,_⟩:=DataW.trod_int Tryz.underlying3 h0
 obtain ⟨z1,e1,_⟩:=DataW.trod_int Tryz.underlying3 h1
 obtain rfl:c0= .int .i64 z0:=by simpa using e0
 obtain rfl:c1= .int .i64 z1:=by simpa using e1
 exact ⟨(z0,z1),rfl⟩
theorem zHT {fuel:Nat} {cs:List Value} {x:DataW H×List MemPlace} (_:cs.length=1) (h:DataW.trod enc Tryz.prog w base (fun _=>true) held fuel 3 cs=some x): ∃y:Int,(wC [.int .i64 y]).p cs w:=by
 obtain ⟨z0,e0,_⟩:=DataW.trod_int Tryz.underlying3 h
 exact ⟨z0,e0⟩
theorem zEo {α:Type} [Inhabited α] {t e:TypeId} {z:Nat} (f:α->CU) (ht:Tryz.prog.underlying t=some (.slice e)) (hC:Tryz.prog.cellsOf e=z) (hz:0<z)
  (hcell: ∀(fuel:Nat) (cs:List Value) (x:DataW H×List MemPlace),cs.length=z->DataW.trod enc Tryz.prog w base (fun _=>true) held fuel e cs=some x-> ∃y,(f y).p cs w)
  {r:Reach} {b0:Nat} {v:Value} {d:DataW H} {p:List MemPlace} (hv:Value.okWide Tryz.prog w r b0 t v) (h:DataW.Trod enc Tryz.prog w base (fun _=>true) held t v d p): ∃L:List α,(SF.row z (L.map f)).p v w:=by
 obtain ⟨a,len,cap,rfl⟩:=okWide_slice ht hv
 obtain ⟨fuel,h⟩:=h
 rcases Go.Deep.open_slice ht h with ⟨hcs,_⟩|⟨a',len',cap',m,n,D,Pl,hcs,_,hl,hm,hmm,hxx,hx⟩
 ·cases hcs
  exact ⟨[],⟨none,0,rfl,Nat.le_refl _,Nat.zero_le _,fun _=>rfl,fun i C hi=>by simp at hi⟩⟩
 ·cases hcs
  simp only [if_true] at hmm
  rw [hC] at hx
  have each: ∀i,i<len-> ∃y:α×List Value,w.cells? base (a'.add (i*z)) z=some y.2/\(f y.1).p y.2 w:=fun i hi=>by
   obtain ⟨cs,h1,h2⟩:=hx i (by omega)
   obtain ⟨_,h3,_⟩:=zVc h1
   obtain ⟨y,h4⟩:=hcell _ _ _ h3 h2
   exact ⟨(y,cs),h1,h4⟩
  obtain ⟨y,hy⟩:=Go.Deep.choose_lt each
  refine ⟨(List.range len).map fun i=>(y i).1,⟨some a',cap,by simp,by simpa using hl,by unfold maxLen at hm;omega,fun e=>(by cases e),fun i C hi=> ?_⟩⟩
  have hlt:i<len:=by
   have:=(zVd.1 hi).1
   simpa using this
  obtain rfl:f (y i).1=C:=by simpa [hlt] using hi
  obtain ⟨h1,h2⟩:=hy i hlt
  obtain ⟨_,h4,h5⟩:=zVc h1
  obtain ⟨b,off,spot⟩:=a'
  have h6:spot=none:=by
   obtain ⟨_,q4,q5⟩:=zVc (hy 0 (by omega)).1
   have h7:=q5 0 (by omega)
   rw [List.getElem?_eq_getElem (by omega)] at h7
   simpa [Addr.add] using World.cell?_spot h7
  subst h6
  refine ⟨b,off,(y i).2,rfl,fun j u hj=> ?_,h2⟩
  have h7:=h5 j (by have:=(zVd.1 hj).1;omega)
  rw [hj,Addr.add_lit,Addr.add_lit] at h7
  exact h7
instance:Inhabited QX:=⟨⟨0,0,0,0⟩⟩
theorem zJo {r:Reach} {b0:Nat} {v:Value} {d:DataW H} {p:List MemPlace} (hv:Value.okWide Tryz.prog w r b0 23 v) (h:DataW.Trod enc Tryz.prog w base (fun _=>true) held 23 v d p): ∃L:List QX,(SF.row 3 (qxs L)).p v w:=
 zEo wD Tryz.underlying23 kK (by decide) (fun _ _ _ hl h=>zHA hl h) hv h
theorem zHR {r:Reach} {b0:Nat} {v:Value} {d:DataW H} {p:List MemPlace} (hv:Value.okWide Tryz.prog w r b0 22 v) (h:DataW.Trod enc Tryz.prog w base (fun _=>true) held 22 v d p): ∃L:List (Int×Int),(SF.row 2 (jns L)).p v w:=
 zEo (fun j=>CU.agg (fJn j)) Tryz.underlying22 kK (by decide) (fun _ _ _ hl h=>zG2 hl h) hv h
theorem zJG {r:Reach} {b0:Nat} {v:Value} {d:DataW H} {p:List MemPlace} (hv:Value.okWide Tryz.prog w r b0 24 v) (h:DataW.Trod enc Tryz.prog w base (fun _=>true) held 24 v d p): ∃L:List Int,(SF.row 1 (ins L)).p v w:=
 zEo (fun z=>wC [.int .i64 z]) Tryz.underlying24 kK (by decide) (fun _ _ _ hl h=>zHT hl h) hv h
end
section
variable {H:Type} {enc:TypeId×Value->H} {w:World} {base:Nat} {held:Bool} {P:Program} {sp:Nat->Bool}
end
end Go.Proofs.YtencnknhnckpaaaGreatDoor

namespace Go.Proofs.YtencnknhnckpaaaGreatDoor
set_option maxRecDepth 100000
open Go.ChangeShapes Go.WideShapes Go.ChangeAt Go.RowKit Go.Proofs.Wd
theorem zDh (os:Os) (started:os.Started) (H:Type) (enc:TypeId×Value->H):
  ReturnsInHanded {} Tryz.checked os 3 .any (fun w args=>(Rows.roadsLeastSpec.pre enc Tryz.prog Tryz.f3 [] false w args/\laidMetH Tryz.prog zCw w)/\sizedMet enc Tryz.prog Tryz.f3 (OpenSpec.ofChange Rows.roadsLeastSpec) false w args)
   (Rows.roadsLeastSpec.post enc Tryz.prog Tryz.f3 false true false false):=by
 refine returnsInHanded_of_change_and (C:=Tryz.checked) (X:=fun w _=>laidMetH Tryz.prog zCw w) (fun _ _ _ hh h=>h.of_heap hh) zNI started kK Tryz.func3
  (ChangeSpec.witness_shaped (enc:=enc) (C:=Tryz.checked) (os:=os) (X:=fun w _=>laidMetH Tryz.prog zCw w) false (World.doorLaid Tryz.prog 400 os) #[.int .i64 0, .slice none 0 0, .slice none 0 0, .slice none 0 0] 8 rfl (World.shaped_of_RefB kK kK) kK kK kK (zNB os _)) ?_
 intro W base args ds gs before hval0 hW _ _ hL _
 have hval: ∀(j:Nat) t v,Tryz.f3.params[j]?=some t->args[j]?=some v->Value.okWide Tryz.prog W .any base t v:=hval0
 have hW':=hW
 obtain ⟨p,q,hA0,hV,rfl,hfz,hnd⟩:=hW
 have hA:DataW.TrodAll enc Tryz.prog W 0 (fun _=>true) true Tryz.f3.params.toList args.toList ds p:=hA0
 rw [Tryz.params3] at hA hval
 obtain ⟨v0,v1,v2,v3,d0,d1,d2,d3,p0,p1,p2,p3,rfl,rfl,rfl,h0,h1,h2,h3⟩:=trodAll_four hA
 obtain ⟨rfl,rfl⟩:=trodVars_none hV
 obtain ⟨z0,rfl,_,_,_⟩:=open_int Tryz.underlying3 (hval 0 3 _ rfl rfl) h0
 obtain ⟨x1,r1⟩:=zHR (hval 1 22 _ rfl rfl) h1
 obtain ⟨x2,r2⟩:=zJo (hval 2 23 _ rfl rfl) h2
 obtain ⟨x3,r3⟩:=zJG (hval 3 24 _ rfl rfl) h3
 have hT:=zHs hL
 clear hA0 hval0
 simp only [List.append_nil,List.append_assoc] at hW'
 have hlt: ∀x∈p0++(p1++(p2++p3)),x.block<W.heap.size:=fun x hx=>hW'.lt x (by simpa using hx)
 have hargs: ∀{W':World} {t:TypeId} {v:Value} {d:DataW H} {p:List MemPlace},Below W.heap.size W W'->(∀x∈p,x.block<W.heap.size)->Tryz.prog.readableRec t=true->t<Tryz.prog.types.size->DataW.Trod enc Tryz.prog W 0 (fun _=>true) true t v d p->DataW.Trod enc Tryz.prog W' 0 (fun b=>decide (b<W.heap.size)) true t v d p:=
  fun hn hl hr hs ht=>Below.trod zL2 hr hs ht hn hl
 refine (zGB rfl r1 r2 r3 hT).mono fun e W' he=> ?_
 obtain ⟨v,rfl,hv,hw⟩:=he
 obtain rfl:v= .bool true:=hv
 exact ⟨_,rfl,⟨[d0,d1,d2,d3], [],p0++(p1++(p2++p3)), [],p0++(p1++(p2++p3)), [],hW',trodAll_mk1 (shut_bool Tryz.underlying4 true),
  trodAll_mk4 (hargs hw (fun x hx=>hlt x (by simp [hx])) kK (zU7 kK) h0) (hargs hw (fun x hx=>hlt x (by simp [hx])) kK (zU7 kK) h1) (hargs hw (fun x hx=>hlt x (by simp [hx])) kK (zU7 kK) h2) (hargs hw (fun x hx=>hlt x (by simp [hx])) kK (zU7 kK) h3),rfl,hw.frame _,fun h=>by cases h⟩⟩
theorem zDH:Rows.RoadsLeastSaid:=
 OpenClaim.holds_of_wide 3 Tryz.f3 rfl rfl rfl rfl rfl rfl rfl ⟨rfl,rfl,rfl,rfl,rfl⟩ rfl rfl rfl rfl rfl kK Tryz.func3 kK
  (zU7 kK) (by unfold Func.isWrapper;first|(rw [if_pos (by decide+kernel)];kernel_rfl)|(rw [if_neg (by decide+kernel)];exact ⟨rfl,rfl⟩))
  (fun os started H enc _=>zDh os started H enc)
theorem roadsLeast_card:Rows.RoadsLeastCardSaid:=
 Claim7.holds_tied_plain_at .later [] [.data] true _ true
  zDH (fun _ h=>by cases h) kK (fun _ h=>by cases h) roadsLeast_row_tie rfl ⟨rfl,rfl⟩ kK rfl
  (fun f fn hf hfn=>by
   obtain rfl:f=3:=Option.some.inj ((show Tryz.prog.funcNamed "strait/straitlaw28.RoadsLeast" =some 3 by kernel_rfl).symm.trans hf)|>.symm
   obtain rfl:fn=Tryz.f3:=(Option.some.inj (Tryz.func3.symm.trans hfn)).symm
   exact ⟨by kernel_rfl,fun j t ht=>by
    rw [Tryz.params3] at ht
    have hm:t∈ [3,22,23,24]:=by simpa using Array.mem_of_getElem? ht
    have hall:([3,22,23,24].all fun u=> !Tryz.prog.wantsStandIn u)=true:=by kernel_rfl
    exact (show Tryz.prog.wantsStandIn t=false by simpa using List.all_eq_true.1 hall t hm)⟩)
  kK
end Go.Proofs.YtencnknhnckpaaaGreatDoor
