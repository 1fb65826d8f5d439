/- strait/straitlaw18.ApartPoints returns true at every input, and its arguments read as before; the tied card. -/
import Derived.Test.YtflmgbgobidieaaGreatDoorMPO23
import Derived.Deep.Slices
import Derived.Test.YtflmgbgobidieaaGreatDoorMPO21
import Derived.Test.YtflmgbgobidieaaGreatDoorMPO22
namespace Go.Proofs.YtflmgbgobidieaaGreatDoor
set_option maxRecDepth 100000
open Go.ChangeShapes Go.WideShapes Go.ChangeAt Go.RowKit Go.Proofs.Wd Lb
section
variable {H:Type} {enc:TypeId×Value→H} {w:World} {base:Nat} {held:Bool}
theorem rat_cells {fuel:Nat} {cs:List Value} {x:DataW H×List MemPlace} (hl:cs.length=3) (h:DataW.trod enc Tryz.prog w base (fun _=>true) held fuel 29 cs=some x): ∃y:QX,(QX.cu y).p cs w∧y.n+y.n'≤Rows.uptoBulk x.1:=by
 obtain ⟨c0,c1,c2,rfl⟩: ∃c0 c1 c2,cs= [c0,c1,c2]:=by
  match cs,hl with
  | [c0,c1,c2],_=>exact ⟨c0,c1,c2,rfl⟩
 obtain ⟨y0,y1,n,hx,_,h0,h1⟩:=trod_struct2 Tryz.underlying29 h
 have hI:Tryz.prog.cellsOf 27=2:=by kernel_rfl
 have hN:Tryz.prog.cellsOf 25=1:=by kernel_rfl
 have hB:Tryz.prog.cellsOf 4=1:=by kernel_rfl
 simp only [hI,hN,List.drop_zero,List.drop_succ_cons,List.take_succ_cons,List.take_zero] at h0 h1
 obtain ⟨z0,z1,m,hx0,_,g0,g1⟩:=trod_struct2 Tryz.underlying27 h0
 simp only [hB,hN,List.drop_zero,List.drop_succ_cons,List.take_succ_cons,List.take_zero] at g0 g1
 obtain ⟨s,hs,_⟩:=DataW.trod_bool Tryz.underlying4 g0
 obtain rfl:c0= .bool s:=by simpa using hs
 obtain ⟨A,k,c,l,rfl,r1,r2,r3⟩:=nat_cellB g1
 obtain ⟨A',k',c',l',rfl,r1',r2',r3'⟩:=nat_cellB h1
 refine ⟨⟨k,k',iv s l,val l'⟩,⟨_,_,_,rfl,⟨s,A,c,l,rfl,r1,r2,rfl⟩,A',c',l',rfl,r1',r2',rfl⟩, ?_⟩
 subst hx
 subst hx0
 show k+k'≤Rows.uptoBulk (.agg [.agg [z0.1,z1.1],y1.1])
 simp only [Rows.uptoBulk,Rows.uptoBulkAll]
 omega
end
end Go.Proofs.YtflmgbgobidieaaGreatDoor

namespace Go.Proofs.YtflmgbgobidieaaGreatDoor
set_option maxRecDepth 100000
open Go.ChangeShapes Go.WideShapes Go.ChangeAt Go.RowKit Go.Proofs.Wd Lb
section
variable {H:Type} {enc:TypeId×Value→H} {w:World} {base:Nat} {held:Bool}
theorem pt_cells {fuel:Nat} {cs:List Value} {x:DataW H×List MemPlace} (hl:cs.length=6) (h:DataW.trod enc Tryz.prog w base (fun _=>true) held fuel 31 cs=some x): ∃y:PX,(PX.cu y).p cs w:=by
 obtain ⟨c0,c1,c2,c3,c4,c5,rfl⟩: ∃c0 c1 c2 c3 c4 c5,cs= [c0,c1,c2,c3,c4,c5]:=by
  match cs,hl with
  | [c0,c1,c2,c3,c4,c5],_=>exact ⟨c0,c1,c2,c3,c4,c5,rfl⟩
 obtain ⟨y0,y1,n,hx,_,h0,h1⟩:=trod_struct2 Tryz.underlying31 h
 have hR:Tryz.prog.cellsOf 29=3:=by kernel_rfl
 simp only [hR,List.drop_zero,List.drop_succ_cons,List.take_succ_cons,List.take_zero] at h0 h1
 obtain ⟨p,hp,_⟩:=rat_cells rfl h0
 obtain ⟨q,hq,_⟩:=rat_cells rfl h1
 obtain ⟨s,A,a,c,A',a',c',e1⟩: ∃(s:Bool) (A:Option Addr) (a c:Nat) (A':Option Addr) (a' c':Nat), [c0,c1,c2]= [Value.bool s, .slice A a c, .slice A' a' c']:=by
  obtain ⟨b,t,u,e,⟨s,A,c,l,e',_⟩,A',c',l',e'',_⟩:=hp
  have i1:=congrArg Array.toList (agg_inj e)
  have i2:=congrArg Array.toList (agg_inj e')
  simp only [List.cons.injEq,and_true] at i1 i2
  obtain ⟨rfl,rfl⟩:=i2
  subst e''
  exact ⟨s,A,_,c,A',_,c',by obtain ⟨rfl,rfl,rfl⟩:=i1;rfl⟩
 obtain ⟨s2,B,b,d,B',b',d',e2⟩: ∃(s:Bool) (A:Option Addr) (a c:Nat) (A':Option Addr) (a' c':Nat), [c3,c4,c5]= [Value.bool s, .slice A a c, .slice A' a' c']:=by
  obtain ⟨b,t,u,e,⟨s,A,c,l,e',_⟩,A',c',l',e'',_⟩:=hq
  have i1:=congrArg Array.toList (agg_inj e)
  have i2:=congrArg Array.toList (agg_inj e')
  simp only [List.cons.injEq,and_true] at i1 i2
  obtain ⟨rfl,rfl⟩:=i2
  subst e''
  exact ⟨s,A,_,c,A',_,c',by obtain ⟨rfl,rfl,rfl⟩:=i1;rfl⟩
 simp only [List.cons.injEq,and_true] at e1 e2
 obtain ⟨rfl,rfl,rfl⟩:=e1
 obtain ⟨rfl,rfl,rfl⟩:=e2
 exact ⟨(p,q),s,A,a,c,A',a',c',s2,B,b,d,B',b',d',rfl,hp,hq⟩
theorem pt_arg {r:Reach} {b0:Nat} {v:Value} {d:DataW H} {p:List MemPlace} (hv:Value.okWide Tryz.prog w r b0 31 v) (h:DataW.Trod enc Tryz.prog w base (fun _=>true) held 31 v d p): ∃x:PX,x.u.p v w:=by
 obtain ⟨cs,rfl,hsz⟩:=okWide_struct Tryz.underlying31 hv
 have hC:Tryz.prog.cellsOf 31=6:=by kernel_rfl
 obtain ⟨fuel,hf⟩:=h
 obtain ⟨y,hy⟩:=pt_cells (cs:=cs.toList) (hsz.trans hC) hf
 exact ⟨y,hy⟩
theorem pts_arg {r:Reach} {b0:Nat} {v:Value} {d:DataW H} {p:List MemPlace} (hv:Value.okWide Tryz.prog w r b0 22 v) (h:DataW.Trod enc Tryz.prog w base (fun _=>true) held 22 v d p): ∃L:List PX,(SF.row 6 (pxs L)).p v w:=by
 obtain ⟨a,len,cap,rfl⟩:=okWide_slice Tryz.underlying22 hv
 obtain ⟨fuel,h⟩:=h
 rcases Go.Deep.open_slice Tryz.underlying22 h with ⟨hcs,_⟩|⟨a',len',cap',m,n,D,Pl,hcs,_,hl,hm,hmm,hxx,hx⟩
 ·cases hcs
  exact ⟨[],⟨none,0,rfl,Nat.le_refl _,by omega,fun _=>rfl,fun i C hi=>by simp at hi⟩⟩
 ·cases hcs
  simp only [if_true] at hmm
  have hC:Tryz.prog.cellsOf 31=6:=by kernel_rfl
  rw [hC] at hx
  have each: ∀i,i<len→ ∃y:PX×List Value,w.cells? base (a'.add (i*6)) 6=some y.2∧(PX.cu y.1).p y.2 w:=fun i hi=>by
   obtain ⟨cs,h1,h2⟩:=hx i (by omega)
   obtain ⟨_,h3,_⟩:=World.cells?_some h1
   obtain ⟨y,h4⟩:=pt_cells h3 h2
   exact ⟨(y,cs),h1,h4⟩
  haveI:Inhabited QX:=⟨⟨0,0,0,0⟩⟩
  obtain ⟨y,hy⟩:=Go.Deep.choose_lt each
  refine ⟨(List.range len).map fun i=>(y i).1,⟨some a',cap,by simp [pxs],by simpa [pxs] using hl,by unfold maxLen at hm;omega,fun e=>(by cases e),fun i C hi=> ?_⟩⟩
  have hlt:i<len:=by
   have:=(List.getElem?_eq_some_iff.1 hi).1
   simpa [pxs] using this
  obtain rfl:PX.cu (y i).1=C:=by simpa [pxs,hlt] using hi
  obtain ⟨h1,h2⟩:=hy i hlt
  obtain ⟨_,h4,h5⟩:=World.cells?_some h1
  obtain ⟨b,off,spot⟩:=a'
  have h6:spot=none:=by
   obtain ⟨_,q4,q5⟩:=World.cells?_some (hy 0 (by omega)).1
   have h7:=q5 0 (by omega)
   rw [List.getElem?_eq_getElem (by omega)] at h7
   simpa [Addr.add] using World.cell?_spot h7
  subst h6
  refine ⟨b,off,(y i).2,rfl,fun j u hj=> ?_,h2⟩
  have h7:=h5 j (by have:=(List.getElem?_eq_some_iff.1 hj).1;omega)
  rw [hj,Addr.add_lit,Addr.add_lit] at h7
  exact h7
end
end Go.Proofs.YtflmgbgobidieaaGreatDoor

namespace Go.Proofs.YtflmgbgobidieaaGreatDoor
set_option maxRecDepth 100000
open Go.ChangeShapes Go.WideShapes Go.ChangeAt Go.RowKit Go.Proofs.Wd
theorem apartPoints_lifted (os:Os) (started:os.Started) (H:Type) (enc:TypeId×Value→H):
  ReturnsInHanded {} Tryz.checked os 4 .any (fun w args=>(Rows.apartPointsSpec.pre enc Tryz.prog Tryz.f4 [] false w args∧laidMetH Tryz.prog bitsLaid w)∧sizedMet enc Tryz.prog Tryz.f4 (OpenSpec.ofChange Rows.apartPointsSpec) false w args)
   (Rows.apartPointsSpec.post enc Tryz.prog Tryz.f4 false true false false):=by
 refine returnsInHanded_of_change_and (C:=Tryz.checked) (X:=fun w _=>laidMetH Tryz.prog bitsLaid w) (fun _ _ _ hh h=>h.of_heap hh) Tryz_own started (by kernel_rfl) Tryz.func4
  (ChangeSpec.witness_shaped (enc:=enc) (C:=Tryz.checked) (os:=os) (X:=fun w _=>laidMetH Tryz.prog bitsLaid w) false (World.doorLaid Tryz.prog 400 os) #[.slice none 0 0, .slice none 0 0, .agg #[.bool false, .slice none 0 0, .slice none 0 0, .bool false, .slice none 0 0, .slice none 0 0]] 8 rfl (World.shaped_of_RefB (by kernel_rfl) (by kernel_rfl)) (by kernel_rfl) (by kernel_rfl) (by kernel_rfl) (door_met os _)) ?_
 intro W base args ds gs before hval0 hW _ _ hL _
 have hval: ∀(j:Nat) t v,Tryz.f4.params[j]?=some t→args[j]?=some v→Value.okWide Tryz.prog W .any base t v:=hval0
 have hW':=hW
 obtain ⟨p,q,hA0,hV,rfl,hfz,hnd⟩:=hW
 have hA:DataW.TrodAll enc Tryz.prog W 0 (fun _=>true) true Tryz.f4.params.toList args.toList ds p:=hA0
 rw [Tryz.params4] at hA hval
 obtain ⟨v0,v1,v2,d0,d1,d2,p0,p1,p2,rfl,rfl,rfl,h0,h1,h2⟩:=trodAll_three hA
 obtain ⟨rfl,rfl⟩:=trodVars_none hV
 obtain ⟨x0,r0⟩:=pts_arg (hval 0 22 _ rfl rfl) h0
 obtain ⟨x1,r1⟩:=pts_arg (hval 1 22 _ rfl rfl) h1
 obtain ⟨x2,r2⟩:=pt_arg (hval 2 31 _ rfl rfl) h2
 have hT:=tab_of_laid hL
 clear hA0 hval0
 simp only [List.append_nil,List.append_assoc] at hW'
 have hlt: ∀x∈p0++(p1++p2),x.block<W.heap.size:=fun x hx=>hW'.lt x (by simpa using hx)
 have hargs: ∀{W':World} {t:TypeId} {v:Value} {d:DataW H} {p:List MemPlace},Below W.heap.size W W'→(∀x∈p,x.block<W.heap.size)→Tryz.prog.readableRec t=true→t<Tryz.prog.types.size→DataW.Trod enc Tryz.prog W 0 (fun _=>true) true t v d p→DataW.Trod enc Tryz.prog W' 0 (fun b=>decide (b<W.heap.size)) true t v d p:=
  fun hn hl hr hs ht=>Below.trod Tryz_laid hr hs ht hn hl
 refine (points_p r0 r1 r2 hT).mono fun e W' he=> ?_
 obtain ⟨v,rfl,hv,hw⟩:=he
 obtain rfl:v= .bool true:=hv
 exact ⟨_,rfl,⟨[d0,d1,d2], [],p0++(p1++p2), [],p0++(p1++p2), [],hW',trodAll_mk1 (shut_bool Tryz.underlying4 true),
  trodAll_mk3 (hargs hw (fun x hx=>hlt x (by simp [hx])) (by kernel_rfl) (of_decide_eq_true (by kernel_rfl)) h0) (hargs hw (fun x hx=>hlt x (by simp [hx])) (by kernel_rfl) (of_decide_eq_true (by kernel_rfl)) h1) (hargs hw (fun x hx=>hlt x (by simp [hx])) (by kernel_rfl) (of_decide_eq_true (by kernel_rfl)) h2),rfl,hw.frame _,fun h=>by cases h⟩⟩
theorem apartPoints_holds:Rows.ApartPointsSaid:=
 OpenClaim.holds_of_wide 4 Tryz.f4 rfl rfl rfl rfl rfl rfl rfl ⟨rfl,rfl,rfl,rfl,rfl⟩ rfl rfl rfl rfl rfl (by kernel_rfl) Tryz.func4 (by kernel_rfl)
  (of_decide_eq_true (by kernel_rfl)) (by unfold Func.isWrapper;first|(rw [if_pos (by decide+kernel)];kernel_rfl)|(rw [if_neg (by decide+kernel)];exact ⟨rfl,rfl⟩))
  (fun os started H enc _=>apartPoints_lifted os started H enc)
theorem apartPoints_card:Rows.ApartPointsCardSaid:=
 Claim7.holds_tied_plain_at .later [] [.data] true _ false
  apartPoints_holds (fun _ h=>by cases h) (by kernel_rfl) (fun _ h=>by cases h) apartPoints_row_tie rfl ⟨rfl,rfl⟩ (by kernel_rfl) rfl
  (fun f fn hf hfn=>by
   obtain rfl:f=4:=Option.some.inj ((show Tryz.prog.funcNamed "strait/straitlaw18.ApartPoints" =some 4 by kernel_rfl).symm.trans hf)|>.symm
   obtain rfl:fn=Tryz.f4:=(Option.some.inj (Tryz.func4.symm.trans hfn)).symm
   exact ⟨by kernel_rfl,fun j t ht=>by
    rw [Tryz.params4] at ht
    have hm:t∈ [22,22,31]:=by simpa using Array.mem_of_getElem? ht
    have hall:([22,22,31].all fun u=> !Tryz.prog.wantsStandIn u)=true:=by kernel_rfl
    exact (show Tryz.prog.wantsStandIn t=false by simpa using List.all_eq_true.1 hall t hm)⟩)
  (by kernel_rfl)
end Go.Proofs.YtflmgbgobidieaaGreatDoor
