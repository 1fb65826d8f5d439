/- strait/straitlaw17.InsideConvex returns true at every input whose arguments' bulk is at most the row's bound, and its arguments read as before; the tied card of the second form. -/
import Derived.Test.YtdfhaibojmnmkaaGreatDoorMCX23
import Derived.Test.YtdfhaibojmnmkaaGreatDoorMCX24
import Derived.Test.YtdfhaibojmnmkaaGreatDoorMCX25
import Derived.Test.YtdfhaibojmnmkaaGreatDoorMCX22
import Derived.Deep.DeepWitnessRowRef
theorem kK {P:Prop} (h:P:=by kernel_rfl):P:=h
namespace Go.Proofs.YtdfhaibojmnmkaaGreatDoor
set_option maxRecDepth 100000
open Go.ChangeShapes Go.WideShapes Go.ChangeAt Go.RowKit Go.Proofs.Wd Go
theorem zCq (H:Type) (enc:TypeId×Value->H) (W:World) (base:Nat) (args:Array Value) (ds gs:List (DataW H)) (before:List MemPlace)
  (hval0: ∀(j:Nat) t v,Tryz.f5.params[j]?=some t->args[j]?=some v->Value.okWide Tryz.prog W .any base t v)
  (hW:DataW.Whole enc Tryz.prog Tryz.f5.params.toList Rows.insideConvexSpec.vars false W args.toList ds gs before) (hS:Rows.uptoSmall H (ds++gs)=true) (hL:laidMetH Tryz.prog zEx W):
  Calls Tryz.prog 5 args W fun e W'=> ∃v,e= .returned v/\Rows.insideConvexSpec.post enc Tryz.prog Tryz.f5 false true false false W args v W':=by
 have hval: ∀(j:Nat) t v,Tryz.f5.params[j]?=some t->args[j]?=some v->Value.okWide Tryz.prog W .any base t v:=hval0
 have hW':=hW
 obtain ⟨p,q,hA0,hV,rfl,hfz,hnd⟩:=hW
 have hA:DataW.TrodAll enc Tryz.prog W 0 (fun _=>true) true Tryz.f5.params.toList args.toList ds p:=hA0
 rw [Tryz.params5] at hA hval
 obtain ⟨v0,v1,d0,d1,p0,p1,rfl,rfl,rfl,h0,h1⟩:=trodAll_two hA
 obtain ⟨rfl,rfl⟩:=trodVars_none hV
 obtain ⟨x0,r0,n0,k0⟩:=zNN (hval 0 22 _ rfl rfl) h0
 obtain ⟨x1,r1,k1⟩:=zQx (hval 1 30 _ rfl rfl) h1
 have hB:Rows.uptoSmall H [d0,d1]=true:=by simpa using hS
 have hT:=zHG hL
 clear hA0 hval0
 simp only [List.append_nil] at hW'
 have hlt: ∀x∈p0++p1,x.block<W.heap.size:=fun x hx=>hW'.lt x (by simpa using hx)
 have hargs: ∀{W':World} {t:TypeId} {v:Value} {d:DataW H} {p:List MemPlace},Below W.heap.size W W'->(∀x∈p,x.block<W.heap.size)->Tryz.prog.readableRec t=true->t<Tryz.prog.types.size->DataW.Trod enc Tryz.prog W 0 (fun _=>true) true t v d p->DataW.Trod enc Tryz.prog W' 0 (fun b=>decide (b<W.heap.size)) true t v d p:=
  fun hn hl hr hs ht=>Below.trod zMQ hr hs ht hn hl
 refine (zMa r0 r1 (Nat.le_trans n0 (zGp hB (by simp))) (fun x hx=>Nat.le_trans (k0 x hx) (zGp hB (by simp))) (Nat.le_trans k1 (zGp hB (by simp))) hT).mono fun e W' he=> ?_
 obtain ⟨v,rfl,hv,hw⟩:=he
 obtain rfl:v= .bool true:=hv
 exact ⟨_,rfl,⟨[d0,d1], [],p0++p1, [],p0++p1, [],hW',trodAll_mk1 (shut_bool Tryz.underlying4 true),
  trodAll_mk2 (hargs hw (fun x hx=>hlt x (by simp [hx])) kK (of_decide_eq_true kK) h0) (hargs hw (fun x hx=>hlt x (by simp [hx])) kK (of_decide_eq_true kK) h1),rfl,hw.frame _,fun h=>by cases h⟩⟩
theorem zDs (os:Os) {H:Type} (enc:TypeId×Value->H): ∃x:List (DataW H)×List (DataW H)×List MemPlace,DataW.whole enc Tryz.prog ((World.doorLaid Tryz.prog 400 os).forCall (fun _ _=>0) ⟨#[],#[.slice none 0 0, .agg #[.bool false, .slice none 0 0, .slice none 0 0, .bool false, .slice none 0 0, .slice none 0 0]], []⟩).memory Tryz.f5.params.toList Rows.insideConvexSpec.vars false (#[.slice none 0 0, .agg #[.bool false, .slice none 0 0, .slice none 0 0, .bool false, .slice none 0 0, .slice none 0 0]]:Array Value).toList 8=some x/\Rows.uptoSmall H (x.1++x.2.1)=true:=by
 refine ⟨([.nil, .agg [.agg [.agg [.lit (.bool false), .nil], .nil], .agg [.agg [.lit (.bool false), .nil], .nil]]], [], []),by kernel_rfl,by kernel_rfl⟩
theorem zCK (os:Os) (started:os.Started) (H:Type) (enc:TypeId×Value->H) (F:Stop.Interp):
  ReturnsInHanded {} Tryz.checked os 5 .any ((Rows.OpenSpec.upto Rows.insideConvexSpec).preRow enc Tryz.prog Tryz.f5 Rows.insideConvexUptoRow.domain false Rows.insideConvexUptoRow.laid) (((Rows.OpenSpec.upto Rows.insideConvexSpec).at F).post enc Tryz.prog Tryz.f5 false true false false):=by
 obtain ⟨x,hx,hk⟩:=zDs os enc
 refine returnsInHanded_of_row (C:=Tryz.checked) (s:=Rows.OpenSpec.upto Rows.insideConvexSpec) zOA started kK Tryz.func5
  (witness_row_atRef (enc:=enc) (C:=Tryz.checked) false (World.doorLaid Tryz.prog 400 os) #[.slice none 0 0, .agg #[.bool false, .slice none 0 0, .slice none 0 0, .bool false, .slice none 0 0, .slice none 0 0]] rfl kK kK kK
   (OpenSpec.preRow_of_cond 8 hx rfl (fun k hk'=>by cases hk';exact hk) kK (zOr os _))) ?_
 intro W base args ds gs before hval hW _ hcond _ hL _ _
 exact zCq H enc W base args ds gs before hval hW (hcond _ rfl) hL
theorem zDr:Rows.InsideConvexUptoSaid:=
 OpenClaim.holds_of_cond 5 Tryz.f5 rfl rfl rfl rfl rfl rfl rfl ⟨rfl,rfl,rfl,rfl,rfl⟩ rfl rfl rfl rfl rfl kK Tryz.func5 kK
  (of_decide_eq_true kK) (by unfold Func.isWrapper;first|(rw [if_pos (by decide+kernel)];kernel_rfl)|(rw [if_neg (by decide+kernel)];exact ⟨rfl,rfl⟩))
  (fun os started H enc _ F=>by rw [OpenClaim.pre_eq_preRow];exact zCK os started H enc F)
theorem insideConvex_cardU:Rows.InsideConvexUptoCardSaid:=
 Claim7.holds_tied_plain_at .later [] _ _ _ _
  zDr (fun _ h=>by cases h) kK (fun _ h=>by cases h) insideConvexUpto_row_tie rfl ⟨rfl,rfl⟩ kK rfl
  (fun f fn hf hfn=>by
   obtain rfl:f=5:=Option.some.inj ((show Tryz.prog.funcNamed "strait/straitlaw17.InsideConvex" =some 5 by kernel_rfl).symm.trans hf)|>.symm
   obtain rfl:fn=Tryz.f5:=(Option.some.inj (Tryz.func5.symm.trans hfn)).symm
   exact ⟨by kernel_rfl,fun j t ht=>by
    rw [Tryz.params5] at ht
    have hm:t∈ [22,30]:=by simpa using Array.mem_of_getElem? ht
    have hall:([22,30].all fun u=> !Tryz.prog.wantsStandIn u)=true:=by kernel_rfl
    exact (show Tryz.prog.wantsStandIn t=false by simpa using List.all_eq_true.1 hall t hm)⟩)
  kK
end Go.Proofs.YtdfhaibojmnmkaaGreatDoor
