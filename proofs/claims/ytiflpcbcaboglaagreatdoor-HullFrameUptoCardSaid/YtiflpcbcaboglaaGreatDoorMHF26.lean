/- strait/straitlaw21.HullFrame returns true at every input whose arguments' bulk is at most the row's bound, and its arguments read as before; the tied card of the second form. -/
import Derived.Test.YtiflpcbcaboglaaGreatDoorMHF23
import Derived.Test.YtiflpcbcaboglaaGreatDoorMHF24
import Derived.Test.YtiflpcbcaboglaaGreatDoorMHF25
import Derived.Test.YtiflpcbcaboglaaGreatDoorMHF22
import Derived.Deep.DeepWitnessRowRef
theorem kK {P:Prop} (h:P:=by kernel_rfl):P:=h
abbrev yAi:=@of_decide_eq_true
namespace Go.Proofs.YtiflpcbcaboglaaGreatDoor
set_option maxRecDepth 100000
open Go.ChangeShapes Go.WideShapes Go.ChangeAt Go.RowKit Go.Proofs.Wd Go
theorem zDM (H:Type) (enc:TypeId×Value->H) (W:World) (base:Nat) (args:Array Value) (ds gs:List (DataW H)) (before:List MemPlace)
  (hval0: ∀(j:Nat) t v,Tryz.f4.params[j]?=some t->args[j]?=some v->Value.okWide Tryz.prog W .any base t v)
  (hW:DataW.Whole enc Tryz.prog Tryz.f4.params.toList Rows.hullFrameSpec.vars false W args.toList ds gs before) (hS:Rows.uptoSmall H (ds++gs)=true) (hL:laidMetH Tryz.prog zET W):
  Calls Tryz.prog 4 args W fun e W'=> ∃v,e= .returned v/\Rows.hullFrameSpec.post enc Tryz.prog Tryz.f4 false true false false W args v W':=by
 have hval: ∀(j:Nat) t v,Tryz.f4.params[j]?=some t->args[j]?=some v->Value.okWide Tryz.prog W .any base t v:=hval0
 have hW':=hW
 obtain ⟨p,q,hA0,hV,rfl,hfz,hnd⟩:=hW
 have hA:DataW.TrodAll enc Tryz.prog W 0 (fun _=>true) true Tryz.f4.params.toList args.toList ds p:=hA0
 rw [Tryz.params4] at hA hval
 obtain ⟨v0,v1,d0,d1,p0,p1,rfl,rfl,rfl,h0,h1⟩:=trodAll_two hA
 obtain ⟨rfl,rfl⟩:=trodVars_none hV
 obtain ⟨x0,r0⟩:=zLQ (hval 0 43 _ rfl rfl) h0
 obtain ⟨x1,r1,k1⟩:=zSc (hval 1 30 _ rfl rfl) h1
 have hB:Rows.uptoSmall H [d0,d1]=true:=by simpa using hS
 have hT:=zIr hL
 clear hA0 hval0
 simp only [List.append_nil] at hW'
 have hlt: ∀x∈p0++p1,x.block<W.heap.size:=fun x hx=>hW'.lt x (by simpa using hx)
 have hargs: ∀{W':World} {t:TypeId} {v:Value} {d:DataW H} {p:List MemPlace},bW W W'->(∀x∈p,x.block<W.heap.size)->Tryz.prog.readableRec t=true->t<Tryz.prog.types.size->DataW.Trod enc Tryz.prog W 0 (fun _=>true) true t v d p->DataW.Trod enc Tryz.prog W' 0 (fun b=>decide (b<W.heap.size)) true t v d p:=
  fun hn hl hr hs ht=>Below.trod zNT hr hs ht hn hl
 refine (zIS r0 r1 (Nat.le_trans k1 (zPW hB (by simp))) hT).mono fun e W' he=> ?_
 obtain ⟨v,rfl,hv,hw⟩:=he
 obtain rfl:v= .bool true:=hv
 exact ⟨_,rfl,⟨[d0,d1], [],p0++p1, [],p0++p1, [],hW',trodAll_mk1 (shut_bool Tryz.underlying4 true),
  trodAll_mk2 (hargs hw (fun x hx=>hlt x (by simp [hx])) kK (yAi kK) h0) (hargs hw (fun x hx=>hlt x (by simp [hx])) kK (yAi kK) h1),rfl,hw.frame _,fun h=>by cases h⟩⟩
theorem zFq (os:Os) {H:Type} (enc:TypeId×Value->H): ∃x:List (DataW H)×List (DataW H)×List MemPlace,DataW.whole enc Tryz.prog ((World.doorLaid Tryz.prog 400 os).forCall (fun _ _=>0) ⟨#[],#[sN,.agg #[.bool false, sN, sN,.bool false, sN, sN]], []⟩).memory Tryz.f4.params.toList Rows.hullFrameSpec.vars false (#[sN,.agg #[.bool false, sN, sN,.bool false, sN, sN]]:Array Value).toList 8=some x/\Rows.uptoSmall H (x.1++x.2.1)=true:=by
 refine ⟨([.nil,.agg [.agg [.agg [.lit (.bool false),.nil],.nil],.agg [.agg [.lit (.bool false),.nil],.nil]]], [], []),by kernel_rfl,by kernel_rfl⟩
theorem zEj (os:Os) (started:os.Started) (H:Type) (enc:TypeId×Value->H) (F:Stop.Interp):
  ReturnsInHanded {} Tryz.checked os 4 .any ((Rows.OpenSpec.upto Rows.hullFrameSpec).preRow enc Tryz.prog Tryz.f4 Rows.hullFrameUptoRow.domain false Rows.hullFrameUptoRow.laid) (((Rows.OpenSpec.upto Rows.hullFrameSpec).at F).post enc Tryz.prog Tryz.f4 false true false false):=by
 obtain ⟨x,hx,hk⟩:=zFq os enc
 refine returnsInHanded_of_row (C:=Tryz.checked) (s:=Rows.OpenSpec.upto Rows.hullFrameSpec) zP0 started kK Tryz.func4
  (witness_row_atRef (enc:=enc) (C:=Tryz.checked) false (World.doorLaid Tryz.prog 400 os) #[sN,.agg #[.bool false, sN, sN,.bool false, sN, sN]] rfl kK kK kK
   (OpenSpec.preRow_of_cond 8 hx rfl (fun k hk'=>by cases hk';exact hk) kK (zPP os _))) ?_
 intro W base args ds gs before hval hW _ hcond _ hL _ _
 exact zDM H enc W base args ds gs before hval hW (hcond _ rfl) hL
theorem zFp:Rows.HullFrameUptoSaid:=
 OpenClaim.holds_of_cond 4 Tryz.f4 rfl rfl rfl rfl rfl rfl rfl ⟨rfl,rfl,rfl,rfl,rfl⟩ rfl rfl rfl rfl rfl kK Tryz.func4 kK
  (yAi kK) (by unfold Func.isWrapper;first|(rw [if_pos (by decide+kernel)];kernel_rfl)|(rw [if_neg (by decide+kernel)];exact ⟨rfl,rfl⟩))
  (fun os started H enc _ F=>by rw [OpenClaim.pre_eq_preRow];exact zEj os started H enc F)
theorem hullFrame_cardU:Rows.HullFrameUptoCardSaid:=
 Claim7.holds_tied_plain_at .later [] _ _ _ _
  zFp (fun _ h=>by cases h) kK (fun _ h=>by cases h) hullFrameUpto_row_tie rfl ⟨rfl,rfl⟩ kK rfl
  (fun f fn hf hfn=>by
   obtain rfl:f=4:=Option.some.inj ((show Tryz.prog.funcNamed "strait/straitlaw21.HullFrame" =some 4 by kernel_rfl).symm.trans hf)|>.symm
   obtain rfl:fn=Tryz.f4:=(Option.some.inj (Tryz.func4.symm.trans hfn)).symm
   exact ⟨by kernel_rfl,fun j t ht=>by
    rw [Tryz.params4] at ht
    have hm:t∈ [43,30]:=by simpa using Array.mem_of_getElem? ht
    have hall:([43,30].all fun u=> !Tryz.prog.wantsStandIn u)=true:=by kernel_rfl
    exact (show Tryz.prog.wantsStandIn t=false by simpa using List.all_eq_true.1 hall t hm)⟩)
  kK
end Go.Proofs.YtiflpcbcaboglaaGreatDoor
