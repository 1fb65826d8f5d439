/- strait/straitlaw21.HullEdges returns true at every input whose arguments' bulk is at most the row's bound, and its arguments read as before; the tied card of the second form. -/
import Derived.Test.YtehljpeimkbahaaGreatDoorMHE23
import Derived.Test.YtehljpeimkbahaaGreatDoorMHE24
import Derived.Test.YtehljpeimkbahaaGreatDoorMHE25
import Derived.Test.YtehljpeimkbahaaGreatDoorMHE22
import Derived.Deep.DeepWitnessRowRef
theorem kK {P:Prop} (h:P:=by kernel_rfl):P:=h
namespace Go.Proofs.YtehljpeimkbahaaGreatDoor
set_option maxRecDepth 100000
open Go.ChangeShapes Go.WideShapes Go.ChangeAt Go.RowKit Go.Proofs.Wd Go
theorem zDv (H:Type) (enc:TypeId×Value->H) (W:World) (base:Nat) (args:Array Value) (ds gs:List (DataW H)) (before:List MemPlace)
  (hval0: ∀(j:Nat) t v,Tryz.f4.params[j]?=some t->args[j]?=some v->Value.okWide Tryz.prog W .any base t v)
  (hW:DataW.Whole enc Tryz.prog Tryz.f4.params.toList Rows.hullEdgesSpec.vars false W args.toList ds gs before) (hS:Rows.uptoSmall H (ds++gs)=true) (hL:laidMetH Tryz.prog zEp W):
  Calls Tryz.prog 4 args W fun e W'=> ∃v,e= .returned v/\Rows.hullEdgesSpec.post enc Tryz.prog Tryz.f4 false true false false W args v W':=by
 have hval: ∀(j:Nat) t v,Tryz.f4.params[j]?=some t->args[j]?=some v->Value.okWide Tryz.prog W .any base t v:=hval0
 have hW':=hW
 obtain ⟨p,q,hA0,hV,rfl,hfz,hnd⟩:=hW
 have hA:DataW.TrodAll enc Tryz.prog W 0 (fun _=>true) true Tryz.f4.params.toList args.toList ds p:=hA0
 rw [Tryz.params4] at hA hval
 obtain ⟨v0,d0,rfl,rfl,h0⟩:=trodAll_one hA
 obtain ⟨rfl,rfl⟩:=trodVars_none hV
 obtain ⟨x0,r0,n0,k0⟩:=zNM (hval 0 22 _ rfl rfl) h0
 have hB:Rows.uptoSmall H [d0]=true:=by simpa using hS
 have hT:=zHG hL
 clear hA0 hval0
 simp only [List.append_nil] at hW'
 have hlt: ∀x∈p,x.block<W.heap.size:=fun x hx=>hW'.lt x (by simpa using hx)
 have hargs: ∀{W':World} {t:TypeId} {v:Value} {d:DataW H} {p:List MemPlace},Below W.heap.size W W'->(∀x∈p,x.block<W.heap.size)->Tryz.prog.readableRec t=true->t<Tryz.prog.types.size->DataW.Trod enc Tryz.prog W 0 (fun _=>true) true t v d p->DataW.Trod enc Tryz.prog W' 0 (fun b=>decide (b<W.heap.size)) true t v d p:=
  fun hn hl hr hs ht=>Below.trod zMI hr hs ht hn hl
 refine (zH8 r0 (Nat.le_trans n0 (zJq hB (by simp))) (fun x hx=>Nat.le_trans (k0 x hx) (zJq hB (by simp))) hT).mono fun e W' he=> ?_
 obtain ⟨v,rfl,hv,hw⟩:=he
 obtain rfl:v= .bool true:=hv
 exact ⟨_,rfl,⟨[d0], [],p, [],p, [],hW',trodAll_mk1 (shut_bool Tryz.underlying4 true),
  trodAll_mk1 (hargs hw (fun x hx=>hlt x (by simp [hx])) kK (of_decide_eq_true kK) h0),rfl,hw.frame _,fun h=>by cases h⟩⟩
theorem zEV (os:Os) {H:Type} (enc:TypeId×Value->H): ∃x:List (DataW H)×List (DataW H)×List MemPlace,DataW.whole enc Tryz.prog ((World.doorLaid Tryz.prog 400 os).forCall (fun _ _=>0) ⟨#[],#[.slice none 0 0], []⟩).memory Tryz.f4.params.toList Rows.hullEdgesSpec.vars false (#[.slice none 0 0]:Array Value).toList 8=some x/\Rows.uptoSmall H (x.1++x.2.1)=true:=by
 refine ⟨([.nil], [], []),by kernel_rfl,by kernel_rfl⟩
theorem zDU (os:Os) (started:os.Started) (H:Type) (enc:TypeId×Value->H) (F:Stop.Interp):
  ReturnsInHanded {} Tryz.checked os 4 .any ((Rows.OpenSpec.upto Rows.hullEdgesSpec).preRow enc Tryz.prog Tryz.f4 Rows.hullEdgesUptoRow.domain false Rows.hullEdgesUptoRow.laid) (((Rows.OpenSpec.upto Rows.hullEdgesSpec).at F).post enc Tryz.prog Tryz.f4 false true false false):=by
 obtain ⟨x,hx,hk⟩:=zEV os enc
 refine returnsInHanded_of_row (C:=Tryz.checked) (s:=Rows.OpenSpec.upto Rows.hullEdgesSpec) zON started kK Tryz.func4
  (witness_row_atRef (enc:=enc) (C:=Tryz.checked) false (World.doorLaid Tryz.prog 400 os) #[.slice none 0 0] rfl kK kK kK
   (OpenSpec.preRow_of_cond 8 hx rfl (fun k hk'=>by cases hk';exact hk) kK (zOG os _))) ?_
 intro W base args ds gs before hval hW _ hcond _ hL _ _
 exact zDv H enc W base args ds gs before hval hW (hcond _ rfl) hL
theorem zEU:Rows.HullEdgesUptoSaid:=
 OpenClaim.holds_of_cond 4 Tryz.f4 rfl rfl rfl rfl rfl rfl rfl ⟨rfl,rfl,rfl,rfl,rfl⟩ rfl rfl rfl rfl rfl kK Tryz.func4 kK
  (of_decide_eq_true kK) (by unfold Func.isWrapper;first|(rw [if_pos (by decide+kernel)];kernel_rfl)|(rw [if_neg (by decide+kernel)];exact ⟨rfl,rfl⟩))
  (fun os started H enc _ F=>by rw [OpenClaim.pre_eq_preRow];exact zDU os started H enc F)
theorem hullEdges_cardU:Rows.HullEdgesUptoCardSaid:=
 Claim7.holds_tied_plain_at .later [] _ _ _ _
  zEU (fun _ h=>by cases h) kK (fun _ h=>by cases h) hullEdgesUpto_row_tie rfl ⟨rfl,rfl⟩ kK rfl
  (fun f fn hf hfn=>by
   obtain rfl:f=4:=Option.some.inj ((show Tryz.prog.funcNamed "strait/straitlaw21.HullEdges" =some 4 by kernel_rfl).symm.trans hf)|>.symm
   obtain rfl:fn=Tryz.f4:=(Option.some.inj (Tryz.func4.symm.trans hfn)).symm
   exact ⟨by kernel_rfl,fun j t ht=>by
    rw [Tryz.params4] at ht
    have hm:t∈ [22]:=by simpa using Array.mem_of_getElem? ht
    have hall:([22].all fun u=> !Tryz.prog.wantsStandIn u)=true:=by kernel_rfl
    exact (show Tryz.prog.wantsStandIn t=false by simpa using List.all_eq_true.1 hall t hm)⟩)
  kK
end Go.Proofs.YtehljpeimkbahaaGreatDoor
