/- strait/straitlaw27.LocateRows returns true at every input whose arguments' bulk is at most the row's bound, and its arguments read as before; the tied card of the second form. -/
import Derived.Test.YthegekeodchhiaaGreatDoorMLR23
import Derived.Test.YthegekeodchhiaaGreatDoorMLR24
import Derived.Test.YthegekeodchhiaaGreatDoorMLR25
import Derived.Test.YthegekeodchhiaaGreatDoorMLR22
import Derived.Deep.DeepWitnessRowRef
theorem kK {P:Prop} (h:P:=by kernel_rfl):P:=h
abbrev zW6:=@of_decide_eq_true
namespace Go.Proofs.YthegekeodchhiaaGreatDoor
set_option maxRecDepth 100000
open Go.ChangeShapes Go.WideShapes Go.ChangeAt Go.RowKit Go.Proofs.Wd Go
theorem zDe (H:Type) (enc:TypeId×Value->H) (W:World) (base:Nat) (args:Array Value) (ds gs:List (DataW H)) (before:List MemPlace)
    (hval0: ∀(j:Nat) t v,Tryz.f3.params[j]?=some t->args[j]?=some v->Value.okWide Tryz.prog W .any base t v)
    (hW:DataW.Whole enc Tryz.prog Tryz.f3.params.toList Rows.locateRowsSpec.vars false W args.toList ds gs before) (hS:Rows.uptoSmall H (ds++gs)=true) (hL:laidMetH Tryz.prog zEP W):
    Calls Tryz.prog 3 args W fun e W'=> ∃v,e= .returned v/\Rows.locateRowsSpec.post enc Tryz.prog Tryz.f3 false true false false W args v W':=by
  have hval: ∀(j:Nat) t v,Tryz.f3.params[j]?=some t->args[j]?=some v->Value.okWide Tryz.prog W .any base t v:=hval0
  have hW':=hW
  obtain ⟨p,q,hA0,hV,rfl,hfz,hnd⟩:=hW
  have hA:DataW.TrodAll enc Tryz.prog W 0 (fun _=>true) true Tryz.f3.params.toList args.toList ds p:=hA0
  rw [Tryz.params3] at hA hval
  obtain ⟨v0,v1,d0,d1,p0,p1,rfl,rfl,rfl,h0,h1⟩:=trodAll_two hA
  obtain ⟨rfl,rfl⟩:=trodVars_none hV
  obtain ⟨x0,r0,k0⟩:=zQO (hval 0 27 _ rfl rfl) h0
  obtain ⟨x1,r1,n1,k1⟩:=zLH (hval 1 28 _ rfl rfl) h1
  have hB:Rows.uptoSmall H [d0,d1]=true:=by simpa using hS
  have hT:=zIc hL
  clear hA0 hval0
  simp only [List.append_nil] at hW'
  have hlt: ∀x∈p0++p1,x.block<W.heap.size:=fun x hx=>hW'.lt x (by simpa using hx)
  have hargs: ∀{W':World} {t:TypeId} {v:Value} {d:DataW H} {p:List MemPlace},Below W.heap.size W W'->(∀x∈p,x.block<W.heap.size)->Tryz.prog.readableRec t=true->t<Tryz.prog.types.size->DataW.Trod enc Tryz.prog W 0 (fun _=>true) true t v d p->DataW.Trod enc Tryz.prog W' 0 (fun b=>decide (b<W.heap.size)) true t v d p:=
    fun hn hl hr hs ht=>Below.trod zNo hr hs ht hn hl
  refine (zHJ r0 r1 (fun x hx=>by
      rcases List.mem_cons.1 hx with rfl|hx
      . have:=zPg hB (d:=d0) (by simp)
        omega
      cases hx) (Nat.le_trans n1 (zKe hB (by simp))) (fun x hx=>Nat.le_trans (k1 x hx) (zKe hB (by simp))) hT).mono fun e W' he=> ?_
  obtain ⟨v,rfl,hv,hw⟩:=he
  obtain rfl:v= .bool true:=hv
  exact ⟨_,rfl,⟨[d0,d1], [],p0++p1, [],p0++p1, [],hW',trodAll_mk1 (shut_bool Tryz.underlying4 true),
    trodAll_mk2 (hargs hw (fun x hx=>hlt x (by simp [hx])) kK (zW6 kK) h0) (hargs hw (fun x hx=>hlt x (by simp [hx])) kK (zW6 kK) h1),rfl,hw.frame _,fun h=>by cases h⟩⟩
theorem zEu (os:Os) {H:Type} (enc:TypeId×Value->H): ∃x:List (DataW H)×List (DataW H)×List MemPlace,DataW.whole enc Tryz.prog ((World.doorLaid Tryz.prog 400 os).forCall (fun _ _=>0) ⟨#[],#[.agg #[.bool false, .slice none 0 0, .slice none 0 0], .slice none 0 0], []⟩).memory Tryz.f3.params.toList Rows.locateRowsSpec.vars false (#[.agg #[.bool false, .slice none 0 0, .slice none 0 0], .slice none 0 0]:Array Value).toList 8=some x/\Rows.uptoSmall H (x.1++x.2.1)=true:=by
 refine ⟨([.agg [.agg [.lit (.bool false), .nil], .nil], .nil], [], []),by kernel_rfl,by kernel_rfl⟩
theorem zDP (os:Os) (started:os.Started) (H:Type) (enc:TypeId×Value->H) (F:Stop.Interp):
  ReturnsInHanded {} Tryz.checked os 3 .any ((Rows.OpenSpec.upto Rows.locateRowsSpec).preRow enc Tryz.prog Tryz.f3 Rows.locateRowsUptoRow.domain false Rows.locateRowsUptoRow.laid) (((Rows.OpenSpec.upto Rows.locateRowsSpec).at F).post enc Tryz.prog Tryz.f3 false true false false):=by
 obtain ⟨x,hx,hk⟩:=zEu os enc
 refine returnsInHanded_of_row (C:=Tryz.checked) (s:=Rows.OpenSpec.upto Rows.locateRowsSpec) zPk started kK Tryz.func3
  (witness_row_atRef (enc:=enc) (C:=Tryz.checked) false (World.doorLaid Tryz.prog 400 os) #[.agg #[.bool false, .slice none 0 0, .slice none 0 0], .slice none 0 0] rfl kK kK kK
   (OpenSpec.preRow_of_cond 8 hx rfl (fun k hk'=>by cases hk';exact hk) kK (zPd os _))) ?_
 intro W base args ds gs before hval hW _ hcond _ hL _ _
 exact zDe H enc W base args ds gs before hval hW (hcond _ rfl) hL
theorem zEt:Rows.LocateRowsUptoSaid:=
 OpenClaim.holds_of_cond 3 Tryz.f3 rfl rfl rfl rfl rfl rfl rfl ⟨rfl,rfl,rfl,rfl,rfl⟩ rfl rfl rfl rfl rfl kK Tryz.func3 kK
  (zW6 kK) (by unfold Func.isWrapper;first|(rw [if_pos (by decide+kernel)];kernel_rfl)|(rw [if_neg (by decide+kernel)];exact ⟨rfl,rfl⟩))
  (fun os started H enc _ F=>by rw [OpenClaim.pre_eq_preRow];exact zDP os started H enc F)
theorem locateRows_cardU:Rows.LocateRowsUptoCardSaid:=
 Claim7.holds_tied_plain_at .later [] _ _ _ _
  zEt (fun _ h=>by cases h) kK (fun _ h=>by cases h) locateRowsUpto_row_tie rfl ⟨rfl,rfl⟩ kK rfl
  (fun f fn hf hfn=>by
   obtain rfl:f=3:=Option.some.inj ((show Tryz.prog.funcNamed "strait/straitlaw27.LocateRows" =some 3 by kernel_rfl).symm.trans hf)|>.symm
   obtain rfl:fn=Tryz.f3:=(Option.some.inj (Tryz.func3.symm.trans hfn)).symm
   exact ⟨by kernel_rfl,fun j t ht=>by
    rw [Tryz.params3] at ht
    have hm:t∈ [27,28]:=by simpa using Array.mem_of_getElem? ht
    have hall:([27,28].all fun u=> !Tryz.prog.wantsStandIn u)=true:=by kernel_rfl
    exact (show Tryz.prog.wantsStandIn t=false by simpa using List.all_eq_true.1 hall t hm)⟩)
  kK
end Go.Proofs.YthegekeodchhiaaGreatDoor
