/- strait/straitlaw21.HullIn returns true at every input whose arguments' bulk is at most the row's bound, and its arguments read as before; the tied card of the second form. -/
import Derived.Test.YtiflpcbcaboglaaGreatDoorMHI23
import Derived.Test.YtiflpcbcaboglaaGreatDoorMHI24
import Derived.Test.YtiflpcbcaboglaaGreatDoorMHI25
import Derived.Test.YtiflpcbcaboglaaGreatDoorMHI22
import Derived.Deep.DeepWitnessRowRef
theorem kK {P:Prop} (h:P:=by kernel_rfl):P:=h
abbrev zZz:=@of_decide_eq_true
abbrev zZA:=@Nat.le_trans
namespace Go.Proofs.YtiflpcbcaboglaaGreatDoor
set_option maxRecDepth 100000
open Go.ChangeShapes Go.WideShapes Go.ChangeAt Go.RowKit Go.Proofs.Wd Go
theorem zFl (H:Type) (enc:TypeId×Value->H) (W:World) (base:Nat) (args:Array Value) (ds gs:List (DataW H)) (before:List MemPlace)
  (hval0: ∀(j:Nat) t v,Tryz.f3.params[j]?=some t->args[j]?=some v->Value.okWide Tryz.prog W .any base t v)
  (hW:DataW.Whole enc Tryz.prog Tryz.f3.params.toList Rows.hullInSpec.vars false W args.toList ds gs before) (hS:Rows.uptoSmall H (ds++gs)=true) (hL:laidMetH Tryz.prog zEO W):
  Calls Tryz.prog 3 args W fun e W'=> ∃v,e= .returned v/\Rows.hullInSpec.post enc Tryz.prog Tryz.f3 false true false false W args v W':=by
 have hval: ∀(j:Nat) t v,Tryz.f3.params[j]?=some t->args[j]?=some v->Value.okWide Tryz.prog W .any base t v:=hval0
 have hW':=hW
 obtain ⟨p,q,hA0,hV,rfl,hfz,hnd⟩:=hW
 have hA:DataW.TrodAll enc Tryz.prog W 0 (fun _=>true) true Tryz.f3.params.toList args.toList ds p:=hA0
 rw [Tryz.params3] at hA hval
 obtain ⟨v0,v1,v2,v3,d0,d1,d2,d3,p0,p1,p2,p3,rfl,rfl,rfl,h0,h1,h2,h3⟩:=trodAll_four hA
 obtain ⟨rfl,rfl⟩:=trodVars_none hV
 obtain ⟨x0,r0,n0,k0⟩:=zOp (hval 0 22 _ rfl rfl) h0
 obtain ⟨x1,r1,k1⟩:=zRD (hval 1 30 _ rfl rfl) h1
 obtain ⟨z2,rfl,e2,f2,g2⟩:=open_int Tryz.underlying3 (hval 2 3 _ rfl rfl) h2
 obtain ⟨x3,r3,k3⟩:=zRj (hval 3 28 _ rfl rfl) h3
 have hB:Rows.uptoSmall H [d0,d1,d2,d3]=true:=by simpa using hS
 have hT:=zH8 hL
 clear hA0 hval0
 simp only [List.append_nil,List.append_assoc] at hW'
 have hlt: ∀x∈p0++(p1++(p2++p3)),x.block<W.heap.size:=fun x hx=>hW'.lt x (by simpa using hx)
 have hargs: ∀{W':World} {t:TypeId} {v:Value} {d:DataW H} {p:List MemPlace},bW W W'->(∀x∈p,x.block<W.heap.size)->Tryz.prog.readableRec t=true->t<Tryz.prog.types.size->DataW.Trod enc Tryz.prog W 0 (fun _=>true) true t v d p->DataW.Trod enc Tryz.prog W' 0 (fun b=>decide (b<W.heap.size)) true t v d p:=
  fun hn hl hr hs ht=>Below.trod zNl hr hs ht hn hl
 refine (zOW r0 r1 rfl r3 (zZA n0 (zEN hB (by simp))) (fun x hx=>zZA (k0 x hx) (zEN hB (by simp))) (zZA k1 (zEN hB (by simp))) (by have:=g2;simp [Lit.wf,IntKind.min,IntKind.max,IntKind.signed,IntKind.bits] at this;omega) (zZA k3 (zEN hB (by simp))) hT).mono fun e W' he=> ?_
 obtain ⟨v,rfl,hv,hw⟩:=he
 obtain rfl:v= .bool true:=hv
 exact ⟨_,rfl,⟨[d0,d1,d2,d3], [],p0++(p1++(p2++p3)), [],p0++(p1++(p2++p3)), [],hW',trodAll_mk1 (shut_bool Tryz.underlying4 true),
  trodAll_mk4 (hargs hw (fun x hx=>hlt x (by simp [hx])) kK (zZz kK) h0) (hargs hw (fun x hx=>hlt x (by simp [hx])) kK (zZz kK) h1) (hargs hw (fun x hx=>hlt x (by simp [hx])) kK (zZz kK) h2) (hargs hw (fun x hx=>hlt x (by simp [hx])) kK (zZz kK) h3),rfl,hw.frame _,fun h=>by cases h⟩⟩
theorem zHK (os:Os) {H:Type} (enc:TypeId×Value->H): ∃x:List (DataW H)×List (DataW H)×List MemPlace,DataW.whole enc Tryz.prog ((World.doorLaid Tryz.prog 400 os).forCall (fun _ _=>0) ⟨#[],#[sN,.agg #[.bool false, sN, sN,.bool false, sN, sN],.int .i64 0,.agg #[.bool false, sN, sN]], []⟩).memory Tryz.f3.params.toList Rows.hullInSpec.vars false (#[sN,.agg #[.bool false, sN, sN,.bool false, sN, sN],.int .i64 0,.agg #[.bool false, sN, sN]]:Array Value).toList 8=some x/\Rows.uptoSmall H (x.1++x.2.1)=true:=by
 refine ⟨([.nil,.agg [.agg [.agg [.lit (.bool false),.nil],.nil],.agg [.agg [.lit (.bool false),.nil],.nil]],.lit (.int .i64 0),.agg [.agg [.lit (.bool false),.nil],.nil]], [], []),by kernel_rfl,by kernel_rfl⟩
theorem zFD (os:Os) (started:os.Started) (H:Type) (enc:TypeId×Value->H) (F:Stop.Interp):
  ReturnsInHanded {} Tryz.checked os 3 .any ((Rows.OpenSpec.upto Rows.hullInSpec).preRow enc Tryz.prog Tryz.f3 Rows.hullInUptoRow.domain false Rows.hullInUptoRow.laid) (((Rows.OpenSpec.upto Rows.hullInSpec).at F).post enc Tryz.prog Tryz.f3 false true false false):=by
 obtain ⟨x,hx,hk⟩:=zHK os enc
 refine returnsInHanded_of_row (C:=Tryz.checked) (s:=Rows.OpenSpec.upto Rows.hullInSpec) zPu started kK Tryz.func3
  (witness_row_atRef (enc:=enc) (C:=Tryz.checked) false (World.doorLaid Tryz.prog 400 os) #[sN,.agg #[.bool false, sN, sN,.bool false, sN, sN],.int .i64 0,.agg #[.bool false, sN, sN]] rfl kK kK kK
   (OpenSpec.preRow_of_cond 8 hx rfl (fun k hk'=>by cases hk';exact hk) kK (zPl os _))) ?_
 intro W base args ds gs before hval hW _ hcond _ hL _ _
 exact zFl H enc W base args ds gs before hval hW (hcond _ rfl) hL
theorem zHJ:Rows.HullInUptoSaid:=
 OpenClaim.holds_of_cond 3 Tryz.f3 rfl rfl rfl rfl rfl rfl rfl ⟨rfl,rfl,rfl,rfl,rfl⟩ rfl rfl rfl rfl rfl kK Tryz.func3 kK
  (zZz kK) (by unfold Func.isWrapper;first|(rw [if_pos (by decide+kernel)];kernel_rfl)|(rw [if_neg (by decide+kernel)];exact ⟨rfl,rfl⟩))
  (fun os started H enc _ F=>by rw [OpenClaim.pre_eq_preRow];exact zFD os started H enc F)
theorem hullIn_cardU:Rows.HullInUptoCardSaid:=
 Claim7.holds_tied_plain_at .later [] _ _ _ _
  zHJ (fun _ h=>by cases h) kK (fun _ h=>by cases h) hullInUpto_row_tie rfl ⟨rfl,rfl⟩ kK rfl
  (fun f fn hf hfn=>by
   obtain rfl:f=3:=Option.some.inj ((show Tryz.prog.funcNamed "strait/straitlaw21.HullIn" =some 3 by kernel_rfl).symm.trans hf)|>.symm
   obtain rfl:fn=Tryz.f3:=(Option.some.inj (Tryz.func3.symm.trans hfn)).symm
   exact ⟨by kernel_rfl,fun j t ht=>by
    rw [Tryz.params3] at ht
    have hm:t∈ [22,30,3,28]:=by simpa using Array.mem_of_getElem? ht
    have hall:([22,30,3,28].all fun u=> !Tryz.prog.wantsStandIn u)=true:=by kernel_rfl
    exact (show Tryz.prog.wantsStandIn t=false by simpa using List.all_eq_true.1 hall t hm)⟩)
  kK
end Go.Proofs.YtiflpcbcaboglaaGreatDoor
