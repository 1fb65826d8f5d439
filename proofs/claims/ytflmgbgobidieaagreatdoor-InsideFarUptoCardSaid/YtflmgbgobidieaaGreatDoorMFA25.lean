/- strait/straitlaw17.InsideFar returns true at every input whose arguments' bulk is at most the row's bound, and its arguments read as before; the tied card of the second form. -/
import Derived.Test.YtflmgbgobidieaaGreatDoorMFA22
import Derived.Test.YtflmgbgobidieaaGreatDoorMFA23
import Derived.Test.YtflmgbgobidieaaGreatDoorMFA24
import Derived.Test.YtflmgbgobidieaaGreatDoorMFA21
import Derived.Deep.DeepWitnessRowRef
namespace Go.Proofs.YtflmgbgobidieaaGreatDoor
set_option maxRecDepth 100000
open Go.ChangeShapes Go.WideShapes Go.ChangeAt Go.RowKit Go.Proofs.Wd Go
theorem insideFar_contract (H:Type) (enc:TypeId×Value→H) (W:World) (base:Nat) (args:Array Value) (ds gs:List (DataW H)) (before:List MemPlace)
  (hval0: ∀(j:Nat) t v,Tryz.f7.params[j]?=some t→args[j]?=some v→Value.okWide Tryz.prog W .any base t v)
  (hW:DataW.Whole enc Tryz.prog Tryz.f7.params.toList Rows.insideFarSpec.vars false W args.toList ds gs before) (hS:Rows.uptoSmall H (ds++gs)=true) (hL:laidMetH Tryz.prog bitsLaid W):
  Calls Tryz.prog 7 args W fun e W'=> ∃v,e= .returned v∧Rows.insideFarSpec.post enc Tryz.prog Tryz.f7 false true false false W args v W':=by
 have hval: ∀(j:Nat) t v,Tryz.f7.params[j]?=some t→args[j]?=some v→Value.okWide Tryz.prog W .any base t v:=hval0
 have hW':=hW
 obtain ⟨p,q,hA0,hV,rfl,hfz,hnd⟩:=hW
 have hA:DataW.TrodAll enc Tryz.prog W 0 (fun _=>true) true Tryz.f7.params.toList args.toList ds p:=hA0
 rw [Tryz.params7] at hA hval
 obtain ⟨v0,v1,d0,d1,p0,p1,rfl,rfl,rfl,h0,h1⟩:=trodAll_two hA
 obtain ⟨rfl,rfl⟩:=trodVars_none hV
 obtain ⟨x0,r0,n0,k0⟩:=pts_argB (hval 0 22 _ rfl rfl) h0
 obtain ⟨x1,r1,k1⟩:=pt_argB (hval 1 31 _ rfl rfl) h1
 have hB:Rows.uptoSmall H [d0,d1]=true:=by simpa using hS
 have hT:=tab_of_laid hL
 clear hA0 hval0
 simp only [List.append_nil] at hW'
 have hlt: ∀x∈p0++p1,x.block<W.heap.size:=fun x hx=>hW'.lt x (by simpa using hx)
 have hargs: ∀{W':World} {t:TypeId} {v:Value} {d:DataW H} {p:List MemPlace},Below W.heap.size W W'→(∀x∈p,x.block<W.heap.size)→Tryz.prog.readableRec t=true→t<Tryz.prog.types.size→DataW.Trod enc Tryz.prog W 0 (fun _=>true) true t v d p→DataW.Trod enc Tryz.prog W' 0 (fun b=>decide (b<W.heap.size)) true t v d p:=
  fun hn hl hr hs ht=>Below.trod Tryz_laid hr hs ht hn hl
 refine (ifar_p r0 r1 (Nat.le_trans n0 (bk_small hB (by simp))) (fun x hx=>Nat.le_trans (k0 x hx) (bk_small hB (by simp))) (Nat.le_trans k1 (bk_small hB (by simp))) hT).mono fun e W' he=> ?_
 obtain ⟨v,rfl,hv,hw⟩:=he
 obtain rfl:v= .bool true:=hv
 exact ⟨_,rfl,⟨[d0,d1], [],p0++p1, [],p0++p1, [],hW',trodAll_mk1 (shut_bool Tryz.underlying4 true),
  trodAll_mk2 (hargs hw (fun x hx=>hlt x (by simp [hx])) (by kernel_rfl) (of_decide_eq_true (by kernel_rfl)) h0) (hargs hw (fun x hx=>hlt x (by simp [hx])) (by kernel_rfl) (of_decide_eq_true (by kernel_rfl)) h1),rfl,hw.frame _,fun h=>by cases h⟩⟩
theorem insideFar_reads (os:Os) {H:Type} (enc:TypeId×Value→H): ∃x:List (DataW H)×List (DataW H)×List MemPlace,DataW.whole enc Tryz.prog ((World.doorLaid Tryz.prog 400 os).forCall (fun _ _=>0) ⟨#[],#[.slice none 0 0, .agg #[.bool false, .slice none 0 0, .slice none 0 0, .bool false, .slice none 0 0, .slice none 0 0]], []⟩).memory Tryz.f7.params.toList Rows.insideFarSpec.vars false (#[.slice none 0 0, .agg #[.bool false, .slice none 0 0, .slice none 0 0, .bool false, .slice none 0 0, .slice none 0 0]]:Array Value).toList 8=some x∧Rows.uptoSmall H (x.1++x.2.1)=true:=by
 refine ⟨([.nil, .agg [.agg [.agg [.lit (.bool false), .nil], .nil], .agg [.agg [.lit (.bool false), .nil], .nil]]], [], []),by kernel_rfl,by kernel_rfl⟩
theorem insideFar_liftedU (os:Os) (started:os.Started) (H:Type) (enc:TypeId×Value→H) (F:Stop.Interp):
  ReturnsInHanded {} Tryz.checked os 7 .any ((Rows.OpenSpec.upto Rows.insideFarSpec).preRow enc Tryz.prog Tryz.f7 Rows.insideFarUptoRow.domain false Rows.insideFarUptoRow.laid) (((Rows.OpenSpec.upto Rows.insideFarSpec).at F).post enc Tryz.prog Tryz.f7 false true false false):=by
 obtain ⟨x,hx,hk⟩:=insideFar_reads os enc
 refine returnsInHanded_of_row (C:=Tryz.checked) (s:=Rows.OpenSpec.upto Rows.insideFarSpec) Tryz_own started (by kernel_rfl) Tryz.func7
  (witness_row_atRef (enc:=enc) (C:=Tryz.checked) false (World.doorLaid Tryz.prog 400 os) #[.slice none 0 0, .agg #[.bool false, .slice none 0 0, .slice none 0 0, .bool false, .slice none 0 0, .slice none 0 0]] rfl (by kernel_rfl) (by kernel_rfl) (by kernel_rfl)
   (OpenSpec.preRow_of_cond 8 hx rfl (fun k hk'=>by cases hk';exact hk) (by kernel_rfl) (door_met os _))) ?_
 intro W base args ds gs before hval hW _ hcond _ hL _ _
 exact insideFar_contract H enc W base args ds gs before hval hW (hcond _ rfl) hL
theorem insideFar_saidU:Rows.InsideFarUptoSaid:=
 OpenClaim.holds_of_cond 7 Tryz.f7 rfl rfl rfl rfl rfl rfl rfl ⟨rfl,rfl,rfl,rfl,rfl⟩ rfl rfl rfl rfl rfl (by kernel_rfl) Tryz.func7 (by kernel_rfl)
  (of_decide_eq_true (by kernel_rfl)) (by unfold Func.isWrapper;first|(rw [if_pos (by decide+kernel)];kernel_rfl)|(rw [if_neg (by decide+kernel)];exact ⟨rfl,rfl⟩))
  (fun os started H enc _ F=>by rw [OpenClaim.pre_eq_preRow];exact insideFar_liftedU os started H enc F)
theorem insideFar_cardU:Rows.InsideFarUptoCardSaid:=
 Claim7.holds_tied_plain_at .later [] _ _ _ _
  insideFar_saidU (fun _ h=>by cases h) (by kernel_rfl) (fun _ h=>by cases h) insideFarUpto_row_tie rfl ⟨rfl,rfl⟩ (by kernel_rfl) rfl
  (fun f fn hf hfn=>by
   obtain rfl:f=7:=Option.some.inj ((show Tryz.prog.funcNamed "strait/straitlaw17.InsideFar" =some 7 by kernel_rfl).symm.trans hf)|>.symm
   obtain rfl:fn=Tryz.f7:=(Option.some.inj (Tryz.func7.symm.trans hfn)).symm
   exact ⟨by kernel_rfl,fun j t ht=>by
    rw [Tryz.params7] at ht
    have hm:t∈ [22,31]:=by simpa using Array.mem_of_getElem? ht
    have hall:([22,31].all fun u=> !Tryz.prog.wantsStandIn u)=true:=by kernel_rfl
    exact (show Tryz.prog.wantsStandIn t=false by simpa using List.all_eq_true.1 hall t hm)⟩)
  (by kernel_rfl)
end Go.Proofs.YtflmgbgobidieaaGreatDoor
