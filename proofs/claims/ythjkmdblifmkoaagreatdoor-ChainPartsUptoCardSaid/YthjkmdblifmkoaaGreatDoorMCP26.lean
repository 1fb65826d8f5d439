/- strait/straitlaw19.ChainParts returns true at every input whose arguments' bulk is at most the row's bound, and its arguments read as before; the tied card of the second form. -/
import Derived.Test.YthjkmdblifmkoaaGreatDoorMCP23
import Derived.Test.YthjkmdblifmkoaaGreatDoorMCP24
import Derived.Test.YthjkmdblifmkoaaGreatDoorMCP25
import Derived.Test.YthjkmdblifmkoaaGreatDoorMCP22
import Derived.Deep.DeepWitnessRowRef
theorem kK {P:Prop} (h:P:=by kernel_rfl):P:=h
abbrev zXx:=@Nat.le_trans
abbrev zXy:=@of_decide_eq_true
namespace Go.Proofs.YthjkmdblifmkoaaGreatDoor
set_option maxRecDepth 100000
open Go.ChangeShapes Go.WideShapes Go.ChangeAt Go.RowKit Go.Proofs.Wd Go
theorem zC4 (H:Type) (enc:TypeId×Value->H) (W:World) (base:Nat) (args:Array Value) (ds gs:List (DataW H)) (before:List MemPlace)
  (hval0: ∀(j:Nat) t v,Tryz.f4.params[j]?=some t->args[j]?=some v->Value.okWide Tryz.prog W .any base t v)
  (hW:DataW.Whole enc Tryz.prog Tryz.f4.params.toList Rows.chainPartsSpec.vars false W args.toList ds gs before) (hS:Rows.uptoSmall H (ds++gs)=true) (hL:laidMetH Tryz.prog zEA W):
  Calls Tryz.prog 4 args W fun e W'=> ∃v,e= .returned v/\Rows.chainPartsSpec.post enc Tryz.prog Tryz.f4 false true false false W args v W':=by
 have hval: ∀(j:Nat) t v,Tryz.f4.params[j]?=some t->args[j]?=some v->Value.okWide Tryz.prog W .any base t v:=hval0
 have hW':=hW
 obtain ⟨p,q,hA0,hV,rfl,hfz,hnd⟩:=hW
 have hA:DataW.TrodAll enc Tryz.prog W 0 (fun _=>true) true Tryz.f4.params.toList args.toList ds p:=hA0
 rw [Tryz.params4] at hA hval
 obtain ⟨v0,v1,v2,v3,v4,d0,d1,d2,d3,d4,p0,p1,p2,p3,p4,rfl,rfl,rfl,h0,h1,h2,h3,h4⟩:=zGK hA
 obtain ⟨rfl,rfl⟩:=trodVars_none hV
 obtain ⟨x0,r0,n0,k0⟩:=zNS (hval 0 22 _ rfl rfl) h0
 obtain ⟨x1,r1,n1,k1⟩:=zKt (hval 1 23 _ rfl rfl) h1
 obtain ⟨x2,r2,k2⟩:=zLm (hval 2 31 _ rfl rfl) h2
 obtain ⟨x3,r3,k3⟩:=zLm (hval 3 31 _ rfl rfl) h3
 obtain ⟨x4,r4,k4⟩:=zQi (hval 4 29 _ rfl rfl) h4
 have hB:Rows.uptoSmall H [d0,d1,d2,d3,d4]=true:=by simpa using hS
 have hT:=zHN hL
 clear hA0 hval0
 simp only [List.append_nil,List.append_assoc] at hW'
 have hlt: ∀x∈p0++(p1++(p2++(p3++p4))),x.block<W.heap.size:=fun x hx=>hW'.lt x (by simpa using hx)
 have hargs: ∀{W':World} {t:TypeId} {v:Value} {d:DataW H} {p:List MemPlace},Below W.heap.size W W'->(∀x∈p,x.block<W.heap.size)->Tryz.prog.readableRec t=true->t<Tryz.prog.types.size->DataW.Trod enc Tryz.prog W 0 (fun _=>true) true t v d p->DataW.Trod enc Tryz.prog W' 0 (fun b=>decide (b<W.heap.size)) true t v d p:=
  fun hn hl hr hs ht=>Below.trod zMT hr hs ht hn hl
 refine (zQD r0 r1 r2 r3 r4 (zXx n0 (zB9 hB (by simp))) (fun x hx=>zXx (k0 x hx) (zB9 hB (by simp))) (zXx n1 (zB9 hB (by simp))) (fun x hx=>zXx (k1 x hx) (zB9 hB (by simp))) (zXx k2 (zB9 hB (by simp))) (zXx k3 (zB9 hB (by simp))) (zXx k4 (zB9 hB (by simp))) hT).mono fun e W' he=> ?_
 obtain ⟨v,rfl,hv,hw⟩:=he
 obtain rfl:v= .bool true:=hv
 exact ⟨_,rfl,⟨[d0,d1,d2,d3,d4], [],p0++(p1++(p2++(p3++p4))), [],p0++(p1++(p2++(p3++p4))), [],hW',trodAll_mk1 (shut_bool Tryz.underlying4 true),
  zHM (hargs hw (fun x hx=>hlt x (by simp [hx])) kK (zXy kK) h0) (hargs hw (fun x hx=>hlt x (by simp [hx])) kK (zXy kK) h1) (hargs hw (fun x hx=>hlt x (by simp [hx])) kK (zXy kK) h2) (hargs hw (fun x hx=>hlt x (by simp [hx])) kK (zXy kK) h3) (hargs hw (fun x hx=>hlt x (by simp [hx])) kK (zXy kK) h4),rfl,hw.frame _,fun h=>by cases h⟩⟩
theorem zEa (os:Os) {H:Type} (enc:TypeId×Value->H): ∃x:List (DataW H)×List (DataW H)×List MemPlace,DataW.whole enc Tryz.prog ((World.doorLaid Tryz.prog 400 os).forCall (fun _ _=>0) ⟨#[],#[.slice none 0 0, .slice none 0 0, .agg #[.bool false, .slice none 0 0, .slice none 0 0, .bool false, .slice none 0 0, .slice none 0 0], .agg #[.bool false, .slice none 0 0, .slice none 0 0, .bool false, .slice none 0 0, .slice none 0 0], .agg #[.bool false, .slice none 0 0, .slice none 0 0]], []⟩).memory Tryz.f4.params.toList Rows.chainPartsSpec.vars false (#[.slice none 0 0, .slice none 0 0, .agg #[.bool false, .slice none 0 0, .slice none 0 0, .bool false, .slice none 0 0, .slice none 0 0], .agg #[.bool false, .slice none 0 0, .slice none 0 0, .bool false, .slice none 0 0, .slice none 0 0], .agg #[.bool false, .slice none 0 0, .slice none 0 0]]:Array Value).toList 8=some x/\Rows.uptoSmall H (x.1++x.2.1)=true:=by
 refine ⟨([.nil, .nil, .agg [.agg [.agg [.lit (.bool false), .nil], .nil], .agg [.agg [.lit (.bool false), .nil], .nil]], .agg [.agg [.agg [.lit (.bool false), .nil], .nil], .agg [.agg [.lit (.bool false), .nil], .nil]], .agg [.agg [.lit (.bool false), .nil], .nil]], [], []),by kernel_rfl,by kernel_rfl⟩
theorem zDD (os:Os) (started:os.Started) (H:Type) (enc:TypeId×Value->H) (F:Stop.Interp):
  ReturnsInHanded {} Tryz.checked os 4 .any ((Rows.OpenSpec.upto Rows.chainPartsSpec).preRow enc Tryz.prog Tryz.f4 Rows.chainPartsUptoRow.domain false Rows.chainPartsUptoRow.laid) (((Rows.OpenSpec.upto Rows.chainPartsSpec).at F).post enc Tryz.prog Tryz.f4 false true false false):=by
 obtain ⟨x,hx,hk⟩:=zEa os enc
 refine returnsInHanded_of_row (C:=Tryz.checked) (s:=Rows.OpenSpec.upto Rows.chainPartsSpec) zOS started kK Tryz.func4
  (witness_row_atRef (enc:=enc) (C:=Tryz.checked) false (World.doorLaid Tryz.prog 400 os) #[.slice none 0 0, .slice none 0 0, .agg #[.bool false, .slice none 0 0, .slice none 0 0, .bool false, .slice none 0 0, .slice none 0 0], .agg #[.bool false, .slice none 0 0, .slice none 0 0, .bool false, .slice none 0 0, .slice none 0 0], .agg #[.bool false, .slice none 0 0, .slice none 0 0]] rfl kK kK kK
   (OpenSpec.preRow_of_cond 8 hx rfl (fun k hk'=>by cases hk';exact hk) kK (zOB os _))) ?_
 intro W base args ds gs before hval hW _ hcond _ hL _ _
 exact zC4 H enc W base args ds gs before hval hW (hcond _ rfl) hL
theorem zD9:Rows.ChainPartsUptoSaid:=
 OpenClaim.holds_of_cond 4 Tryz.f4 rfl rfl rfl rfl rfl rfl rfl ⟨rfl,rfl,rfl,rfl,rfl⟩ rfl rfl rfl rfl rfl kK Tryz.func4 kK
  (zXy kK) (by unfold Func.isWrapper;first|(rw [if_pos (by decide+kernel)];kernel_rfl)|(rw [if_neg (by decide+kernel)];exact ⟨rfl,rfl⟩))
  (fun os started H enc _ F=>by rw [OpenClaim.pre_eq_preRow];exact zDD os started H enc F)
theorem chainParts_cardU:Rows.ChainPartsUptoCardSaid:=
 Claim7.holds_tied_plain_at .later [] _ _ _ _
  zD9 (fun _ h=>by cases h) kK (fun _ h=>by cases h) chainPartsUpto_row_tie rfl ⟨rfl,rfl⟩ kK rfl
  (fun f fn hf hfn=>by
   obtain rfl:f=4:=Option.some.inj ((show Tryz.prog.funcNamed "strait/straitlaw19.ChainParts" =some 4 by kernel_rfl).symm.trans hf)|>.symm
   obtain rfl:fn=Tryz.f4:=(Option.some.inj (Tryz.func4.symm.trans hfn)).symm
   exact ⟨by kernel_rfl,fun j t ht=>by
    rw [Tryz.params4] at ht
    have hm:t∈ [22,23,31,31,29]:=by simpa using Array.mem_of_getElem? ht
    have hall:([22,23,31,31,29].all fun u=> !Tryz.prog.wantsStandIn u)=true:=by kernel_rfl
    exact (show Tryz.prog.wantsStandIn t=false by simpa using List.all_eq_true.1 hall t hm)⟩)
  kK
end Go.Proofs.YthjkmdblifmkoaaGreatDoor
