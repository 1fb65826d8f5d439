/- strait/straitlaw19.ChainPoints returns true at every input whose arguments' bulk is at most the row's bound, and its arguments read as before; the tied card of the second form. -/
import Derived.Test.YthjkmdblifmkoaaGreatDoorMCQ23
import Derived.Test.YthjkmdblifmkoaaGreatDoorMCQ24
import Derived.Test.YthjkmdblifmkoaaGreatDoorMCQ25
import Derived.Test.YthjkmdblifmkoaaGreatDoorMCQ22
import Derived.Deep.DeepWitnessRowRef
theorem kK {P:Prop} (h:P:=by kernel_rfl):P:=h
abbrev zXh:=@Nat.le_trans
abbrev zXi:=@of_decide_eq_true
namespace Go.Proofs.YthjkmdblifmkoaaGreatDoor
set_option maxRecDepth 100000
open Go.ChangeShapes Go.WideShapes Go.ChangeAt Go.RowKit Go.Proofs.Wd Go
theorem zCN (H:Type) (enc:TypeId×Value->H) (W:World) (base:Nat) (args:Array Value) (ds gs:List (DataW H)) (before:List MemPlace)
  (hval0: ∀(j:Nat) t v,Tryz.f3.params[j]?=some t->args[j]?=some v->Value.okWide Tryz.prog W .any base t v)
  (hW:DataW.Whole enc Tryz.prog Tryz.f3.params.toList Rows.chainPointsSpec.vars false W args.toList ds gs before) (hS:Rows.uptoSmall H (ds++gs)=true) (hL:laidMetH Tryz.prog zEy W):
  Calls Tryz.prog 3 args W fun e W'=> ∃v,e= .returned v/\Rows.chainPointsSpec.post enc Tryz.prog Tryz.f3 false true false false W args v W':=by
 have hval: ∀(j:Nat) t v,Tryz.f3.params[j]?=some t->args[j]?=some v->Value.okWide Tryz.prog W .any base t v:=hval0
 have hW':=hW
 obtain ⟨p,q,hA0,hV,rfl,hfz,hnd⟩:=hW
 have hA:DataW.TrodAll enc Tryz.prog W 0 (fun _=>true) true Tryz.f3.params.toList args.toList ds p:=hA0
 rw [Tryz.params3] at hA hval
 obtain ⟨v0,v1,v2,v3,v4,d0,d1,d2,d3,d4,p0,p1,p2,p3,p4,rfl,rfl,rfl,h0,h1,h2,h3,h4⟩:=zGE hA
 obtain ⟨rfl,rfl⟩:=trodVars_none hV
 obtain ⟨x0,r0,n0,k0⟩:=zNM (hval 0 22 _ rfl rfl) h0
 obtain ⟨x1,r1,n1,k1⟩:=zKr (hval 1 23 _ rfl rfl) h1
 obtain ⟨x2,r2,k2⟩:=zLi (hval 2 31 _ rfl rfl) h2
 obtain ⟨x3,r3,k3⟩:=zLi (hval 3 31 _ rfl rfl) h3
 obtain ⟨x4,r4,k4⟩:=zP9 (hval 4 29 _ rfl rfl) h4
 have hB:Rows.uptoSmall H [d0,d1,d2,d3,d4]=true:=by simpa using hS
 have hT:=zHH hL
 clear hA0 hval0
 simp only [List.append_nil,List.append_assoc] at hW'
 have hlt: ∀x∈p0++(p1++(p2++(p3++p4))),x.block<W.heap.size:=fun x hx=>hW'.lt x (by simpa using hx)
 have hargs: ∀{W':World} {t:TypeId} {v:Value} {d:DataW H} {p:List MemPlace},Below W.heap.size W W'->(∀x∈p,x.block<W.heap.size)->Tryz.prog.readableRec t=true->t<Tryz.prog.types.size->DataW.Trod enc Tryz.prog W 0 (fun _=>true) true t v d p->DataW.Trod enc Tryz.prog W' 0 (fun b=>decide (b<W.heap.size)) true t v d p:=
  fun hn hl hr hs ht=>Below.trod zMN hr hs ht hn hl
 refine (zJM r0 r1 r2 r3 r4 (zXh n0 (zB6 hB (by simp))) (fun x hx=>zXh (k0 x hx) (zB6 hB (by simp))) (zXh n1 (zB6 hB (by simp))) (fun x hx=>zXh (k1 x hx) (zB6 hB (by simp))) (zXh k2 (zB6 hB (by simp))) (zXh k3 (zB6 hB (by simp))) (zXh k4 (zB6 hB (by simp))) hT).mono fun e W' he=> ?_
 obtain ⟨v,rfl,hv,hw⟩:=he
 obtain rfl:v= .bool true:=hv
 exact ⟨_,rfl,⟨[d0,d1,d2,d3,d4], [],p0++(p1++(p2++(p3++p4))), [],p0++(p1++(p2++(p3++p4))), [],hW',trodAll_mk1 (shut_bool Tryz.underlying4 true),
  zHG (hargs hw (fun x hx=>hlt x (by simp [hx])) kK (zXi kK) h0) (hargs hw (fun x hx=>hlt x (by simp [hx])) kK (zXi kK) h1) (hargs hw (fun x hx=>hlt x (by simp [hx])) kK (zXi kK) h2) (hargs hw (fun x hx=>hlt x (by simp [hx])) kK (zXi kK) h3) (hargs hw (fun x hx=>hlt x (by simp [hx])) kK (zXi kK) h4),rfl,hw.frame _,fun h=>by cases h⟩⟩
theorem zDV (os:Os) {H:Type} (enc:TypeId×Value->H): ∃x:List (DataW H)×List (DataW H)×List MemPlace,DataW.whole enc Tryz.prog ((World.doorLaid Tryz.prog 400 os).forCall (fun _ _=>0) ⟨#[],#[.slice none 0 0, .slice none 0 0, .agg #[.bool false, .slice none 0 0, .slice none 0 0, .bool false, .slice none 0 0, .slice none 0 0], .agg #[.bool false, .slice none 0 0, .slice none 0 0, .bool false, .slice none 0 0, .slice none 0 0], .agg #[.bool false, .slice none 0 0, .slice none 0 0]], []⟩).memory Tryz.f3.params.toList Rows.chainPointsSpec.vars false (#[.slice none 0 0, .slice none 0 0, .agg #[.bool false, .slice none 0 0, .slice none 0 0, .bool false, .slice none 0 0, .slice none 0 0], .agg #[.bool false, .slice none 0 0, .slice none 0 0, .bool false, .slice none 0 0, .slice none 0 0], .agg #[.bool false, .slice none 0 0, .slice none 0 0]]:Array Value).toList 8=some x/\Rows.uptoSmall H (x.1++x.2.1)=true:=by
 refine ⟨([.nil, .nil, .agg [.agg [.agg [.lit (.bool false), .nil], .nil], .agg [.agg [.lit (.bool false), .nil], .nil]], .agg [.agg [.agg [.lit (.bool false), .nil], .nil], .agg [.agg [.lit (.bool false), .nil], .nil]], .agg [.agg [.lit (.bool false), .nil], .nil]], [], []),by kernel_rfl,by kernel_rfl⟩
theorem zC3 (os:Os) (started:os.Started) (H:Type) (enc:TypeId×Value->H) (F:Stop.Interp):
  ReturnsInHanded {} Tryz.checked os 3 .any ((Rows.OpenSpec.upto Rows.chainPointsSpec).preRow enc Tryz.prog Tryz.f3 Rows.chainPointsUptoRow.domain false Rows.chainPointsUptoRow.laid) (((Rows.OpenSpec.upto Rows.chainPointsSpec).at F).post enc Tryz.prog Tryz.f3 false true false false):=by
 obtain ⟨x,hx,hk⟩:=zDV os enc
 refine returnsInHanded_of_row (C:=Tryz.checked) (s:=Rows.OpenSpec.upto Rows.chainPointsSpec) zOL started kK Tryz.func3
  (witness_row_atRef (enc:=enc) (C:=Tryz.checked) false (World.doorLaid Tryz.prog 400 os) #[.slice none 0 0, .slice none 0 0, .agg #[.bool false, .slice none 0 0, .slice none 0 0, .bool false, .slice none 0 0, .slice none 0 0], .agg #[.bool false, .slice none 0 0, .slice none 0 0, .bool false, .slice none 0 0, .slice none 0 0], .agg #[.bool false, .slice none 0 0, .slice none 0 0]] rfl kK kK kK
   (OpenSpec.preRow_of_cond 8 hx rfl (fun k hk'=>by cases hk';exact hk) kK (zOt os _))) ?_
 intro W base args ds gs before hval hW _ hcond _ hL _ _
 exact zCN H enc W base args ds gs before hval hW (hcond _ rfl) hL
theorem zDU:Rows.ChainPointsUptoSaid:=
 OpenClaim.holds_of_cond 3 Tryz.f3 rfl rfl rfl rfl rfl rfl rfl ⟨rfl,rfl,rfl,rfl,rfl⟩ rfl rfl rfl rfl rfl kK Tryz.func3 kK
  (zXi kK) (by unfold Func.isWrapper;first|(rw [if_pos (by decide+kernel)];kernel_rfl)|(rw [if_neg (by decide+kernel)];exact ⟨rfl,rfl⟩))
  (fun os started H enc _ F=>by rw [OpenClaim.pre_eq_preRow];exact zC3 os started H enc F)
theorem chainPoints_cardU:Rows.ChainPointsUptoCardSaid:=
 Claim7.holds_tied_plain_at .later [] _ _ _ _
  zDU (fun _ h=>by cases h) kK (fun _ h=>by cases h) chainPointsUpto_row_tie rfl ⟨rfl,rfl⟩ kK rfl
  (fun f fn hf hfn=>by
   obtain rfl:f=3:=Option.some.inj ((show Tryz.prog.funcNamed "strait/straitlaw19.ChainPoints" =some 3 by kernel_rfl).symm.trans hf)|>.symm
   obtain rfl:fn=Tryz.f3:=(Option.some.inj (Tryz.func3.symm.trans hfn)).symm
   exact ⟨by kernel_rfl,fun j t ht=>by
    rw [Tryz.params3] at ht
    have hm:t∈ [22,23,31,31,29]:=by simpa using Array.mem_of_getElem? ht
    have hall:([22,23,31,31,29].all fun u=> !Tryz.prog.wantsStandIn u)=true:=by kernel_rfl
    exact (show Tryz.prog.wantsStandIn t=false by simpa using List.all_eq_true.1 hall t hm)⟩)
  kK
end Go.Proofs.YthjkmdblifmkoaaGreatDoor
