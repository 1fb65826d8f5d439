/- strait/straitlaw17.InsideRound returns true at every input whose arguments' bulk is at most the row's bound, and its arguments read as before; the tied card of the second form. -/
import Derived.Test.YtdfhaibojmnmkaaGreatDoorMRO23
import Derived.Test.YtdfhaibojmnmkaaGreatDoorMRO24
import Derived.Test.YtdfhaibojmnmkaaGreatDoorMRO25
import Derived.Test.YtdfhaibojmnmkaaGreatDoorMRO22
import Derived.Deep.DeepWitnessRowRef
namespace Go.Proofs.YtdfhaibojmnmkaaGreatDoor
set_option maxRecDepth 100000
open Go.ChangeShapes Go.WideShapes Go.ChangeAt Go.RowKit Go.Proofs.Wd Go
theorem zCL (H:Type) (enc:TypeId×Value→H) (W:World) (base:Nat) (args:Array Value) (ds gs:List (DataW H)) (before:List MemPlace)
  (hval0: ∀(j:Nat) t v,Tryz.f6.params[j]?=some t→args[j]?=some v→Value.okWide Tryz.prog W .any base t v)
  (hW:DataW.Whole enc Tryz.prog Tryz.f6.params.toList Rows.insideRoundSpec.vars false W args.toList ds gs before) (hS:Rows.uptoSmall H (ds++gs)=true) (hL:laidMetH Tryz.prog zEA W):
  Calls Tryz.prog 6 args W fun e W'=> ∃v,e= .returned v∧Rows.insideRoundSpec.post enc Tryz.prog Tryz.f6 false true false false W args v W':=by
 have hval: ∀(j:Nat) t v,Tryz.f6.params[j]?=some t→args[j]?=some v→Value.okWide Tryz.prog W .any base t v:=hval0
 have hW':=hW
 obtain ⟨p,q,hA0,hV,rfl,hfz,hnd⟩:=hW
 have hA:DataW.TrodAll enc Tryz.prog W 0 (fun _=>true) true Tryz.f6.params.toList args.toList ds p:=hA0
 rw [Tryz.params6] at hA hval
 obtain ⟨v0,v1,v2,v3,v4,d0,d1,d2,d3,d4,p0,p1,p2,p3,p4,rfl,rfl,rfl,h0,h1,h2,h3,h4⟩:=zGz hA
 obtain ⟨rfl,rfl⟩:=trodVars_none hV
 obtain ⟨x0,r0,n0,k0⟩:=zNH (hval 0 22 _ rfl rfl) h0
 obtain ⟨x1,r1,k1⟩:=zLs (hval 1 30 _ rfl rfl) h1
 obtain ⟨x2,r2,k2⟩:=zLs (hval 2 30 _ rfl rfl) h2
 obtain ⟨z3,rfl,e3,f3,g3⟩:=open_int Tryz.underlying3 (hval 3 3 _ rfl rfl) h3
 obtain ⟨x4,r4,k4⟩:=zPS (hval 4 28 _ rfl rfl) h4
 have hB:Rows.uptoSmall H [d0,d1,d2,d3,d4]=true:=by simpa using hS
 have hT:=zHB hL
 clear hA0 hval0
 simp only [List.append_nil,List.append_assoc] at hW'
 have hlt: ∀x∈p0++(p1++(p2++(p3++p4))),x.block<W.heap.size:=fun x hx=>hW'.lt x (by simpa using hx)
 have hargs: ∀{W':World} {t:TypeId} {v:Value} {d:DataW H} {p:List MemPlace},Below W.heap.size W W'→(∀x∈p,x.block<W.heap.size)→Tryz.prog.readableRec t=true→t<Tryz.prog.types.size→DataW.Trod enc Tryz.prog W 0 (fun _=>true) true t v d p→DataW.Trod enc Tryz.prog W' 0 (fun b=>decide (b<W.heap.size)) true t v d p:=
  fun hn hl hr hs ht=>Below.trod zMH hr hs ht hn hl
 refine (zN5 r0 r1 r2 rfl r4 (Nat.le_trans n0 (zDz hB (by simp))) (fun x hx=>Nat.le_trans (k0 x hx) (zDz hB (by simp))) (Nat.le_trans k1 (zDz hB (by simp))) (Nat.le_trans k2 (zDz hB (by simp))) (by have:=g3;simp [Lit.wf,IntKind.min,IntKind.max,IntKind.signed,IntKind.bits] at this;omega) (Nat.le_trans k4 (zDz hB (by simp))) hT).mono fun e W' he=> ?_
 obtain ⟨v,rfl,hv,hw⟩:=he
 obtain rfl:v= .bool true:=hv
 exact ⟨_,rfl,⟨[d0,d1,d2,d3,d4], [],p0++(p1++(p2++(p3++p4))), [],p0++(p1++(p2++(p3++p4))), [],hW',trodAll_mk1 (shut_bool Tryz.underlying4 true),
  zHA (hargs hw (fun x hx=>hlt x (by simp [hx])) (by kernel_rfl) (of_decide_eq_true (by kernel_rfl)) h0) (hargs hw (fun x hx=>hlt x (by simp [hx])) (by kernel_rfl) (of_decide_eq_true (by kernel_rfl)) h1) (hargs hw (fun x hx=>hlt x (by simp [hx])) (by kernel_rfl) (of_decide_eq_true (by kernel_rfl)) h2) (hargs hw (fun x hx=>hlt x (by simp [hx])) (by kernel_rfl) (of_decide_eq_true (by kernel_rfl)) h3) (hargs hw (fun x hx=>hlt x (by simp [hx])) (by kernel_rfl) (of_decide_eq_true (by kernel_rfl)) h4),rfl,hw.frame _,fun h=>by cases h⟩⟩
theorem zDX (os:Os) {H:Type} (enc:TypeId×Value→H): ∃x:List (DataW H)×List (DataW H)×List MemPlace,DataW.whole enc Tryz.prog ((World.doorLaid Tryz.prog 400 os).forCall (fun _ _=>0) ⟨#[],#[.slice none 0 0, .agg #[.bool false, .slice none 0 0, .slice none 0 0, .bool false, .slice none 0 0, .slice none 0 0], .agg #[.bool false, .slice none 0 0, .slice none 0 0, .bool false, .slice none 0 0, .slice none 0 0], .int .i64 0, .agg #[.bool false, .slice none 0 0, .slice none 0 0]], []⟩).memory Tryz.f6.params.toList Rows.insideRoundSpec.vars false (#[.slice none 0 0, .agg #[.bool false, .slice none 0 0, .slice none 0 0, .bool false, .slice none 0 0, .slice none 0 0], .agg #[.bool false, .slice none 0 0, .slice none 0 0, .bool false, .slice none 0 0, .slice none 0 0], .int .i64 0, .agg #[.bool false, .slice none 0 0, .slice none 0 0]]:Array Value).toList 8=some x∧Rows.uptoSmall H (x.1++x.2.1)=true:=by
 refine ⟨([.nil, .agg [.agg [.agg [.lit (.bool false), .nil], .nil], .agg [.agg [.lit (.bool false), .nil], .nil]], .agg [.agg [.agg [.lit (.bool false), .nil], .nil], .agg [.agg [.lit (.bool false), .nil], .nil]], .lit (.int .i64 0), .agg [.agg [.lit (.bool false), .nil], .nil]], [], []),by kernel_rfl,by kernel_rfl⟩
theorem zCY (os:Os) (started:os.Started) (H:Type) (enc:TypeId×Value→H) (F:Stop.Interp):
  ReturnsInHanded {} Tryz.checked os 6 .any ((Rows.OpenSpec.upto Rows.insideRoundSpec).preRow enc Tryz.prog Tryz.f6 Rows.insideRoundUptoRow.domain false Rows.insideRoundUptoRow.laid) (((Rows.OpenSpec.upto Rows.insideRoundSpec).at F).post enc Tryz.prog Tryz.f6 false true false false):=by
 obtain ⟨x,hx,hk⟩:=zDX os enc
 refine returnsInHanded_of_row (C:=Tryz.checked) (s:=Rows.OpenSpec.upto Rows.insideRoundSpec) zOp started (by kernel_rfl) Tryz.func6
  (witness_row_atRef (enc:=enc) (C:=Tryz.checked) false (World.doorLaid Tryz.prog 400 os) #[.slice none 0 0, .agg #[.bool false, .slice none 0 0, .slice none 0 0, .bool false, .slice none 0 0, .slice none 0 0], .agg #[.bool false, .slice none 0 0, .slice none 0 0, .bool false, .slice none 0 0, .slice none 0 0], .int .i64 0, .agg #[.bool false, .slice none 0 0, .slice none 0 0]] rfl (by kernel_rfl) (by kernel_rfl) (by kernel_rfl)
   (OpenSpec.preRow_of_cond 8 hx rfl (fun k hk'=>by cases hk';exact hk) (by kernel_rfl) (zOh os _))) ?_
 intro W base args ds gs before hval hW _ hcond _ hL _ _
 exact zCL H enc W base args ds gs before hval hW (hcond _ rfl) hL
theorem zDW:Rows.InsideRoundUptoSaid:=
 OpenClaim.holds_of_cond 6 Tryz.f6 rfl rfl rfl rfl rfl rfl rfl ⟨rfl,rfl,rfl,rfl,rfl⟩ rfl rfl rfl rfl rfl (by kernel_rfl) Tryz.func6 (by kernel_rfl)
  (of_decide_eq_true (by kernel_rfl)) (by unfold Func.isWrapper;first|(rw [if_pos (by decide+kernel)];kernel_rfl)|(rw [if_neg (by decide+kernel)];exact ⟨rfl,rfl⟩))
  (fun os started H enc _ F=>by rw [OpenClaim.pre_eq_preRow];exact zCY os started H enc F)
theorem insideRound_cardU:Rows.InsideRoundUptoCardSaid:=
 Claim7.holds_tied_plain_at .later [] _ _ _ _
  zDW (fun _ h=>by cases h) (by kernel_rfl) (fun _ h=>by cases h) insideRoundUpto_row_tie rfl ⟨rfl,rfl⟩ (by kernel_rfl) rfl
  (fun f fn hf hfn=>by
   obtain rfl:f=6:=Option.some.inj ((show Tryz.prog.funcNamed "strait/straitlaw17.InsideRound" =some 6 by kernel_rfl).symm.trans hf)|>.symm
   obtain rfl:fn=Tryz.f6:=(Option.some.inj (Tryz.func6.symm.trans hfn)).symm
   exact ⟨by kernel_rfl,fun j t ht=>by
    rw [Tryz.params6] at ht
    have hm:t∈ [22,30,30,3,28]:=by simpa using Array.mem_of_getElem? ht
    have hall:([22,30,30,3,28].all fun u=> !Tryz.prog.wantsStandIn u)=true:=by kernel_rfl
    exact (show Tryz.prog.wantsStandIn t=false by simpa using List.all_eq_true.1 hall t hm)⟩)
  (by kernel_rfl)
end Go.Proofs.YtdfhaibojmnmkaaGreatDoor
