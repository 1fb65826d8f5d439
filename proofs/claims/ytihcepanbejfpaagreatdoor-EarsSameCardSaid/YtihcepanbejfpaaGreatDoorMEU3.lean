/- A law for 'for x, y := range seq' whose body never leaves early, over  and what it needs. -/
import Derived.Test.YtihcepanbejfpaaGreatDoorMEU2
import Derived.RangeFuncNested
import Derived.RangeFuncBound
import Derived.OwnWalkIn
import Derived.TacticsInMore
import Derived.LoopNIn
import Derived.LoopIn
import Derived.BigQuiet
abbrev xP:=@Array.getElem?_eq_some_iff
abbrev xQ:=@Nat.le_trans
abbrev xR:=@List.all_eq_true
abbrev xS:=@List.mem_cons
abbrev xT:=@List.mem_range
abbrev xU:=@Array.getD_eq_getD_getElem?
abbrev xV:=@Bool.and_eq_true
abbrev xW:=@of_decide_eq_true
abbrev xX:=@List.map_cons
abbrev xY:=@decide_eq_false
abbrev xZ:=@Go.callsIn_wide
abbrev bB:=@Ne.symm
abbrev bC:=@List.length_map
abbrev bE:=@List.getElem?_eq_some_iff
abbrev bF:=@Nat.lt_or_ge
abbrev bG:=@Go.CallsIn.mono
abbrev bH:=@Go.getD_set_ne
abbrev bI:=@Go.Oper.semAt_eq
abbrev bJ:=@beq_iff_eq
abbrev bK:=@Go.run_underlying
abbrev bL:=@Go.wpIn_wide
abbrev bN:=@Go.World.putObj_heap_other
abbrev bO:=@Go.KeepsOthers.setCell
abbrev bP:=@List.size_toArray
abbrev bQ:=@List.any_eq_true
abbrev bR:=@Go.World.cell?_of_block
abbrev bT:=@Go.wpOpIn_step
abbrev bU:=@List.contains_iff_mem
abbrev bV:=@List.map_nil
abbrev bX:=@List.nodup_cons
abbrev bY:=@Go.World.size_alloc
abbrev bZ:=@Go.Boxed.new
abbrev cB:=@Array.getElem?_eq_none
abbrev cC:=@Array.getElem?_eq_getElem
abbrev cD:=@Go.Sem.run_bind
abbrev cE:=@decide_eq_true_eq
abbrev cF:=@Go.Sem.run_pure
abbrev cG:=@if_true
abbrev cH:=@Go.mem_ready
abbrev cJ:=@Nat.eq_of_beq_eq_true
abbrev cK:=@List.mem_cons_of_mem
abbrev cL:=@Go.Result.andThen_ok
abbrev cM:=@List.mem_cons_self
abbrev cN:=@List.any_eq_false
abbrev cO:=@Go.World.alloc_heap_new
abbrev cP:=@List.map_toArray
abbrev cQ:=@List.mem_append_right
abbrev cR:=@Bool.false_or
abbrev cS:=@List.range_succ
abbrev cT:=@List.mem_append_left
abbrev cV:=@Go.RowKit.Below.heap_setCell
abbrev cW:=@Array.ext
abbrev cX:=@Bool.not_eq_true'
abbrev cY:=@Bool.or_eq_true
abbrev cZ:=@Go.info_parts
abbrev eA:=@Array.getElem_mem
abbrev eB:=@Go.Code.wpIn_mono
abbrev eC:=@Go.World.putObj_heap_same
abbrev eD:=@Go.Act.put_comm
abbrev eE:=@List.range'_succ
abbrev eF:=@Go.wpOpsIn_cons
abbrev eH:=@Go.KeepsOthers.of_grownBy
abbrev eI:=@Go.World.putObj_size
abbrev eJ:=@Go.wpOpIn_mono
abbrev eK:=@Array.getElem?_setIfInBounds_self_of_lt
abbrev eL:=@Classical.not_forall
abbrev eM:=@List.getElem?_take_of_lt
abbrev eO:=@Array.getElem?_replicate
abbrev eP:=@Go.RowKit.Below.heap_alloc
abbrev eQ:=@Go.World.ownsRow.lt
abbrev eS:=@Go.World.ownsRow.alloc
abbrev eU:=@Go.grownBy_putObj'
abbrev eV:=@Array.all_eq_true_iff_forall_mem
abbrev eW:=@List.foldl_cons
abbrev eX:=@Array.any_eq_true
abbrev eY:=@Array.size_modify
abbrev eZ:=@Array.mem_of_getElem?
abbrev fX:=@Bool.not_true
abbrev fY:=@List.countP_eq_zero
abbrev fZ:=@Bool.or_eq_false_iff
abbrev hH:=@Go.run_enterLoop_outer
abbrev lC:=@List.mem_filterMap
abbrev lD:=@Nat.lt_succ_iff_lt_or_eq
abbrev lE:=@List.length_range
abbrev lF:=@List.eq_nil_iff_forall_not_mem
abbrev lG:=@List.range_eq_range'
abbrev lH:=@Array.count_replicate_self
abbrev WE:=Go.Value
abbrev WF:=Go.TypeId
abbrev WG:=Option
abbrev WH:=Go.Program
namespace Go.Proofs.Wd
open Go.RowKit Lb
variable {P:WH}{g:Operand}{ps:Array Tmp}{body:Code}{Q:Exit->Act->WB->Prop}{a b:Act}{A W W' w w' w0 w1:WB}{B C D base c fuel i id j k m n n₀ z:Nat}{f:FuncId}{fn:Func}{args:Array WE}{R:Ending->WB->Prop}{e t:WF}{v v':WE}{Ds l:List Nat}{ops:Array Oper}{rest:List Oper}{o oi:Oper}{F:Fence}{row:WG Nat}{tmp:Obj}{S S':Nat->Prop}{ds:List Deferred}
def zWU(P:WH)(gf:Nat)(lb:Array WE)(enc:Nat->Array WE)(N:Nat)(Kp Fr:WB->WB->Prop)(Fin:WB->Prop)(w0:WB):Prop:=
 ∀(l:Nat) (J:Nat->WB->Prop) (W:WB),Below w0.heap.size w0 W->
  (∀k W1 W2,J k W1->Fr W1 W2->J k W2)->
  (∀k W1,k<N->J k W1->YieldAt Fence.wide 0 P l (enc k) W1 fun e W'=>e=.returned (.bool true)/\J (k+1) W'/\Kp W1 W')->
  J 0 W->
  Calls P gf (#[.func (.yield l) #[] #[]]++lb) W fun e W'=>(∃v,e=.returned v)/\J N W'/\Fin W'
theorem qL(f:FuncId):Fence.wide.fn f=True:=rfl
theorem yG:Fence.wide.depth=none:=rfl
def zKB(B:Nat)(Kp:WB->WB->Prop)(I:Nat->WB->Prop)(k:Nat)(W:WB):Exit->Act->WB->Prop
 | .normal,_,W'=>KeepsFrom B W W'/\Kp W W'/\I k W'
 |_,_,_=>False
theorem zDV{assign:Code}
  {gf:Nat}{lb:Array WE}(hg:a.eval g=.func (.func gf) #[] lb)(eg:∀args w,(callFunc gf args).run P w=.ok (.enter gf args) w)
  {enc:Nat->Array WE}{N:Nat}{Kp Fr:WB->WB->Prop}{Fin:WB->Prop}(hit:zWU P gf lb enc N Kp Fr Fin w)
  (hps:∀k,(enc k).size=ps.size)(hKt:∀{A B C:WB},Kp A B->Kp B C->Kp A C)
  (hKb:∀(W:WB) (l:Nat) (o o':Obj),w.heap.size<=l->W.heap[l]?=some o->o.isCells=false->Kp W (W.putObj l o'))
  (I:Nat->WB->Prop)(hI:OwnFrom w.heap.size I)(hF:∀k W1 W2,I k W1->Fr W1 W2->I k W2)
  (hFb:∀W1 W2,Fr W1 W2->∀(k:Nat) (o:Obj),w.heap.size<=k->W1.heap[k]?=some o->o.isCells=false->W2.heap[k]?=some o)
  (hFin:∀(W:WB) (l:Nat) (o o':Obj),w.heap.size<=l->W.heap[l]?=some o->o.isCells=false->Fin W->Fin (W.putObj l o'))
  (h0:I 0 w)(a₁:Nat->Act)
  (hassign:∀(l k:Nat) (W:WB) (K:Act->WB->Prop),K (a₁ k) W->
   assign.wpIn (Fence.wide.inRound l) 0 P (Exit.then K (fun _ _ _=>False)) { tmps:=(ps.zip (enc k)).foldl (fun t (p,v)=>t.setIfInBounds p v) a.tmps,defers:=[] } W)
  (hbody:∀(l k:Nat) (W:WB),k<N->I k W->body.wpIn (Fence.wide.inRound l) 0 P (zKB w.heap.size Kp I (k+1) W) (a₁ k) W)
  (hdone:∀(D:Nat) (W:WB),w.heap.size<=D->I N W->Fin W->W.heap[D]?=some (.deferred (some []))->Q .normal { a with defers:={ target:=.collected D,args:=#[] }::a.defers } W):
  (Code.rangeFunc g ps assign body).wp P Q a w:=by
 refine(bL (n:=0)).1 (wpIn_rangeFunc ?_)
 intro fn hfn
 show ∃l mark w₁ d w₁' f args w₂,(Instr.enterLoop fn a.tmps ps assign body none).run P w=_/\_
 obtain⟨rec,hrec⟩:∃rec:LoopState->WG Code->Loop,rec=fun st pe=>{ state:=st,pending:=pe,fn,tmps:=a.tmps,params:=ps,assign,body,defers:=w.heap.size }:=⟨_,rfl⟩
 obtain⟨W1,hW1⟩:∃W1,(w.alloc (.deferred (some []))).alloc (.loop (rec .ready none))=W1:=⟨_,rfl⟩
 have hL1:W1.heap[w.heap.size+1]?=some (.loop (rec .ready none)):=by
  rw[<-hW1];have:=cO (w.alloc (.deferred (some []))) (.loop (rec .ready none));rwa [bY]at this
 have hK1:W1.heap[w.heap.size]?=some (.deferred (some [])):=by
  rw[<-hW1];exact(eP _ _ _ (by simp)).trans (cO w _)
 have hI1:I 0 W1:=by rw[<-hW1];exact hI.alloc _ (hI.alloc _ h0)
 have hb1:Below w.heap.size w W1:=by
  rw[<-hW1];exact((xF _ w).alloc (vP _) _).alloc (by simp) _
 refine⟨w.heap.size+1, [{ target:=.collected w.heap.size,args:=#[] }],W1,{ target:=.fn (.func gf) lb,args:=#[.func (.yield (w.heap.size+1)) #[] #[]] },W1,gf,
  #[.func (.yield (w.heap.size+1)) #[] #[]]++lb,W1,?_,?_,?_,?_,fun h=>absurd h (by simp[Fence.wide]),?_⟩
 .rw[<-hW1,hrec];exact hH _ _ _ _ _
 .simp only[resolve,hg]
  simp[go_sem]
 .intro f' _;trivial
 .simp[invoke,go_sem,eg]
 .refine xZ.2 ((hit (w.heap.size+1)
   (fun k W=>I k W/\W.heap[w.heap.size+1]?=some (.loop (rec .ready none))/\W.heap[w.heap.size]?=some (.deferred (some [])))
   W1 hb1
   (fun k A B hs hf=>⟨hF k A B hs.1 hf,hFb A B hf _ _ oA hs.2.1 rfl,hFb A B hf _ _ (vP _) hs.2.2 rfl⟩)
   ?_ ⟨hI1,hL1,hK1⟩).mono ?_)
  .rintro k W hk ⟨hi,hl,hd⟩
   have hlt:w.heap.size+1<W.heap.size:=(xP.1 hl).1
   have hy:=run_yield (P:=P) (args:=enc k) hl (by rw[hrec];exact hps k)
   rw[hrec]at hy
   refine⟨fn,_,assign,body,hy,roundIn_of_wpIn hfn (hassign _ k W _ ⟨_,run_beginRound hl (by rw[hrec]),?_⟩)⟩
   have hl2:(W.putObj (w.heap.size+1) (.loop { rec .ready none with state:=.busy })).heap[w.heap.size+1]?=some (.loop { rec .ready none with state:=.busy }):=eC hlt
   have hk2:(W.putObj (w.heap.size+1) (.loop { rec .ready none with state:=.busy })).heap[w.heap.size]?=some (.deferred (some [])):=(bN oA).trans hd
   have hw2:Kp W (W.putObj (w.heap.size+1) (.loop { rec .ready none with state:=.busy })):=hKb _ _ _ _ oA hl rfl
   refine wpIn_mono (hbody _ k _ hk (hI.putObj _ hi oA hl rfl)) ?_
   rintro e a3 W3 hp
   cases e with
   |normal=>
    obtain⟨hk3,hkp3,hi3⟩:=hp
    have hl3:=hk3.same _ _ oA hl2 rfl
    have hend:=run_endRound (P:=P) none hl3
    have hlt3:w.heap.size+1<W3.heap.size:=(xP.1 hl3).1
    refine⟨_,_,hend,rfl,⟨hI.putObj _ hi3 oA hl3 rfl,?_,?_⟩,hKt (hKt hw2 hkp3) (hKb _ _ _ _ oA hl3 rfl)⟩
    .rw[eC hlt3];simp[hrec]
    .exact(bN oA).trans (hk3.same _ _ (vP _) hk2 rfl)
   |ret=>exact hp.elim
   |exit id=>exact hp.elim
   |goto t=>exact hp.elim
   |panic ch=>exact hp.elim
   |outgrown=>exact hp.elim
  .rintro e W2 ⟨⟨v,rfl⟩,⟨hi,hl,hd⟩,hfin⟩
   exact⟨none,_,by have:=run_endLoop (P:=P) hl (by rw[hrec];simp);rw[hrec]at this;exact this,hdone _ _ (vP _) (hI.putObj _ hi oA hl rfl) (hFin _ _ _ _ oA hl rfl hfin) ((bN oA).trans hd)⟩
def Mk(W1 W2:WB):Prop:=Below W1.heap.size W1 W2
theorem wS(J I:WB)(h:Mk J I)(k:Nat)(o:Obj)(_:B<=k)(O:J.heap[k]?=some o)(_:o.isCells=false):I.heap[k]?=some o:=
 (h.block k (xP.1 O).1).trans O
theorem jC{c:Code}
  (I:P.funcs[f]?=some fn)(hb:fn.body=some c)
  (h:c.wp P (bodyPostM Fence.wide 0 P fn R) { tmps:=args++Array.replicate (fn.ntmps-args.size) undef,defers:=[] } w):Calls P f args w R:=
 xZ.1 (callsIn_of_wp_marks I hb trivial ((bL (n:=0)).2 h))
theorem zBT{c:Code}
  (I:P.funcs[f]?=some fn)(hb:fn.body=some c)
  (h:c.wpIn Fence.wide 0 P (bodyPost P fn R) { tmps:=args++Array.replicate (fn.ntmps-args.size) undef,defers:=[] } w):Calls P f args w R:=
 xZ.1 (callsIn_of_wp I hb trivial h)
/-! ### append onto a row of limbs -/
def yB(w:WB)(base:Nat)(e:WF)(v:WE)(l:List Nat):Prop:=w.ownsRow base e 1 v l.length (zBL l)
theorem yB.form(h:yB w base e v l):∃A c,v=.slice A l.length c:=zQp h
theorem yB.form'(h:yB w base e v l){n:Nat}(I:l.length=n):∃A c,v=.slice A n c:=by
 subst I;exact h.form
theorem yB.rd{A:WG Addr}(h:yB w base e (.slice A n c) l):Rd w A n c l:=by
 obtain⟨A',c',I⟩:=h.form
 injection I with h1 h2 h3
 exact Rd.of_own h h2.symm
theorem yB.grown{J:WB}(hb:Below B w w1)(ho:yB w1 base e v l)(U:w1.grownBy J v.ownBlock)(hB:B<=base)(I:B<=w1.heap.size):Below B w J:=
 hb.grown U I fun k O=>by have:=(eQ ho k O).1;omega
theorem yB.alloc(h:yB w base e v l)(o:Obj):yB (w.alloc o) base e v l:=eS h o
theorem wV(w:WB)(base:Nat)(e:WF):yB w base e (.slice none 0 0) []:=World.ownsRow_nil _ _ _ _
theorem zD1(w:WB)(t ty e:WF)(ht:P.underlying t=some (.slice e))(h4:(P.info? e).map (fun i=>(i.zero,i.size,i.bytes))=some (some (.int .u32 0),1,4))
  (base:Nat)(v:WE)(l m:List Nat)(I:yB w base e v l)(A:WG Addr)(n c:Nat)(hr:Rd w A n c m)(hsz:l.length+m.length<=17592186044416)(J:base<=w.heap.size):
  ∃v' w',(Builtin.append_ #[t,t] ty #[v,.slice A n c]).run P w=.ok v' w'/\yB w' base e v' (l++m)/\w.grownBy w' v.ownBlock/\(v'.ownBlock=v.ownBlock∨v'.ownBlock=some w.heap.size):=by
 obtain rfl:=hr.len
 obtain⟨i,hi,h6,h7,h8⟩:=cZ h4
 have ha:l.length+m.length<=maxLen:=by unfold maxLen;omega
 by_cases hm:m.length=0
 .have h9:m=[]:=xM hm
  subst h9
  refine⟨v,w,?_,by simpa using I,World.grownBy.refl w _,.inl rfl⟩
  rcases I.2 with⟨rfl,_⟩|⟨g,cap,cur,rfl,_,_,h0,_⟩
  .rcases A with _|ad
   .simp[Builtin.append_,bK ht,sizeOf,typeInfo,hi,Builtin.lenOf,Builtin.firstCells]
   .simp[Builtin.append_,bK ht,sizeOf,typeInfo,hi,Builtin.lenOf,Builtin.firstCells,loadCells,loadCellsFrom]
  .rcases A with _|ad
   .simp[Builtin.append_,bK ht,sizeOf,typeInfo,hi,Builtin.lenOf,Builtin.firstCells,h0,storeCells]
   .simp[Builtin.append_,bK ht,sizeOf,typeInfo,hi,Builtin.lenOf,Builtin.firstCells,h0,storeCells,loadCells,loadCellsFrom]
 .obtain⟨b,o,rfl,hb,hc⟩:=hr.shape oA
  obtain⟨v',w',O,h2,h3,_,h5⟩:=run_append_own_at (P:=P) w base t ty e i (.int .u32 0) 1 4 ht hi h6 h7 h8 rfl (by decide) v l.length (zBL l) I ⟨b,o,none⟩ m.length c (zBL m) (by rw[zAU,gK])
   (fun j u hj=>by
    have U:j<m.length:=by have:=(bE.1 hj).1;rwa [zAU]at this
    rw[zDj m j U]at hj
    injection hj with hj
    subst hj
    rw[xH]
    exact hc j U) (zKd m) ha oA J
  refine⟨v',w',O,?_,h3,h5⟩
  unfold yB
  rw[uF,zDD]
  exact h2
theorem zS(h0:o.guard=none)(s x:Operand)(t e:WF)
  (ho:o.op=.call { callee:=.builtin .append,args:=#[s,x],argTypes:=#[t,t] })
  (ht:P.underlying t=some (.slice e))(U:(P.info? e).map (fun i=>(i.zero,i.size,i.bytes))=some (some (.int .u32 0),1,4))
  (base:Nat)(v:WE)(l:List Nat)(hs:a.eval s=v)(J:yB w base e v l)
  (A:WG Addr)(k c:Nat)(m:List Nat)(hx:a.eval x=.slice A k c)(hr:Rd w A k c m)(h1:l.length+m.length<=17592186044416)(I:base<=w.heap.size)
  (h:∀v' w',yB w' base e v' (l++m)->w.grownBy w' v.ownBlock->(v'.ownBlock=v.ownBlock∨v'.ownBlock=some w.heap.size)->wpList P ops Q rest (a.put o.dst v') w'):wpList P ops Q (o::rest) a w:=
 wpList_plain h0 fun _ hK=>by
  obtain⟨v',w',O,h2,h3,h4⟩:=zD1 (P:=P) w t o.type e ht U base v l m J A k c hr h1 I
  unfold Oper.wp execOp
  simp only[ho,resolve,invoke,builtin,cD,cF,cL,cP,xX,bV,hs,hx,O]
  exact hK _ _ (h v' w' h2 h3 h4)
theorem zA8(h0:o.guard=none)(s x:Operand)(t e:WF)
  (ho:o.op=.call { callee:=.builtin .append,args:=#[s,x],argTypes:=#[t,t] })
  (ht:P.underlying t=some (.slice e))(U:(P.info? e).map (fun i=>(i.zero,i.size,i.bytes))=some (some (.int .u32 0),1,4))
  (base:Nat)(v:WE)(l:List Nat)(hs:a.eval s=v)(J:yB w base e v l)
  (A:WG Addr)(k c:Nat)(m:List Nat)(hx:a.eval x=.slice A k c)(hr:Rd w A k c m)(h7:l.length+m.length<=17592186044416)(I:base<=w.heap.size)
  (h:∀v' w',yB w' base e v' (l++m)->w.grownBy w' v.ownBlock->(v'.ownBlock=v.ownBlock∨v'.ownBlock=some w.heap.size)->wpListIn F n P ops Q rest (a.put o.dst v') w'):wpListIn F n P ops Q (o::rest) a w:=by
 refine wpListIn_plain h0 fun K h1=>?_
 obtain⟨v',w',O,h2,h3,h4⟩:=zD1 (P:=P) w t o.type e ht U base v l m J A k c hr h7 I
 unfold Oper.wpIn
 refine⟨?_,?_⟩
 .simp[Oper.about,ho,resolve,Target.leads]
 .rw[Oper.semAt_plain F _ _ (by rw[ho];intro c h6;cases h6)]
  simp[execOp,ho,resolve,invoke,builtin,hs,hx,O,Result.andThen]
  exact h1 _ _ (h v' w' h2 h3 h4)
/-! ### what abides a turn of a block that is no cells, and what only makes memory -/
theorem Mk.grown{J I:WB}(h:Mk J I):J.grownBy I none:=⟨h.os,h.tape,h.output,h.size,fun k O _=>h.block k O⟩
theorem zBU{I:Nat->WB->Prop}(h:OwnFrom B I)(k:Nat)(O J:WB)(hi:I k O)(U:Mk O J):I k J:=h k O J none hi U.grown (fun r e=>by cases e)
theorem qZ(h:Boxed W B t v)(O:W.grownBy W' row)(U:∀r,row=some r->C<=r/\∃o:Obj,W.heap[r]?=some o/\o.isCells=false):Boxed W' B t v:=
 h.kept O fun e=>by
  obtain⟨_,o,I,J⟩:=U B e.symm
  rw[show W.heap[B]?=_ from h]at I
  cases I
  cases J
theorem zIJ{size:Nat}{xs:List WE}(h:W.ownsRow base e size v n xs)(hg:W.grownBy W' row)(O:∀r,row=some r->C<=r/\∃o:Obj,W.heap[r]?=some o/\o.isCells=false):W'.ownsRow base e size v n xs:=by
 refine h.kept hg ?_
 rcases h.2 with⟨rfl,_⟩|⟨g,cap,cur,rfl,_,J,_⟩
 .exact .inl rfl
 .right
  intro e'
  obtain⟨_,o,I,U⟩:=O g (by simpa[Value.ownBlock]using e'.symm)
  rw[J]at I
  cases I
  cases U
theorem zAB(h:Below B w W)(U:W.grownBy W' row)(J:B<=w.heap.size)(I:B<=C)(O:∀r,row=some r->C<=r/\∃o:Obj,W.heap[r]?=some o/\o.isCells=false):Below B w W':=
 h.grown U (xQ J h.size) fun k e=>xQ I (O k e).1
theorem Rd.other{A:WG Addr}(h:Rd w A n c l){D:Nat}{o:Obj}(o':Obj)(U:w.heap[D]?=some o)(ho:o.isCells=false):Rd (w.putObj D o') A n c l:=
 ⟨h.len,h.le,h.cap,h.nil,fun i hi=>by
  obtain⟨b,off,e,O⟩:=h.cells i hi
  refine⟨b,off,e,(bR (bN ?_)).trans O⟩
  intro hb
  obtain⟨q,J,I⟩:=cells_of_cell O
  simp only at J hb
  rw[hb,U]at J
  cases J
  rw[ho]at I
  cases I⟩
theorem zJ5(h:Below B w W)(o:Obj)(J:B<=W.heap.size)(I:B<=D):Below B w (W.putObj D o):=
 h.grown (eU W D o) J fun k e=>by cases e;exact I
theorem y8(h:B<=W.heap.size)(o:Obj):B<=(W.alloc o).heap.size:=by simp;omega
theorem zFk{u:WE}(O:t≠e)(U:Boxed W B t u)(J:yB W n₀ e v l)(I:(W.alloc tmp).grownBy w1 v.ownBlock):Boxed w1 B t u:=
 (U.alloc tmp).kept I (U.not_row O J)
theorem zEe(J:yB W base e v l)(I:(W.alloc tmp).grownBy w1 v.ownBlock):KeepsOthers W w1:=by
 refine(KeepsOthers.alloc W tmp).trans (eH I fun j o U hj=>?_)
 rcases(eS J tmp).2 with⟨rfl,_⟩|⟨g,cap,cur,rfl,_,O,_⟩
 .simp[Value.ownBlock]at U
 .obtain rfl:g=j:=by simpa[Value.ownBlock]using U
  rw[O]at hj;cases hj;rfl
theorem zH4{l':List Nat}(h0:t≠e)(hv:Boxed W B t v)(O:yB W base e v l)(h4:n₀<=W.heap.size)(hB:n₀<=B)(hb:n₀<=base)
  (J:yB w1 base e v' l')(I:(W.alloc tmp).grownBy w1 v.ownBlock):
  Boxed w1 B t v/\Boxed (w1.setCell ⟨B,0,none⟩ v') B t v'/\yB (w1.setCell ⟨B,0,none⟩ v') base e v' l'/\KeepsOthers W (w1.setCell ⟨B,0,none⟩ v')/\Below n₀ W (w1.setCell ⟨B,0,none⟩ v'):=by
 have U:Boxed w1 B t v:=zFk h0 hv O I
 refine⟨U,U.set v',World.ownsRow.kept J (grownBy_setCell' w1 B v') (.inr (U.not_row h0 J).symm),?_,?_⟩
 .refine((KeepsOthers.alloc W tmp).trans (eH I fun j o ej hj=>?_)).trans (bO _ _ _)
  rcases(eS O tmp).2 with⟨rfl,_⟩|⟨g,cap,cur,rfl,_,h5,_⟩
  .simp[Value.ownBlock]at ej
  .obtain rfl:g=j:=by simpa[Value.ownBlock]using ej
   rw[h5]at hj;cases hj;rfl
 .refine(((xF n₀ W).alloc h4 tmp).grown I (by simp;omega) fun j ej=>?_).setCell (p:=⟨B,0,none⟩) hB v'
  have:=(eQ O j ej).1
  omega
/-! ### blocks of which a part is kept -/
def yZ(S:Nat->Prop)(W1 W2:WB):Prop:=∀b,S b->W2.heap[b]?=W1.heap[b]?
theorem yZ.refl(S:Nat->Prop)(W:WB):yZ S W W:=fun _ _=>rfl
theorem yZ.trans{B C:WB}(h:yZ S A B)(k:yZ S B C):yZ S A C:=fun b hb=>(k b hb).trans (h b hb)
theorem yZ.drew{B:WB}(h:yZ S A B):yZ S A B.drew:=h
theorem wT{B:WB}(h:Below n A B)(I:∀b,S b->b<n):yZ S A B:=fun b hb=>h.block b (I b hb)
theorem yZ.setCell{B:WB}(h:yZ S A B){p:Addr}(I: ¬S p.block)(u:WE):yZ S A (B.setCell p u):=
 fun b hb=>(cV B p u b (fun e=>I (by rw[<-e];exact hb))).trans (h b hb)
theorem yZ.putObj{B:WB}(h:yZ S A B){l:Nat}(I: ¬S l)(o:Obj):yZ S A (B.putObj l o):=
 fun b hb=>(bN (fun e=>I (by rw[<-e];exact hb))).trans (h b hb)
theorem yZ.grown{B C:WB}(h:yZ S A B){row:WG Nat}(J:B.grownBy C row)(I:∀b,S b->b<B.heap.size/\some b≠row):yZ S A C:=
 fun b hb=>(J.block b (I b hb).1 (I b hb).2).trans (h b hb)
theorem yZ.alloc{B:WB}(h:yZ S A B)(I:∀b,S b->b<B.heap.size)(o:Obj):yZ S A (B.alloc o):=
 fun b hb=>(eP B o b (I b hb)).trans (h b hb)
theorem zDL(I:∀b,S b->b<n)(W:WB)(l:Nat)(o o':Obj)(hl:n<=l)(_:W.heap[l]?=some o)(_:o.isCells=false):yZ S W (W.putObj l o'):=
 (yZ.refl S W).putObj (fun h=>by have:=I l h;omega) o'
theorem yZ.cell{B:WB}(h:yZ S A B){p:Addr}(I:S p.block):B.cell? p=A.cell? p:=bR (h p.block I)
theorem yZ.boxed{B:WB}(h:yZ S A B){b:Nat}{t:WF}{v:WE}(hb:S b)(I:Boxed A b t v):Boxed B b t v:=(h b hb).trans I
theorem Rd.keepS{B:WB}{a:WG Addr}(h:Rd A a n c l)(O:yZ S A B)(J:∀b o,0<n->a=some ⟨b,o,none⟩->S b):Rd B a n c l:=
 ⟨h.len,h.le,h.cap,h.nil,fun i hi=>by
  obtain⟨b,o,e,I⟩:=h.cells i hi
  exact⟨b,o,e,(O.cell (p:=⟨b,o+i,none⟩) (J b o oA e)).trans I⟩⟩
theorem Rd.in_{A:WG Addr}(h:Rd w A n c l)(b o:Nat)(J:0<n)(e:A=some ⟨b,o,none⟩):b<w.heap.size:=by
 obtain⟨b',o',e',I,_⟩:=h.shape J
 rw[e]at e'
 cases e'
 exact I
theorem zJQ(I:(W.alloc tmp).grownBy w1 v.ownBlock)(J:∀b,S b->b<W.heap.size/\some b≠v.ownBlock)(O: ¬S B):yZ S W (w1.setCell ⟨B,0,none⟩ v'):=
 ((((yZ.refl S W).alloc (fun b hb=>(J b hb).1) tmp).grown I (fun b hb=>⟨by have:=(J b hb).1;simp;omega,(J b hb).2⟩)).setCell (p:=⟨B,0,none⟩) O v')
theorem yB.other(h:yB W base e v l){B:Nat}{t:WF}{u:WE}(J:Boxed W B t u)(I:t≠e)(O:WE):yB (W.setCell ⟨B,0,none⟩ O) base e v l:=
 World.ownsRow.kept h (grownBy_setCell' _ _ _) (.inr (J.not_row I h).symm)
theorem yB.not_in(h:yB W base e v l){b:Nat}(hb:b<base):some b≠v.ownBlock:=fun e=>by
 have:=(eQ h b e.symm).1;omega
theorem zA1(W:WB)(p:Addr)(u:WE):W.heap.size=(W.setCell p u).heap.size:=by
 show W.heap.size=(W.heap.modify _ _).size
 rw[eY]
theorem vK(w:WB)(x:Nat)(t:WF){b:Nat}(hb:b=w.heap.size):Rd (w.alloc (.cells #[.int .u32 (x:Int)] t)) (some ⟨b,0,none⟩) 1 1 [x]:=by
 subst hb
 exact Rd.new w [x] t _ rfl (by simp)
theorem Rd.one(w:WB)(x:Nat)(t:WF):Rd (w.alloc (.cells #[.int .u32 (x:Int)] t)) (some ⟨w.heap.size,0,none⟩) 1 1 [x]:=
 ⟨rfl,by omega,by omega,fun e=>(by cases e),fun i hi=>⟨w.heap.size,0,rfl,by
  have:i=0:=by omega
  subst this
  show(w.alloc (.cells #[.int .u32 (x:Int)] t)).cell? ⟨w.heap.size,0,none⟩=some (.int .u32 (x:Int))
  unfold World.cell?
  rw[cO]
  rfl⟩⟩
def mark(D:Nat):Deferred:={ target:=.collected D,args:=#[] }
structure Marks(B:Nat)(W:World)(ds:List Deferred)(Ds:List Nat):Prop where
 eq:ds=Ds.map mark
 nodup:Ds.Nodup
 at_:∀D,D∈Ds->B<=D/\W.heap[D]?=some (.deferred (some []))
theorem Marks.nil(B:Nat)(W:WB):Marks B W [] []:=⟨rfl,List.nodup_nil,fun D h=>by cases h⟩
theorem Marks.keep(h:Marks B W ds Ds)(J:∀(k:Nat) (o:Obj),W.heap[k]?=some o->o.isCells=false->W'.heap[k]?=some o):Marks B W' ds Ds:=
 ⟨h.eq,h.nodup,fun D I=>⟨(h.at_ D I).1,J _ _ (h.at_ D I).2 rfl⟩⟩
theorem Marks.others(h:Marks B W ds Ds)(I:KeepsOthers W W'):Marks B W' ds Ds:=h.keep I.same
theorem Marks.made(h:Marks B W ds Ds)(J:Below W.heap.size W W'):Marks B W' ds Ds:=
 h.keep fun k _ I _=>(J.block k (xP.1 I).1).trans I
theorem Marks.lt(h:Marks B W ds Ds):∀D,D∈Ds->D<W.heap.size:=fun D I=>(xP.1 (h.at_ D I).2).1
theorem Marks.abide(h:Marks B W ds Ds)(J:∀D,D∈Ds->D<C)(O:W.grownBy W' row)(U:∀r,row=some r->C<=r/\∃o:Obj,W.heap[r]?=some o/\o.isCells=false):Marks B W' ds Ds:=
 ⟨h.eq,h.nodup,fun D I=>⟨(h.at_ D I).1,(O.block D (h.lt D I) (fun e=>by have:=(U D e.symm).1;have:=J D I;omega)).trans (h.at_ D I).2⟩⟩
theorem Marks.more(h:Marks B W ds Ds){D:Nat}(O:D ∉ Ds)(U:B<=D)(J:W.heap[D]?=some (.deferred (some []))):Marks B W ({ target:=.collected D,args:=#[] }::ds) (D::Ds):=
 ⟨by rw[h.eq];rfl,bX.2 ⟨O,h.nodup⟩,fun E I=>by
  rcases xS.1 I with rfl|I
  .exact⟨U,J⟩
  .exact h.at_ E I⟩
structure Oth(B:Nat)(w w':World):Prop where
 os:w'.os=w.os
 tape:w'.tape=w.tape
 output:w'.output=w.output
 size:w'.heap.size=w.heap.size
 block:∀k,w'.heap[k]?=w.heap[k]?∨(B<=k/\(∃o,w.heap[k]?=some o/\o.isCells=false)/\∃o,w'.heap[k]?=some o/\o.isCells=false)
theorem Oth.refl(B:Nat)(w:WB):Oth B w w:=⟨rfl,rfl,rfl,rfl,fun _=>.inl rfl⟩
theorem zEs{a:Addr}{o:Obj}(h:w.heap[a.block]?=some o)(hc:o.isCells=false):w.cell? a=none:=by
 unfold World.cell?
 rw[h]
 cases o<;>simp_all[Obj.isCells]
theorem Oth.cell(h:Oth B w w')(a:Addr):w'.cell? a=w.cell? a:=by
 rcases h.block a.block with e|⟨_,⟨o,U,O⟩,o',J,I⟩
 .exact bR e
 .rw[zEs U O,zEs J I]
theorem Rd.oth{A:WG Addr}(h:Rd w A n c l)(I:Oth B w w'):Rd w' A n c l:=h.keep fun _ _=>I.cell _
theorem zAj(h:Below C w W)(I:Oth B W W')(hC:C<=B):Below C w W':=
 ⟨I.os.trans h.os,I.tape.trans h.tape,I.output.trans h.output,by rw[I.size];exact h.size,fun k J=>by
  rcases I.block k with e|⟨hb,_⟩
  .exact e.trans (h.block k J)
  .omega⟩
theorem Oth.put(h:Oth B w w')(J:B<=D)(I:w'.heap[D]?=some (.deferred (some []))):Oth B w (w'.putObj D (.deferred none)):=
 ⟨h.os,h.tape,h.output,by rw[eI];exact h.size,fun k=>by
  by_cases e:k=D
  .subst e
   refine .inr ⟨J,?_,_,eC (xP.1 I).1,rfl⟩
   rcases h.block k with e|⟨_,O,_⟩
   .exact⟨_,e.symm.trans I,rfl⟩
   .exact O
  .rw[bN e]
   exact h.block k⟩
theorem qH{P:WH}{fn:Func}{tmps:Array WE}{R:Ending->WB->Prop}{B:Nat}{v:WE}(w:WB)(I:∀w',Oth B w w'->(results fn tmps).run P w'=.ok v w'):
  ∀(Ds:List Nat) (ds:List Deferred) (w1:WB),Marks B w1 ds Ds->Oth B w w1->(∀w',Oth B w w'->R (.returned v) w')->LeavesInM Fence.wide 0 P fn tmps R ds .returning w1
 | [],ds,w1,hm,ho,hR=>by
  obtain rfl:ds=[]:=hm.eq
  exact⟨v,I w1 ho,hR w1 ho⟩
 |D::Ds,ds,w1,hm,ho,hR=>by
  obtain rfl:ds=mark D::Ds.map mark:=hm.eq
  have J:=hm.at_ D (cM ..)
  refine⟨by simp,.inl ⟨_,_,rfl,run_takeDeferred J.2,?_⟩⟩
  refine qH w I Ds _ _ ⟨rfl,(bX.1 hm.nodup).2,fun E U=>⟨(hm.at_ E (cK _ U)).1,?_⟩⟩ (ho.put J.1 J.2) hR
  have O:E≠D:=fun e=>(bX.1 hm.nodup).1 (by rw[<-e];exact U)
  rw[bN O]
  exact(hm.at_ E (cK _ U)).2
theorem Boxed.oth{b:Nat}(h:Boxed w b t v)(J:Oth B w w'):Boxed w' b t v:=by
 rcases J.block b with e|⟨_,⟨o,I,h2⟩,_⟩
 .exact e.trans h
 .rw[show w.heap[b]?=_ from h]at I
  cases I
  cases h2
theorem zAI(W:WB)(t:WF)(v:WE){b:Nat}(hb:b=W.heap.size):Boxed (W.alloc (.cells #[v] t)) b t v:=by
 subst hb
 exact bZ W t v
structure Rds(w:World)(A:Option Addr)(n:Nat)(ls:List (List Nat)):Prop where
 len:ls.length=n
 cells:∀i,i<n->∃b o Ai ni ci li,A=some ⟨b,o,none⟩/\w.cell? ⟨b,o+i,none⟩=some (.slice Ai ni ci)/\ls[i]?=some li/\Rd w Ai ni ci li/\Lt li/\ni<=68719476736
theorem Rds.below{A:WG Addr}{ls:List (List Nat)}(h:Rds w A n ls)(hb:Below w.heap.size w w'):Rds w' A n ls:=
 ⟨h.len,fun i hi=>by
  obtain⟨b,o,U,ni,ci,O,e,I,J,h2,h3⟩:=h.cells i hi
  exact⟨b,o,U,ni,ci,O,e,(hb.cell (p:=⟨b,o+i,none⟩) (zZ I)).trans I,J,h2.below hb,h3⟩⟩
theorem zBS(w:WB)(cs:Array WE)(t:WF)(i:Nat):(w.alloc (.cells cs t)).cell? ⟨w.heap.size,i,none⟩=cs[i]?:=by
 have I:(w.alloc (.cells cs t)).heap[w.heap.size]?=some (.cells cs t):=xL w _
 unfold World.cell?
 rw[I]
 rfl
theorem Rds.two{A:WG Addr}(h:Rd w A n c l)(ht:Lt l)(J:n<=68719476736){A':WG Addr}{n' c':Nat}{l':List Nat}(O:Rd w A' n' c' l')(ht':Lt l')(I:n'<=68719476736)(t:WF):
  Rds (w.alloc (.cells #[.slice A n c,.slice A' n' c'] t)) (some ⟨w.heap.size,0,none⟩) 2 [l,l']:=
 ⟨rfl,fun i hi=>by
  rcases(by omega:i=0∨i=1)with rfl|rfl
  .exact⟨_,_,A,n,c,l,rfl,zBS w _ t 0,rfl,h.alloc _,ht,J⟩
  .exact⟨_,_,A',n',c',l',rfl,zBS w _ t 1,rfl,O.alloc _,ht',I⟩⟩
theorem Rds.three{A:WG Addr}(h:Rd w A n c l)(ht:Lt l)(hn:n<=68719476736){A':WG Addr}{n' c':Nat}{l':List Nat}(h':Rd w A' n' c' l')(ht':Lt l')(h5:n'<=68719476736)
  {U:WG Addr}{J O:Nat}{I:List Nat}(h4:Rd w U J O I)(h0:Lt I)(h1:J<=68719476736)(t:WF):
  Rds (w.alloc (.cells #[.slice A n c,.slice A' n' c',.slice U J O] t)) (some ⟨w.heap.size,0,none⟩) 3 [l,l',I]:=
 ⟨rfl,fun i hi=>by
  rcases(by omega:i=0∨i=1∨i=2)with rfl|rfl|rfl
  .exact⟨_,_,A,n,c,l,rfl,zBS w _ t 0,rfl,h.alloc _,ht,hn⟩
  .exact⟨_,_,A',n',c',l',rfl,zBS w _ t 1,rfl,h'.alloc _,ht',h5⟩
  .exact⟨_,_,U,J,O,I,rfl,zBS w _ t 2,rfl,h4.alloc _,h0,h1⟩⟩
def zRf(P:WH)(gf:Nat)(lb:Array WE)(E:Nat->Array WE->WB->Prop)(N:Nat)(Kp Fr:WB->WB->Prop)(Fin:WB->Prop)(w0:WB):Prop:=
 ∀(l:Nat) (J:Nat->WB->Prop) (W:WB),Below w0.heap.size w0 W->
  (∀k W1 W2,J k W1->Fr W1 W2->J k W2)->
  (∀k W1 xs,k<N->J k W1->E k xs W1->YieldAt Fence.wide 0 P l xs W1 fun e W'=>e=.returned (.bool true)/\J (k+1) W'/\Kp W1 W')->
  J 0 W->
  Calls P gf (#[.func (.yield l) #[] #[]]++lb) W fun e W'=>(∃v,e=.returned v)/\J N W'/\Fin W'
theorem zCS{assign:Code}
  {gf:Nat}{lb:Array WE}(hg:a.eval g=.func (.func gf) #[] lb)(eg:∀args w,(callFunc gf args).run P w=.ok (.enter gf args) w)
  {E:Nat->Array WE->WB->Prop}{N:Nat}{Kp Fr:WB->WB->Prop}{Fin:WB->Prop}(hit:zRf P gf lb E N Kp Fr Fin w)
  (hE:∀(k:Nat) (xs:Array WE) (W:WB) (l:Nat) (o o':Obj),E k xs W->W.heap[l]?=some o->o.isCells=false->E k xs (W.putObj l o'))
  (hps:∀k xs W,E k xs W->xs.size=ps.size)(hKt:∀{A B C:WB},Kp A B->Kp B C->Kp A C)
  (hKb:∀(W:WB) (l:Nat) (o o':Obj),w.heap.size<=l->W.heap[l]?=some o->o.isCells=false->Kp W (W.putObj l o'))
  (I:Nat->WB->Prop)(hI:OwnFrom w.heap.size I)(hF:∀k W1 W2,I k W1->Fr W1 W2->I k W2)
  (hFb:∀W1 W2,Fr W1 W2->∀(k:Nat) (o:Obj),w.heap.size<=k->W1.heap[k]?=some o->o.isCells=false->W2.heap[k]?=some o)
  (hFin:∀(W:WB) (l:Nat) (o o':Obj),w.heap.size<=l->W.heap[l]?=some o->o.isCells=false->Fin W->Fin (W.putObj l o'))
  (h0:I 0 w)(a₁:Array WE->Act)
  (hassign:∀(l k:Nat) (xs:Array WE) (W:WB) (K:Act->WB->Prop),E k xs W->K (a₁ xs) W->
   assign.wpIn (Fence.wide.inRound l) 0 P (Exit.then K (fun _ _ _=>False)) { tmps:=(ps.zip xs).foldl (fun t (p,v)=>t.setIfInBounds p v) a.tmps,defers:=[] } W)
  (hbody:∀(l k:Nat) (xs:Array WE) (W:WB),k<N->I k W->E k xs W->body.wpIn (Fence.wide.inRound l) 0 P (zKB w.heap.size Kp I (k+1) W) (a₁ xs) W)
  (hdone:∀(D:Nat) (W:WB),w.heap.size<=D->I N W->Fin W->W.heap[D]?=some (.deferred (some []))->Q .normal { a with defers:={ target:=.collected D,args:=#[] }::a.defers } W):
  (Code.rangeFunc g ps assign body).wp P Q a w:=by
 refine(bL (n:=0)).1 (wpIn_rangeFunc ?_)
 intro fn hfn
 show ∃l mark w₁ d w₁' f args w₂,(Instr.enterLoop fn a.tmps ps assign body none).run P w=_/\_
 obtain⟨rec,hrec⟩:∃rec:LoopState->WG Code->Loop,rec=fun st pe=>{ state:=st,pending:=pe,fn,tmps:=a.tmps,params:=ps,assign,body,defers:=w.heap.size }:=⟨_,rfl⟩
 obtain⟨W1,hW1⟩:∃W1,(w.alloc (.deferred (some []))).alloc (.loop (rec .ready none))=W1:=⟨_,rfl⟩
 have hL1:W1.heap[w.heap.size+1]?=some (.loop (rec .ready none)):=by
  rw[<-hW1];have:=cO (w.alloc (.deferred (some []))) (.loop (rec .ready none));rwa [bY]at this
 have hK1:W1.heap[w.heap.size]?=some (.deferred (some [])):=by
  rw[<-hW1];exact(eP _ _ _ (by simp)).trans (cO w _)
 have hI1:I 0 W1:=by rw[<-hW1];exact hI.alloc _ (hI.alloc _ h0)
 have hb1:Below w.heap.size w W1:=by
  rw[<-hW1];exact((xF _ w).alloc (vP _) _).alloc (by simp) _
 refine⟨w.heap.size+1, [{ target:=.collected w.heap.size,args:=#[] }],W1,{ target:=.fn (.func gf) lb,args:=#[.func (.yield (w.heap.size+1)) #[] #[]] },W1,gf,
  #[.func (.yield (w.heap.size+1)) #[] #[]]++lb,W1,?_,?_,?_,?_,fun h=>absurd h (by simp[Fence.wide]),?_⟩
 .rw[<-hW1,hrec];exact hH _ _ _ _ _
 .simp only[resolve,hg]
  simp[go_sem]
 .intro f' _;trivial
 .simp[invoke,go_sem,eg]
 .refine xZ.2 ((hit (w.heap.size+1)
   (fun k W=>I k W/\W.heap[w.heap.size+1]?=some (.loop (rec .ready none))/\W.heap[w.heap.size]?=some (.deferred (some [])))
   W1 hb1
   (fun k A B hs hf=>⟨hF k A B hs.1 hf,hFb A B hf _ _ oA hs.2.1 rfl,hFb A B hf _ _ (vP _) hs.2.2 rfl⟩)
   ?_ ⟨hI1,hL1,hK1⟩).mono ?_)
  .rintro k W xs hk ⟨hi,hl,hd⟩ he
   have hlt:w.heap.size+1<W.heap.size:=(xP.1 hl).1
   have hy:=run_yield (P:=P) (args:=xs) hl (by rw[hrec];exact hps k xs W he)
   rw[hrec]at hy
   refine⟨fn,_,assign,body,hy,roundIn_of_wpIn hfn (hassign _ k xs W _ he ⟨_,run_beginRound hl (by rw[hrec]),?_⟩)⟩
   have hl2:(W.putObj (w.heap.size+1) (.loop { rec .ready none with state:=.busy })).heap[w.heap.size+1]?=some (.loop { rec .ready none with state:=.busy }):=eC hlt
   have hk2:(W.putObj (w.heap.size+1) (.loop { rec .ready none with state:=.busy })).heap[w.heap.size]?=some (.deferred (some [])):=(bN oA).trans hd
   have hw2:Kp W (W.putObj (w.heap.size+1) (.loop { rec .ready none with state:=.busy })):=hKb _ _ _ _ oA hl rfl
   refine wpIn_mono (hbody _ k xs _ hk (hI.putObj _ hi oA hl rfl) (hE _ _ _ _ _ _ he hl rfl)) ?_
   rintro e a3 W3 hp
   cases e with
   |normal=>
    obtain⟨hk3,hkp3,hi3⟩:=hp
    have hl3:=hk3.same _ _ oA hl2 rfl
    have hend:=run_endRound (P:=P) none hl3
    have hlt3:w.heap.size+1<W3.heap.size:=(xP.1 hl3).1
    refine⟨_,_,hend,rfl,⟨hI.putObj _ hi3 oA hl3 rfl,?_,?_⟩,hKt (hKt hw2 hkp3) (hKb _ _ _ _ oA hl3 rfl)⟩
    .rw[eC hlt3];simp[hrec]
    .exact(bN oA).trans (hk3.same _ _ (vP _) hk2 rfl)
   |ret=>exact hp.elim
   |exit id=>exact hp.elim
   |goto t=>exact hp.elim
   |panic ch=>exact hp.elim
   |outgrown=>exact hp.elim
  .rintro e W2 ⟨⟨v,rfl⟩,⟨hi,hl,hd⟩,hfin⟩
   exact⟨none,_,by have:=run_endLoop (P:=P) hl (by rw[hrec];simp);rw[hrec]at this;exact this,hdone _ _ (vP _) (hI.putObj _ hi oA hl rfl) (hFin _ _ _ _ oA hl rfl hfin) ((bN oA).trans hd)⟩
section
variable {F:Fence}{n:Nat}{P:WH}{md:Region.Mode}{ops:Array Oper}{Q:Exit->Act->WB->Prop}{C:WB->Prop}{z:Nat}
def jW(ops:Array Oper):Bool:=ops.all fun o=>match o.op with| .defer _=>false|_=>true
theorem zCD(h:jW ops=true){j:Nat}{o:Oper}(J:ops[j]?=some o):∀c,o.op≠ .defer c:=by
 intro c I
 have:=eV.1 h o (eZ J)
 rw[I]at this
 cases this
def zBA(md:Region.Mode)(ops:Array Oper)(z i:Nat):Bool:=
 match ops[z]? with
 |none=>true
 |some o=>o.after.any fun e=>Region.binds md e&&e.on==i
theorem zGg(h:zBA md ops z i=true){o:Oper}(hz:ops[z]?=some o):∃e∈o.after,Region.binds md e=true/\e.on=i:=by
 unfold zBA at h
 rw[hz]at h
 simp at h
 obtain⟨j,I,hb,J⟩:=h
 exact⟨_,eA I,hb,J⟩
def jJ(F:Fence)(n:Nat)(P:WH)(md:Region.Mode)(ops:Array Oper)(z:Nat)(C:WB->Prop)(Q:Exit->Act->WB->Prop):Nat->Array Bool->Act->WB->Prop
 |0,listed,a,w=>Region.ready md ops listed=[]/\Q .normal a w
 |fuel+1,listed,a,w=>
  (Region.ready md ops listed=[]->Q .normal a w)/\
  ∀i∈Region.ready md ops listed,wpOpIn F n P ops Q i (fun a' w'=>(i=z∨C w')/\jJ F n P md ops z C Q fuel (listed.setIfInBounds i true) a' w') a w
theorem zCT:∀(fuel:Nat) (listed:Array Bool) (a:Act) (w:WB),jJ F n P md ops z C Q fuel listed a w->wpAnyIn F n P md ops Q fuel listed a w
 |0,_,_,_,h=>h
 |fuel+1,_,_,_,h=>⟨h.1,fun i hi=>eJ (fun I w' h2=>zCT fuel _ I w' h2.2) (h.2 i hi)⟩
def qK(Q:Exit->Act->WB->Prop):Exit->Act->WB->Prop
 | .panic _,_,_=>False
 |e,a,w=>Q e a w
theorem yC(z:Nat)(C:WB->Prop)(J:P.follows .mixedOrders=true)
  (h:jJ F n P .any ops z C (qK Q) ops.size (Array.replicate ops.size false) a w.drew):(Code.region id ops true).wpIn F n P Q a w:=
 eB (fun e a' w' I=>by cases e<;>first|exact I|exact I.elim) (wpIn_region_any J (zCT _ _ _ _ h))
def zAn(P:WH)(ops:Array Oper)(C:WB->Prop)(o:Oper)(v:WE)(a:Act):Prop:=
 ((Region.wanted o (yielded ops a.tmps)=true/\∀w,C w->(execOp a.eval o).run P w=.ok (.value v) w)∨(Region.wanted o (yielded ops a.tmps)=false/\v=undef))/\∀w,o.about P w a.eval=none
theorem zAn.wpOpIn(O:jW ops=true)(hi:ops[i]?=some o)(hy:zAn P ops C o v a){K:Act->WB->Prop}{w:WB}(hw:C w)(h:K (a.put o.dst v) w):
  wpOpIn F n P ops Q i K a w:=by
 unfold Go.wpOpIn
 simp only[hi]
 have J:∀f,o.about P w a.eval=some f->F.fn f:=fun f U=>by rw[hy.2 w]at U;cases U
 rcases hy.1 with⟨I,hv⟩|⟨I,rfl⟩
 .simp only[I,cG,Oper.wpIn,bI _ _ _ (zCD O hi),hv w hw,Oper.uponIn];exact⟨J,h⟩
 .simp only[I,xK,xI];exact⟨J,h⟩
theorem zAn.of_same{I:Act}(J:zAn P ops C o v a)(O:execOp I.eval o=execOp a.eval o)
  (U:Region.wanted o (yielded ops I.tmps)=Region.wanted o (yielded ops a.tmps))(hb:∀w,o.about P w I.eval=o.about P w a.eval):zAn P ops C o v I:=by
 refine⟨?_,fun w=>by rw[hb w];exact J.2 w⟩
 rw[O,U]
 exact J.1
theorem zJi{oj:Oper}(hpl:jW ops=true)(hj:ops[j]?=some oj)(hap:oi.apart ops oj=true)
  (hsi:∀cs b,oi.op≠ .select cs b)(hsj:∀cs b,oj.op≠ .select cs b)
  (hQ:∀c a w,Q (.panic c) (a.put oi.dst v) w->Q (.panic c) a w){K:Act->WB->Prop}{a:Act}{w:WB}
  (hy:zAn P ops C oi v a)(h:wpOpIn F n P ops Q j K (a.put oi.dst v) w):
  wpOpIn F n P ops Q j (fun a' w'=>zAn P ops C oi v a'/\K (a'.put oi.dst v) w') a w:=by
 obtain⟨h1,h2,h3⟩:=Oper.apart_spec hap
 have keep:∀(a:Act),zAn P ops C oi v a->∀u,zAn P ops C oi v (a.put oj.dst u):=fun a hy u=>
  hy.of_same (execOp_put oi hsi a oj.dst u h3) (wanted_put oi a oj.dst u h3) (fun w=>about_put oi w a oj.dst u h3)
 have keepD:∀d,zAn P ops C oi v { a with defers:=d::a.defers }:=fun d=>hy.of_same rfl rfl (fun _=>rfl)
 have hpj:=zCD hpl hj
 unfold wpOpIn at*
 simp only[hj]at*
 rw[wanted_put oj a oi.dst v h1,about_put oj w a oi.dst v h1]at h
 split
 .rename_i hw
  simp only[hw,cG]at h
  unfold Oper.wpIn at*
  rw[about_put oj w a oi.dst v h1]at h
  refine⟨h.1,?_⟩
  have h:=h.2
  rw[bI _ _ _ hpj,execOp_put oj hsj a oi.dst v h1]at h
  rw[bI _ _ _ hpj]
  generalize(execOp a.eval oj).run P w=r at*
  cases r with
  | ok x w'=>
   cases x<;>simp only[Oper.uponIn]at h ⊢
   case value u=>exact⟨keep a hy u,by rw[<-eD a v u h2];exact h⟩
   case skip=>exact⟨keep a hy _,by rw[<-eD a v undef h2];exact h⟩
   case defer d=>
    refine⟨keep _ (keepD d) _,?_⟩
    rw[<-eD _ v undef h2,<-Act.put_defers]
    exact h
   case enter f args=>
    refine⟨h.1,bG h.2 fun e w'' he=>?_⟩
    cases e with
    |returned u=>exact⟨keep a hy u,by rw[<-eD a v u h2];exact he⟩
    |panicked c=>exact hQ _ _ _ he
    |outgrown=>exact he
   case row row args=>exact⟨h.1,RowsIn.mono h.2 fun u w'' he=>⟨keep a hy u,by rw[<-eD a v u h2];exact he⟩⟩
   case round l f tmps assign body=>
    refine⟨h.1,RoundIn.mono h.2 fun e w'' he=>?_⟩
    cases e with
    |returned u=>exact⟨keep a hy u,by rw[<-eD a v u h2];exact he⟩
    |panicked c=>exact hQ _ _ _ he
    |outgrown=>exact he
  |halt x w'=>
   cases x<;>simp only[Oper.uponIn]at h ⊢
   case panic u=>exact hQ _ _ _ h
 .rename_i hw
  simp only[hw]at h
  exact⟨h.1,keep a hy _,by rw[<-eD a v undef h2];exact h.2⟩
theorem zIb(h7:jW ops=true)(hq:zBA md ops z i=true)(hi:ops[i]?=some oi)(h4:∀(j:Nat) (o:Oper) cs b,ops[j]?=some o->o.op≠ .select cs b)
    (hQ:∀c a w,Q (.panic c) (a.put oi.dst v) w->Q (.panic c) a w):
    ∀(fuel:Nat) (listed:Array Bool) (a:Act) (w:WB),
      (∀j oj,ops[j]?=some oj->j≠i->listed.getD j true=false->(∀e∈oj.after,Region.binds md e=true->e.on≠i)->oi.apart ops oj=true)->
      i∈Region.ready md ops listed->zAn P ops C oi v a->C w->
      jJ F n P md ops z C Q fuel (listed.setIfInBounds i true) (a.put oi.dst v) w->jJ F n P md ops z C Q (fuel+1) listed a w:=by
  intro fuel
  induction fuel with
  | zero=>
    intro listed a w _ hr hy hc H
    refine⟨fun h=>(by rw[h]at hr;cases hr),fun j hj=>?_⟩
    by_cases hji:j=i
    . subst hji;exact hy.wpOpIn h7 hi hc ⟨.inr hc,H⟩
    . have:=ready_mono hj hji
      rw[H.1]at this
      cases this
  | succ fuel ih=>
    intro listed a w I hr hy hc H
    refine⟨fun h=>(by rw[h]at hr;cases hr),fun j hj=>?_⟩
    by_cases hji:j=i
    . subst hji;exact hy.wpOpIn h7 hi hc ⟨.inr hc,H⟩
    . have h1:=H.2 j (ready_mono hj hji)
      obtain⟨h5,oj,J,hf⟩:=cH.1 hj
      have U:∀e∈oj.after,Region.binds md e=true->e.on≠i:=fun e he hb hn=>by
        have h1:=hf e he hb
        have h0:=(cH.1 hr).1
        rw[hn]at h1
        rcases bF i listed.size with h'|h'
        . simp[h']at h0 h1;rw[h0]at h1;cases h1
        . simp[cB h']at h1
      have h2:=zJi h7 J (I j oj J hji h5 U) (fun cs b=>h4 i oi cs b hi) (fun cs b=>h4 j oj cs b J) hQ hy h1
      have O:∀k ok,ops[k]?=some ok->k≠i->(listed.setIfInBounds j true).getD k true=false->
          (∀e∈ok.after,Region.binds md e=true->e.on≠i)->oi.apart ops ok=true:=fun k ok hk hv h9 hs=>by
        refine I k ok hk hv ?_ hs
        by_cases hjk:j=k
        . subst hjk;exact h5
        . rw[bH true hjk]at h9;exact h9
      have hm:i∈Region.ready md ops (listed.setIfInBounds j true):=ready_mono hr (bB hji)
      have hp:j≠z:=fun e=>by
        subst e
        obtain⟨ed,hl,hb,ho⟩:=zGg hq J
        exact U ed hl hb ho
      refine eJ (fun a' w' h3=>?_) h2
      have hd:C w':=h3.2.1.resolve_left hp
      exact⟨.inr hd,ih (listed.setIfInBounds j true) a' w' O hm h3.1 hd (by rw[Array.setIfInBounds_comm _ _ hji];exact h3.2.2)⟩
theorem zP{listed:Array Bool}(J:jW ops=true)(I:zBA md ops z i=true)(hi:ops[i]?=some oi)
  (U:Region.noSelect ops=true)(O:Region.free md ops listed i=true)(hr:(Region.ready md ops listed).contains i=true)
  (hQ:∀c a w,Q (.panic c) (a.put oi.dst v) w->Q (.panic c) a w)(hc:C w)(hy:zAn P ops C oi v a)
  (h:jJ F n P md ops z C Q fuel (listed.setIfInBounds i true) (a.put oi.dst v) w):jJ F n P md ops z C Q (fuel+1) listed a w:=
 zIb J I hi (Region.noSelect_spec U) hQ fuel listed a w (Region.free_spec hi O) (by simpa using hr) hy hc h
theorem zAN{listed:Array Bool}(J:Region.ready md ops listed=[i])(ho:ops[i]?=some o)
  (h:∀K:Act->WB->Prop,(∀a' w',((i==z)=true∨C w')->jJ F n P md ops z C Q fuel (listed.setIfInBounds i true) a' w'->K a' w')->
   if Region.wanted o (yielded ops a.tmps)=true then Oper.wpIn F n P o a w K Q else(∀f,o.about P w a.eval=some f->F.fn f)/\K (a.put o.dst undef) w):
  jJ F n P md ops z C Q (fuel+1) listed a w:=
 ⟨fun e=>(by rw[J]at e;cases e),fun j O=>by
  rw[J]at O
  obtain rfl:j=i:=by simpa using O
  exact bT ho fun K' I=>h K' fun a' w' U h2=>I a' w' ⟨by simpa using U,h2⟩⟩
theorem zX5{listed:Array Bool}(I:Region.ready md ops listed=[])(h:Q .normal a w):jJ F n P md ops z C Q fuel listed a w:=by
 cases fuel with
 |zero=>exact⟨I,h⟩
 |succ fuel=>exact⟨fun _=>h,fun i hi=>(by rw[I]at hi;cases hi)⟩
theorem zCR{listed:Array Bool}(I:Region.ready md ops listed=[])(h:Q .normal a w):jJ F n P md ops z C (qK Q) fuel listed a w:=zX5 I h
end
section
variable {F:Fence}{n:Nat}{P:WH}{ops:Array Oper}{Q:Exit->Act->WB->Prop}
def jG(ops:Array Oper):Bool:=(List.range ops.size).all fun i=>(List.range ops.size).all fun j=>i==j||match ops[i]?.bind (·.dst),ops[j]?.bind (·.dst)with
 |some t,some u=>t !=u
 |_,_=>true
def zAy(ops:Array Oper)(k:Nat):Bool:=ops.all fun o=>match o.dst with
 |none=>true
 |some t=>decide (t<k)
theorem zAe(h:jG ops=true){i j:Nat}{oi J:Oper}(hi:ops[i]?=some oi)(O:ops[j]?=some J)(I:i≠j){t:Tmp}(ht:oi.dst=some t):J.dst≠some t:=by
 intro hu
 have U:=xR.1 h i (xT.2 (xP.1 hi).1)
 have h2:=xR.1 U j (xT.2 (xP.1 O).1)
 rw[hi,O]at h2
 simp[ht,hu,I]at h2
theorem qP(h:zAy ops k=true){i:Nat}{o:Oper}(hi:ops[i]?=some o){t:Tmp}(ht:o.dst=some t):t<k:=by
 have:=eV.1 h o (eZ hi)
 rw[ht]at this
 simpa using this
theorem zB1{xs:Array WE}(h:i≠j):(xs.setIfInBounds i v).getD j undef=xs.getD j undef:=by
 rw[xU,xU,Array.getElem?_setIfInBounds_ne h]
variable {E:Nat->WE->WB->Prop}{C:WB->Prop}{a0:Act}
theorem jS{listed:Array Bool}(h:listed.getD i true=false):(listed.setIfInBounds i true).count false+1=listed.count false:=by
 have I:i<listed.size:=by
  rcases bF i listed.size with e|e
  .exact e
  .simp[cB e]at h
 have J:listed[i]=false:=by simpa[I]using h
 rw[Array.setIfInBounds,dif_pos I,Array.count_set]
 have hpos:0<listed.count false:=Array.count_pos_iff.2 (by rw[<-J];exact eA I)
 simp[J]
 omega
def zBl(ops:Array Oper)(listed0:Array Bool)(t:Tmp):Bool:=(List.range ops.size).any fun i=> !listed0.getD i true&&(ops[i]?.bind (·.dst)==some t)
theorem zJR{listed0:Array Bool}(hi:ops[i]?=some o)(I:listed0.getD i true=false){t:Tmp}(ht:o.dst=some t):zBl ops listed0 t=true:=by
 unfold zBl
 exact bQ.2 ⟨i,xT.2 (xP.1 hi).1,by rw[I,hi];simp[ht]⟩
structure FlowL(ops:Array Oper)(listed0:Array Bool)(E:Nat->Value->World->Prop)(C:World->Prop)(a0:Act)(S:Nat->Prop)(a:Act)(w:World):Prop where
 cls:C w
 size:a.tmps.size=a0.tmps.size
 defers:a.defers=a0.defers
 keep:∀t,zBl ops listed0 t=false->a.tmps.getD t undef=a0.tmps.getD t undef
 vals:∀i o t,S i->ops[i]?=some o->o.dst=some t->E i (a.tmps.getD t undef) w
theorem FlowL.mono{listed0:Array Bool}(h:FlowL ops listed0 E C a0 S a w)(I:∀i,S' i->S i):FlowL ops listed0 E C a0 S' a w:=
 ⟨h.cls,h.size,h.defers,h.keep,fun i o t hi=>h.vals i o t (I i hi)⟩
theorem FlowL.put{listed0:Array Bool}(h4:jG ops=true)(h0:zAy ops a0.tmps.size=true)(hC:∀w w',C w->Below w.heap.size w w'->C w')(hE:∀i v w w',E i v w->Below w.heap.size w w'->E i v w')
  {S:Nat->Prop}{a:Act}{w w':WB}(h:FlowL ops listed0 E C a0 S a w){i:Nat}{o:Oper}(hi:ops[i]?=some o)(hl:listed0.getD i true=false){v:WE}(hv:E i v w')(hb:Below w.heap.size w w'):FlowL ops listed0 E C a0 (fun j=>S j∨j=i) (a.put o.dst v) w':=by
 refine⟨hC _ _ h.cls hb,?_,?_,?_,?_⟩
 .rw[<-h.size]
  unfold Act.put
  cases o.dst<;>simp
 .rw[<-h.defers]
  unfold Act.put
  cases o.dst<;>rfl
 .intro t ht
  rw[<-h.keep t ht]
  unfold Act.put
  cases O:o.dst with
  |none=>rfl
  |some d=>
   have J:d≠t:=fun e=>by subst e;rw[zJR hi hl O]at ht;cases ht
   exact zB1 J
 .intro j oj t hj I ht
  by_cases hji:j=i
  .subst hji
   rw[hi]at I
   cases I
   have U:=qP h0 hi ht
   unfold Act.put
   rw[ht]
   show E j ((a.tmps.setIfInBounds t v).getD t undef) w'
   rw[xU,eK (by rw[h.size];exact U)]
   exact hv
  .have hS:S j:=hj.resolve_right hji
   have h1:=hE _ _ _ _ (h.vals j oj t hS I ht) hb
   have J:∀d,o.dst=some d->d≠t:=fun d O e=>by subst e;exact zAe h4 hi I (bB hji) O ht
   unfold Act.put
   cases O:o.dst with
   |none=>exact h1
   |some d=>
    show E j ((a.tmps.setIfInBounds d v).getD t undef) w'
    rw[zB1 (J d O)]
    exact h1
theorem zLk:∀(D:List Nat) {x y:Array WE},x.size=y.size->(∀t,t ∉ D->x.getD t undef=y.getD t undef)->x=D.foldl (fun z t=>z.setIfInBounds t (x.getD t undef)) y
 | [],x,y,hs,h=>by
  show x=y
  refine cW hs fun i I h2=>?_
  have:=h i (by simp)
  rw[xU,xU,cC I,cC h2]at this
  exact this
 | d::D,x,y,hs,h=>by
  rw[eW]
  refine zLk D (by simpa using hs) fun t ht=>?_
  by_cases e:t=d
  .subst e
   rcases bF t y.size with g|g
   .rw[xU (xs:=y.setIfInBounds t _),eK g]
    rfl
   .simp[cB (by omega:x.size<=t)]
  .rw[zB1 (bB e)]
   exact h t (by simp[e,ht])
def zOG(ops:Array Oper)(listed0:Array Bool):List Nat:=(List.range ops.size).filterMap fun i=>if listed0.getD i true then none else ops[i]?.bind (·.dst)
theorem zTN{listed0:Array Bool}{t:Nat}(h:t ∉ zOG ops listed0):zBl ops listed0 t=false:=by
 cases hd:zBl ops listed0 t with
 |false=>rfl
 |true=>
  exfalso
  unfold zBl at hd
  obtain⟨i,hi,I⟩:=bQ.1 hd
  simp only[xV,cX,bJ]at I
  exact h (lC.2 ⟨i,hi,by rw[I.1,I.2];rfl⟩)
end
section
variable {F:Fence}{n:Nat}{P:WH}{ops:Array Oper}{Q:Exit->Act->WB->Prop}
def zDb(ops:Array Oper):Nat->Nat->Nat->Bool
 |0,_,_=>false
 |fuel+1,i,j=>match ops[j]? with
  |none=>false
  |some o=>o.after.any fun e=>Region.binds .any e&&(e.on==i||zDb ops fuel i e.on)
def zGZ(ops:Array Oper)(listed0:Array Bool)(k:Nat):Bool:=(List.range ops.size).all fun j=>decide (j<k)||(List.range k).all fun i=>listed0.getD i true||zDb ops ops.size i j
def zBx(ops:Array Oper):Bool:=(List.range ops.size).all fun i=>match ops[i]? with
 |none=>true
 |some o=>o.after.all fun e=> !Region.binds .any e||decide (e.on<i)
theorem zBg(h:zBx ops=true){i:Nat}{o:Oper}(hi:ops[i]?=some o){e}(O:e∈o.after)(hb:Region.binds .any e=true):e.on<i:=by
 have J:=(xP.1 hi).1
 have I:=xR.1 h i (xT.2 J)
 rw[hi]at I
 have h2:=eV.1 I e O
 rw[hb]at h2
 simpa using h2
def zDc(ops:Array Oper)(listed:Array Bool):Bool:=(List.range ops.size).all fun i=> !listed.getD i false||match ops[i]? with
 |none=>true
 |some o=>o.after.all fun e=> !Region.binds .any e||listed.getD e.on false
def zGz(listed:Array Bool)(k:Nat):Bool:=(List.range listed.size).all fun i=>decide (i<k)|| !listed.getD i false
def zGN(ops:Array Oper)(listed:Array Bool):Prop:=∀i o,listed.getD i false=true->ops[i]?=some o->∀e∈o.after,Region.binds .any e=true->listed.getD e.on false=true
theorem zAH{listed:Array Bool}(hc:zGN ops listed):∀(fuel i j:Nat) (o:Oper),ops[j]?=some o->(∀e∈o.after,Region.binds .any e=true->listed.getD e.on false=true)->zDb ops fuel i j=true->listed.getD i false=true
 |0,_,_,_,_,_,h=>by cases h
 | fuel+1,i,j,o,hj,hd,h=>by
  unfold zDb at h
  rw[hj]at h
  obtain⟨x,hx,he⟩:=eX.1 h
  simp only[xV,cY,bJ]at he
  have hl:=hd _ (eA hx) he.1
  rcases he.2 with e|e
  .rw[<-e];exact hl
  .have U:∃I,ops[(o.after[x]).on]?=some I:=by
    cases ho:ops[(o.after[x]).on]? with
    |some I=>exact⟨I,rfl⟩
    |none=>
     exfalso
     cases fuel with
     |zero=>cases e
     |succ f=>unfold zDb at e;rw[ho]at e;cases e
   obtain⟨I,J⟩:=U
   exact zAH hc fuel i _ I J (fun e' O hb'=>hc _ _ hl J e' O hb') e
theorem zCg{listed:Array Bool}(h:zDc ops listed=true):zGN ops listed:=by
 intro i o J hi e O hb
 have I:=xR.1 h i (xT.2 (xP.1 hi).1)
 rw[J,hi,fX,cR]at I
 have h2:=eV.1 I e O
 rw[hb]at h2
 simpa using h2
theorem zFS{listed:Array Bool}(h:zGz listed k=true){i:Nat}(hk:k<=i):listed.getD i false=false:=by
 rcases bF i listed.size with g|g
 .have I:=xR.1 h i (xT.2 g)
  simp only[cY,cE,cX]at I
  rcases I with I|I
  .omega
  .exact I
 .simp[cB g]
def blk:WE->WG Nat
 | .pointer (some ⟨b,_,_⟩)=>some b
 |_=>none
structure FlowB(ops:Array Oper)(listed0:Array Bool)(A:Nat->Bool)(E:Nat->Value->World->Prop)(C:World->Prop)(a0:Act)(S:Nat->Prop)(a:Act)(w:World):Prop where
 at_:FlowL ops listed0 E C a0 S a w
 old:∀i o t b,S i->A i=true->ops[i]?=some o->o.dst=some t->blk (a.tmps.getD t undef)=some b->b<w.heap.size
 apart:∀i j oi oj ti tj bi bj,S i->S j->i≠j->A i=true->A j=true->ops[i]?=some oi->ops[j]?=some oj->oi.dst=some ti->oj.dst=some tj->blk (a.tmps.getD ti undef)=some bi->blk (a.tmps.getD tj undef)=some bj->bi≠bj
variable {listed0:Array Bool}{A:Nat->Bool}{E:Nat->WE->WB->Prop}{C:WB->Prop}{a0:Act}
theorem FlowB.mono(h:FlowB ops listed0 A E C a0 S a w)(I:∀i,S' i->S i):FlowB ops listed0 A E C a0 S' a w:=
 ⟨h.at_.mono I,fun i o t b hi=>h.old i o t b (I i hi),fun i j oi oj O J bi U hi hj=>h.apart i j oi oj O J bi U (I i hi) (I j hj)⟩
theorem zHq(O:zAy ops a0.tmps.size=true){a:Act}(I:a.tmps.size=a0.tmps.size){i:Nat}{o:Oper}(hi:ops[i]?=some o){t:Tmp}(ht:o.dst=some t)(v:WE):(a.put o.dst v).tmps.getD t undef=v:=by
 have J:=qP O hi ht
 unfold Act.put
 rw[ht]
 show(a.tmps.setIfInBounds t v).getD t undef=v
 rw[xU,eK (by rw[I];exact J)]
 rfl
theorem zD5(J:jG ops=true){a:Act}{i j:Nat}{o O:Oper}(hi:ops[i]?=some o)(U:ops[j]?=some O)(I:i≠j){t:Tmp}(ht:O.dst=some t)(v:WE):(a.put o.dst v).tmps.getD t undef=a.tmps.getD t undef:=by
 unfold Act.put
 cases hd:o.dst with
 |none=>rfl
 |some d=>exact zB1 (fun e=>by subst e;exact zAe J hi U I hd ht)
theorem FlowB.put(U:jG ops=true)(h8:zAy ops a0.tmps.size=true)(hC:∀w w',C w->Below w.heap.size w w'->C w')(hE:∀i v w w',E i v w->Below w.heap.size w w'->E i v w')
  {S:Nat->Prop}{a:Act}{w w':WB}(h:FlowB ops listed0 A E C a0 S a w){i:Nat}{o:Oper}(hi:ops[i]?=some o)(hl:listed0.getD i true=false){v:WE}(hv:E i v w')(hb:Below w.heap.size w w')(hA:A i=true->∀b,blk v=some b->w.heap.size<=b/\b<w'.heap.size):
  FlowB ops listed0 A E C a0 (fun j=>S j∨j=i) (a.put o.dst v) w':=by
 refine⟨h.at_.put U h8 hC hE hi hl hv hb,?_,?_⟩
 .intro j oj t b hj he h6 ht h5
  by_cases hji:j=i
  .subst hji
   rw[hi]at h6
   cases h6
   rw[zHq h8 h.at_.size hi ht]at h5
   exact(hA he b h5).2
  .rw[zD5 U hi h6 (bB hji) ht]at h5
   exact vU (h.old j oj t b (hj.resolve_right hji) he h6 ht h5) hb.size
 .intro x y ox oy tx ty bx hd hx hy hc ha h9 h4 J h7 O h0 I
  by_cases hxi:x=i
  .subst hxi
   rw[hi]at h4
   cases h4
   rw[zHq h8 h.at_.size hi h7]at h0
   rw[zD5 U hi J hc O]at I
   have h1:=(hA ha bx h0).1
   have h2:=h.old y oy ty hd (hy.resolve_right (bB hc)) h9 J O I
   omega
  .rw[zD5 U hi h4 (bB hxi) h7]at h0
   by_cases hyi:y=i
   .subst hyi
    rw[hi]at J
    cases J
    rw[zHq h8 h.at_.size hi O]at I
    have h1:=(hA h9 hd I).1
    have h2:=h.old x ox tx bx (hx.resolve_right hxi) ha h4 h7 h0
    omega
   .rw[zD5 U hi J (bB hyi) O]at I
    exact h.apart x y ox oy tx ty bx hd (hx.resolve_right hxi) (hy.resolve_right hyi) hc ha h9 h4 J h7 O h0 I
def yF(m k:Nat):Array Bool:=((List.range m).map fun i=>decide (i<k)).toArray
theorem zXn(hI:zBx ops=true)(hW:zGZ ops listed0 k=true)(hU:jG ops=true)(hS:zAy ops a0.tmps.size=true)(hQ:decide (k<=ops.size)=true)(hC:∀w w',C w->Below w.heap.size w w'->C w')(hE:∀i v w w',E i v w->Below w.heap.size w w'->E i v w')
  (hd:∀i,i<k->listed0.getD i true=false->∀o,ops[i]?=some o->∀a w,FlowB ops listed0 A E C a0 (fun j=>listed0.getD j true=false/\∃e∈o.after,Region.binds .any e=true/\e.on=j) a w->∀K:Act->WB->Prop,(∀v w',E i v w'->Below w.heap.size w w'->(A i=true->∀b,blk v=some b->w.heap.size<=b/\b<w'.heap.size)->K (a.put o.dst v) w')->wpOpIn F n P ops Q i K a w)
  (h9:∀a w,FlowB ops listed0 A E C a0 (fun i=>i<k/\listed0.getD i true=false) a w->jJ F n P .any ops z (fun _=>True) Q (ops.size-k) (yF ops.size k) a w):
  ∀(fuel:Nat) (listed:Array Bool) (a:Act) (w:WB),listed.count false=fuel->listed.size=ops.size->(∀i,k<=i->listed.getD i false=false)->zGN ops listed->(∀i,listed0.getD i true=true->i<ops.size->listed.getD i false=true)->
   FlowB ops listed0 A E C a0 (fun i=>listed0.getD i true=false/\listed.getD i false=true) a w->jJ F n P .any ops z (fun _=>True) Q fuel listed a w:=by
 have hz:=xW hQ
 intro fuel
 induction fuel with
 | zero=>
  intro listed a w hc hs O hk h5 hf
  have hn:∀i,listed.getD i true=true:=fun i=>by
   cases hg:listed.getD i true with
   |true=>rfl
   |false=>
    have:=jS hg
    omega
  have hk2:k=ops.size:=by
   rcases bF k ops.size with J|hge
   .exfalso
    have U:=hn k
    have h2:=O k (vP _)
    have h6:k<listed.size:=by omega
    simp[h6]at U h2
    rw[U]at h2
    cases h2
   .omega
  have hl:listed=yF ops.size k:=by
   refine cW (by simp[yF,hs]) fun i U h2=>?_
   have:=hn i
   simp[U]at this
   simp[yF,this]
   omega
  have:=h9 a w (hf.mono fun i hi=>⟨hi.2,by
   have U:=hn i
   have J:i<listed.size:=by omega
   simp[J]at U ⊢
   exact U⟩)
  rw[hl]
  rwa [show ops.size-k=0 from by omega]at this
 | succ fuel ih=>
  intro listed a w hc hs O hk h5 hf
  by_cases I:∀i,i<k->listed.getD i false=true
  .have hl:listed=yF ops.size k:=by
    refine cW (by simp[yF,hs]) fun i U h2=>?_
    by_cases h7:i<k
    .have:=I i h7
     simp[U]at this
     simp[yF,this,h7]
    .have:=O i oA
     simp[U]at this
     simp[yF,this,h7]
   have hB:listed.count false=ops.size-k:=by
    rw[hl]
    unfold yF
    rw[List.count_toArray,List.count_eq_countP,List.countP_map]
    have:∀m,k<=m->List.countP ((fun x=>x==false) ∘ fun i=>decide (i<k)) (List.range m)=m-k:=by
     intro m
     induction m with
     |zero=>intro h;simp
     | succ m ihm=>
      intro h
      rw[cS,List.countP_append]
      by_cases e:k=m+1
      .subst e
       have:List.countP ((fun x=>x==false) ∘ fun i=>decide (i<m+1)) (List.range m)=0:=by
        rw[fY]
        intro x hx
        have:=xT.1 hx
        simp;omega
       rw[this];simp
      .rw[ihm oA]
       have e2:decide (m<k)=false:=xY oA
       simp[e2]
       omega
    exact this ops.size hz
   have hG:=h9 a w (hf.mono fun i hi=>⟨hi.2,I i hi.1⟩)
   rw[<-hl,<-hB,hc]at hG
   exact hG
  .simp only[eL]at I
   obtain⟨u,hR,hu⟩:=I
   have J:u<listed.size:=by omega
   have hO:listed.getD u true=false:=by
    simp[J]at hu ⊢
    exact hu
   have hq:∀i,listed.getD i true=false->Region.ready .any ops listed≠ []:=by
    intro i
    induction i using Nat.strongRecOn with
    | _ i ihi=>
     intro hi h0
     have J:i<listed.size:=by
      rcases bF i listed.size with e|e
      .exact e
      .simp[cB e]at hi
     have ho:ops[i]?=some (ops[i]'(by rw[<-hs];exact J)):=cC _
     by_cases I:∀e∈(ops[i]'(by rw[<-hs];exact J)).after,Region.binds .any e=true->listed.getD e.on false=true
     .have hm:i∈Region.ready .any ops listed:=cH.2 ⟨hi,_,ho,I⟩
      rw[h0]at hm
      cases hm
     .simp only[eL]at I
      obtain⟨e,he,hb,hg⟩:=I
      have hT:=zBg hI ho he hb
      refine ihi e.on hT ?_ h0
      have h6:e.on<listed.size:=by omega
      simp[h6]at hg ⊢
      exact hg
   refine⟨fun h0=>(hq u hO h0).elim,fun i hi=>?_⟩
   obtain⟨h8,o,ho,I⟩:=cH.1 hi
   have hK:=(xP.1 ho).1
   have hp:listed0.getD i true=false:=by
    cases hg:listed0.getD i true with
    |false=>rfl
    |true=>
     have:=h5 i hg hK
     have hD:i<listed.size:=by omega
     simp[hD]at this h8
     rw[this]at h8
     cases h8
   have h7:i<k:=by
    rcases bF i k with e|e
    .exact e
    .exfalso
     have U:=xR.1 hW i (xT.2 hK)
     simp only[cY,cE]at U
     rcases U with U|U
     .omega
     .have h2:=xR.1 U u (xT.2 hR)
      simp only[cY]at h2
      rcases h2 with h2|h2
      .exact hu (h5 u h2 oA)
      .exact hu (zAH hk _ u i o ho I h2)
   refine hd i h7 hp o ho a w (hf.mono fun j hj=>?_) _ fun v w' hv hb hA=>⟨.inr trivial,?_⟩
   .obtain⟨hV,e,he,hb,rfl⟩:=hj
    exact⟨hV,I e he hb⟩
   .refine ih (listed.setIfInBounds i true) (a.put o.dst v) w' ?_ (by simpa using hs) (fun j hj=>?_) (fun j oj hj hh e he hF=>?_) (fun j hj hP=>?_) ((hf.put hU hS hC hE ho hp hv hb hA).mono fun j hj=>?_)
    .have:=jS h8
     omega
    .rw[bH false oA]
     exact O j hj
    .by_cases e2:j=i
     .subst e2
      rw[ho]at hh
      cases hh
      by_cases e3:e.on=j
      .rw[e3];exact hj
      .rw[bH false (bB e3)]
       exact I e he hF
     .rw[bH false (bB e2)]at hj
      have:=hk j oj hj hh e he hF
      by_cases e3:e.on=i
      .rw[e3]
       have J:i<listed.size:=by omega
       simp[J]
      .rw[bH false (bB e3)]
       exact this
    .by_cases e3:j=i
     .subst e3
      rw[hp]at hj
      cases hj
     .rw[bH false (bB e3)]
      exact h5 j hj hP
    .by_cases e:j=i
     .exact .inr e
     .left
      rw[bH false (bB e)]at hj
      exact hj
theorem zHV(A:Nat->Bool)(E:Nat->WE->WB->Prop)(C:WB->Prop)(O:zBx ops=true)(h4:zGZ ops listed0 k=true)(h7:jG ops=true)(h6:zAy ops a0.tmps.size=true)(h5:decide (k<=ops.size)=true)
    (U:listed0.count false=fuel)(h8:listed0.size=ops.size)(hcl:zDc ops listed0=true)(hto:zGz listed0 k=true)
    (hC:∀w w',C w->Below w.heap.size w w'->C w')(hE:∀i v w w',E i v w->Below w.heap.size w w'->E i v w')(hw:C w)
    (J:∀i,i<k->listed0.getD i true=false->∀o,ops[i]?=some o->∀a w,FlowB ops listed0 A E C a0 (fun j=>listed0.getD j true=false/\∃e∈o.after,Region.binds .any e=true/\e.on=j) a w->∀K:Act->WB->Prop,(∀v w',E i v w'->Below w.heap.size w w'->(A i=true->∀b,blk v=some b->w.heap.size<=b/\b<w'.heap.size)->K (a.put o.dst v) w')->wpOpIn F n P ops Q i K a w)
    (h0:∀a w,FlowB ops listed0 A E C a0 (fun i=>i<k/\listed0.getD i true=false) a w->jJ F n P .any ops z (fun _=>True) Q (ops.size-k) (yF ops.size k) a w):
    jJ F n P .any ops z (fun _=>True) Q fuel listed0 a0 w:=by
  have I:∀i,listed0.getD i true=false->listed0.getD i false=true->False:=fun i h1 h2=>by
    rcases bF i listed0.size with g|g
    . simp[g]at h1 h2
      rw[h1]at h2
      cases h2
    . simp[cB g]at h2
  exact zXn O h4 h7 h6 h5 hC hE J h0 fuel listed0 a0 w U h8 (fun i hi=>zFS hto hi) (zCg hcl) (fun i hi hl=>by
      have g:i<listed0.size:=by omega
      simp[g]at hi ⊢
      exact hi)
    ⟨⟨hw,rfl,rfl,fun _ _=>rfl,fun i o t hi=>(I i hi.1 hi.2).elim⟩,fun i o t b hi=>(I i hi.1 hi.2).elim,fun i j oi oj ti tj bi bj hi=>(I i hi.1 hi.2).elim⟩
end
theorem yK{p q:Nat->Prop}(h:∀i,i<k->q i->p i)(O:q k->p k):∀i,i<k+1->q i->p i:=fun i hi J=>by
 rcases lD.1 hi with I|I
 .exact h i I J
 .subst I;exact O J
structure SF where
 p:WE->WB->Prop
 st:∀v w w',p v w->Below w.heap.size w w'->p v w'
variable {G:Nat->SF}
def SF.any:SF:=⟨fun _ _=>True,fun _ _ _ _ _=>trivial⟩
def SF.eq(u:WE):SF:=⟨fun v _=>v=u,fun _ _ _ h _=>h⟩
def upd(G:Nat->SF):List (Nat×SF)->Nat->SF
 | [],t=>G t
 |(k,f)::l,t=>bif Nat.beq k t then f else upd G l t
theorem jP{G:Nat->SF}{t:Nat}:∀{l:List (Nat×SF)},(l.map (·.1)).contains t=false->upd G l t=G t
 | [],_=>rfl
 | (k,f)::l,h=>by
  rw[xX,List.contains_cons,fZ]at h
  have I:Nat.beq k t=false:=by
   cases e:Nat.beq k t with
   |false=>rfl
   |true=>have:=cJ e;subst this;simp at h
  show(bif Nat.beq k t then f else upd G l t)=G t
  rw[I]
  exact jP h.2
structure At(w0:World)(G:Nat->SF)(n:Nat)(ds:List Deferred)(a:Act)(w:World):Prop where
 gr:Below w0.heap.size w0 w
 size:a.tmps.size=n
 nd:a.defers=ds
 sl:∀t,(G t).p (a.tmps.getD t undef) w
def zDH(o:Oper):List Nat:=o.op.operands.toList.filterMap fun x=>match x with| .tmp t=>some t|_=>none
def zT(ops:Array Oper)(j:Nat):WG Tmp:=match ops[j]? with|some o=>o.dst|none=>none
theorem qE{t:Tmp}(h:zT ops j=some t):∃o,ops[j]?=some o/\o.dst=some t:=by
 unfold zT at h
 cases ho:ops[j]? with
 |none=>rw[ho]at h;cases h
 |some o=>rw[ho]at h;exact⟨o,rfl,h⟩
theorem zCN(ops:Array Oper)(j:Nat):(ops[j]?).bind Oper.dst=zT ops j:=by
 unfold zT
 cases ops[j]?<;>rfl
theorem qU(h:ops[j]?=some o):zT ops j=o.dst:=by unfold zT;rw[h]
def zMg(F:Fence)(m:Nat)(P:WH)(w0:WB)(G:Nat->SF)(o:Oper):Prop:=
 ∀(b:Act) (W:WB) (K:Act->WB->Prop) (Q:Exit->Act->WB->Prop),Below w0.heap.size w0 W->(∀t,t∈zDH o->(G t).p (b.tmps.getD t undef) W)->
  (∀v W',(∀d,o.dst=some d->(G d).p v W')->Below W.heap.size W W'->K (b.put o.dst v) W')->o.wpIn F m P b W K Q
def qO(F:Fence)(m:Nat)(P:WH)(w0:WB)(ops:Array Oper)(G:Nat->SF)(o:Oper):Prop:=
 match o.guard with
 |none=>zMg F m P w0 G o
 |some (j,want)=>∃g bv,zT ops j=some g/\(∀v w,(G g).p v w->v=.bool bv)/\(bv=want->zMg F m P w0 G o)/\(bv≠want->(∀d,o.dst=some d->∀w,(G d).p undef w)/\∀W b f,o.about P W b=some f->F.fn f)
def Obs(F:Fence)(m:Nat)(P:WH)(w0:WB)(ops:Array Oper)(G:Nat->SF):List Oper->Prop
 | []=>True
 |o::l=>qO F m P w0 ops G o/\Obs F m P w0 ops G l
theorem Obs.get{F:Fence}{m:Nat}{P:WH}{w0:WB}{ops:Array Oper}{G:Nat->SF}:∀{l:List Oper},Obs F m P w0 ops G l->∀(i:Nat) (o:Oper),l[i]?=some o->qO F m P w0 ops G o
 | [],_,i,o,h=>by simp at h
 |x::l,h,0,o,e=>by simp at e;subst e;exact h.1
 |x::l,h,i+1,o,e=>h.2.get i o (by simpa using e)
def looks(ops:Array Oper)(o:Oper):List Nat:=zDH o++match o.guard with|none=> []|some (j,_)=>(zT ops j).toList
def zBK(ops:Array Oper)(draw:Bool)(k n:Nat)(keys:List Nat):Bool:=
 jG ops&&zAy ops n&&jW ops&&decide (k<=ops.size)&&
 keys.all (fun t=>(List.range k).any fun i=>zT ops i==some t)&&
 (List.range k).all (fun i=>match ops[i]? with
  |none=>true
  |some o=>(looks ops o).all fun t=>(List.range ops.size).all fun j=> !(zT ops j==some t)||(if draw then o.after.any fun e=>Region.binds .any e&&e.on==j else decide (j<i)))&&
 (!draw||(zBx ops&&zGZ ops (Array.replicate ops.size false) k&&(List.range (ops.size-k)).all fun r=>Region.ready .any ops (yF ops.size (k+r))==[k+r]))
def zC6(ops:Array Oper)(k:Nat)(G:Nat->SF)(t:Nat):SF:=bif (List.range ops.size).any (fun i=>decide (k<=i)&&(zT ops i==some t))then SF.any else G t
section
variable {F:Fence}{m:Nat}{P:WH}{ops:Array Oper}{Q:Exit->Act->WB->Prop}
theorem zAs(hi:ops[i]?=some o)(O:qO F m P w0 ops G o){b:Act}{W:WB}{K:Act->WB->Prop}
  (h8:∀(j:Nat) (g:Nat),zT ops j=some g->g<b.tmps.size)
  (hb:Below w0.heap.size w0 W)(U:∀t,t∈looks ops o->(G t).p (b.tmps.getD t undef) W)(hK:∀v W',(∀d,o.dst=some d->(G d).p v W')->Below W.heap.size W W'->K (b.put o.dst v) W'):wpOpIn F m P ops Q i K b W:=by
 unfold wpOpIn
 rw[hi]
 show(if Region.wanted o (yielded ops b.tmps)=true then o.wpIn F m P b W K Q else _)
 unfold qO at O
 unfold looks at U
 cases hgd:o.guard with
 |none=>
  rw[hgd]at O
  have hw:Region.wanted o (yielded ops b.tmps)=true:=by unfold Region.wanted;rw[hgd]
  rw[if_pos hw]
  exact O b W K Q hb (fun t ht=>U t (cT _ ht)) hK
 | some q=>
  obtain⟨j,want⟩:=q
  rw[hgd]at O
  obtain⟨g,I,hj,hv,h1,h2⟩:=O
  have h4:=hv _ _ (U g (cQ _ (by rw[hgd];show g∈(zT ops j).toList;rw[hj];simp)))
  have J:=h8 j g hj
  have h5:yielded ops b.tmps j=some I:=by
   unfold yielded
   rw[zCN,hj]
   show(match(b.tmps[g]?:WG WE)with|some (.bool b)=>some b|_=>none)=some I
   rw[cC J]
   have:b.tmps[g]=.bool I:=by rw[<-h4];simp[J]
   rw[this]
  have hw:Region.wanted o (yielded ops b.tmps)=(some I==some want):=by unfold Region.wanted;rw[hgd];show(yielded ops b.tmps j==some want)=_;rw[h5]
  rw[hw]
  by_cases e:I=want
  .rw[if_pos (by simp[e])]
   exact h1 e b W K Q hb (fun t ht=>U t (cT _ ht)) hK
  .rw[if_neg (by simp[e])]
   have h3:=h2 e
   exact⟨fun f hf=>h3.2 _ _ f hf,hK _ _ (fun d hd=>h3.1 d hd W) (xF _ _)⟩
theorem zFf{t:Nat}(h:o.dst≠some t):(b.put o.dst v).tmps.getD t undef=b.tmps.getD t undef:=by
 unfold Act.put
 cases hd:o.dst with
 |none=>rfl
 |some d=>exact zB1 (fun e=>h (by rw[hd,e]))
theorem zDn{o:WG Tmp}:(b.put o v).tmps.size=b.tmps.size:=by
 unfold Act.put
 cases o<;>simp
theorem zBV{o:WG Tmp}:(b.put o v).defers=b.defers:=by
 unfold Act.put
 cases o<;>rfl
theorem zMR{w0:WB}{G:Nat->SF}{n k:Nat}{a0:Act}{wA:WB}(h8:jG ops=true)(h4:zAy ops n=true)(hk:k<=ops.size)
  (h9:∀i o,i<k->ops[i]?=some o->∀t,t∈looks ops o->∀j,zT ops j=some t->j<i)
  (h6:∀t,(∀j,j<k->zT ops j≠some t)->(G t).p (a0.tmps.getD t undef) wA)
  (O:∀i o,i<k->ops[i]?=some o->qO F m P w0 ops G o)(he:Below w0.heap.size w0 wA)
  (U:∀a w,Below w0.heap.size w0 w->a.tmps.size=n->a.defers=a0.defers->(∀t,(∃j,j<k/\zT ops j=some t)∨(∀j,zT ops j≠some t)->(G t).p (a.tmps.getD t undef) w)->wpOpsIn F m P ops Q (List.range' k (ops.size-k)) a w):
  ∀(r i:Nat) (a:Act) (w:WB),i+r=k->Below wA.heap.size wA w->Below w0.heap.size w0 w->a.tmps.size=n->a.defers=a0.defers->
   (∀t,(∃j,j<i/\zT ops j=some t)->(G t).p (a.tmps.getD t undef) w)->(∀t,(∀j,j<i->zT ops j≠some t)->a.tmps.getD t undef=a0.tmps.getD t undef)->
   wpOpsIn F m P ops Q (List.range' i (ops.size-i)) a w
 | 0,i,a,w,hi,hA,h0,hs,hd,h1,h2=>by
  obtain rfl:i=k:=by omega
  refine U a w h0 hs hd fun t ht=>?_
  rcases ht with ht|ht
  .exact h1 t ht
  .rw[h2 t (fun j _=>ht j)]
   exact(G t).st _ _ _ (h6 t (fun j _=>ht j)) hA
 | r+1,i,a,w,hi,hA,h0,hs,hd,h1,h2=>by
  have h7:i<k:=by omega
  have hc:i<ops.size:=by omega
  rw[show ops.size-i=(ops.size-(i+1))+1 from by omega,eE,eF]
  have ho:ops[i]?=some ops[i]:=cC hc
  refine zAs ho (O i _ h7 ho) (fun j g J=>?_) h0 (fun t ht=>?_) fun v W' hv hb=>?_
  .rw[hs]
   cases hoj:ops[j]? with
   |none=>rw[zT,hoj]at J;cases J
   |some oj=>rw[qU hoj]at J;exact qP h4 hoj J
  .by_cases hex:∃j,zT ops j=some t
   .obtain⟨j,J⟩:=hex
    exact h1 t ⟨j,h9 i _ h7 ho t ht j J,J⟩
   .have ha:∀j,zT ops j≠some t:=fun j J=>hex ⟨j,J⟩
    rw[h2 t (fun j _=>ha j)]
    exact(G t).st _ _ _ (h6 t (fun j _=>ha j)) hA
  .refine zMR h8 h4 hk h9 h6 O he U r (i+1) _ W' oA (hA.trans (hb.mono hA.size)) (h0.trans (hb.mono h0.size)) (by rw[zDn];exact hs) (by rw[zBV];exact hd) (fun t ⟨j,J,ht⟩=>?_) (fun t ht=>?_)
   .by_cases hji:j=i
    .subst hji
     rw[qU ho]at ht
     have I:ops[j].dst=some t:=ht
     have h3:=hv t I
     have:(a.put ops[j].dst v).tmps.getD t undef=v:=by
      rw[I]
      show(a.tmps.setIfInBounds t v).getD t undef=v
      rw[xU,eK (by rw[hs];exact qP h4 ho I)]
      rfl
     rw[this]
     exact h3
    .rw[zFf]
     .exact(G t).st _ _ _ (h1 t ⟨j,by omega,ht⟩) hb
     .intro I
      cases hoj:ops[j]? with
      |none=>rw[zT,hoj]at ht;cases ht
      |some oj=>rw[qU hoj]at ht;exact zAe h8 ho hoj (bB hji) I ht
   .rw[zFf]
    .exact h2 t (fun j J=>ht j oA)
    .intro I
     exact ht i oA (by rw[qU ho];exact I)
theorem zET(h:i<m):(yF m k)[i]?=some (decide (i<k)):=by simp[yF,h]
theorem zC7(_h:k<m):(yF m k).setIfInBounds k true=yF m (k+1):=by
 refine cW (by simp[yF]) fun i h1 h2=>?_
 simp only[yF,bP,bC,lE]at h2
 by_cases e:k=i
 .subst e
  simp[yF]
 .rw[Array.getElem_setIfInBounds_ne (by simpa[yF]using h2) e]
  simp[yF]
  omega
theorem forced{P:WH}{Q:Exit->Act->WB->Prop}{k:Nat}(I:∀r,r<ops.size-k->Region.ready .any ops (yF ops.size (k+r))=[k+r]):
  ∀(f r:Nat) (a:Act) (w:WB),k+r+f=ops.size->wpOpsIn F m P ops Q (List.range' (k+r) f) a w->wpAnyIn F m P .any ops Q f (yF ops.size (k+r)) a w
 | 0,r,a,w,hf,h=>by
  refine⟨lF.2 fun i hi=>?_,h⟩
  have O:=(cH.1 hi).1
  have J:i<ops.size:=by
   obtain⟨_,o,ho,_⟩:=cH.1 hi
   exact(xP.1 ho).1
  rw[xU,zET J]at O
  simp at O
  omega
 |f+1,r,a,w,hf,h=>by
  have U:=I r oA
  refine⟨fun e=>(by rw[U]at e;cases e),fun i hi=>?_⟩
  rw[U]at hi
  obtain rfl:i=k+r:=by simpa using hi
  rw[eE,eF]at h
  refine eJ (fun a w h=>?_) h
  rw[zC7 oA]
  exact forced I f (r+1) a w oA h
end
theorem zFG{draw:Bool}(k:Nat)(L:List (Nat×SF))(hmix:P.follows .mixedOrders=true)
  (h0:zBK ops draw k n (L.map (·.1))=true)(h:At w0 G n ds a w)(hB:Obs F m P w0 ops (upd G L) (ops.toList.take k))
  (h8:∀a w,At w0 (zC6 ops k (upd G L)) n ds a w->wpOpsIn F m P ops Q (List.range' k (ops.size-k)) a w):(Code.region id ops draw).wpIn F m P Q a w:=by
 unfold zBK at h0
 simp only[xV]at h0
 obtain⟨⟨⟨⟨⟨⟨hL,hq⟩,hpl⟩,hk⟩,hu⟩,hV⟩,hM⟩:=h0
 have hk:=xW hk
 have h7:∀i o,i<k->ops[i]?=some o->qO F m P w0 ops (upd G L) o:=fun i o hi J=>hB.get i o (by rw[eM hi];simpa using J)
 have hP:∀t,(∀j,j<k->zT ops j≠some t)->upd G L t=G t:=fun t ht=>by
  refine jP ?_
  cases hc:(L.map (·.1)).contains t with
  |false=>rfl
  |true=>
   exfalso
   have hm:=bU.1 hc
   obtain⟨i,hi,he⟩:=bQ.1 (xR.1 hu t hm)
   exact ht i (xT.1 hi) (by simpa using he)
 have hw:∀t,(∀j,j<k->zT ops j≠some t)->(upd G L t).p (a.tmps.getD t undef) w:=fun t ht=>by rw[hP t ht];exact h.sl t
 have U:∀(a:Act) (w:WB),(∀t,(∃j,j<k/\zT ops j=some t)∨(∀j,zT ops j≠some t)->(upd G L t).p (a.tmps.getD t undef) w)->∀t,(zC6 ops k (upd G L) t).p (a.tmps.getD t undef) w:=fun a w hh t=>by
  unfold zC6
  cases hc:(List.range ops.size).any fun i=>decide (k<=i)&&(zT ops i==some t)with
  |true=>trivial
  | false=>
   refine hh t ?_
   by_cases hex:∃j,zT ops j=some t
   .obtain⟨j,I⟩:=hex
    left
    refine⟨j,?_,I⟩
    have hn:j<ops.size:=by
     rcases bF j ops.size with e|e
     .exact e
     .rw[zT,cB e]at I;cases I
    have:=cN.1 hc j (xT.2 hn)
    simp[I]at this
    omega
   .exact .inr fun j I=>hex ⟨j,I⟩
 have h9:∀i o,i<k->ops[i]?=some o->∀t,t∈looks ops o->∀j,zT ops j=some t->(if draw then o.after.any fun e=>Region.binds .any e&&e.on==j else decide (j<i))=true:=fun i o hi J t ht j I=>by
  have h1:=xR.1 hV i (xT.2 hi)
  rw[J]at h1
  have hn:j<ops.size:=by
   rcases bF j ops.size with e|e
   .exact e
   .rw[zT,cB e]at I;cases I
  have h2:=xR.1 (xR.1 h1 t ht) j (xT.2 hn)
  rw[I]at h2
  simpa using h2
 cases draw with
 |false=>
  refine wpIn_region ?_
  rw[lG]
  refine zMR (G:=upd G L) (k:=k) (n:=n) (a0:=a) (wA:=w) hL hq hk (fun i o hi J t ht j I=>?_) hw h7 h.gr (fun a' w' hb hs hd hh=>h8 a' w' ⟨hb,hs,by rw[hd];exact h.nd,U a' w' hh⟩) k 0 a w oA (xF _ _) h.gr h.size rfl (fun t ⟨j,I,_⟩=>absurd I oA) (fun t _=>rfl)
  have:=h9 i o hi J t ht j I
  simpa using this
 | true=>
  simp only[fX,cR,xV]at hM
  obtain⟨⟨hG,hU⟩,hS⟩:=hM
  have hz:∀r,r<ops.size-k->Region.ready .any ops (yF ops.size (k+r))=[k+r]:=fun r hr=>by
   have:=xR.1 hS r (xT.2 hr)
   simpa using this
  have hN:∀i,(Array.replicate ops.size false).getD i false=false:=fun i=>by
   rw[xU,eO]
   split<;>rfl
  have hJ:∀i,i<ops.size->(Array.replicate ops.size false).getD i true=false:=fun i hi=>by
   rw[xU,eO,if_pos hi]
   rfl
  have hy:∀t,(∀j,zT ops j≠some t)->zBl ops (Array.replicate ops.size false) t=false:=fun t ht=>by
   cases hd:zBl ops (Array.replicate ops.size false) t with
   |false=>rfl
   |true=>
    exfalso
    unfold zBl at hd
    obtain⟨i,_,hp⟩:=bQ.1 hd
    simp only[xV,bJ]at hp
    exact ht i (by rw[<-zCN];exact hp.2)
  refine wpIn_region_any hmix<|zCT (z:=100000) (C:=fun _=>True) _ _ _ _ ?_
  have h4:Below w.heap.size w w.drew:=(xF _ w).drew
  refine zHV (k:=k) (z:=100000) (w:=w.drew) (fun _=>false) (fun i v W=>∀o,ops[i]?=some o->∀d,o.dst=some d->(upd G L d).p v W) (fun W=>Below w0.heap.size w0 W/\Below w.heap.size w W) hG hU hL (by rw[h.size];exact hq) (by simpa using hk) lH (by simp) ?hcl ?hto (fun W W' hC hb=>⟨hC.1.trans (hb.mono hC.1.size),hC.2.trans (hb.mono hC.2.size)⟩) (fun i v W W' hE hb o J d hd=>(upd G L d).st _ _ _ (hE o J d hd) hb) ⟨h.gr.trans (h4.mono h.gr.size),h4⟩ ?spec ?fin
  case hcl=>
   unfold zDc
   refine xR.2 fun i hi=>?_
   rw[hN i]
   rfl
  case hto=>
   unfold zGz
   refine xR.2 fun i hi=>?_
   rw[hN i]
   simp
  case spec=>
   intro i hI hl o J b W O K hK
   refine zAs J (h7 i o hI J) (fun j g I=>?_) O.at_.cls.1 (fun t ht=>?_) (fun v W' hv hb=>hK v W' (fun o' hO d hd=>by rw[J]at hO;cases hO;exact hv d hd) hb (fun e=>by cases e))
   .rw[O.at_.size,h.size]
    cases hoj:ops[j]? with
    |none=>rw[zT,hoj]at I;cases I
    |some oj=>rw[qU hoj]at I;exact qP hq hoj I
   .by_cases hex:∃j,zT ops j=some t
    .obtain⟨j,I⟩:=hex
     have h1:=h9 i o hI J t ht j I
     simp only[cG]at h1
     obtain⟨x,hx,he⟩:=eX.1 h1
     simp only[xV,bJ]at he
     cases hoj:ops[j]? with
     |none=>rw[zT,hoj]at I;cases I
     |some oj=>
      rw[qU hoj]at I
      exact O.at_.vals j oj t ⟨hJ j (xP.1 hoj).1,_,eA hx,he.1,he.2⟩ hoj I oj hoj t I
    .have h6:∀j,zT ops j≠some t:=fun j I=>hex ⟨j,I⟩
     rw[O.at_.keep t (hy t h6)]
     exact(upd G L t).st _ _ _ (hw t (fun j _=>h6 j)) O.at_.cls.2
  case fin=>
   intro b W O
   have hA:At w0 (zC6 ops k (upd G L)) n ds b W:=⟨O.at_.cls.1,by rw[O.at_.size];exact h.size,by rw[O.at_.defers];exact h.nd,U b W fun t ht=>by
    rcases ht with⟨j,hT,I⟩|h6
    .cases hoj:ops[j]? with
     |none=>rw[zT,hoj]at I;cases I
     |some oj=>
      rw[qU hoj]at I
      exact O.at_.vals j oj t ⟨hT,hJ j (xP.1 hoj).1⟩ hoj I oj hoj t I
    .rw[O.at_.keep t (hy t h6)]
     exact(upd G L t).st _ _ _ (hw t (fun j _=>h6 j)) O.at_.cls.2⟩
   have h2:=forced (Q:=Q) hz (ops.size-k) 0 b W oA (by simpa using h8 b W hA)
   have h3:∀(f:Nat) (l:Array Bool) (a:Act) (w:WB),wpAnyIn F m P .any ops Q f l a w->jJ F m P .any ops 100000 (fun _=>True) Q f l a w:=by
    intro f
    induction f with
    |zero=>intro l a w hh;exact hh
    |succ f ih=>intro l a w hh;exact⟨hh.1,fun i hi=>eJ (fun a w h5=>⟨.inr trivial,ih _ _ _ h5⟩) (hh.2 i hi)⟩
   exact h3 _ _ _ _ (by simpa using h2)
end Go.Proofs.Wd
