/- A law for 'for x, y := range seq' whose body never leaves early, over  and what it needs. -/
import Derived.Test.YtencnknhnckpaaaGreatDoorMRT2
import Derived.RangeFuncNested
import Derived.RangeFuncBound
import Derived.OwnWalkIn
import Derived.TacticsInMore
import Derived.LoopNIn
import Derived.LoopIn
import Derived.BigQuiet
abbrev xP:=@Array.getElem?_eq_some_iff
abbrev xQ:=@Nat.le_trans
abbrev xR:=@List.all_eq_true
abbrev xS:=@Array.getD_eq_getD_getElem?
abbrev xT:=@List.length_map
abbrev xU:=@Bool.and_eq_true
abbrev xV:=@List.mem_range
abbrev xW:=@of_decide_eq_true
abbrev xX:=@List.mem_cons
abbrev xY:=@Ne.symm
abbrev xZ:=@Nat.lt_or_ge
abbrev bB:=@Go.callsIn_wide
abbrev bC:=@Go.CallsIn.mono
abbrev bD:=@decide_eq_false
abbrev bE:=@decide_eq_true_eq
abbrev bF:=@Go.getD_set_ne
abbrev bG:=@Go.Oper.semAt_eq
abbrev bH:=@beq_iff_eq
abbrev bI:=@Go.run_underlying
abbrev bJ:=@Go.wpIn_wide
abbrev bK:=@Go.wpOpIn_step
abbrev bL:=@Bool.or_eq_false_iff
abbrev bN:=@List.size_toArray
abbrev bO:=@Go.World.cell?_of_block
abbrev bP:=@Go.KeepsOthers.setCell
abbrev bQ:=@Go.World.putObj_heap_other
abbrev bR:=@Array.getElem?_eq_getElem
abbrev bT:=@Go.World.alloc_heap_new
abbrev bU:=@List.any_eq_true
abbrev bV:=@List.contains_iff_mem
abbrev bW:=@Go.Sem.run_bind
abbrev bX:=@Go.Boxed.new
abbrev bY:=@Array.getElem?_eq_none
abbrev bZ:=@Bool.or_eq_true
abbrev cB:=@Go.World.size_alloc
abbrev cC:=@Go.mem_ready
abbrev cD:=@List.getElem?_eq_some_iff
abbrev cE:=@List.map_toArray
abbrev cF:=@List.map_cons
abbrev cG:=@Nat.eq_of_beq_eq_true
abbrev cH:=@if_true
abbrev cI:=@Bool.not_eq_true'
abbrev cJ:=@Go.Sem.run_pure
abbrev cK:=@List.mem_append_left
abbrev cL:=@List.foldl_cons
abbrev cM:=@Bool.false_or
abbrev cN:=@Go.Result.andThen_ok
abbrev cO:=@List.map_nil
abbrev cP:=@Go.RowKit.Below.heap_setCell
abbrev cQ:=@Array.getElem?_setIfInBounds_self_of_lt
abbrev cR:=@List.mem_append_right
abbrev cS:=@List.any_eq_false
abbrev cT:=@Go.info_parts
abbrev cU:=@Array.getElem_mem
abbrev cV:=@Array.ext
abbrev cW:=@Go.wpOpIn_mono
abbrev cX:=@Go.Code.wpIn_mono
abbrev cY:=@Go.Act.put_comm
abbrev cZ:=@List.getElem?_take_of_lt
abbrev eA:=@Go.World.putObj_size
abbrev eB:=@List.mem_cons_of_mem
abbrev eC:=@Classical.not_forall
abbrev eD:=@List.range'_succ
abbrev eE:=@Array.getElem?_replicate
abbrev eF:=@Go.World.putObj_heap_same
abbrev eG:=@Go.KeepsOthers.of_grownBy
abbrev eH:=@List.nodup_cons
abbrev eI:=@List.mem_cons_self
abbrev eJ:=@Array.all_eq_true_iff_forall_mem
abbrev eK:=@Array.any_eq_true
abbrev eL:=@Go.wpOpsIn_cons
abbrev eM:=@Go.RowKit.Below.heap_alloc
abbrev eO:=@Go.World.ownsRow.lt
abbrev eP:=@Go.World.ownsRow.alloc
abbrev eQ:=@Go.grownBy_putObj'
abbrev eR:=@Array.size_modify
abbrev eS:=@Array.mem_of_getElem?
abbrev eT:=@Bool.not_true
abbrev eU:=@List.range_succ
abbrev eV:=@List.eq_nil_iff_forall_not_mem
abbrev eW:=@List.mem_filterMap
abbrev eX:=@Array.count_replicate_self
abbrev WD:=Go.Value
abbrev WE:=Go.TypeId
abbrev WF:=Option
abbrev WG:=Go.Program
theorem sF{P:Sort _}{Q:P->Prop}(h:∀e,Q e:=by intro e;cases e):∀e,Q e:=h
namespace Go.Proofs.Wd
open Go.RowKit Lb
variable {P:WG}{g:Operand}{ps:Array Tmp}{body:Code}{Q:Exit->Act->WB->Prop}{a b:Act}{A W W' w w' w0 w1:WB}{B C D base c fuel i id j k m n n₀ z:Nat}{f:FuncId}{fn:Func}{args:Array WD}{R:Ending->WB->Prop}{e t:WE}{v v':WD}{Ds l:List Nat}{ops:Array Oper}{rest:List Oper}{o oi:Oper}{F:Fence}{row:WF Nat}{tmp:Obj}{S S':Nat->Prop}{ds:List Deferred}
def zSI(P:WG)(gf:Nat)(lb:Array WD)(enc:Nat->Array WD)(N:Nat)(Kp Fr:WB->WB->Prop)(Fin:WB->Prop)(w0:WB):Prop:=
 ∀(l:Nat) (J:Nat->WB->Prop) (W:WB),Below w0.heap.size w0 W->
  (∀k W1 W2,J k W1->Fr W1 W2->J k W2)->
  (∀k W1,k<N->J k W1->YieldAt Fence.wide 0 P l (enc k) W1 fun e W'=>e=.returned (.bool true)/\J (k+1) W'/\Kp W1 W')->
  J 0 W->
  Calls P gf (#[.func (.yield l) #[] #[]]++lb) W fun e W'=>(∃v,e=.returned v)/\J N W'/\Fin W'
theorem qD(f:FuncId):Fence.wide.fn f=True:=rfl
theorem yA:Fence.wide.depth=none:=rfl
def zI6(B:Nat)(Kp:WB->WB->Prop)(I:Nat->WB->Prop)(k:Nat)(W:WB):Exit->Act->WB->Prop
 | .normal,_,W'=>KeepsFrom B W W'/\Kp W W'/\I k W'
 |_,_,_=>False
def zOK(P:WG)(gf:Nat)(lb:Array WD)(E:Nat->Array WD->WB->Prop)(N:Nat)(Kp Fr:WB->WB->Prop)(Fin:WB->Prop)(w0:WB):Prop:=
 ∀(l:Nat) (J:Nat->WB->Prop) (W:WB),Below w0.heap.size w0 W->
  (∀k W1 W2,J k W1->Fr W1 W2->J k W2)->
  (∀k W1 xs,k<N->J k W1->E k xs W1->YieldAt Fence.wide 0 P l xs W1 fun e W'=>e=.returned (.bool true)/\J (k+1) W'/\Kp W1 W')->
  J 0 W->
  Calls P gf (#[.func (.yield l) #[] #[]]++lb) W fun e W'=>(∃v,e=.returned v)/\J N W'/\Fin W'
theorem zCe{assign:Code}
  {gf:Nat}{lb:Array WD}(hg:a.eval g=.func (.func gf) #[] lb)(eg:∀args w,(callFunc gf args).run P w=.ok (.enter gf args) w)
  {E:Nat->Array WD->WB->Prop}{N:Nat}{Kp Fr:WB->WB->Prop}{Fin:WB->Prop}(hit:zOK P gf lb E N Kp Fr Fin w)
  (hE:∀(k:Nat) (xs:Array WD) (W:WB) (l:Nat) (o o':Obj),E k xs W->W.heap[l]?=some o->o.isCells=false->E k xs (W.putObj l o'))
  (hps:∀k xs W,E k xs W->xs.size=ps.size)(hKt:∀{A B C:WB},Kp A B->Kp B C->Kp A C)
  (hKb:∀(W:WB) (l:Nat) (o o':Obj),w.heap.size<=l->W.heap[l]?=some o->o.isCells=false->Kp W (W.putObj l o'))
  (I:Nat->WB->Prop)(hI:OwnFrom w.heap.size I)(hF:∀k W1 W2,I k W1->Fr W1 W2->I k W2)
  (hFb:∀W1 W2,Fr W1 W2->∀(k:Nat) (o:Obj),w.heap.size<=k->W1.heap[k]?=some o->o.isCells=false->W2.heap[k]?=some o)
  (hFin:∀(W:WB) (l:Nat) (o o':Obj),w.heap.size<=l->W.heap[l]?=some o->o.isCells=false->Fin W->Fin (W.putObj l o'))
  (h0:I 0 w)(a₁:Nat->Array WD->Act)
  (hassign:∀(l k:Nat) (xs:Array WD) (W:WB) (K:Act->WB->Prop),E k xs W->K (a₁ k xs) W->
   assign.wpIn (Fence.wide.inRound l) 0 P (Exit.then K (fun _ _ _=>False)) { tmps:=(ps.zip xs).foldl (fun t (p,v)=>t.setIfInBounds p v) a.tmps,defers:=[] } W)
  (hbody:∀(l k:Nat) (xs:Array WD) (W:WB),k<N->I k W->E k xs W->body.wpIn (Fence.wide.inRound l) 0 P (zI6 w.heap.size Kp I (k+1) W) (a₁ k xs) W)
  (hdone:∀(D:Nat) (W:WB),w.heap.size<=D->I N W->Fin W->W.heap[D]?=some (.deferred (some []))->Q .normal { a with defers:={ target:=.collected D,args:=#[] }::a.defers } W):
  (Code.rangeFunc g ps assign body).wp P Q a w:=by
 refine(bJ (n:=0)).1 (wpIn_rangeFunc ?_)
 intro fn hfn
 show ∃l mark w₁ d w₁' f args w₂,(Instr.enterLoop fn a.tmps ps assign body none).run P w=_/\_
 obtain⟨rec,hrec⟩:∃rec:LoopState->WF Code->Loop,rec=fun st pe=>{ state:=st,pending:=pe,fn,tmps:=a.tmps,params:=ps,assign,body,defers:=w.heap.size }:=⟨_,rfl⟩
 obtain⟨W1,hW1⟩:∃W1,(w.alloc (.deferred (some []))).alloc (.loop (rec .ready none))=W1:=⟨_,rfl⟩
 have hL1:W1.heap[w.heap.size+1]?=some (.loop (rec .ready none)):=by
  rw[<-hW1];have:=bT (w.alloc (.deferred (some []))) (.loop (rec .ready none));rwa [cB]at this
 have hK1:W1.heap[w.heap.size]?=some (.deferred (some [])):=by
  rw[<-hW1];exact(eM _ _ _ eN).trans (bT w _)
 have hI1:I 0 W1:=by rw[<-hW1];exact hI.alloc _ (hI.alloc _ h0)
 have hb1:Below w.heap.size w W1:=by
  rw[<-hW1];exact((xF _ w).alloc (vR _) _).alloc eN _
 refine⟨w.heap.size+1, [{ target:=.collected w.heap.size,args:=#[] }],W1,{ target:=.fn (.func gf) lb,args:=#[.func (.yield (w.heap.size+1)) #[] #[]] },W1,gf,
  #[.func (.yield (w.heap.size+1)) #[] #[]]++lb,W1,?_,?_,?_,?_,fun h=>absurd h (by simp[Fence.wide]),?_⟩
 .rw[<-hW1,hrec];exact run_enterLoop_outer _ _ _ _ _
 .simp only[resolve,hg]
  simp[go_sem]
 .intro f' _;trivial
 .simp[invoke,go_sem,eg]
 .refine bB.2 ((hit (w.heap.size+1)
   (fun k W=>I k W/\W.heap[w.heap.size+1]?=some (.loop (rec .ready none))/\W.heap[w.heap.size]?=some (.deferred (some [])))
   W1 hb1
   (fun k A B hs hf=>⟨hF k A B hs.1 hf,hFb A B hf _ _ oA hs.2.1 rfl,hFb A B hf _ _ (vR _) hs.2.2 rfl⟩)
   ?_ ⟨hI1,hL1,hK1⟩).mono ?_)
  .rintro k W xs hk ⟨hi,hl,hd⟩ he
   have hlt:w.heap.size+1<W.heap.size:=(xP.1 hl).1
   have hy:=run_yield (P:=P) (args:=xs) hl (by rw[hrec];exact hps k xs W he)
   rw[hrec]at hy
   refine⟨fn,_,assign,body,hy,roundIn_of_wpIn hfn (hassign _ k xs W _ he ⟨_,run_beginRound hl (by rw[hrec]),?_⟩)⟩
   have hl2:(W.putObj (w.heap.size+1) (.loop { rec .ready none with state:=.busy })).heap[w.heap.size+1]?=some (.loop { rec .ready none with state:=.busy }):=eF hlt
   have hk2:(W.putObj (w.heap.size+1) (.loop { rec .ready none with state:=.busy })).heap[w.heap.size]?=some (.deferred (some [])):=(bQ oA).trans hd
   have hw2:Kp W (W.putObj (w.heap.size+1) (.loop { rec .ready none with state:=.busy })):=hKb _ _ _ _ oA hl rfl
   refine wpIn_mono (hbody _ k xs _ hk (hI.putObj _ hi oA hl rfl) (hE _ _ _ _ _ _ he hl rfl)) ?_
   rintro e a3 W3 hp
   cases e with
   |normal=>
    obtain⟨hk3,hkp3,hi3⟩:=hp
    have hl3:=hk3.same _ _ oA hl2 rfl
    have hend:=run_endRound (P:=P) none hl3
    have hlt3:w.heap.size+1<W3.heap.size:=(xP.1 hl3).1
    refine⟨_,_,hend,rfl,⟨hI.putObj _ hi3 oA hl3 rfl,?_,?_⟩,hKt (hKt hw2 hkp3) (hKb _ _ _ _ oA hl3 rfl)⟩
    .rw[eF hlt3];simp[hrec]
    .exact(bQ oA).trans (hk3.same _ _ (vR _) hk2 rfl)
   |ret=>exact hp.elim
   |exit id=>exact hp.elim
   |goto t=>exact hp.elim
   |panic ch=>exact hp.elim
   |outgrown=>exact hp.elim
  .rintro e W2 ⟨⟨v,rfl⟩,⟨hi,hl,hd⟩,hfin⟩
   exact⟨none,_,by have:=run_endLoop (P:=P) hl (by rw[hrec];simp);rw[hrec]at this;exact this,hdone _ _ (vR _) (hI.putObj _ hi oA hl rfl) (hFin _ _ _ _ oA hl rfl hfin) ((bQ oA).trans hd)⟩
theorem zEa{assign:Code}
  {gf:Nat}{lb:Array WD}(hg:a.eval g=.func (.func gf) #[] lb)(eg:∀args w,(callFunc gf args).run P w=.ok (.enter gf args) w)
  {enc:Nat->Array WD}{N:Nat}{Kp Fr:WB->WB->Prop}{O:WB->Prop}(h2:zSI P gf lb enc N Kp Fr O w)
  (hps:∀k,(enc k).size=ps.size)(h6:∀{A B C:WB},Kp A B->Kp B C->Kp A C)
  (h4:∀(W:WB) (l:Nat) (o o':Obj),w.heap.size<=l->W.heap[l]?=some o->o.isCells=false->Kp W (W.putObj l o'))
  (I:Nat->WB->Prop)(hI:OwnFrom w.heap.size I)(hF:∀k W1 W2,I k W1->Fr W1 W2->I k W2)
  (hFb:∀W1 W2,Fr W1 W2->∀(k:Nat) (o:Obj),w.heap.size<=k->W1.heap[k]?=some o->o.isCells=false->W2.heap[k]?=some o)
  (hFin:∀(W:WB) (l:Nat) (o o':Obj),w.heap.size<=l->W.heap[l]?=some o->o.isCells=false->O W->O (W.putObj l o'))
  (h0:I 0 w)(a₁:Nat->Act)
  (hassign:∀(l k:Nat) (W:WB) (K:Act->WB->Prop),K (a₁ k) W->
   assign.wpIn (Fence.wide.inRound l) 0 P (Exit.then K (fun _ _ _=>False)) { tmps:=(ps.zip (enc k)).foldl (fun t (p,v)=>t.setIfInBounds p v) a.tmps,defers:=[] } W)
  (hbody:∀(l k:Nat) (W:WB),k<N->I k W->body.wpIn (Fence.wide.inRound l) 0 P (zI6 w.heap.size Kp I (k+1) W) (a₁ k) W)
  (hdone:∀(D:Nat) (W:WB),w.heap.size<=D->I N W->O W->W.heap[D]?=some (.deferred (some []))->Q .normal { a with defers:={ target:=.collected D,args:=#[] }::a.defers } W):
  (Code.rangeFunc g ps assign body).wp P Q a w:=
 zCe hg eg (E:=fun k xs _=>xs=enc k) (fun l J W hb hf hy=>h2 l J W hb hf fun k W1 hk hj=>hy k W1 _ hk hj rfl) (fun _ _ _ _ _ _ h _ _=>h) (fun k _ _ h=>by rw[h];exact hps k) h6 h4 I hI hF hFb hFin h0 (fun k _=>a₁ k)
  (fun l k _ W K e h=>by subst e;exact hassign l k W K h) (fun l k _ W hk hi _=>hbody l k W hk hi) hdone
def Mk(W1 W2:WB):Prop:=Below W1.heap.size W1 W2
theorem wR(I J:WB)(h:Mk I J)(k:Nat)(o:Obj)(_:B<=k)(O:I.heap[k]?=some o)(_:o.isCells=false):J.heap[k]?=some o:=
 (h.block k (xP.1 O).1).trans O
theorem jD{c:Code}
  (hf:P.funcs[f]?=some fn)(I:fn.body=some c)
  (h:c.wp P (bodyPostM Fence.wide 0 P fn R) { tmps:=args++Array.replicate (fn.ntmps-args.size) undef,defers:=[] } w):Calls P f args w R:=
 bB.1 (callsIn_of_wp_marks hf I trivial ((bJ (n:=0)).2 h))
theorem zBr{c:Code}
  (hf:P.funcs[f]?=some fn)(I:fn.body=some c)
  (h:c.wpIn Fence.wide 0 P (bodyPost P fn R) { tmps:=args++Array.replicate (fn.ntmps-args.size) undef,defers:=[] } w):Calls P f args w R:=
 bB.1 (callsIn_of_wp hf I trivial h)
/-! ### append onto a row of limbs -/
def z7(w:WB)(base:Nat)(e:WE)(v:WD)(l:List Nat):Prop:=w.ownsRow base e 1 v l.length (zBl l)
theorem z7.form(h:z7 w base e v l):∃A c,v=.slice A l.length c:=zNR h
theorem z7.form'(h:z7 w base e v l){n:Nat}(I:l.length=n):∃A c,v=.slice A n c:=by
 subst I;exact h.form
theorem z7.rd{A:WF Addr}(h:z7 w base e (.slice A n c) l):Rd w A n c l:=by
 obtain⟨A',c',I⟩:=h.form
 injection I with h1 h2 h3
 exact Rd.of_own h h2.symm
theorem z7.grown{w2:WB}(hb:Below B w w1)(J:z7 w1 base e v l)(I:w1.grownBy w2 v.ownBlock)(hB:B<=base)(h:B<=w1.heap.size):Below B w w2:=
 hb.grown I h fun k O=>by have:=(eO J k O).1;omega
theorem z7.alloc(h:z7 w base e v l)(o:Obj):z7 (w.alloc o) base e v l:=eP h o
theorem wS(w:WB)(base:Nat)(e:WE):z7 w base e (.slice none 0 0) []:=World.ownsRow_nil _ _ _ _
theorem zDc(w:WB)(t ty e:WE)(ht:P.underlying t=some (.slice e))(h1:(P.info? e).map (fun i=>(i.zero,i.size,i.bytes))=some (some (.int .u32 0),1,4))
  (base:Nat)(v:WD)(l m:List Nat)(h:z7 w base e v l)(A:WF Addr)(n c:Nat)(hr:Rd w A n c m)(hsz:l.length+m.length<=17592186044416)(I:base<=w.heap.size):
  ∃v' w',(Builtin.append_ #[t,t] ty #[v,.slice A n c]).run P w=.ok v' w'/\z7 w' base e v' (l++m)/\w.grownBy w' v.ownBlock/\(v'.ownBlock=v.ownBlock∨v'.ownBlock=some w.heap.size):=by
 obtain rfl:=hr.len
 obtain⟨i,J,h9,h8,ha⟩:=cT h1
 have hd:l.length+m.length<=maxLen:=by unfold maxLen;omega
 by_cases hm:m.length=0
 .have h7:m=[]:=xL hm
  subst h7
  refine⟨v,w,?_,by simpa using h,World.grownBy.refl w _,.inl rfl⟩
  rcases h.2 with⟨rfl,_⟩|⟨g,cap,cur,rfl,_,_,O,_⟩
  .rcases A with _|ad
   .simp[Builtin.append_,bI ht,sizeOf,typeInfo,J,Builtin.lenOf,Builtin.firstCells]
   .simp[Builtin.append_,bI ht,sizeOf,typeInfo,J,Builtin.lenOf,Builtin.firstCells,loadCells,loadCellsFrom]
  .rcases A with _|ad
   .simp[Builtin.append_,bI ht,sizeOf,typeInfo,J,Builtin.lenOf,Builtin.firstCells,O,storeCells]
   .simp[Builtin.append_,bI ht,sizeOf,typeInfo,J,Builtin.lenOf,Builtin.firstCells,O,storeCells,loadCells,loadCellsFrom]
 .obtain⟨b,o,rfl,hb,hc⟩:=hr.shape oA
  obtain⟨v',w',h0,h2,h3,_,h5⟩:=run_append_own_at (P:=P) w base t ty e i (.int .u32 0) 1 4 ht J h9 h8 ha rfl rY v l.length (zBl l) h ⟨b,o,none⟩ m.length c (zBl m) (by rw[zAA,gI])
   (fun j u hj=>by
    have h4:j<m.length:=by have:=(cD.1 hj).1;rwa [zAA]at this
    rw[zCA m j h4]at hj
    injection hj with hj
    subst hj
    rw[xH]
    exact hc j h4) (zIL m) hd oA I
  refine⟨v',w',h0,?_,h3,h5⟩
  unfold z7
  rw[uD,zCW]
  exact h2
theorem zS(h1:o.guard=none)(s x:Operand)(t e:WE)
  (ho:o.op=.call { callee:=.builtin .append,args:=#[s,x],argTypes:=#[t,t] })
  (ht:P.underlying t=some (.slice e))(h0:(P.info? e).map (fun i=>(i.zero,i.size,i.bytes))=some (some (.int .u32 0),1,4))
  (base:Nat)(v:WD)(l:List Nat)(hs:a.eval s=v)(O:z7 w base e v l)
  (A:WF Addr)(k c:Nat)(m:List Nat)(hx:a.eval x=.slice A k c)(hr:Rd w A k c m)(h5:l.length+m.length<=17592186044416)(I:base<=w.heap.size)
  (h:∀v' w',z7 w' base e v' (l++m)->w.grownBy w' v.ownBlock->(v'.ownBlock=v.ownBlock∨v'.ownBlock=some w.heap.size)->wpList P ops Q rest (a.put o.dst v') w'):wpList P ops Q (o::rest) a w:=
 wpList_plain h1 fun _ hK=>by
  obtain⟨v',w',J,h2,h3,h4⟩:=zDc (P:=P) w t o.type e ht h0 base v l m O A k c hr h5 I
  unfold Oper.wp execOp
  simp only[ho,resolve,invoke,builtin,bW,cJ,cN,cE,cF,cO,hs,hx,J]
  exact hK _ _ (h v' w' h2 h3 h4)
theorem zBF(h5:o.guard=none)(s x:Operand)(t e:WE)
  (ho:o.op=.call { callee:=.builtin .append,args:=#[s,x],argTypes:=#[t,t] })
  (ht:P.underlying t=some (.slice e))(h0:(P.info? e).map (fun i=>(i.zero,i.size,i.bytes))=some (some (.int .u32 0),1,4))
  (base:Nat)(v:WD)(l:List Nat)(hs:a.eval s=v)(O:z7 w base e v l)
  (A:WF Addr)(k c:Nat)(m:List Nat)(hx:a.eval x=.slice A k c)(hr:Rd w A k c m)(h8:l.length+m.length<=17592186044416)(I:base<=w.heap.size)
  (h:∀v' w',z7 w' base e v' (l++m)->w.grownBy w' v.ownBlock->(v'.ownBlock=v.ownBlock∨v'.ownBlock=some w.heap.size)->wpListIn F n P ops Q rest (a.put o.dst v') w'):wpListIn F n P ops Q (o::rest) a w:=by
 refine wpListIn_plain h5 fun K h1=>?_
 obtain⟨v',w',J,h2,h3,h4⟩:=zDc (P:=P) w t o.type e ht h0 base v l m O A k c hr h8 I
 unfold Oper.wpIn
 refine⟨?_,?_⟩
 .simp[Oper.about,ho,resolve,Target.leads,cJ]
 .rw[Oper.semAt_plain F _ _ (by rw[ho];intro c h7;cases h7)]
  simp[execOp,ho,resolve,invoke,builtin,hs,hx,J,Result.andThen]
  exact h1 _ _ (h v' w' h2 h3 h4)
/-! ### what abides a turn of a block that is no cells, and what only makes memory -/
theorem Mk.grown{I J:WB}(h:Mk I J):I.grownBy J none:=⟨h.os,h.tape,h.output,h.size,fun k O _=>h.block k O⟩
theorem zCb{I:Nat->WB->Prop}(h:OwnFrom B I)(k:Nat)(O J:WB)(hi:I k O)(hm:Mk O J):I k J:=h k O J none hi hm.grown (fun r e=>by cases e)
theorem qL(h:Boxed W B t v)(hg:W.grownBy W' row)(J:∀r,row=some r->C<=r/\∃o:Obj,W.heap[r]?=some o/\o.isCells=false):Boxed W' B t v:=
 h.kept hg fun e=>by
  obtain⟨_,o,I,O⟩:=J B e.symm
  rw[show W.heap[B]?=_ from h]at I
  cases I
  cases O
theorem zHq{size:Nat}{xs:List WD}(h:W.ownsRow base e size v n xs)(J:W.grownBy W' row)(O:∀r,row=some r->C<=r/\∃o:Obj,W.heap[r]?=some o/\o.isCells=false):W'.ownsRow base e size v n xs:=by
 refine h.kept J ?_
 rcases h.2 with⟨rfl,_⟩|⟨g,cap,cur,rfl,_,hh,_⟩
 .exact .inl rfl
 .right
  intro e'
  obtain⟨_,o,I,hc⟩:=O g (by simpa[Value.ownBlock]using e'.symm)
  rw[hh]at I
  cases I
  cases hc
theorem zAi(h:Below B w W)(hg:W.grownBy W' row)(O:B<=w.heap.size)(J:B<=C)(I:∀r,row=some r->C<=r/\∃o:Obj,W.heap[r]?=some o/\o.isCells=false):Below B w W':=
 h.grown hg (xQ O h.size) fun k e=>xQ J (I k e).1
theorem Rd.other{A:WF Addr}(h:Rd w A n c l){D:Nat}{o:Obj}(o':Obj)(hD:w.heap[D]?=some o)(ho:o.isCells=false):Rd (w.putObj D o') A n c l:=
 ⟨h.len,h.le,h.cap,h.nil,fun i hi=>by
  obtain⟨b,J,e,hc⟩:=h.cells i hi
  refine⟨b,J,e,(bO (bQ ?_)).trans hc⟩
  intro hb
  obtain⟨q,O,I⟩:=cells_of_cell hc
  simp only at O hb
  rw[hb,hD]at O
  cases O
  rw[ho]at I
  cases I⟩
theorem zIB(h:Below B w W)(o:Obj)(J:B<=W.heap.size)(I:B<=D):Below B w (W.putObj D o):=
 h.grown (eQ W D o) J fun k e=>by cases e;exact I
theorem qB(h:B<=W.heap.size)(o:Obj):B<=(W.alloc o).heap.size:=sB
theorem zGL{u:WD}(J:t≠e)(O:Boxed W B t u)(I:z7 W n₀ e v l)(h:(W.alloc tmp).grownBy w1 v.ownBlock):Boxed w1 B t u:=
 (O.alloc tmp).kept h (O.not_row J I)
theorem zGv(I:z7 W base e v l)(h:(W.alloc tmp).grownBy w1 v.ownBlock):KeepsOthers W w1:=by
 refine(KeepsOthers.alloc W tmp).trans (eG h fun j o O hj=>?_)
 rcases(eP I tmp).2 with⟨rfl,_⟩|⟨g,cap,cur,rfl,_,J,_⟩
 .simp[Value.ownBlock]at O
 .obtain rfl:g=j:=by simpa[Value.ownBlock]using O
  rw[J]at hj;cases hj;rfl
theorem zJQ{l':List Nat}(h0:t≠e)(hv:Boxed W B t v)(I:z7 W base e v l)(h3:n₀<=W.heap.size)(hB:n₀<=B)(hb:n₀<=base)
  (J:z7 w1 base e v' l')(h:(W.alloc tmp).grownBy w1 v.ownBlock):
  Boxed w1 B t v/\Boxed (w1.setCell ⟨B,0,none⟩ v') B t v'/\z7 (w1.setCell ⟨B,0,none⟩ v') base e v' l'/\KeepsOthers W (w1.setCell ⟨B,0,none⟩ v')/\Below n₀ W (w1.setCell ⟨B,0,none⟩ v'):=by
 have O:Boxed w1 B t v:=zGL h0 hv I h
 refine⟨O,O.set v',World.ownsRow.kept J (grownBy_setCell' w1 B v') (.inr (O.not_row h0 J).symm),?_,?_⟩
 .refine((KeepsOthers.alloc W tmp).trans (eG h fun j o ej hj=>?_)).trans (bP _ _ _)
  rcases(eP I tmp).2 with⟨rfl,_⟩|⟨g,cap,cur,rfl,_,h2,_⟩
  .simp[Value.ownBlock]at ej
  .obtain rfl:g=j:=by simpa[Value.ownBlock]using ej
   rw[h2]at hj;cases hj;rfl
 .refine(((xF n₀ W).alloc h3 tmp).grown h sB fun j ej=>?_).setCell (p:=⟨B,0,none⟩) hB v'
  have:=(eO I j ej).1
  omega
/-! ### blocks of which a part is kept -/
def yZ(S:Nat->Prop)(W1 W2:WB):Prop:=∀b,S b->W2.heap[b]?=W1.heap[b]?
theorem yZ.refl(S:Nat->Prop)(W:WB):yZ S W W:=fun _ _=>rfl
theorem yZ.trans{B C:WB}(h:yZ S A B)(k:yZ S B C):yZ S A C:=fun b I=>(k b I).trans (h b I)
theorem yZ.drew{B:WB}(h:yZ S A B):yZ S A B.drew:=h
theorem yZ.of_below{B:WB}(h:Below n A B)(I:∀b,S b->b<n):yZ S A B:=fun b J=>h.block b (I b J)
theorem yZ.setCell{B:WB}(h:yZ S A B){p:Addr}(hp: ¬S p.block)(u:WD):yZ S A (B.setCell p u):=
 fun b I=>(cP B p u b (fun e=>hp (by rw[<-e];exact I))).trans (h b I)
theorem yZ.putObj{B:WB}(h:yZ S A B){l:Nat}(J: ¬S l)(o:Obj):yZ S A (B.putObj l o):=
 fun b I=>(bQ (fun e=>J (by rw[<-e];exact I))).trans (h b I)
theorem yZ.grown{B C:WB}(h:yZ S A B){row:WF Nat}(O:B.grownBy C row)(J:∀b,S b->b<B.heap.size/\some b≠row):yZ S A C:=
 fun b I=>(O.block b (J b I).1 (J b I).2).trans (h b I)
theorem yZ.alloc{B:WB}(h:yZ S A B)(J:∀b,S b->b<B.heap.size)(o:Obj):yZ S A (B.alloc o):=
 fun b I=>(eM B o b (J b I)).trans (h b I)
theorem zDG(I:∀b,S b->b<n)(W:WB)(l:Nat)(o o':Obj)(hl:n<=l)(_:W.heap[l]?=some o)(_:o.isCells=false):yZ S W (W.putObj l o'):=
 (yZ.refl S W).putObj (fun h=>by have:=I l h;omega) o'
theorem yZ.cell{B:WB}(h:yZ S A B){p:Addr}(hp:S p.block):B.cell? p=A.cell? p:=bO (h p.block hp)
theorem yZ.boxed{B:WB}(h:yZ S A B){b:Nat}{t:WE}{v:WD}(J:S b)(I:Boxed A b t v):Boxed B b t v:=(h b J).trans I
theorem Rd.keepS{B:WB}{a:WF Addr}(h:Rd A a n c l)(O:yZ S A B)(J:∀b o,0<n->a=some ⟨b,o,none⟩->S b):Rd B a n c l:=
 ⟨h.len,h.le,h.cap,h.nil,fun i I=>by
  obtain⟨b,o,e,hc⟩:=h.cells i I
  exact⟨b,o,e,(O.cell (p:=⟨b,o+i,none⟩) (J b o oA e)).trans hc⟩⟩
theorem Rd.in_{A:WF Addr}(h:Rd w A n c l)(b o:Nat)(J:0<n)(e:A=some ⟨b,o,none⟩):b<w.heap.size:=by
 obtain⟨b',o',e',I,_⟩:=h.shape J
 rw[e]at e'
 cases e'
 exact I
theorem zL7(h:(W.alloc tmp).grownBy w1 v.ownBlock)(J:∀b,S b->b<W.heap.size/\some b≠v.ownBlock)(O: ¬S B):yZ S W (w1.setCell ⟨B,0,none⟩ v'):=
 ((((yZ.refl S W).alloc (fun b I=>(J b I).1) tmp).grown h (fun b I=>⟨by have:=(J b I).1;simp;omega,(J b I).2⟩)).setCell (p:=⟨B,0,none⟩) O v')
theorem z7.other(h:z7 W base e v l){B:Nat}{t:WE}{u:WD}(J:Boxed W B t u)(I:t≠e)(O:WD):z7 (W.setCell ⟨B,0,none⟩ O) base e v l:=
 World.ownsRow.kept h (grownBy_setCell' _ _ _) (.inr (J.not_row I h).symm)
theorem z7.not_in(h:z7 W base e v l){b:Nat}(hb:b<base):some b≠v.ownBlock:=fun e=>by
 have:=(eO h b e.symm).1;omega
theorem zBa(W:WB)(p:Addr)(u:WD):W.heap.size=(W.setCell p u).heap.size:=by
 show W.heap.size=(W.heap.modify _ _).size
 rw[eR]
theorem vN(w:WB)(x:Nat)(t:WE){b:Nat}(h:b=w.heap.size):Rd (w.alloc (.cells #[.int .u32 (x:Int)] t)) (some ⟨b,0,none⟩) 1 1 [x]:=by
 subst h
 exact Rd.new w [x] t _ rfl eN
theorem Rd.one(w:WB)(x:Nat)(t:WE):Rd (w.alloc (.cells #[.int .u32 (x:Int)] t)) (some ⟨w.heap.size,0,none⟩) 1 1 [x]:=
 ⟨rfl,oA,oA,fun e=>(by cases e),fun i hi=>⟨w.heap.size,0,rfl,by
  have:i=0:=oA
  subst this
  show(w.alloc (.cells #[.int .u32 (x:Int)] t)).cell? ⟨w.heap.size,0,none⟩=some (.int .u32 (x:Int))
  unfold World.cell?
  rw[bT]
  rfl⟩⟩
def mark(D:Nat):Deferred:={ target:=.collected D,args:=#[] }
structure Marks(B:Nat)(W:World)(ds:List Deferred)(Ds:List Nat):Prop where
 eq:ds=Ds.map mark
 nodup:Ds.Nodup
 at_:∀D,D∈Ds->B<=D/\W.heap[D]?=some (.deferred (some []))
theorem Marks.nil(B:Nat)(W:WB):Marks B W [] []:=⟨rfl,List.nodup_nil,fun D h=>by cases h⟩
theorem Marks.keep(h:Marks B W ds Ds)(J:∀(k:Nat) (o:Obj),W.heap[k]?=some o->o.isCells=false->W'.heap[k]?=some o):Marks B W' ds Ds:=
 ⟨h.eq,h.nodup,fun D I=>⟨(h.at_ D I).1,J _ _ (h.at_ D I).2 rfl⟩⟩
theorem Marks.others(h:Marks B W ds Ds)(I:KeepsOthers W W'):Marks B W' ds Ds:=h.keep I.same
theorem Marks.made(h:Marks B W ds Ds)(J:Below W.heap.size W W'):Marks B W' ds Ds:=
 h.keep fun k _ I _=>(J.block k (xP.1 I).1).trans I
theorem Marks.lt(h:Marks B W ds Ds):∀D,D∈Ds->D<W.heap.size:=fun D I=>(xP.1 (h.at_ D I).2).1
theorem Marks.abide(h:Marks B W ds Ds)(hl:∀D,D∈Ds->D<C)(O:W.grownBy W' row)(J:∀r,row=some r->C<=r/\∃o:Obj,W.heap[r]?=some o/\o.isCells=false):Marks B W' ds Ds:=
 ⟨h.eq,h.nodup,fun D I=>⟨(h.at_ D I).1,(O.block D (h.lt D I) (fun e=>by have:=(J D e.symm).1;have:=hl D I;omega)).trans (h.at_ D I).2⟩⟩
theorem Marks.more(h:Marks B W ds Ds){D:Nat}(O:D ∉ Ds)(hB:B<=D)(J:W.heap[D]?=some (.deferred (some []))):Marks B W ({ target:=.collected D,args:=#[] }::ds) (D::Ds):=
 ⟨by rw[h.eq];rfl,eH.2 ⟨O,h.nodup⟩,fun E I=>by
  rcases xX.1 I with rfl|I
  .exact⟨hB,J⟩
  .exact h.at_ E I⟩
structure Oth(B:Nat)(w w':World):Prop where
 os:w'.os=w.os
 tape:w'.tape=w.tape
 output:w'.output=w.output
 size:w'.heap.size=w.heap.size
 block:∀k,w'.heap[k]?=w.heap[k]?∨(B<=k/\(∃o,w.heap[k]?=some o/\o.isCells=false)/\∃o,w'.heap[k]?=some o/\o.isCells=false)
theorem Oth.refl(B:Nat)(w:WB):Oth B w w:=⟨rfl,rfl,rfl,rfl,fun _=>.inl rfl⟩
theorem zDt{a:Addr}{o:Obj}(h:w.heap[a.block]?=some o)(hc:o.isCells=false):w.cell? a=none:=by
 unfold World.cell?
 rw[h]
 cases o<;>simp_all[Obj.isCells]
theorem Oth.cell(h:Oth B w w')(a:Addr):w'.cell? a=w.cell? a:=by
 rcases h.block a.block with e|⟨_,⟨o,ho,O⟩,o',I,J⟩
 .exact bO e
 .rw[zDt ho O,zDt I J]
theorem Rd.oth{A:WF Addr}(h:Rd w A n c l)(I:Oth B w w'):Rd w' A n c l:=h.keep fun _ _=>I.cell _
theorem zAh(h:Below C w W)(I:Oth B W W')(hC:C<=B):Below C w W':=
 ⟨I.os.trans h.os,I.tape.trans h.tape,I.output.trans h.output,by rw[I.size];exact h.size,fun k J=>by
  rcases I.block k with e|⟨hb,_⟩
  .exact e.trans (h.block k J)
  .omega⟩
theorem Oth.put(h:Oth B w w')(J:B<=D)(I:w'.heap[D]?=some (.deferred (some []))):Oth B w (w'.putObj D (.deferred none)):=
 ⟨h.os,h.tape,h.output,by rw[eA];exact h.size,fun k=>by
  by_cases e:k=D
  .subst e
   refine .inr ⟨J,?_,_,eF (xP.1 I).1,rfl⟩
   rcases h.block k with e|⟨_,O,_⟩
   .exact⟨_,e.symm.trans I,rfl⟩
   .exact O
  .rw[bQ e]
   exact h.block k⟩
theorem qF{P:WG}{fn:Func}{tmps:Array WD}{R:Ending->WB->Prop}{B:Nat}{v:WD}(w:WB)(h:∀w',Oth B w w'->(results fn tmps).run P w'=.ok v w'):
  ∀(Ds:List Nat) (ds:List Deferred) (w1:WB),Marks B w1 ds Ds->Oth B w w1->(∀w',Oth B w w'->R (.returned v) w')->LeavesInM Fence.wide 0 P fn tmps R ds .returning w1
 | [],ds,w1,hm,ho,hR=>by
  obtain rfl:ds=[]:=hm.eq
  exact⟨v,h w1 ho,hR w1 ho⟩
 |D::Ds,ds,w1,hm,ho,hR=>by
  obtain rfl:ds=mark D::Ds.map mark:=hm.eq
  have I:=hm.at_ D (eI ..)
  refine⟨eN,.inl ⟨_,_,rfl,run_takeDeferred I.2,?_⟩⟩
  refine qF w h Ds _ _ ⟨rfl,(eH.1 hm.nodup).2,fun E J=>⟨(hm.at_ E (eB _ J)).1,?_⟩⟩ (ho.put I.1 I.2) hR
  have O:E≠D:=fun e=>(eH.1 hm.nodup).1 (by rw[<-e];exact J)
  rw[bQ O]
  exact(hm.at_ E (eB _ J)).2
theorem Boxed.oth{b:Nat}(h:Boxed w b t v)(J:Oth B w w'):Boxed w' b t v:=by
 rcases J.block b with e|⟨_,⟨o,I,O⟩,_⟩
 .exact e.trans h
 .rw[show w.heap[b]?=_ from h]at I
  cases I
  cases O
theorem zAX(W:WB)(t:WE)(v:WD){b:Nat}(h:b=W.heap.size):Boxed (W.alloc (.cells #[v] t)) b t v:=by
 subst h
 exact bX W t v
structure Rds(w:World)(A:Option Addr)(n:Nat)(ls:List (List Nat)):Prop where
 len:ls.length=n
 cells:∀i,i<n->∃b o Ai ni ci li,A=some ⟨b,o,none⟩/\w.cell? ⟨b,o+i,none⟩=some (.slice Ai ni ci)/\ls[i]?=some li/\Rd w Ai ni ci li/\Lt li/\ni<=68719476736
theorem Rds.below{A:WF Addr}{ls:List (List Nat)}(h:Rds w A n ls)(I:Below w.heap.size w w'):Rds w' A n ls:=
 ⟨h.len,fun i O=>by
  obtain⟨b,o,Ai,ni,ci,li,e,J,h1,h2,h3⟩:=h.cells i O
  exact⟨b,o,Ai,ni,ci,li,e,(I.cell (p:=⟨b,o+i,none⟩) (zU J)).trans J,h1,h2.below I,h3⟩⟩
theorem zBq(w:WB)(cs:Array WD)(t:WE)(i:Nat):(w.alloc (.cells cs t)).cell? ⟨w.heap.size,i,none⟩=cs[i]?:=by
 have h:(w.alloc (.cells cs t)).heap[w.heap.size]?=some (.cells cs t):=xM w _
 unfold World.cell?
 rw[h]
 rfl
theorem Rds.two{A:WF Addr}(h:Rd w A n c l)(ht:Lt l)(O:n<=68719476736){A':WF Addr}{n' c':Nat}{l':List Nat}(h':Rd w A' n' c' l')(J:Lt l')(I:n'<=68719476736)(t:WE):
  Rds (w.alloc (.cells #[.slice A n c,.slice A' n' c'] t)) (some ⟨w.heap.size,0,none⟩) 2 [l,l']:=
 ⟨rfl,fun i hi=>by
  rcases(oA:i=0∨i=1)with rfl|rfl
  .exact⟨_,_,A,n,c,l,rfl,zBq w _ t 0,rfl,h.alloc _,ht,O⟩
  .exact⟨_,_,A',n',c',l',rfl,zBq w _ t 1,rfl,h'.alloc _,J,I⟩⟩
theorem vM{A:WF Addr}(h:Rd w A n c l)(ht:Lt l)(hn:n<=68719476736){A':WF Addr}{n' c':Nat}{l':List Nat}(h':Rd w A' n' c' l')(h5:Lt l')(h3:n'<=68719476736)
  {O:WF Addr}{I h0:Nat}{J:List Nat}(h4:Rd w O I h0 J)(h1:Lt J)(h2:I<=68719476736)(t:WE):
  Rds (w.alloc (.cells #[.slice A n c,.slice A' n' c',.slice O I h0] t)) (some ⟨w.heap.size,0,none⟩) 3 [l,l',J]:=
 ⟨rfl,fun i hi=>by
  rcases(oA:i=0∨i=1∨i=2)with rfl|rfl|rfl
  .exact⟨_,_,A,n,c,l,rfl,zBq w _ t 0,rfl,h.alloc _,ht,hn⟩
  .exact⟨_,_,A',n',c',l',rfl,zBq w _ t 1,rfl,h'.alloc _,h5,h3⟩
  .exact⟨_,_,O,I,h0,J,rfl,zBq w _ t 2,rfl,h4.alloc _,h1,h2⟩⟩
section
variable {F:Fence}{n:Nat}{P:WG}{md:Region.Mode}{ops:Array Oper}{Q:Exit->Act->WB->Prop}{C:WB->Prop}{z:Nat}
def zAn(ops:Array Oper):Bool:=ops.all fun o=>match o.op with| .defer _=>false|_=>true
theorem zB4(h:zAn ops=true){j:Nat}{o:Oper}(hj:ops[j]?=some o):∀c,o.op≠ .defer c:=by
 intro c I
 have:=eJ.1 h o (eS hj)
 rw[I]at this
 cases this
def zBy(md:Region.Mode)(ops:Array Oper)(z i:Nat):Bool:=
 match ops[z]? with
 |none=>true
 |some o=>o.after.any fun e=>Region.binds md e&&e.on==i
theorem zFq(h:zBy md ops z i=true){o:Oper}(hz:ops[z]?=some o):∃e∈o.after,Region.binds md e=true/\e.on=i:=by
 unfold zBy at h
 rw[hz]at h
 simp at h
 obtain⟨j,hj,J,I⟩:=h
 exact⟨_,cU hj,J,I⟩
def jP(F:Fence)(n:Nat)(P:WG)(md:Region.Mode)(ops:Array Oper)(z:Nat)(C:WB->Prop)(Q:Exit->Act->WB->Prop):Nat->Array Bool->Act->WB->Prop
 |0,listed,a,w=>Region.ready md ops listed=[]/\Q .normal a w
 |fuel+1,listed,a,w=>
  (Region.ready md ops listed=[]->Q .normal a w)/\
  ∀i∈Region.ready md ops listed,wpOpIn F n P ops Q i (fun a' w'=>(i=z∨C w')/\jP F n P md ops z C Q fuel (listed.setIfInBounds i true) a' w') a w
theorem zCf:∀(fuel:Nat) (listed:Array Bool) (a:Act) (w:WB),jP F n P md ops z C Q fuel listed a w->wpAnyIn F n P md ops Q fuel listed a w
 |0,_,_,_,h=>h
 |fuel+1,_,_,_,h=>⟨h.1,fun i I=>cW (fun J w' O=>zCf fuel _ J w' O.2) (h.2 i I)⟩
def qV(Q:Exit->Act->WB->Prop):Exit->Act->WB->Prop
 | .panic _,_,_=>False
 |e,a,w=>Q e a w
theorem zZ(z:Nat)(C:WB->Prop)(J:P.follows .mixedOrders=true)
  (h:jP F n P .any ops z C (qV Q) ops.size (Array.replicate ops.size false) a w.drew):(Code.region id ops true).wpIn F n P Q a w:=
 cX (fun e a' w' I=>by cases e<;>first|exact I|exact I.elim) (wpIn_region_any J (zCf _ _ _ _ h))
def zAk(P:WG)(ops:Array Oper)(C:WB->Prop)(o:Oper)(v:WD)(a:Act):Prop:=
 ((Region.wanted o (yielded ops a.tmps)=true/\∀w,C w->(execOp a.eval o).run P w=.ok (.value v) w)∨(Region.wanted o (yielded ops a.tmps)=false/\v=undef))/\∀w,o.about P w a.eval=none
theorem zAk.wpOpIn(O:zAn ops=true)(hi:ops[i]?=some o)(hy:zAk P ops C o v a){K:Act->WB->Prop}{w:WB}(hw:C w)(h:K (a.put o.dst v) w):
  wpOpIn F n P ops Q i K a w:=by
 unfold Go.wpOpIn
 simp only[hi]
 have J:∀f,o.about P w a.eval=some f->F.fn f:=fun f hf=>by rw[hy.2 w]at hf;cases hf
 rcases hy.1 with⟨I,hv⟩|⟨I,rfl⟩
 .simp only[I,cH,Oper.wpIn,bG _ _ _ (zB4 O hi),hv w hw,Oper.uponIn];exact⟨J,h⟩
 .simp only[I,xI,xK];exact⟨J,h⟩
theorem zAk.of_same{h:Act}(I:zAk P ops C o v a)(O:execOp h.eval o=execOp a.eval o)
  (J:Region.wanted o (yielded ops h.tmps)=Region.wanted o (yielded ops a.tmps))(hb:∀w,o.about P w h.eval=o.about P w a.eval):zAk P ops C o v h:=by
 refine⟨?_,fun w=>by rw[hb w];exact I.2 w⟩
 rw[O,J]
 exact I.1
theorem zHX{oj:Oper}(hpl:zAn ops=true)(hj:ops[j]?=some oj)(hap:oi.apart ops oj=true)
  (hsi:∀cs b,oi.op≠ .select cs b)(hsj:∀cs b,oj.op≠ .select cs b)
  (hQ:∀c a w,Q (.panic c) (a.put oi.dst v) w->Q (.panic c) a w){K:Act->WB->Prop}{a:Act}{w:WB}
  (hy:zAk P ops C oi v a)(h:wpOpIn F n P ops Q j K (a.put oi.dst v) w):
  wpOpIn F n P ops Q j (fun a' w'=>zAk P ops C oi v a'/\K (a'.put oi.dst v) w') a w:=by
 obtain⟨h1,h2,h3⟩:=Oper.apart_spec hap
 have keep:∀(a:Act),zAk P ops C oi v a->∀u,zAk P ops C oi v (a.put oj.dst u):=fun a hy u=>
  hy.of_same (execOp_put oi hsi a oj.dst u h3) (wanted_put oi a oj.dst u h3) (fun w=>about_put oi w a oj.dst u h3)
 have keepD:∀d,zAk P ops C oi v { a with defers:=d::a.defers }:=fun d=>hy.of_same rfl rfl (fun _=>rfl)
 have hpj:=zB4 hpl hj
 unfold wpOpIn at*
 simp only[hj]at*
 rw[wanted_put oj a oi.dst v h1,about_put oj w a oi.dst v h1]at h
 split
 .rename_i hw
  simp only[hw,cH]at h
  unfold Oper.wpIn at*
  rw[about_put oj w a oi.dst v h1]at h
  refine⟨h.1,?_⟩
  have h:=h.2
  rw[bG _ _ _ hpj,execOp_put oj hsj a oi.dst v h1]at h
  rw[bG _ _ _ hpj]
  generalize(execOp a.eval oj).run P w=r at*
  cases r with
  | ok x w'=>
   cases x<;>simp only[Oper.uponIn]at h ⊢
   case value u=>exact⟨keep a hy u,by rw[<-cY a v u h2];exact h⟩
   case skip=>exact⟨keep a hy _,by rw[<-cY a v undef h2];exact h⟩
   case defer d=>
    refine⟨keep _ (keepD d) _,?_⟩
    rw[<-cY _ v undef h2,<-Act.put_defers]
    exact h
   case enter f args=>
    refine⟨h.1,bC h.2 fun e w'' he=>?_⟩
    cases e with
    |returned u=>exact⟨keep a hy u,by rw[<-cY a v u h2];exact he⟩
    |panicked c=>exact hQ _ _ _ he
    |outgrown=>exact he
   case row row args=>exact⟨h.1,RowsIn.mono h.2 fun u w'' he=>⟨keep a hy u,by rw[<-cY a v u h2];exact he⟩⟩
   case round l f tmps assign body=>
    refine⟨h.1,RoundIn.mono h.2 fun e w'' he=>?_⟩
    cases e with
    |returned u=>exact⟨keep a hy u,by rw[<-cY a v u h2];exact he⟩
    |panicked c=>exact hQ _ _ _ he
    |outgrown=>exact he
  |halt x w'=>
   cases x<;>simp only[Oper.uponIn]at h ⊢
   case panic u=>exact hQ _ _ _ h
 .rename_i hw
  simp only[hw]at h
  exact⟨h.1,keep a hy _,by rw[<-cY a v undef h2];exact h.2⟩
theorem zGR(h9:zAn ops=true)(hw:zBy md ops z i=true)(hi:ops[i]?=some oi)(h4:∀(j:Nat) (o:Oper) cs b,ops[j]?=some o->o.op≠ .select cs b)
    (hQ:∀c a w,Q (.panic c) (a.put oi.dst v) w->Q (.panic c) a w):
    ∀(fuel:Nat) (listed:Array Bool) (a:Act) (w:WB),
      (∀j oj,ops[j]?=some oj->j≠i->listed.getD j true=false->(∀e∈oj.after,Region.binds md e=true->e.on≠i)->oi.apart ops oj=true)->
      i∈Region.ready md ops listed->zAk P ops C oi v a->C w->
      jP F n P md ops z C Q fuel (listed.setIfInBounds i true) (a.put oi.dst v) w->jP F n P md ops z C Q (fuel+1) listed a w:=by
  intro fuel
  induction fuel with
  | zero=>
    intro listed a w _ hr hy hc H
    refine⟨fun h=>(by rw[h]at hr;cases hr),fun j hj=>?_⟩
    by_cases hji:j=i
    . subst hji;exact hy.wpOpIn h9 hi hc ⟨.inr hc,H⟩
    . have:=ready_mono hj hji
      rw[H.1]at this
      cases this
  | succ fuel ih=>
    intro listed a w I hr hy hc H
    refine⟨fun h=>(by rw[h]at hr;cases hr),fun j hj=>?_⟩
    by_cases hji:j=i
    . subst hji;exact hy.wpOpIn h9 hi hc ⟨.inr hc,H⟩
    . have h1:=H.2 j (ready_mono hj hji)
      obtain⟨h5,oj,O,ha⟩:=cC.1 hj
      have h6:∀e∈oj.after,Region.binds md e=true->e.on≠i:=fun e he hb hz=>by
        have h1:=ha e he hb
        have h0:=(cC.1 hr).1
        rw[hz]at h1
        rcases xZ i listed.size with h'|h'
        . simp[h']at h0 h1;rw[h0]at h1;cases h1
        . simp[bY h']at h1
      have h2:=zHX h9 O (I j oj O hji h5 h6) (fun cs b=>h4 i oi cs b hi) (fun cs b=>h4 j oj cs b O) hQ hy h1
      have J:∀k ok,ops[k]?=some ok->k≠i->(listed.setIfInBounds j true).getD k true=false->
          (∀e∈ok.after,Region.binds md e=true->e.on≠i)->oi.apart ops ok=true:=fun k ok hk hv hd hs=>by
        refine I k ok hk hv ?_ hs
        by_cases hjk:j=k
        . subst hjk;exact h5
        . rw[bF true hjk]at hd;exact hd
      have hn:i∈Region.ready md ops (listed.setIfInBounds j true):=ready_mono hr (xY hji)
      have hx:j≠z:=fun e=>by
        subst e
        obtain⟨ed,hq,hb,ho⟩:=zFq hw O
        exact h6 ed hq hb ho
      refine cW (fun a' w' h3=>?_) h2
      have hh:C w':=h3.2.1.resolve_left hx
      exact⟨.inr hh,ih (listed.setIfInBounds j true) a' w' J hn h3.1 hh (by rw[Array.setIfInBounds_comm _ _ hji];exact h3.2.2)⟩
theorem zQ{listed:Array Bool}(J:zAn ops=true)(I:zBy md ops z i=true)(O:ops[i]?=some oi)
  (hs:Region.noSelect ops=true)(hf:Region.free md ops listed i=true)(hr:(Region.ready md ops listed).contains i=true)
  (hQ:∀c a w,Q (.panic c) (a.put oi.dst v) w->Q (.panic c) a w)(hc:C w)(hy:zAk P ops C oi v a)
  (h:jP F n P md ops z C Q fuel (listed.setIfInBounds i true) (a.put oi.dst v) w):jP F n P md ops z C Q (fuel+1) listed a w:=
 zGR J I O (Region.noSelect_spec hs) hQ fuel listed a w (Region.free_spec O hf) (by simpa using hr) hy hc h
theorem zAq{listed:Array Bool}(J:Region.ready md ops listed=[i])(ho:ops[i]?=some o)
  (h:∀K:Act->WB->Prop,(∀a' w',((i==z)=true∨C w')->jP F n P md ops z C Q fuel (listed.setIfInBounds i true) a' w'->K a' w')->
   if Region.wanted o (yielded ops a.tmps)=true then Oper.wpIn F n P o a w K Q else(∀f,o.about P w a.eval=some f->F.fn f)/\K (a.put o.dst undef) w):
  jP F n P md ops z C Q (fuel+1) listed a w:=
 ⟨fun e=>(by rw[J]at e;cases e),fun j hj=>by
  rw[J]at hj
  obtain rfl:j=i:=by simpa using hj
  exact bK ho fun K' I=>h K' fun a' w' h1 O=>I a' w' ⟨by simpa using h1,O⟩⟩
theorem zTS{listed:Array Bool}(J:Region.ready md ops listed=[])(h:Q .normal a w):jP F n P md ops z C Q fuel listed a w:=by
 cases fuel with
 |zero=>exact⟨J,h⟩
 |succ fuel=>exact⟨fun _=>h,fun i I=>(by rw[J]at I;cases I)⟩
theorem zCd{listed:Array Bool}(I:Region.ready md ops listed=[])(h:Q .normal a w):jP F n P md ops z C (qV Q) fuel listed a w:=zTS I h
end
section
variable {F:Fence}{n:Nat}{P:WG}{ops:Array Oper}{Q:Exit->Act->WB->Prop}
def q8(ops:Array Oper):Bool:=(List.range ops.size).all fun i=>(List.range ops.size).all fun j=>i==j||match ops[i]?.bind (·.dst),ops[j]?.bind (·.dst)with
 |some t,some u=>t !=u
 |_,_=>true
def jZ(ops:Array Oper)(k:Nat):Bool:=ops.all fun o=>match o.dst with
 |none=>true
 |some t=>decide (t<k)
theorem jM(h:q8 ops=true){i j:Nat}{oi oj:Oper}(J:ops[i]?=some oi)(hj:ops[j]?=some oj)(I:i≠j){t:Tmp}(ht:oi.dst=some t):oj.dst≠some t:=by
 intro hu
 have h1:=xR.1 h i (xV.2 (xP.1 J).1)
 have O:=xR.1 h1 j (xV.2 (xP.1 hj).1)
 rw[J,hj]at O
 simp[ht,hu,I]at O
theorem qG(h:jZ ops k=true){i:Nat}{o:Oper}(I:ops[i]?=some o){t:Tmp}(J:o.dst=some t):t<k:=by
 have:=eJ.1 h o (eS I)
 rw[J]at this
 simpa using this
theorem zBB{xs:Array WD}(h:i≠j):(xs.setIfInBounds i v).getD j undef=xs.getD j undef:=by
 rw[xS,xS,Array.getElem?_setIfInBounds_ne h]
variable {E:Nat->WD->WB->Prop}{C:WB->Prop}{a0:Act}
theorem jT{listed:Array Bool}(h:listed.getD i true=false):(listed.setIfInBounds i true).count false+1=listed.count false:=by
 have I:i<listed.size:=by
  rcases xZ i listed.size with e|e
  .exact e
  .simp[bY e]at h
 have J:listed[i]=false:=by simpa[I]using h
 rw[Array.setIfInBounds,dif_pos I,Array.count_set]
 have hpos:0<listed.count false:=Array.count_pos_iff.2 (by rw[<-J];exact cU I)
 simp[J]
 omega
def zBz(ops:Array Oper)(listed0:Array Bool)(t:Tmp):Bool:=(List.range ops.size).any fun i=> !listed0.getD i true&&(ops[i]?.bind (·.dst)==some t)
theorem zIu{listed0:Array Bool}(h:ops[i]?=some o)(J:listed0.getD i true=false){t:Tmp}(I:o.dst=some t):zBz ops listed0 t=true:=by
 unfold zBz
 exact bU.2 ⟨i,xV.2 (xP.1 h).1,by rw[J,h];simp[I]⟩
structure FlowL(ops:Array Oper)(listed0:Array Bool)(E:Nat->Value->World->Prop)(C:World->Prop)(a0:Act)(S:Nat->Prop)(a:Act)(w:World):Prop where
 cls:C w
 size:a.tmps.size=a0.tmps.size
 defers:a.defers=a0.defers
 keep:∀t,zBz ops listed0 t=false->a.tmps.getD t undef=a0.tmps.getD t undef
 vals:∀i o t,S i->ops[i]?=some o->o.dst=some t->E i (a.tmps.getD t undef) w
theorem FlowL.mono{listed0:Array Bool}(h:FlowL ops listed0 E C a0 S a w)(J:∀i,S' i->S i):FlowL ops listed0 E C a0 S' a w:=
 ⟨h.cls,h.size,h.defers,h.keep,fun i o t I=>h.vals i o t (J i I)⟩
theorem FlowL.put{listed0:Array Bool}(h5:q8 ops=true)(h4:jZ ops a0.tmps.size=true)(hC:∀w w',C w->Below w.heap.size w w'->C w')(hE:∀i v w w',E i v w->Below w.heap.size w w'->E i v w')
  {S:Nat->Prop}{a:Act}{w w':WB}(h:FlowL ops listed0 E C a0 S a w){i:Nat}{o:Oper}(hi:ops[i]?=some o)(hl:listed0.getD i true=false){v:WD}(hv:E i v w')(hb:Below w.heap.size w w'):FlowL ops listed0 E C a0 (fun j=>S j∨j=i) (a.put o.dst v) w':=by
 refine⟨hC _ _ h.cls hb,?_,?_,?_,?_⟩
 .rw[<-h.size]
  unfold Act.put
  cases o.dst<;>simp
 .rw[<-h.defers]
  unfold Act.put
  cases o.dst<;>rfl
 .intro t J
  rw[<-h.keep t J]
  unfold Act.put
  cases hd:o.dst with
  |none=>rfl
  |some d=>
   have O:d≠t:=fun e=>by subst e;rw[zIu hi hl hd]at J;cases J
   exact zBB O
 .intro j oj t hj I J
  by_cases hji:j=i
  .subst hji
   rw[hi]at I
   cases I
   have h3:=qG h4 hi J
   unfold Act.put
   rw[J]
   show E j ((a.tmps.setIfInBounds t v).getD t undef) w'
   rw[xS,cQ (by rw[h.size];exact h3)]
   exact hv
  .have hS:S j:=hj.resolve_right hji
   have h1:=hE _ _ _ _ (h.vals j oj t hS I J) hb
   have O:∀d,o.dst=some d->d≠t:=fun d hd e=>by subst e;exact jM h5 hi I (xY hji) hd J
   unfold Act.put
   cases hd:o.dst with
   |none=>exact h1
   |some d=>
    show E j ((a.tmps.setIfInBounds d v).getD t undef) w'
    rw[zBB (O d hd)]
    exact h1
theorem zJF:∀(D:List Nat) {x y:Array WD},x.size=y.size->(∀t,t ∉ D->x.getD t undef=y.getD t undef)->x=D.foldl (fun z t=>z.setIfInBounds t (x.getD t undef)) y
 | [],x,y,hs,h=>by
  show x=y
  refine cV hs fun i J O=>?_
  have:=h i eN
  rw[xS,xS,bR J,bR O]at this
  exact this
 | d::D,x,y,hs,h=>by
  rw[cL]
  refine zJF D (by simpa using hs) fun t I=>?_
  by_cases e:t=d
  .subst e
   rcases xZ t y.size with g|g
   .rw[xS (xs:=y.setIfInBounds t _),cQ g]
    rfl
   .simp[bY (oA:x.size<=t)]
  .rw[zBB (xY e)]
   exact h t (by simp[e,I])
def zMo(ops:Array Oper)(listed0:Array Bool):List Nat:=(List.range ops.size).filterMap fun i=>if listed0.getD i true then none else ops[i]?.bind (·.dst)
theorem zQy{listed0:Array Bool}{t:Nat}(h:t ∉ zMo ops listed0):zBz ops listed0 t=false:=by
 cases hd:zBz ops listed0 t with
 |false=>rfl
 |true=>
  exfalso
  unfold zBz at hd
  obtain⟨i,I,hp⟩:=bU.1 hd
  simp only[xU,cI,bH]at hp
  exact h (eW.2 ⟨i,I,by rw[hp.1,hp.2];rfl⟩)
end
section
variable {F:Fence}{n:Nat}{P:WG}{ops:Array Oper}{Q:Exit->Act->WB->Prop}
def zCS(ops:Array Oper):Nat->Nat->Nat->Bool
 |0,_,_=>false
 |fuel+1,i,j=>match ops[j]? with
  |none=>false
  |some o=>o.after.any fun e=>Region.binds .any e&&(e.on==i||zCS ops fuel i e.on)
def zCX(ops:Array Oper)(listed0:Array Bool)(k:Nat):Bool:=(List.range ops.size).all fun j=>decide (j<k)||(List.range k).all fun i=>listed0.getD i true||zCS ops ops.size i j
def zA9(ops:Array Oper):Bool:=(List.range ops.size).all fun i=>match ops[i]? with
 |none=>true
 |some o=>o.after.all fun e=> !Region.binds .any e||decide (e.on<i)
theorem zAV(h:zA9 ops=true){i:Nat}{o:Oper}(I:ops[i]?=some o){e}(he:e∈o.after)(hb:Region.binds .any e=true):e.on<i:=by
 have hl:=(xP.1 I).1
 have O:=xR.1 h i (xV.2 hl)
 rw[I]at O
 have J:=eJ.1 O e he
 rw[hb]at J
 simpa using J
def zDM(ops:Array Oper)(listed:Array Bool):Bool:=(List.range ops.size).all fun i=> !listed.getD i false||match ops[i]? with
 |none=>true
 |some o=>o.after.all fun e=> !Region.binds .any e||listed.getD e.on false
def zJm(listed:Array Bool)(k:Nat):Bool:=(List.range listed.size).all fun i=>decide (i<k)|| !listed.getD i false
def zDZ(ops:Array Oper)(listed:Array Bool):Prop:=∀i o,listed.getD i false=true->ops[i]?=some o->∀e∈o.after,Region.binds .any e=true->listed.getD e.on false=true
theorem zAW{listed:Array Bool}(hc:zDZ ops listed):∀(fuel i j:Nat) (o:Oper),ops[j]?=some o->(∀e∈o.after,Region.binds .any e=true->listed.getD e.on false=true)->zCS ops fuel i j=true->listed.getD i false=true
 |0,_,_,_,_,_,h=>by cases h
 | fuel+1,i,j,o,hj,hd,h=>by
  unfold zCS at h
  rw[hj]at h
  obtain⟨x,hx,he⟩:=eK.1 h
  simp only[xU,bZ,bH]at he
  have hl:=hd _ (cU hx) he.1
  rcases he.2 with e|e
  .rw[<-e];exact hl
  .have O:∃I,ops[(o.after[x]).on]?=some I:=by
    cases ho:ops[(o.after[x]).on]? with
    |some I=>exact⟨I,rfl⟩
    |none=>
     exfalso
     cases fuel with
     |zero=>cases e
     |succ f=>unfold zCS at e;rw[ho]at e;cases e
   obtain⟨I,J⟩:=O
   exact zAW hc fuel i _ I J (fun e' h1 h0=>hc _ _ hl J e' h1 h0) e
theorem zCv{listed:Array Bool}(h:zDM ops listed=true):zDZ ops listed:=by
 intro i o hl I e he hb
 have O:=xR.1 h i (xV.2 (xP.1 I).1)
 rw[hl,I,eT,cM]at O
 have J:=eJ.1 O e he
 rw[hb]at J
 simpa using J
theorem zIk{listed:Array Bool}(h:zJm listed k=true){i:Nat}(hk:k<=i):listed.getD i false=false:=by
 rcases xZ i listed.size with g|g
 .have I:=xR.1 h i (xV.2 g)
  simp only[bZ,bE,cI]at I
  rcases I with I|I
  .omega
  .exact I
 .simp[bY g]
def blk:WD->WF Nat
 | .pointer (some ⟨b,_,_⟩)=>some b
 |_=>none
structure FlowB(ops:Array Oper)(listed0:Array Bool)(A:Nat->Bool)(E:Nat->Value->World->Prop)(C:World->Prop)(a0:Act)(S:Nat->Prop)(a:Act)(w:World):Prop where
 at_:FlowL ops listed0 E C a0 S a w
 old:∀i o t b,S i->A i=true->ops[i]?=some o->o.dst=some t->blk (a.tmps.getD t undef)=some b->b<w.heap.size
 apart:∀i j oi oj ti tj bi bj,S i->S j->i≠j->A i=true->A j=true->ops[i]?=some oi->ops[j]?=some oj->oi.dst=some ti->oj.dst=some tj->blk (a.tmps.getD ti undef)=some bi->blk (a.tmps.getD tj undef)=some bj->bi≠bj
variable {listed0:Array Bool}{A:Nat->Bool}{E:Nat->WD->WB->Prop}{C:WB->Prop}{a0:Act}
theorem FlowB.mono(h:FlowB ops listed0 A E C a0 S a w)(I:∀i,S' i->S i):FlowB ops listed0 A E C a0 S' a w:=
 ⟨h.at_.mono I,fun i o t b J=>h.old i o t b (I i J),fun i j oi oj ti O bi bj J hj=>h.apart i j oi oj ti O bi bj (I i J) (I j hj)⟩
theorem zGe(I:jZ ops a0.tmps.size=true){a:Act}(J:a.tmps.size=a0.tmps.size){i:Nat}{o:Oper}(hi:ops[i]?=some o){t:Tmp}(O:o.dst=some t)(v:WD):(a.put o.dst v).tmps.getD t undef=v:=by
 have h:=qG I hi O
 unfold Act.put
 rw[O]
 show(a.tmps.setIfInBounds t v).getD t undef=v
 rw[xS,cQ (by rw[J];exact h)]
 rfl
theorem zDf(h:q8 ops=true){a:Act}{i j:Nat}{o J:Oper}(O:ops[i]?=some o)(hj:ops[j]?=some J)(I:i≠j){t:Tmp}(ht:J.dst=some t)(v:WD):(a.put o.dst v).tmps.getD t undef=a.tmps.getD t undef:=by
 unfold Act.put
 cases hd:o.dst with
 |none=>rfl
 |some d=>exact zBB (fun e=>by subst e;exact jM h O hj I hd ht)
theorem FlowB.put(h4:q8 ops=true)(h9:jZ ops a0.tmps.size=true)(hC:∀w w',C w->Below w.heap.size w w'->C w')(hE:∀i v w w',E i v w->Below w.heap.size w w'->E i v w')
  {S:Nat->Prop}{a:Act}{w w':WB}(h:FlowB ops listed0 A E C a0 S a w){i:Nat}{o:Oper}(O:ops[i]?=some o)(hl:listed0.getD i true=false){v:WD}(hv:E i v w')(hb:Below w.heap.size w w')(hA:A i=true->∀b,blk v=some b->w.heap.size<=b/\b<w'.heap.size):
  FlowB ops listed0 A E C a0 (fun j=>S j∨j=i) (a.put o.dst v) w':=by
 refine⟨h.at_.put h4 h9 hC hE O hl hv hb,?_,?_⟩
 .intro j oj t b hj hg h7 ht h8
  by_cases hji:j=i
  .subst hji
   rw[O]at h7
   cases h7
   rw[zGe h9 h.at_.size O ht]at h8
   exact(hA hg b h8).2
  .rw[zDf h4 O h7 (xY hji) ht]at h8
   exact vW (h.old j oj t b (hj.resolve_right hji) hg h7 ht h8) hb.size
 .intro x y ox oy tx ty bx hd hx hy ha he hc h5 I h6 h3 h0 J
  by_cases hxi:x=i
  .subst hxi
   rw[O]at h5
   cases h5
   rw[zGe h9 h.at_.size O h6]at h0
   rw[zDf h4 O I ha h3]at J
   have h1:=(hA he bx h0).1
   have h2:=h.old y oy ty hd (hy.resolve_right (xY ha)) hc I h3 J
   omega
  .rw[zDf h4 O h5 (xY hxi) h6]at h0
   by_cases hyi:y=i
   .subst hyi
    rw[O]at I
    cases I
    rw[zGe h9 h.at_.size O h3]at J
    have h1:=(hA hc hd J).1
    have h2:=h.old x ox tx bx (hx.resolve_right hxi) he h5 h6 h0
    omega
   .rw[zDf h4 O I (xY hyi) h3]at J
    exact h.apart x y ox oy tx ty bx hd (hx.resolve_right hxi) (hy.resolve_right hyi) ha he hc h5 I h6 h3 h0 J
def yM(m k:Nat):Array Bool:=((List.range m).map fun i=>decide (i<k)).toArray
theorem zTf(hB:zA9 ops=true)(hT:zCX ops listed0 k=true)(hW:q8 ops=true)(hX:jZ ops a0.tmps.size=true)(hS:decide (k<=ops.size)=true)(hC:∀w w',C w->Below w.heap.size w w'->C w')(hE:∀i v w w',E i v w->Below w.heap.size w w'->E i v w')
  (hn:∀i,i<k->listed0.getD i true=false->∀o,ops[i]?=some o->∀a w,FlowB ops listed0 A E C a0 (fun j=>listed0.getD j true=false/\∃e∈o.after,Region.binds .any e=true/\e.on=j) a w->∀K:Act->WB->Prop,(∀v w',E i v w'->Below w.heap.size w w'->(A i=true->∀b,blk v=some b->w.heap.size<=b/\b<w'.heap.size)->K (a.put o.dst v) w')->wpOpIn F n P ops Q i K a w)
  (ha:∀a w,FlowB ops listed0 A E C a0 (fun i=>i<k/\listed0.getD i true=false) a w->jP F n P .any ops z (fun _=>True) Q (ops.size-k) (yM ops.size k) a w):
  ∀(fuel:Nat) (listed:Array Bool) (a:Act) (w:WB),listed.count false=fuel->listed.size=ops.size->(∀i,k<=i->listed.getD i false=false)->zDZ ops listed->(∀i,listed0.getD i true=true->i<ops.size->listed.getD i false=true)->
   FlowB ops listed0 A E C a0 (fun i=>listed0.getD i true=false/\listed.getD i false=true) a w->jP F n P .any ops z (fun _=>True) Q fuel listed a w:=by
 have hL:=xW hS
 intro fuel
 induction fuel with
 | zero=>
  intro listed a w hc hs J hr h3 hf
  have hh:∀i,listed.getD i true=true:=fun i=>by
   cases hg:listed.getD i true with
   |true=>rfl
   |false=>
    have:=jT hg
    omega
  have hk2:k=ops.size:=by
   rcases xZ k ops.size with O|hge
   .exfalso
    have h1:=hh k
    have h2:=J k (vR _)
    have h7:k<listed.size:=oA
    simp[h7]at h1 h2
    rw[h1]at h2
    cases h2
   .omega
  have hl:listed=yM ops.size k:=by
   refine cV (by simp[yM,hs]) fun i h1 h2=>?_
   have:=hh i
   simp[h1]at this
   simp[yM,this]
   omega
  have:=ha a w (hf.mono fun i hi=>⟨hi.2,by
   have h1:=hh i
   have O:i<listed.size:=oA
   simp[O]at h1 ⊢
   exact h1⟩)
  rw[hl]
  rwa [show ops.size-k=0 from oA]at this
 | succ fuel ih=>
  intro listed a w hc hs J hr h3 hf
  by_cases I:∀i,i<k->listed.getD i false=true
  .have hl:listed=yM ops.size k:=by
    refine cV (by simp[yM,hs]) fun i h1 h2=>?_
    by_cases h6:i<k
    .have:=I i h6
     simp[h1]at this
     simp[yM,this,h6]
    .have:=J i oA
     simp[h1]at this
     simp[yM,this,h6]
   have hD:listed.count false=ops.size-k:=by
    rw[hl]
    unfold yM
    rw[List.count_toArray,List.count_eq_countP,List.countP_map]
    have:∀m,k<=m->List.countP ((fun x=>x==false) ∘ fun i=>decide (i<k)) (List.range m)=m-k:=by
     intro m
     induction m with
     |zero=>intro h;simp
     | succ m ihm=>
      intro h
      rw[eU,List.countP_append]
      by_cases e:k=m+1
      .subst e
       have:List.countP ((fun x=>x==false) ∘ fun i=>decide (i<m+1)) (List.range m)=0:=by
        rw[List.countP_eq_zero]
        intro x hx
        have:=xV.1 hx
        simp;omega
       rw[this];simp
      .rw[ihm oA]
       have e2:decide (m<k)=false:=bD oA
       simp[e2]
       omega
    exact this ops.size hL
   have hG:=ha a w (hf.mono fun i hi=>⟨hi.2,I i hi.1⟩)
   rw[<-hl,<-hD,hc]at hG
   exact hG
  .simp only[eC]at I
   obtain⟨u,hR,hu⟩:=I
   have O:u<listed.size:=oA
   have hU:listed.getD u true=false:=by
    simp[O]at hu ⊢
    exact hu
   have ht:∀i,listed.getD i true=false->Region.ready .any ops listed≠ []:=by
    intro i
    induction i using Nat.strongRecOn with
    | _ i ihi=>
     intro hi h4
     have O:i<listed.size:=by
      rcases xZ i listed.size with e|e
      .exact e
      .simp[bY e]at hi
     have ho:ops[i]?=some (ops[i]'(by rw[<-hs];exact O)):=bR _
     by_cases I:∀e∈(ops[i]'(by rw[<-hs];exact O)).after,Region.binds .any e=true->listed.getD e.on false=true
     .have hm:i∈Region.ready .any ops listed:=cC.2 ⟨hi,_,ho,I⟩
      rw[h4]at hm
      cases hm
     .simp only[eC]at I
      obtain⟨e,he,hb,hg⟩:=I
      have hY:=zAV hB ho he hb
      refine ihi e.on hY ?_ h4
      have h7:e.on<listed.size:=oA
      simp[h7]at hg ⊢
      exact hg
   refine⟨fun h4=>(ht u hU h4).elim,fun i hi=>?_⟩
   obtain⟨h9,o,ho,I⟩:=cC.1 hi
   have hJ:=(xP.1 ho).1
   have hk:listed0.getD i true=false:=by
    cases hg:listed0.getD i true with
    |false=>rfl
    |true=>
     have:=h3 i hg hJ
     have hK:i<listed.size:=oA
     simp[hK]at this h9
     rw[this]at h9
     cases h9
   have h6:i<k:=by
    rcases xZ i k with e|e
    .exact e
    .exfalso
     have h1:=xR.1 hT i (xV.2 hJ)
     simp only[bZ,bE]at h1
     rcases h1 with h1|h1
     .omega
     .have h2:=xR.1 h1 u (xV.2 hR)
      simp only[bZ]at h2
      rcases h2 with h2|h2
      .exact hu (h3 u h2 oA)
      .exact hu (zAW hr _ u i o ho I h2)
   refine hn i h6 hk o ho a w (hf.mono fun j hj=>?_) _ fun v w' hv hb hA=>⟨.inr trivial,?_⟩
   .obtain⟨hQ,e,he,hb,rfl⟩:=hj
    exact⟨hQ,I e he hb⟩
   .refine ih (listed.setIfInBounds i true) (a.put o.dst v) w' ?_ (by simpa using hs) (fun j hj=>?_) (fun j oj hj hq e he hF=>?_) (fun j hj hV=>?_) ((hf.put hW hX hC hE ho hk hv hb hA).mono fun j hj=>?_)
    .have:=jT h9
     omega
    .rw[bF false oA]
     exact J j hj
    .by_cases e2:j=i
     .subst e2
      rw[ho]at hq
      cases hq
      by_cases e3:e.on=j
      .rw[e3];exact hj
      .rw[bF false (xY e3)]
       exact I e he hF
     .rw[bF false (xY e2)]at hj
      have:=hr j oj hj hq e he hF
      by_cases e3:e.on=i
      .rw[e3]
       have O:i<listed.size:=oA
       simp[O]
      .rw[bF false (xY e3)]
       exact this
    .by_cases e3:j=i
     .subst e3
      rw[hk]at hj
      cases hj
     .rw[bF false (xY e3)]
      exact h3 j hj hV
    .by_cases e:j=i
     .exact .inr e
     .left
      rw[bF false (xY e)]at hj
      exact hj
theorem zGE(A:Nat->Bool)(E:Nat->WD->WB->Prop)(C:WB->Prop)(O:zA9 ops=true)(h5:zCX ops listed0 k=true)(h9:q8 ops=true)(h6:jZ ops a0.tmps.size=true)(h8:decide (k<=ops.size)=true)
    (h0:listed0.count false=fuel)(h7:listed0.size=ops.size)(hcl:zDM ops listed0=true)(hto:zJm listed0 k=true)
    (hC:∀w w',C w->Below w.heap.size w w'->C w')(hE:∀i v w w',E i v w->Below w.heap.size w w'->E i v w')(hw:C w)
    (J:∀i,i<k->listed0.getD i true=false->∀o,ops[i]?=some o->∀a w,FlowB ops listed0 A E C a0 (fun j=>listed0.getD j true=false/\∃e∈o.after,Region.binds .any e=true/\e.on=j) a w->∀K:Act->WB->Prop,(∀v w',E i v w'->Below w.heap.size w w'->(A i=true->∀b,blk v=some b->w.heap.size<=b/\b<w'.heap.size)->K (a.put o.dst v) w')->wpOpIn F n P ops Q i K a w)
    (h3:∀a w,FlowB ops listed0 A E C a0 (fun i=>i<k/\listed0.getD i true=false) a w->jP F n P .any ops z (fun _=>True) Q (ops.size-k) (yM ops.size k) a w):
    jP F n P .any ops z (fun _=>True) Q fuel listed0 a0 w:=by
  have h:∀i,listed0.getD i true=false->listed0.getD i false=true->False:=fun i h1 h2=>by
    rcases xZ i listed0.size with g|g
    . simp[g]at h1 h2
      rw[h1]at h2
      cases h2
    . simp[bY g]at h2
  exact zTf O h5 h9 h6 h8 hC hE J h3 fuel listed0 a0 w h0 h7 (fun i I=>zIk hto I) (zCv hcl) (fun i I hl=>by
      have g:i<listed0.size:=oA
      simp[g]at I ⊢
      exact I)
    ⟨⟨hw,rfl,rfl,fun _ _=>rfl,fun i o t I=>(h i I.1 I.2).elim⟩,fun i o t b I=>(h i I.1 I.2).elim,fun i j oi oj ti tj bi bj I=>(h i I.1 I.2).elim⟩
end
theorem yG{p q:Nat->Prop}(h:∀i,i<k->q i->p i)(hk:q k->p k):∀i,i<k+1->q i->p i:=fun i O J=>by
 rcases Nat.lt_succ_iff_lt_or_eq.1 O with I|I
 .exact h i I J
 .subst I;exact hk J
structure SF where
 p:WD->WB->Prop
 st:∀v w w',p v w->Below w.heap.size w w'->p v w'
variable {G:Nat->SF}
def SF.any:SF:=⟨fun _ _=>True,fun _ _ _ _ _=>trivial⟩
def SF.eq(u:WD):SF:=⟨fun v _=>v=u,fun _ _ _ h _=>h⟩
def upd(G:Nat->SF):List (Nat×SF)->Nat->SF
 | [],t=>G t
 |(k,f)::l,t=>bif Nat.beq k t then f else upd G l t
theorem zAu{G:Nat->SF}{t:Nat}:∀{l:List (Nat×SF)},(l.map (·.1)).contains t=false->upd G l t=G t
 | [],_=>rfl
 | (k,f)::l,h=>by
  rw[cF,List.contains_cons,bL]at h
  have I:Nat.beq k t=false:=by
   cases e:Nat.beq k t with
   |false=>rfl
   |true=>have:=cG e;subst this;simp at h
  show(bif Nat.beq k t then f else upd G l t)=G t
  rw[I]
  exact zAu h.2
structure At(w0:World)(G:Nat->SF)(n:Nat)(ds:List Deferred)(a:Act)(w:World):Prop where
 gr:Below w0.heap.size w0 w
 size:a.tmps.size=n
 nd:a.defers=ds
 sl:∀t,(G t).p (a.tmps.getD t undef) w
def zCY(o:Oper):List Nat:=o.op.operands.toList.filterMap fun x=>match x with| .tmp t=>some t|_=>none
def zY(ops:Array Oper)(j:Nat):WF Tmp:=match ops[j]? with|some o=>o.dst|none=>none
theorem qE{t:Tmp}(h:zY ops j=some t):∃o,ops[j]?=some o/\o.dst=some t:=by
 unfold zY at h
 cases ho:ops[j]? with
 |none=>rw[ho]at h;cases h
 |some o=>rw[ho]at h;exact⟨o,rfl,h⟩
theorem zEs(ops:Array Oper)(j:Nat):(ops[j]?).bind Oper.dst=zY ops j:=by
 unfold zY
 cases ops[j]?<;>rfl
theorem jE(h:ops[j]?=some o):zY ops j=o.dst:=by unfold zY;rw[h]
def zMR(F:Fence)(m:Nat)(P:WG)(w0:WB)(G:Nat->SF)(o:Oper):Prop:=
 ∀(b:Act) (W:WB) (K:Act->WB->Prop) (Q:Exit->Act->WB->Prop),Below w0.heap.size w0 W->(∀t,t∈zCY o->(G t).p (b.tmps.getD t undef) W)->
  (∀v W',(∀d,o.dst=some d->(G d).p v W')->Below W.heap.size W W'->K (b.put o.dst v) W')->o.wpIn F m P b W K Q
def qR(F:Fence)(m:Nat)(P:WG)(w0:WB)(ops:Array Oper)(G:Nat->SF)(o:Oper):Prop:=
 match o.guard with
 |none=>zMR F m P w0 G o
 |some (j,want)=>∃(g:Nat) (u:WD),zY ops j=some g/\(∀v w,(G g).p v w->v=u)/\(u=.bool want->zMR F m P w0 G o)/\(u≠ .bool want->(∀d,o.dst=some d->∀w,(G d).p undef w)/\∀W b f,o.about P W b=some f->F.fn f)
def Obs(F:Fence)(m:Nat)(P:WG)(w0:WB)(ops:Array Oper)(G:Nat->SF):List Oper->Prop
 | []=>True
 |o::l=>qR F m P w0 ops G o/\Obs F m P w0 ops G l
theorem Obs.get{F:Fence}{m:Nat}{P:WG}{w0:WB}{ops:Array Oper}{G:Nat->SF}:∀{l:List Oper},Obs F m P w0 ops G l->∀(i:Nat) (o:Oper),l[i]?=some o->qR F m P w0 ops G o
 | [],_,i,o,h=>by simp at h
 |x::l,h,0,o,e=>by simp at e;subst e;exact h.1
 |x::l,h,i+1,o,e=>h.2.get i o (by simpa using e)
def looks(ops:Array Oper)(o:Oper):List Nat:=zCY o++match o.guard with|none=> []|some (j,_)=>(zY ops j).toList
def zBi(ops:Array Oper)(draw:Bool)(k n:Nat)(keys:List Nat):Bool:=
 q8 ops&&jZ ops n&&zAn ops&&decide (k<=ops.size)&&
 keys.all (fun t=>(List.range k).any fun i=>zY ops i==some t)&&
 (List.range k).all (fun i=>match ops[i]? with
  |none=>true
  |some o=>(looks ops o).all fun t=>(List.range ops.size).all fun j=> !(zY ops j==some t)||(if draw then o.after.any fun e=>Region.binds .any e&&e.on==j else decide (j<i)))&&
 (!draw||(zA9 ops&&zCX ops (Array.replicate ops.size false) k&&(List.range (ops.size-k)).all fun r=>Region.ready .any ops (yM ops.size (k+r))==[k+r]))
def zE1(ops:Array Oper)(k:Nat)(G:Nat->SF)(t:Nat):SF:=bif (List.range ops.size).any (fun i=>decide (k<=i)&&(zY ops i==some t))then SF.any else G t
section
variable {F:Fence}{m:Nat}{P:WG}{ops:Array Oper}{Q:Exit->Act->WB->Prop}
theorem zAc(hi:ops[i]?=some o)(I:qR F m P w0 ops G o){b:Act}{W:WB}{K:Act->WB->Prop}
  (h7:∀(j:Nat) (g:Nat),zY ops j=some g->g<b.tmps.size)
  (hb:Below w0.heap.size w0 W)(hr:∀t,t∈looks ops o->(G t).p (b.tmps.getD t undef) W)(hK:∀v W',(∀d,o.dst=some d->(G d).p v W')->Below W.heap.size W W'->K (b.put o.dst v) W'):wpOpIn F m P ops Q i K b W:=by
 unfold wpOpIn
 rw[hi]
 show(if Region.wanted o (yielded ops b.tmps)=true then o.wpIn F m P b W K Q else _)
 unfold qR at I
 unfold looks at hr
 cases hgd:o.guard with
 |none=>
  rw[hgd]at I
  have O:Region.wanted o (yielded ops b.tmps)=true:=by unfold Region.wanted;rw[hgd]
  rw[if_pos O]
  exact I b W K Q hb (fun t ht=>hr t (cK _ ht)) hK
 | some q=>
  obtain⟨j,want⟩:=q
  rw[hgd]at I
  obtain⟨g,u,hj,hv,h1,h2⟩:=I
  have h5:=hv _ _ (hr g (cR _ (by rw[hgd];show g∈(zY ops j).toList;rw[hj];simp)))
  have h:=h7 j g hj
  have h4:b.tmps[g]?=some u:=by
   rw[bR h]
   have:b.tmps[g]=u:=by rw[<-h5];simp[h]
   rw[this]
  have J:Region.wanted o (yielded ops b.tmps)=((match(some u:WF WD)with|some (.bool b)=>some b|_=>none)==some want):=by
   unfold Region.wanted
   rw[hgd]
   show(yielded ops b.tmps j==some want)=_
   unfold yielded
   rw[zEs,hj]
   show((match(b.tmps[g]?:WF WD)with|some (.bool b)=>some b|_=>none)==some want)=_
   rw[h4]
  by_cases e:u=.bool want
  .have O:Region.wanted o (yielded ops b.tmps)=true:=by rw[J,e];simp
   rw[if_pos O]
   exact h1 e b W K Q hb (fun t ht=>hr t (cK _ ht)) hK
  .have O:Region.wanted o (yielded ops b.tmps)=false:=by
    rw[J]
    cases u<;>first|rfl|(rename_i c;cases c<;>cases want<;>first|rfl|exact absurd rfl e)
   rw[O,if_neg rY]
   have h3:=h2 e
   exact⟨fun f hf=>h3.2 _ _ f hf,hK _ _ (fun d hd=>h3.1 d hd W) (xF _ _)⟩
theorem zB7{t:Nat}(h:o.dst≠some t):(b.put o.dst v).tmps.getD t undef=b.tmps.getD t undef:=by
 unfold Act.put
 cases hd:o.dst with
 |none=>rfl
 |some d=>exact zBB (fun e=>h (by rw[hd,e]))
theorem zBZ{o:WF Tmp}:(b.put o v).tmps.size=b.tmps.size:=by
 unfold Act.put
 cases o<;>simp
theorem zA5{o:WF Tmp}:(b.put o v).defers=b.defers:=by
 unfold Act.put
 cases o<;>rfl
theorem zK3{w0:WB}{G:Nat->SF}{n k:Nat}{a0:Act}{wA:WB}(ha:q8 ops=true)(h4:jZ ops n=true)(hk:k<=ops.size)
  (h9:∀i o,i<k->ops[i]?=some o->∀t,t∈looks ops o->∀j,zY ops j=some t->j<i)
  (h6:∀t,(∀j,j<k->zY ops j≠some t)->(G t).p (a0.tmps.getD t undef) wA)
  (J:∀i o,i<k->ops[i]?=some o->qR F m P w0 ops G o)(hc:Below w0.heap.size w0 wA)
  (O:∀a w,Below w0.heap.size w0 w->a.tmps.size=n->a.defers=a0.defers->(∀t,(∃j,j<k/\zY ops j=some t)∨(∀j,zY ops j≠some t)->(G t).p (a.tmps.getD t undef) w)->wpOpsIn F m P ops Q (List.range' k (ops.size-k)) a w):
  ∀(r i:Nat) (a:Act) (w:WB),i+r=k->Below wA.heap.size wA w->Below w0.heap.size w0 w->a.tmps.size=n->a.defers=a0.defers->
   (∀t,(∃j,j<i/\zY ops j=some t)->(G t).p (a.tmps.getD t undef) w)->(∀t,(∀j,j<i->zY ops j≠some t)->a.tmps.getD t undef=a0.tmps.getD t undef)->
   wpOpsIn F m P ops Q (List.range' i (ops.size-i)) a w
 | 0,i,a,w,hi,hA,h0,hs,hd,h1,h2=>by
  obtain rfl:i=k:=oA
  refine O a w h0 hs hd fun t h=>?_
  rcases h with h|h
  .exact h1 t h
  .rw[h2 t (fun j _=>h j)]
   exact(G t).st _ _ _ (h6 t (fun j _=>h j)) hA
 | r+1,i,a,w,hi,hA,h0,hs,hd,h1,h2=>by
  have h8:i<k:=oA
  have he:i<ops.size:=oA
  rw[show ops.size-i=(ops.size-(i+1))+1 from oA,eD,eL]
  have ho:ops[i]?=some ops[i]:=bR he
  refine zAc ho (J i _ h8 ho) (fun j g hj=>?_) h0 (fun t h=>?_) fun v W' hv hb=>?_
  .rw[hs]
   cases hoj:ops[j]? with
   |none=>rw[zY,hoj]at hj;cases hj
   |some oj=>rw[jE hoj]at hj;exact qG h4 hoj hj
  .by_cases hex:∃j,zY ops j=some t
   .obtain⟨j,hj⟩:=hex
    exact h1 t ⟨j,h9 i _ h8 ho t h j hj,hj⟩
   .have h7:∀j,zY ops j≠some t:=fun j hj=>hex ⟨j,hj⟩
    rw[h2 t (fun j _=>h7 j)]
    exact(G t).st _ _ _ (h6 t (fun j _=>h7 j)) hA
  .refine zK3 ha h4 hk h9 h6 J hc O r (i+1) _ W' oA (hA.trans (hb.mono hA.size)) (h0.trans (hb.mono h0.size)) (by rw[zBZ];exact hs) (by rw[zA5];exact hd) (fun t ⟨j,hj,h⟩=>?_) (fun t h=>?_)
   .by_cases hji:j=i
    .subst hji
     rw[jE ho]at h
     have I:ops[j].dst=some t:=h
     have h3:=hv t I
     have:(a.put ops[j].dst v).tmps.getD t undef=v:=by
      rw[I]
      show(a.tmps.setIfInBounds t v).getD t undef=v
      rw[xS,cQ (by rw[hs];exact qG h4 ho I)]
      rfl
     rw[this]
     exact h3
    .rw[zB7]
     .exact(G t).st _ _ _ (h1 t ⟨j,oA,h⟩) hb
     .intro I
      cases hoj:ops[j]? with
      |none=>rw[zY,hoj]at h;cases h
      |some oj=>rw[jE hoj]at h;exact jM ha ho hoj (xY hji) I h
   .rw[zB7]
    .exact h2 t (fun j hj=>h j oA)
    .intro I
     exact h i oA (by rw[jE ho];exact I)
theorem zCr(h:i<m):(yM m k)[i]?=some (decide (i<k)):=by simp[yM,h]
theorem zCq(_h:k<m):(yM m k).setIfInBounds k true=yM m (k+1):=by
 refine cV (by simp[yM]) fun i h1 h=>?_
 simp only[yM,bN,xT,List.length_range]at h
 by_cases e:k=i
 .subst e
  simp[yM]
 .rw[Array.getElem_setIfInBounds_ne (by simpa[yM]using h) e]
  simp[yM]
  omega
theorem forced{P:WG}{Q:Exit->Act->WB->Prop}{k:Nat}(J:∀r,r<ops.size-k->Region.ready .any ops (yM ops.size (k+r))=[k+r]):
  ∀(f r:Nat) (a:Act) (w:WB),k+r+f=ops.size->wpOpsIn F m P ops Q (List.range' (k+r) f) a w->wpAnyIn F m P .any ops Q f (yM ops.size (k+r)) a w
 | 0,r,a,w,hf,h=>by
  refine⟨eV.2 fun i I=>?_,h⟩
  have h1:=(cC.1 I).1
  have O:i<ops.size:=by
   obtain⟨_,o,ho,_⟩:=cC.1 I
   exact(xP.1 ho).1
  rw[xS,zCr O]at h1
  simp at h1
  omega
 |f+1,r,a,w,hf,h=>by
  have hr:=J r oA
  refine⟨fun e=>(by rw[hr]at e;cases e),fun i I=>?_⟩
  rw[hr]at I
  obtain rfl:i=k+r:=by simpa using I
  rw[eD,eL]at h
  refine cW (fun a w h=>?_) h
  rw[zCq oA]
  exact forced J f (r+1) a w oA h
end
theorem zEQ{draw:Bool}(k:Nat)(L:List (Nat×SF))(hmix:P.follows .mixedOrders=true)
  (h7:zBi ops draw k n (L.map (·.1))=true)(h:At w0 G n ds a w)(hR:Obs F m P w0 ops (upd G L) (ops.toList.take k))
  (hg:∀a w,At w0 (zE1 ops k (upd G L)) n ds a w->wpOpsIn F m P ops Q (List.range' k (ops.size-k)) a w):(Code.region id ops draw).wpIn F m P Q a w:=by
 unfold zBi at h7
 simp only[xU]at h7
 obtain⟨⟨⟨⟨⟨⟨hQ,hz⟩,hpl⟩,hk⟩,hu⟩,hX⟩,hM⟩:=h7
 have hk:=xW hk
 have ha:∀i o,i<k->ops[i]?=some o->qR F m P w0 ops (upd G L) o:=fun i o I O=>hR.get i o (by rw[cZ I];simpa using O)
 have hS:∀t,(∀j,j<k->zY ops j≠some t)->upd G L t=G t:=fun t J=>by
  refine zAu ?_
  cases hc:(L.map (·.1)).contains t with
  |false=>rfl
  |true=>
   exfalso
   have hm:=bV.1 hc
   obtain⟨i,I,he⟩:=bU.1 (xR.1 hu t hm)
   exact J i (xV.1 I) (by simpa using he)
 have hw:∀t,(∀j,j<k->zY ops j≠some t)->(upd G L t).p (a.tmps.getD t undef) w:=fun t J=>by rw[hS t J];exact h.sl t
 have h4:∀(a:Act) (w:WB),(∀t,(∃j,j<k/\zY ops j=some t)∨(∀j,zY ops j≠some t)->(upd G L t).p (a.tmps.getD t undef) w)->∀t,(zE1 ops k (upd G L) t).p (a.tmps.getD t undef) w:=fun a w hh t=>by
  unfold zE1
  cases hc:(List.range ops.size).any fun i=>decide (k<=i)&&(zY ops i==some t)with
  |true=>trivial
  | false=>
   refine hh t ?_
   by_cases hex:∃j,zY ops j=some t
   .obtain⟨j,hj⟩:=hex
    left
    refine⟨j,?_,hj⟩
    have hy:j<ops.size:=by
     rcases xZ j ops.size with e|e
     .exact e
     .rw[zY,bY e]at hj;cases hj
    have:=cS.1 hc j (xV.2 hy)
    simp[hj]at this
    omega
   .exact .inr fun j hj=>hex ⟨j,hj⟩
 have hn:∀i o,i<k->ops[i]?=some o->∀t,t∈looks ops o->∀j,zY ops j=some t->(if draw then o.after.any fun e=>Region.binds .any e&&e.on==j else decide (j<i))=true:=fun i o I O t J j hj=>by
  have h1:=xR.1 hX i (xV.2 I)
  rw[O]at h1
  have hy:j<ops.size:=by
   rcases xZ j ops.size with e|e
   .exact e
   .rw[zY,bY e]at hj;cases hj
  have h2:=xR.1 (xR.1 h1 t J) j (xV.2 hy)
  rw[hj]at h2
  simpa using h2
 cases draw with
 |false=>
  refine wpIn_region ?_
  rw[List.range_eq_range']
  refine zK3 (G:=upd G L) (k:=k) (n:=n) (a0:=a) (wA:=w) hQ hz hk (fun i o I O t J j hj=>?_) hw ha h.gr (fun a' w' hb hs hd hh=>hg a' w' ⟨hb,hs,by rw[hd];exact h.nd,h4 a' w' hh⟩) k 0 a w oA (xF _ _) h.gr h.size rfl (fun t ⟨j,hj,_⟩=>absurd hj oA) (fun t _=>rfl)
  have:=hn i o I O t J j hj
  simpa using this
 | true=>
  simp only[eT,cM,xU]at hM
  obtain⟨⟨hB,hZ⟩,hW⟩:=hM
  have hO:∀r,r<ops.size-k->Region.ready .any ops (yM ops.size (k+r))=[k+r]:=fun r hr=>by
   have:=xR.1 hW r (xV.2 hr)
   simpa using this
  have hG:∀i,(Array.replicate ops.size false).getD i false=false:=fun i=>by
   rw[xS,eE]
   split<;>rfl
  have hL:∀i,i<ops.size->(Array.replicate ops.size false).getD i true=false:=fun i I=>by
   rw[xS,eE,if_pos I]
   rfl
  have hF:∀t,(∀j,zY ops j≠some t)->zBz ops (Array.replicate ops.size false) t=false:=fun t J=>by
   cases hd:zBz ops (Array.replicate ops.size false) t with
   |false=>rfl
   |true=>
    exfalso
    unfold zBz at hd
    obtain⟨i,_,hp⟩:=bU.1 hd
    simp only[xU,bH]at hp
    exact J i (by rw[<-zEs];exact hp.2)
  refine wpIn_region_any hmix<|zCf (z:=100000) (C:=fun _=>True) _ _ _ _ ?_
  have h0:Below w.heap.size w w.drew:=(xF _ w).drew
  refine zGE (k:=k) (z:=100000) (w:=w.drew) (fun _=>false) (fun i v W=>∀o,ops[i]?=some o->∀d,o.dst=some d->(upd G L d).p v W) (fun W=>Below w0.heap.size w0 W/\Below w.heap.size w W) hB hZ hQ (by rw[h.size];exact hz) (by simpa using hk) eX eN ?hcl ?hto (fun W W' hC hb=>⟨hC.1.trans (hb.mono hC.1.size),hC.2.trans (hb.mono hC.2.size)⟩) (fun i v W W' hE hb o O d hd=>(upd G L d).st _ _ _ (hE o O d hd) hb) ⟨h.gr.trans (h0.mono h.gr.size),h0⟩ ?spec ?fin
  case hcl=>
   unfold zDM
   refine xR.2 fun i I=>?_
   rw[hG i]
   rfl
  case hto=>
   unfold zJm
   refine xR.2 fun i I=>?_
   rw[hG i]
   simp
  case spec=>
   intro i hI hl o O b W hf K hK
   refine zAc O (ha i o hI O) (fun j g hj=>?_) hf.at_.cls.1 (fun t J=>?_) (fun v W' hv hb=>hK v W' (fun o' hJ d hd=>by rw[O]at hJ;cases hJ;exact hv d hd) hb sF)
   .rw[hf.at_.size,h.size]
    cases hoj:ops[j]? with
    |none=>rw[zY,hoj]at hj;cases hj
    |some oj=>rw[jE hoj]at hj;exact qG hz hoj hj
   .by_cases hex:∃j,zY ops j=some t
    .obtain⟨j,hj⟩:=hex
     have h1:=hn i o hI O t J j hj
     simp only[cH]at h1
     obtain⟨x,hx,he⟩:=eK.1 h1
     simp only[xU,bH]at he
     cases hoj:ops[j]? with
     |none=>rw[zY,hoj]at hj;cases hj
     |some oj=>
      rw[jE hoj]at hj
      exact hf.at_.vals j oj t ⟨hL j (xP.1 hoj).1,_,cU hx,he.1,he.2⟩ hoj hj oj hoj t hj
    .have h6:∀j,zY ops j≠some t:=fun j hj=>hex ⟨j,hj⟩
     rw[hf.at_.keep t (hF t h6)]
     exact(upd G L t).st _ _ _ (hw t (fun j _=>h6 j)) hf.at_.cls.2
  case fin=>
   intro b W hf
   have hA:At w0 (zE1 ops k (upd G L)) n ds b W:=⟨hf.at_.cls.1,by rw[hf.at_.size];exact h.size,by rw[hf.at_.defers];exact h.nd,h4 b W fun t J=>by
    rcases J with⟨j,hY,hj⟩|h6
    .cases hoj:ops[j]? with
     |none=>rw[zY,hoj]at hj;cases hj
     |some oj=>
      rw[jE hoj]at hj
      exact hf.at_.vals j oj t ⟨hY,hL j (xP.1 hoj).1⟩ hoj hj oj hoj t hj
    .rw[hf.at_.keep t (hF t h6)]
     exact(upd G L t).st _ _ _ (hw t (fun j _=>h6 j)) hf.at_.cls.2⟩
   have h2:=forced (Q:=Q) hO (ops.size-k) 0 b W oA (by simpa using hg b W hA)
   have h3:∀(f:Nat) (l:Array Bool) (a:Act) (w:WB),wpAnyIn F m P .any ops Q f l a w->jP F m P .any ops 100000 (fun _=>True) Q f l a w:=by
    intro f
    induction f with
    |zero=>intro l a w hh;exact hh
    |succ f ih=>intro l a w hh;exact⟨hh.1,fun i I=>cW (fun a w h5=>⟨.inr trivial,ih _ _ _ h5⟩) (hh.2 i I)⟩
   exact h3 _ _ _ _ (by simpa using h2)
end Go.Proofs.Wd
